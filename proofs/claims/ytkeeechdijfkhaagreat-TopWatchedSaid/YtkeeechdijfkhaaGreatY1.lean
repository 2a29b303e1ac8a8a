import Derived.Test.YtkeeechdijfkhaaGreatY0
import Derived.Lib.AppendZeros
set_option linter.all false
open Bool renaming and_eq_true->nA,false_eq_true->nX,eq_false_iff->nu,not_eq_true'->nv,or_eq_true->kE
open Nat renaming eq_of_beq_eq_true->nB,beq->nD,le_refl->nE,blt_eq->nJ,le_of_ble_eq_true->nL,ble_eq->nO,le_trans->nP,lt_of_lt_of_le->nW,le_of_mul_le_mul_right->ng,lt_or_ge->nj,blt->nl,le_mul_of_pos_right->kC,add_mul->kH,mul_le_mul_right->kL
open List renaming map_cons->nG,set->nK,getElem?_eq_some_iff->nM,replicate->nN,mem_append->nQ,getElem?_map->nR,getElem?_append_left->nS,getElem?_eq_getElem->nV,eq_nil_of_length_eq_zero->nY,mem_append_right->nZ,mem_append_left->nb,mem_of_getElem?->nc,getElem?_append_right->nf,getElem?_of_mem->nk,length->np,length_append->nr,mem_cons->nt,append_assoc->nw,mem_map->ny,map_nil->nz,getElem?_cons_zero->kB,getElem?_eq_none->kJ,map_eq_nil_iff->kO,mem_singleton->kP,getElem?_take->kQ,toArray_range->kR,size_toArray->kS,range->kZ
open Array renaming ext'->nH,range->nU,getD_eq_getD_getElem?->na,getElem?_replicate->kA,replicate->kG,getElem?_toList->kK,toList_append->kM,size_append->kU,toList_map->kV
open List.cons renaming injEq->nI
open Int renaming ofNat_eq_natCast->nT,toNat_natCast->ni,negSucc_eq->no,ofNat->kD
open Option.some renaming injEq->nh
open Go.Value renaming int->nq
open Option renaming getD_none->kW,getD_some->kX,map_some->kY
namespace Go.KL
open Go.RowKit
open Go.KX (LoopAt Yd wPB Dfr wQH retM)
section
variable {B:Base} {U U':PHeap} {L M:List Res} {w w':World}
theorem St.keepX (h:St B U L w) {X:Nat->Prop} (K:Keep w w' X) (h1:∀ b,X b->U b=none/\B.mine b) (h2:∀ r ∈ L,∀ b,r.has b->¬ X b):St B U L w' :=
  ⟨K.os.trans h.os,K.tape.trans h.tape,K.output.trans h.output,nP h.size K.size,fun b hb hm=>(K.block b (nW hb h.size) fun hx=>hm (h1 b hx).2).trans (h.old b hb hm),
   fun b o hb=>(K.block b (wAc (h.fro b o hb)) fun hx=>by rw [(h1 b hx).1] at hb;cases hb).trans (h.fro b o hb),h.le,h.src,fun r hr=>(h.at_ r hr).keep K (h2 r hr),h.own,h.dj⟩
theorem St.left (h:St B U (L ++ M) w):St B U L w :=
 ⟨h.os,h.tape,h.output,h.size,h.old,h.fro,h.le,h.src,fun r hr=>h.at_ r (nb _ hr),fun r hr=>h.own r (nb _ hr),fun i j r s b hi hj =>
  h.dj i j r s b (by rw [nS (nM.1 hi).1];exact hi) (by rw [nS (nM.1 hj).1];exact hj)⟩
theorem St.addLast (h:St B U L w) {r:Res} {b:Nat} (hr:r.At w) (hb:r.has b) (hf:U b=none) (hm:B.mine b) (hn:∀ s ∈ L,¬ s.has b) (hu:∀ c,r.has c->c=b:=by intro c hc;cases hc;rfl):St B U (L ++ [r]) w:=by
 refine ⟨h.os,h.tape,h.output,h.size,h.old,h.fro,h.le,h.src,fun s hs=>?_,fun s hs c hc=>?_,fun i j s u c hi hj hs hu'=>?_⟩
 ·rcases nQ.1 hs with hs | hs
  ·exact h.at_ s hs
  ·rw [kP.1 hs];exact hr
 ·rcases nQ.1 hs with hs | hs
  ·exact h.own s hs c hc
  ·rw [kP.1 hs] at hc
   obtain rfl:=hu c hc
   exact ⟨hf,hm⟩
 ·have at_:∀ (i:Nat) (s:Res),(L ++ [r])[i]?=some s->L[i]?=some s \/ (i=L.length/\s=r):=by
   intro i s hi
   rcases nj i L.length with hl | hl
   ·rw [nS hl] at hi;exact .inl hi
   ·rw [nf hl] at hi
    have hz:i - L.length=0:=by
     have:=(nM.1 hi).1
     simp at this
     omega
    rw [hz] at hi
    simp at hi
    exact .inr ⟨by omega,hi.symm⟩
  rcases at_ i s hi with h1 | ⟨h1,rfl⟩ <;> rcases at_ j u hj with h2 | ⟨h2,rfl⟩
  ·exact h.dj i j s u c h1 h2 hs hu'
  ·obtain rfl:=hu c hu'
   exact absurd hs (hn s (nc h1))
  ·obtain rfl:=hu c hs
   exact absurd hu' (hn u (nc h2))
  ·omega
theorem St.putObj {l:Nat} {o o2:Obj} (h:St B U (.obj l o :: L) w) (K:Keep w w' (·=l)) (h2:w'.heap[l]?=some o2):St B U (.obj l o2 :: L) w' :=
 h.set (k:=0) (r:=.obj l o) (r':=.obj l o2) rfl (K.weak fun b _ e=>by rw [e];rfl) h2 fun b hb=>.inl hb
theorem St.outObj {l:Nat} {o:Obj} (h:St B U (.obj l o :: L) w) (K:Keep w w' (·=l)):St B U L w':=by
 have hm:=h.own (.obj l o) (by simp) l rfl
 have h0:St B U L w:=h.drop 0
 refine h0.keepX K (fun b e=>by rw [e];exact hm) fun r hr b hb e=>?_
 subst e
 obtain ⟨i,hi⟩:=nk hr
 have:=h.dj 0 (i + 1) (.obj b o) r b rfl (by simpa using hi) rfl hb
 omega
theorem St.outs {rbs:List Nat} {d:Obj} (h:St B U (L ++ rbs.map fun rb=>.obj rb d) w) (K:Keep w w' (· ∈ rbs)):St B U L w':=by
 refine h.left.keepX K (fun b hb=>?_) fun r hr b hb hm=>?_
 ·exact h.own (.obj b d) (nZ _ (ny.2 ⟨b,hb,rfl⟩)) b rfl
 ·obtain ⟨i,hi⟩:=nk hr
  obtain ⟨j,hj⟩:=nk hm
  have hil:=(nM.1 hi).1
  have:=h.dj i (L.length + j) r (.obj b d) b (by rw [nS hil];exact hi) (by rw [nf (by omega),show L.length + j - L.length=j by omega,nR,hj];rfl) hb rfl
  omega
end
def LR (N:Nat) (σ:Env) (t:List Nat) (asg body:Code) (rb:Nat) (fn:FuncId) (s:LoopState) (pend:Option Code) (o:Obj):Prop :=
 ∃ a D,Rep N D a σ/\o=.loop { state:=s,pending:=pend,fn,tmps:=a.tmps,params:=t.toArray,assign:=asg,body,defers:=rb }
theorem LR.at_ {N:Nat} {σ:Env} {t:List Nat} {asg body:Code} {rb:Nat} {fn:FuncId} {s:LoopState} {pend:Option Code} {o:Obj} {w:World} {l:Nat} (h:LR N σ t asg body rb fn s pend o) (hw:w.heap[l]?=some o):LoopAt w l N σ t asg body rb fn s pend:=by
 obtain ⟨a,D,h1,rfl⟩:=h
 exact ⟨a,D,h1,hw⟩
theorem LR.of {N:Nat} {σ:Env} {t:List Nat} {asg body:Code} {rb:Nat} {fn:FuncId} {s:LoopState} {pend:Option Code} {w:World} {l:Nat} (h:LoopAt w l N σ t asg body rb fn s pend):∃ o,w.heap[l]?=some o/\LR N σ t asg body rb fn s pend o:=by
 obtain ⟨a,D,h1,h2⟩:=h
 exact ⟨_,h2,a,D,h1,rfl⟩
def YOK (P:Program) (l:Nat) {X S E:Type} (ar:PHeap->X->List Value->Prop) (PY:S->PHeap->List Res->Prop) (PE:E->PHeap->List Res->Prop) (f:S->X->Option (S ⊕ E)) (U0:PHeap):Prop :=
 ∀ U w s x vs r L,PHeap.Le U0 U->St ⟨w,L,U⟩ U L w->PY s U L->ar U x vs->f s x=some r ->
  Yd P l vs w fun b w'=>∃ U' L',St ⟨w,L,U⟩ U' L' w'/\(match r with | .inl s'=>b=true/\PY s' U' L' | .inr e=>b=false/\PE e U' L')
def ItS (w:World) (L:List Res) (U:PHeap) {S E:Type} (PY:S->PHeap->List Res->Prop) (PE:E->PHeap->List Res->Prop) (r:S ⊕ E):Value->World->Prop:=fun _ w' =>
 ∃ U' L',St ⟨w,L,U⟩ U' L' w'/\(match r with | .inl s=>PY s U' L' | .inr e=>PE e U' L')
section
variable {r:Option Nat} {N:Nat} {P:Program} {l:List Oper} {Q:wDg} {D:List Deferred} {ks:List Nat} {B:Base} {U:PHeap} {L:List Res} {σ:Env} {w:World} {i d:Nat} {o:Oper} {s:Sch} {X S E:Type} {ar:PHeap->X->List Value->Prop}
 {PY:S->PHeap->List Res->Prop} {PE:E->PHeap->List Res->Prop} {f:S->X->Option (S ⊕ E)}
theorem OKS.yieldT (n:Nat) {y:Nat} {x:Operand} {args:Array Operand} {ty:Array TypeId} {vs:List Value} {st:S} {a:X} {rr:S ⊕ E} {U0:PHeap} (ho:l[i]?=some o) (hd:o.dst=some d) (hN:nl d N=true) (hw:wanted l σ o=true)
  (hop:o.op=.call { callee:=.value x,args:=args,argTypes:=ty }) (hx:ev σ x=.func (.yield y) #[] #[]) (ha:args.toList.map (ev σ)=vs) (hS:St B U L w) (hY:YOK P y ar PY PE f U0) (hle:PHeap.Le U0 U) (hP:PY st U (L.drop n)) (har:ar U a vs) (hf:f st a=some rr) (hk:wGB (kOf ks i)=false)
  (k:∀ U' L' b w',PHeap.Le U U'->St B U' (L.take n ++ L') w'->(match rr with | .inl s'=>b=true/\PY s' U' L' | .inr e=>b=false/\PE e U' L')->OKS N P l Q D ks s (upd σ d (.bool b)) w'):OKS N P l Q D ks (.fx i s .stop) σ w:=by
 have Y:=hY U w st a vs rr _ hle (hS.enterT n) hP har hf
 have R:=Go.KX.Yd.rounds (σ:=σ) hop hx ha Y
 refine ⟨⟨o,ho,dlt hd hN,.inl ⟨hw,.inr (.inr (.inr (R.mono ?_)))⟩⟩,trivial⟩
 rintro v w' ⟨b,rfl,U',L',h1,h2⟩
 obtain ⟨h3,h4⟩:=hS.backT n h1
 exact ⟨KeepD.of (.inl hk),by rw [wCs hd];exact k U' L' b w' h4 h3 h2⟩
def wQI:Exit->Option Code
 | .ret=>some .ret
 | .exit i=>some (.exit i)
 | _=>none
theorem CK.rangeY {g:Operand} {t:List Nat} {asg body:Code} {fi:FuncId} {fl cl:List Value} {s0:S} {rr:S ⊕ E} {exO:E->Exit} (hx:ev σ g=.func (.func fi) fl.toArray cl.toArray)
  (hcall:∀ (args:Array Value) (w:World),(callFunc fi args).run P w=.ok (.enter fi args) w) (hS:St B U L w) (ht:∀ x ∈ t,x < N) (hlen:∀ U x vs,ar U x vs->t.length=vs.length) (hex:∀ e,exO e=.ret \/ ∃ i,exO e=.exit i) (h0:PY s0 U L)
  (hit:∀ (l:Nat) (w1:World) (L1:List Res) (PY':S->PHeap->List Res->Prop) (PE':E->PHeap->List Res->Prop),St ⟨w1,L1,U⟩ U L1 w1->PY' s0 U L1->YOK P l ar PY' PE' f U->Gv P fi (fl ++ [.func (.yield l) #[] #[]] ++ cl) w1 (ItS w1 L1 U PY' PE' rr))
  (hbody:∀ (l rb:Nat) (fn:FuncId) s x vs r U' L' w' o B',PHeap.Le U U'->St B' U' (.obj l o :: L') w'->PY s U' L'->ar U' x vs->f s x=some r->∀ σ0,(∀ i,σ0 i=wPB σ t vs i) ->
   CK (some l) N P asg (fun D' e σ1 w1=>e=.normal/\D'=[]/\∃ U1 L1,St B' U1 (.obj l o :: L1) w1/\∀ w2 o2,St B' U1 (.obj l o2 :: L1) w2 ->
    CK (some l) N P body (fun _ e2 _ w3=>∃ U3 L3,St B' U3 (.obj l o2 :: L3) w3/\(match r with | .inl s'=>e2=.normal/\PY s' U3 L3 | .inr e'=>e2=exO e'/\PE e' U3 L3)) [] σ1 w2) [] σ0 w')
  (hk:∀ rb U' L' w',PHeap.Le U U'->St B U' (L' ++ [.obj rb (.deferred (some []))]) w'->(match rr with | .inl s=>PY s U' L'->Q (Go.KX.mark rb :: D) .normal σ w' | .inr e=>PE e U' L'->Q (Go.KX.mark rb :: D) (exO e) σ w')) :
  CK none N P (.rangeFunc g t.toArray asg body) Q D σ w:=by
 refine Go.KX.CK.rangeFunc hx hcall fun fn l rb w1 e1 e2 hl hd K hs=>?_
 obtain ⟨o,ho,hLR⟩:=LR.of hl
 have hlt:l < w1.heap.size:=wAc ho
 have hS0:=hS.grow K
 have hsz:∀ s ∈ L,∀ b,s.has b->b < w.heap.size:=fun s hs b hb=>(hS.at_ s hs).lt hb
 have hfree:∀ b,w.heap.size <= b->U b=none/\B.mine b:=fun b hb=>by
  refine ⟨?_,.inl (nP hS.size hb)⟩
  cases e:U b with
  | none=>rfl
  | some x=>have:=wAc (hS.fro b x e);omega
 have hS1:St B U (.obj l o :: L) w1:=by
  have h1:=hS0.addLast (r:=.obj l o) (b:=l) ho rfl (hfree l (by omega)).1 (hfree l (by omega)).2 fun s hs' e=>by have:=hsz s hs' l e;omega
  refine ⟨h1.os,h1.tape,h1.output,h1.size,h1.old,h1.fro,h1.le,h1.src,fun r hr=>h1.at_ r ?_,fun r hr=>h1.own r ?_,?_⟩
  ·rcases nt.1 hr with rfl | hr <;> simp [*]
  ·rcases nt.1 hr with rfl | hr <;> simp [*]
  ·intro i j r s b hi hj hr hs'
   cases i with
   | zero =>
    simp only [kB,nh] at hi;subst hi;cases hr
    cases j with
    | zero=>rfl
    | succ j=>have:=hsz s (nc (by simpa using hj)) _ hs';omega
   | succ i =>
    cases j with
    | zero=>simp only [kB,nh] at hj;subst hj;cases hs';have:=hsz r (nc (by simpa using hi)) _ hr;omega
    | succ j=>rw [hS0.dj i j r s b (by simpa using hi) (by simpa using hj) hr hs']
 have hS2:St B U ((.obj l o :: L) ++ [.obj rb (.deferred (some []))]) w1:=by
  refine hS1.addLast (b:=rb) hd rfl (hfree rb (by omega)).1 (hfree rb (by omega)).2 fun s hs' e=>?_
  rcases nt.1 hs' with rfl | hs'
  ·cases e;omega
  ·have:=hsz s hs' rb e;omega
 let PYl:S->PHeap->List Res->Prop:=fun s U L=>∃ o L',L=.obj l o :: L'/\LR N σ t asg body rb fn .ready none o/\PY s U L'
 let PEl:E->PHeap->List Res->Prop:=fun e U L=>∃ o L',L=.obj l o :: L'/\LR N σ t asg body rb fn .done (wQI (exO e)) o/\PE e U L'
 have hY:YOK P l ar PYl PEl f U:=by
  rintro U' w' s x vs r L3 hle hSt ⟨o',L',rfl,hLR',hP⟩ har hf
  refine Go.KX.Yd.of (hLR'.at_ (hSt.at_ (.obj l o') (by simp))) ht (hlen _ _ _ har) fun σ0 hσ0=>?_
  refine (hbody l rb fn s x vs r U' L' w' o' _ hle hSt hP har hf σ0 hσ0).mono ?_
  rintro D' e σ1 w1 ⟨rfl,rfl,U1,L1,hS1,hb⟩
  refine ⟨rfl,rfl,hLR'.at_ (hS1.at_ (.obj l o') (by simp)),fun w2 hl2 K2 _=>?_⟩
  obtain ⟨o2,ho2,hLR2⟩:=LR.of hl2
  refine (hb w2 o2 (hS1.putObj K2 ho2)).mono ?_
  rintro D2 e2 σ2 w3 ⟨U3,L3,hS3,hm⟩
  cases r with
  | inl s' =>
   obtain ⟨rfl,hP'⟩:=hm
   refine ⟨hLR2.at_ (hS3.at_ (.obj l o2) (by simp)),fun w4 hl4 K4 _=>?_⟩
   obtain ⟨o4,ho4,hLR4⟩:=LR.of hl4
   exact ⟨U3,_,hS3.putObj K4 ho4,rfl,o4,L3,rfl,hLR4,hP'⟩
  | inr e' =>
   obtain ⟨rfl,hP'⟩:=hm
   have fin:∀ w4 p,p=wQI (exO e')->LoopAt w4 l N σ t asg body rb fn .done p->Keep w3 w4 (·=l)->∃ U'' L'',St ⟨w',.obj l o' :: L',U'⟩ U'' L'' w4/\(false=false/\PEl e' U'' L''):=by
    rintro w4 p rfl hl4 K4
    obtain ⟨o4,ho4,hLR4⟩:=LR.of hl4
    exact ⟨U3,_,hS3.putObj K4 ho4,rfl,o4,L3,rfl,hLR4,hP'⟩
   have hB:=hLR2.at_ (hS3.at_ (.obj l o2) (by simp))
   rcases hex e' with he | ⟨i,he⟩
   ·rw [he] at fin ⊢
    exact ⟨hB,fun w4 hl4 K4 _=>fin w4 _ rfl hl4 K4⟩
   ·rw [he] at fin ⊢
    exact ⟨hB,fun w4 hl4 K4 _=>fin w4 _ rfl hl4 K4⟩
 have hE:St ⟨w1,.obj l o :: L,U⟩ U (.obj l o :: L) w1:=by have:=hS1.enterH (L.length + 1);simpa using this
 refine (hit l w1 (.obj l o :: L) PYl PEl hE ⟨o,L,rfl,hLR,h0⟩ hY).mono ?_
 rintro v w3 ⟨U',L3,g1,g2⟩
 obtain ⟨g3,g4⟩:=hS2.backH (L.length + 1) (own':=L3) (U':=U') (w':=w3) (by simpa using g1)
 have g3:St B U' (L3 ++ [.obj rb (.deferred (some []))]) w3:=by simpa using g3
 have hkk:=hk rb U'
 cases rr with
 | inl s' =>
  obtain ⟨o',L',rfl,hLR',hP⟩:=g2
  refine .inl ⟨hLR'.at_ (g3.at_ (.obj l o') (by simp)),fun w4 K4 _=>hkk L' w4 g4 ?_ hP⟩
  exact St.outObj (L:=L' ++ [.obj rb (.deferred (some []))]) (by simpa using g3) K4
 | inr e' =>
  obtain ⟨o',L',rfl,hLR',hP⟩:=g2
  refine .inr ⟨exO e',hex e',?_,fun w4 K4 _=>hkk L' w4 g4 ?_ hP⟩
  ·have:=hLR'.at_ (g3.at_ (.obj l o') (by simp))
   rcases hex e' with he | ⟨i,he⟩ <;> (rw [he] at this ⊢;exact this)
  ·exact St.outObj (L:=L' ++ [.obj rb (.deferred (some []))]) (by simpa using g3) K4
theorem wQj {rs:Array ResultVar} {R:Value->World->Prop} {rbs:List Nat} {e:Exit} (he:e=.normal \/ e=.ret) (hS:St B U (L ++ rbs.map fun rb=>.obj rb (.deferred (some []))) w)
  (k:∀ w',St B U L w'->∃ v,(wCV rs σ).run P w'=.ok v w'/\R v w'):retM P rs R (rbs.map Go.KX.mark) e σ w:=by
 have hn:rbs.Nodup:=by
  rw [List.Nodup,List.pairwise_iff_getElem]
  intro i j hi hj hij e
  have at_:∀ (i:Nat) (h:i < rbs.length),(L ++ rbs.map fun rb=>Res.obj rb (.deferred (some [])))[L.length + i]?=some (.obj rbs[i] (.deferred (some []))):=fun i h=>by
   rw [nf (by omega),show L.length + i - L.length=i by omega,nR,nV h]
   rfl
  have:=hS.dj _ _ _ _ rbs[i] (at_ i hi) (at_ j hj) rfl (by rw [e];rfl)
  omega
 have fin:∃ rbs':List Nat,rbs.map Go.KX.mark=rbs'.map Go.KX.mark/\rbs'.Nodup/\(∀ rb ∈ rbs',Dfr w rb)/\∀ w',Keep w w' (· ∈ rbs')->w'.heap.size=w.heap.size->∃ v,(wCV rs σ).run P w'=.ok v w'/\R v w' :=
  ⟨rbs,rfl,hn,fun rb hrb=>hS.at_ (.obj rb (.deferred (some []))) (nZ _ (ny.2 ⟨rb,hrb,rfl⟩)),fun w' K _=>k w' (hS.outs K)⟩
 rcases he with rfl | rfl
 ·exact fin
 ·exact fin
end
end Go.KL
namespace Go.KL
def wPN (l:List Int):Option (List Int):=if l.length < 4611686018427387904 then some (l.mergeSort fun x y=>decide (x <= y)) else none
end Go.KL
namespace Go.Proofs.YtkeeechdijfkhaaGreat
open Go.KL
structure wAB where
 bytes:List Int
 next:Int
 state:Int
deriving DecidableEq,Inhabited,Repr
structure wAH where
 Lo:Int
 Hi:Int
deriving DecidableEq,Inhabited,Repr
structure wAI where
 Offset:wAH
 Error:Int
deriving DecidableEq,Inhabited,Repr
structure wAW where
 Skier:Int
 Mat:Int
 Clock:Int
 Time:Int
deriving DecidableEq,Inhabited,Repr
structure wAD where
 Starts:List Int
 Splits:List wAH
 Clocks:List wAI
 Readings:List wAW
deriving DecidableEq,Inhabited,Repr
structure wAG where
 Who:Int
 From:Int
 To:Int
deriving DecidableEq,Inhabited,Repr
structure wAa where
 Skier:Int
 Mat:Int
deriving DecidableEq,Inhabited,Repr
structure wAF where
 skier:Int
 mat:Int
deriving DecidableEq,Inhabited,Repr
structure wAK where
 Kind:Int
 Skier:Int
 Index:Int
 Up:Bool
deriving DecidableEq,Inhabited,Repr
structure wAd where
 step:wAK
 from_:Int
 to_:Int
 count:Int
deriving DecidableEq,Inhabited,Repr
structure wAr where
 Race:wAD
 number:List (wAF × Int)
 edges:List wAd
structure wCm where
 far:List Int
 by_:List Int
deriving DecidableEq,Inhabited,Repr
def wBt (p0:List Int):Option (wAB) :=
 some (⟨p0,0,17⟩:wAB)
def wAJ (p0:wAB) (p1:Int):Option (Int × wAB) :=
 if p1 <= 1 then
  some (0,p0)
 else
  if (↑p0.bytes.length:Int)=0 then
   some (0,p0)
  else
   (rem p0.next (↑p0.bytes.length:Int)).bind fun x10 =>
   (idx p0.bytes x10).bind fun x13 =>
   (quo p0.next (↑p0.bytes.length:Int)).bind fun x20 =>
   (rem (wEe ((wEe ((wEe ((wEe (p0.state * 45)) + (wEe x13))) + (wEe (77 * (wEe x20))))) + 1)) 65519).bind fun x32 =>
   if (wEe x20)=0 then
    if p1 <= 256 then
     (rem (w64 (wEe x13)) p1).bind fun x42 =>
     some (x42,(⟨p0.bytes,w64 (p0.next + 1),x32⟩:wAB))
    else
     (rem (w64 (wEe ((wEe (x32 * 256)) + (wEe x13)))) p1).bind fun x46 =>
     some (x46,(⟨p0.bytes,w64 (p0.next + 1),x32⟩:wAB))
   else
    (rem (w64 (wEe ((wEe (x32 * 256)) + (wEe x13)))) p1).bind fun x50 =>
    some (x50,(⟨p0.bytes,w64 (p0.next + 1),x32⟩:wAB))
def wAM (p0:wAB) (p1:Int) (p2:Int):Option (Int × wAB) :=
 (wAJ p0 (w64 ((w64 (p2 - p1)) + 1))).bind fun (x2,x3) =>
 some (w64 (p1 + x2),x3)
def wBN (p0:wAB) (p1:Int) (p2:Int) (p3:Int):Option (wAD × (List (List Int)) × (List Int) × wAB) :=
 (wAM p0 1 p1).bind fun (x10,x11) =>
 (wCg 0 x10 (fun k62 (l53,x56,x57,l58) =>
  (wAJ (⟨l53,x56,x57⟩:wAB) 4).bind fun (x142,x143) =>
  (wAJ x143 3).bind fun (x156,x157) =>
  (app 8 l58 [w64 ((w64 (300 * x142)) + x156)]).bind fun x175 =>
  some (x157.bytes,x157.next,x157.state,x175)) (x11.bytes,x11.next,x11.state,[])).bind fun (y67,y68,y69,y70) =>
 (wAJ (⟨y67,y68,y69⟩:wAB) p2).bind fun (x223,x224) =>
 (wCg 0 x223 (fun k274 (l265,x268,x269,l270) =>
  (wAM (⟨l265,x268,x269⟩:wAB) 3 9).bind fun (x305,x306) =>
  (wAJ x306 30).bind fun (x353,x354) =>
  (app 16 l270 [(⟨w64 (100 * x305),w64 ((w64 (100 * x305)) + (w64 (10 * x353)))⟩:wAH)]).bind fun x372 =>
  some (x354.bytes,x354.next,x354.state,x372)) (x224.bytes,x224.next,x224.state,[])).bind fun (y279,y280,y281,y282) =>
 (wCg 0 (↑y70.length:Int) (fun k460 (l450,x453,x454,l455) =>
  (chk (↑k460:Int) y70.length).bind fun _ =>
  (wCg 0 (↑y282.length:Int) (fun k541 (l532,x535,x536,x537,l538) =>
   (chk (↑k541:Int) y282.length).bind fun _ =>
   (wAM (⟨l532,x535,x536⟩:wAB) ((gd y282 k541).Lo) ((gd y282 k541).Hi)).bind fun (x589,x590) =>
   (app 8 l538 [w64 (x537 + x589)]).bind fun x609 =>
   some (x590.bytes,x590.next,x590.state,w64 (x537 + x589),x609)) (l450,x453,x454,(gd y70 k460),[(gd y70 k460)])).bind fun (y546,y547,y548,y549,y550) =>
  (app 24 l455 [y550]).bind fun x672 =>
  some (y546,y547,y548,x672)) (y279,y280,y281,[])).bind fun (y465,y466,y467,y468) =>
 (wAM (⟨y465,y466,y467⟩:wAB) 1 3).bind fun (x726,x727) =>
 (wCg 0 x726 (fun k792 (l779,x782,x783,l784,l788) =>
  (wAM (⟨l779,x782,x783⟩:wAB) (-60) 20).bind fun (x826,x827) =>
  (wAJ x827 50).bind fun (x840,x841) =>
  (wAJ x841 6).bind fun (x854,x855) =>
  (app 24 l784 [(⟨(⟨x826,w64 (x826 + x840)⟩:wAH),x854⟩:wAI)]).bind fun x880 =>
  (wAM x855 x826 (w64 (x826 + x840))).bind fun (x888,x889) =>
  (app 8 l788 [x888]).bind fun x908 =>
  some (x889.bytes,x889.next,x889.state,x880,x908)) (x727.bytes,x727.next,x727.state,[],[])).bind fun (y797,y798,y799,y800,y801) =>
 (wAJ (⟨y797,y798,y799⟩:wAB) (w64 (p3 + 1))).bind fun (x1667,x1668) =>
 (wCg 0 x1667 (fun k1736 (l1727,x1730,x1731,l1732) =>
  ((wAJ (⟨l1727,x1730,x1731⟩:wAB) (↑y70.length:Int)).bind fun (x1833,x1834) =>
  (wAJ x1834 (w64 ((↑y282.length:Int) + 1))).bind fun (x1847,x1848) =>
  (wAJ x1848 (↑y800.length:Int)).bind fun (x1861,x1862) =>
  some (x1862.bytes,x1862.next,x1862.state,x1833,x1847,x1861)).bind fun (l1767,x1770,x1771,x1774,x1775,x1776) =>
  (chk x1776 y800.length).bind fun _ =>
  (idx y468 x1774).bind fun x2140 =>
  (idx x2140 x1775).bind fun x2156 =>
  (chk x1776 y801.length).bind fun _ =>
  (wAM (⟨l1767,x1770,x1771⟩:wAB) (w64 (-((gd y800 x1776.toNat).Error))) ((gd y800 x1776.toNat).Error)).bind fun (x2171,x2172) =>
  if (w64 (-((gd y800 x1776.toNat).Error))) <= (w64 ((w64 ((max 0 (w64 ((w64 (x2156 + (gd y801 x1776.toNat))) + x2171))) - x2156)) - (gd y801 x1776.toNat))) then
   if (w64 ((w64 ((max 0 (w64 ((w64 (x2156 + (gd y801 x1776.toNat))) + x2171))) - x2156)) - (gd y801 x1776.toNat))) <= ((gd y800 x1776.toNat).Error) then
    (app 32 l1732 [(⟨x1774,x1775,x1776,max 0 (w64 ((w64 (x2156 + (gd y801 x1776.toNat))) + x2171))⟩:wAW)]).bind fun x2225 =>
    some (x2172.bytes,x2172.next,x2172.state,x2225)
   else
    some (x2172.bytes,x2172.next,x2172.state,l1732)
  else
   some (x2172.bytes,x2172.next,x2172.state,l1732)) (x1668.bytes,x1668.next,x1668.state,[])).bind fun (y1741,y1742,y1743,y1744) =>
 some ((⟨y70,y282,y800,y1744⟩:wAD),y468,y801,(⟨y1741,y1742,y1743⟩:wAB))
def wBK (p0:wAB) (p1:Int):Option ((List wAG) × wAB) :=
 (wAM p0 1 p1).bind fun (x2,x3) =>
 (wCg 0 x2 (fun k57 (l47,x50,x51,l52,x56) =>
  (wAJ (⟨l47,x50,x51⟩:wAB) 25).bind fun (x86,x87) =>
  (wAJ x87 40).bind fun (x100,x101) =>
  (wAJ x101 20).bind fun (x114,x115) =>
  (app 24 l52 [(⟨x114,max 0 (w64 (x56 - x86)),w64 ((max 0 (w64 (x56 - x86))) + x100)⟩:wAG)]).bind fun x133 =>
  some (x115.bytes,x115.next,x115.state,x133,max x56 (w64 ((max 0 (w64 (x56 - x86))) + x100)))) (x3.bytes,x3.next,x3.state,[],0)).bind fun (y62,y63,y64,y65,y66) =>
 some (y65,(⟨y62,y63,y64⟩:wAB))
def wCS (p0:Int) (p1:Int) (p2:Int):Option (Bool) :=
 if p1 <= p0 then
  some (decide (p0 <= p2))
 else
  some false
def wBu (p0:List Int) (p1:(Int->Option Bool)):Option (Bool) :=
 jn (wFI 0 (↑p0.length:Int) (fun k2 _ =>
  (idx p0 (↑k2:Int)).bind fun x22 =>
  (p1 x22).bind fun x30 =>
  if x30=true then
   some (.inl ())
  else
   esc (some false)) ()) fun _ =>
 some true
def wCE (p0:Int):Option (Bool) :=
 (wCS p0 0 360000).bind fun x1 =>
 some x1
def wBL (p0:List wAH) (p1:(wAH->Option Bool)):Option (Bool) :=
 jn (wFI 0 (↑p0.length:Int) (fun k2 _ =>
  (idx p0 (↑k2:Int)).bind fun x22 =>
  (p1 x22).bind fun x37 =>
  if x37=true then
   some (.inl ())
  else
   esc (some false)) ()) fun _ =>
 some true
def wCF (p0:wAH) (p1:Int) (p2:Int):Option (Bool) :=
 if p0.Lo <= p0.Hi then
  if p1 <= p0.Lo then
   some (decide (p0.Hi <= p2))
  else
   some false
 else
  some false
def wCG (p0:wAH):Option (Bool) :=
 (wCF p0 0 360000).bind fun x5 =>
 some x5
def wBF (p0:List wAI) (p1:(wAI->Option Bool)):Option (Bool) :=
 jn (wFI 0 (↑p0.length:Int) (fun k2 _ =>
  (idx p0 (↑k2:Int)).bind fun x22 =>
  (p1 x22).bind fun x37 =>
  if x37=true then
   some (.inl ())
  else
   esc (some false)) ()) fun _ =>
 some true
def wCH (p0:wAI):Option (Bool) :=
 (wCF p0.Offset (-36000) 36000).bind fun x5 =>
 if x5=true then
  (wCS p0.Error 0 600).bind fun x17 =>
  some x17
 else
  some false
def wAo (p0:List wAW) (p1:(wAW->Option Bool)):Option (Bool) :=
 jn (wFI 0 (↑p0.length:Int) (fun k2 _ =>
  (idx p0 (↑k2:Int)).bind fun x22 =>
  (p1 x22).bind fun x37 =>
  if x37=true then
   some (.inl ())
  else
   esc (some false)) ()) fun _ =>
 some true
def wCI (p0:wAW):Option (Bool) :=
 (wCS p0.Time 0 360000).bind fun x5 =>
 some x5
def wAq (p0:wAD) (p1:wAa):Option (Bool) :=
 (wCS p1.Skier 0 (w64 ((↑p0.Starts.length:Int) - 1))).bind fun x9 =>
 if x9=true then
  (wCS p1.Mat 0 (↑p0.Splits.length:Int)).bind fun x21 =>
  some x21
 else
  some false
def wCJ (p0:wAW) (p1:wAD):Option (Bool) :=
 (wAq p1 (⟨p0.Skier,p0.Mat⟩:wAa)).bind fun x5 =>
 if x5=true then
  (wCS p0.Clock 0 (w64 ((↑p1.Clocks.length:Int) - 1))).bind fun x18 =>
  some x18
 else
  some false
def wDZ (p0:wAD):Option (Int) :=
 (wCS (↑p0.Starts.length:Int) 1 8).bind fun x10 =>
 if x10=true then
  if 7 < (↑p0.Splits.length:Int) then
   some 2
  else
   if 4 < (↑p0.Clocks.length:Int) then
    some 2
   else
    if 40 < (↑p0.Readings.length:Int) then
     some 2
    else
     (wBu p0.Starts wCE).bind fun x35 =>
     if x35=true then
      (wBL p0.Splits wCG).bind fun x52 =>
      if x52=true then
       (wBF p0.Clocks wCH).bind fun x70 =>
       if x70=true then
        (wAo p0.Readings wCI).bind fun x92 =>
        if x92=true then
         (wAo p0.Readings (fun x=>wCJ x p0)).bind fun x116 =>
         if x116=true then
          some 0
         else
          some 1
        else
         some 3
       else
        some 3
      else
       some 3
     else
      some 3
 else
  some 2
def wBp :Option (wAF) :=
 some (⟨-1,0⟩:wAF)
def wBf {S E:Type} (f:S->wAK->Option (S ⊕ E)) (s0:S) (p1:wAD):Option (S ⊕ E) :=
 jn (wFI 0 4 (fun k12 s10 =>
  (idx ([1,(↑p1.Splits.length:Int),(↑p1.Clocks.length:Int),(↑p1.Readings.length:Int)]:List Int) (↑k12:Int)).bind fun x33 =>
  (if (↑k12:Int)=2 then
   some (true,s10)
  else
   some (decide ((↑k12:Int)=3),s10)).bind fun (b37,s38) =>
  if b37=true then
   jn (wFI 0 1 (fun k78 s76 =>
    jn (wFI 0 x33 (fun k113 s111 =>
     (f s111 (⟨(↑k12:Int),(↑k78:Int),(↑k113:Int),true⟩:wAK)).bind fun yr141 =>
     match yr141 with
     | .inl s151 =>
      (f s151 (⟨(↑k12:Int),(↑k78:Int),(↑k113:Int),false⟩:wAK)).bind fun yr154 =>
      match yr154 with
      | .inl s164 =>
       some (.inl s164)
      | .inr s164 =>
       esc (esc (esc (some (.inr s164))))
     | .inr s151 =>
      esc (esc (esc (some (.inr s151))))) s76) fun y195 =>
    some (.inl y195)) s38) fun y219 =>
   some (.inl y219)
  else
   jn (wFI 0 (↑p1.Starts.length:Int) (fun k247 s245 =>
    jn (wFI 0 x33 (fun k282 s280 =>
     (f s280 (⟨(↑k12:Int),(↑k247:Int),(↑k282:Int),true⟩:wAK)).bind fun yr310 =>
     match yr310 with
     | .inl s320 =>
      (f s320 (⟨(↑k12:Int),(↑k247:Int),(↑k282:Int),false⟩:wAK)).bind fun yr323 =>
      match yr323 with
      | .inl s333 =>
       some (.inl s333)
      | .inr s333 =>
       esc (esc (esc (some (.inr s333))))
     | .inr s320 =>
      esc (esc (esc (some (.inr s320))))) s245) fun y364 =>
    some (.inl y364)) s38) fun y388 =>
   some (.inl y388)) s0) fun y409 =>
 some (.inl y409)
def wCU (p0:wAD):Option (Unit) :=
 some ()
def wDN (p0:wAD) (p1:wAK):Option (wAF × wAF) :=
 ((wBp).bind fun x22 =>
 some (x22.skier,x22.mat)).bind fun (x17,x18) =>
 some ((⟨x17,x18⟩:wAF),(⟨p1.Skier,0⟩:wAF))
def wDO (p0:wAD) (p1:wAK):Option (Int × Int) :=
 (idx p0.Starts p1.Skier).bind fun x11 =>
 some (x11,w64 (-x11))
def wDP (p0:wAD) (p1:wAK):Option (wAF × wAF) :=
 (some ()).bind fun _ =>
 some ((⟨p1.Skier,p1.Index⟩:wAF),(⟨p1.Skier,w64 (p1.Index + 1)⟩:wAF))
def wDQ (p0:wAD) (p1:wAK):Option (Int × Int) :=
 (idx p0.Splits p1.Index).bind fun x11 =>
 some (x11.Hi,w64 (-x11.Lo))
def wCa (p0:Int):Option (wAF) :=
 some (⟨-1,w64 (1 + p0)⟩:wAF)
def wDR (p0:wAD) (p1:wAK):Option (wAF × wAF) :=
 (wBp).bind fun x19 =>
 (wCa p1.Index).bind fun x29 =>
 some (x19,x29)
def wDS (p0:wAD) (p1:wAK):Option (Int × Int) :=
 (idx p0.Clocks p1.Index).bind fun x11 =>
 some (w64 (-x11.Offset.Lo),x11.Offset.Hi)
def wCu (p0:wAD) (p1:wAK):Option (wAF × wAF) :=
 (idx p0.Readings p1.Index).bind fun x17 =>
 ((wCa x17.Clock).bind fun x36 =>
 some (x36.skier,x36.mat)).bind fun (x31,x32) =>
 some ((⟨x31,x32⟩:wAF),(⟨x17.Skier,x17.Mat⟩:wAF))
def wCv (p0:wAD) (p1:wAK):Option (Int × Int) :=
 (idx p0.Readings p1.Index).bind fun x9 =>
 (idx p0.Clocks x9.Clock).bind fun x25 =>
 some (w64 (x9.Time + x25.Error),w64 (x25.Error - x9.Time))
def wCB :Option (Unit) :=
 some ()
def wBd (p0:wAD) (p1:wAK):Option (wAF × wAF × Int) :=
 if p1.Kind=0 then
  ((wCB).bind fun _ =>
  some ()).bind fun _ =>
  (wDN p0 p1).bind fun (x92,x93) =>
  (wDO p0 p1).bind fun (x113,x114) =>
  if p1.Up=true then
   (some ()).bind fun _ =>
   some (x92,x93,x113)
  else
   some (x93,x92,x114)
 else
  if p1.Kind=1 then
   ((wCB).bind fun _ =>
   some ()).bind fun _ =>
   (wDP p0 p1).bind fun (x251,x252) =>
   (wDQ p0 p1).bind fun (x272,x273) =>
   if p1.Up=true then
    (some ()).bind fun _ =>
    some (x251,x252,x272)
   else
    some (x252,x251,x273)
  else
   if p1.Kind=2 then
    ((wCB).bind fun _ =>
    some ()).bind fun _ =>
    (wDR p0 p1).bind fun (x410,x411) =>
    (wDS p0 p1).bind fun (x431,x432) =>
    if p1.Up=true then
     (some ()).bind fun _ =>
     some (x410,x411,x431)
    else
     some (x411,x410,x432)
   else
    if p1.Kind=3 then
     ((wCB).bind fun _ =>
     some ()).bind fun _ =>
     (wCu p0 p1).bind fun (x569,x570) =>
     (wCv p0 p1).bind fun (x590,x591) =>
     if p1.Up=true then
      (some ()).bind fun _ =>
      some (x569,x570,x590)
     else
      some (x570,x569,x591)
    else
     (wCB).bind fun _ =>
     none
def wCw (p0:wAD):Option (wAr) :=
 ((wBp).bind fun x22 =>
 some (mput ([]:List (wAF × Int)) x22 0)).bind fun l13 =>
 (wCU p0).bind fun _ =>
 (wBf (S:=(List wAd) × (List (wAF × Int))) (E:=Empty) (fun (l1591,l1595) x1616 =>
  (wBd p0 x1616).bind fun (x1652,x1653,x1654) =>
  (wCg 0 2 (fun k1692 l1689 =>
   (idx ([x1652,x1653]:List wAF) (↑k1692:Int)).bind fun x1718 =>
   if (wIS l1689 x1718)=true then
    some l1689
   else
    some (mput l1689 x1718 (↑(l1689.length):Int))) l1595).bind fun y1697 =>
  (app 56 l1591 [(⟨x1616,(wBE y1697 x1652 0),(wBE y1697 x1653 0),x1654⟩:wAd)]).bind fun x1773 =>
  some (.inl (x1773,y1697))) ([],l13) p0).bind fun rr1606 =>
 match rr1606 with
 | .inl (y1845,y1846) =>
  some (⟨p0,y1846,y1845⟩:wAr)
 | .inr e1851 =>
  e1851.elim
def wCn (p0:wAD):Option ((Option wAr) × Int) :=
 (wDZ p0).bind fun x5 =>
 if x5=0 then
  (wCw p0).bind fun x21 =>
  some ((some x21),0)
 else
  some (none,x5)
def wAz (p0:List wAa) (p1:(wAa->Option Bool)):Option (Bool) :=
 jn (wFI 0 (↑p0.length:Int) (fun k2 _ =>
  (idx p0 (↑k2:Int)).bind fun x22 =>
  (p1 x22).bind fun x37 =>
  if x37=true then
   some (.inl ())
  else
   esc (some false)) ()) fun _ =>
 some true
def wCx (p0 p1:Int):Option (Int × Int):=if 0 <= p0/\p0 < 18446744073709551616/\0 <= p1/\p1 < 18446744073709551616 then some (p0 * p1 / 18446744073709551616,p0 * p1 % 18446744073709551616) else none
def wBA (p0:List Int) (p1:Int):Option ((List Int)) :=
 if p1 < 0 then
  none
 else
  (wCx (wAg (↑p0.length:Int)) (wAg p1)).bind fun (x4,x5) =>
  (if 0 < x4 then
   some true
  else
   some (decide (9223372036854775807 < x5))).bind fun b15 =>
  if b15=true then
   none
  else
   (mkz 8 (w64 x5) (0:Int)).bind fun x35 =>
   (wMt x35 0 p0).bind fun x45 =>
   iter (fun (l58,x59) =>
    if x59 < (↑l58.length:Int) then
     (cut l58 x59 (↑(l58.length):Int)).bind fun x77 =>
     (cut l58 0 x59).bind fun x86 =>
     (wMt l58 x59 x86).bind fun x95 =>
     some (.inl (x95,w64 (x59 + (↑(min x86.length (x77.length)):Int))))
    else
     esc (some l58)) big (x45,(↑(min p0.length (x35.length)):Int))
def wAs (p0:wAr) (p1:Int) (p2:Bool):Option (wCm × Int × Bool) :=
 ((wBA [1125899906842624] (↑(p0.number.length):Int)).bind fun x28 =>
 (wBA [-1] (↑(p0.number.length):Int)).bind fun x51 =>
 some (x28,x51)).bind fun (l9,l12) =>
 (wCg 0 (↑l9.length:Int) (fun k1254 l1253 =>
  if p1 < 0 then
   (chk (↑k1254:Int) l1253.length).bind fun _ =>
   some (nK l1253 k1254 0)
  else
   if (↑k1254:Int)=p1 then
    (chk (↑k1254:Int) l1253.length).bind fun _ =>
    some (nK l1253 k1254 0)
   else
    some l1253) l9).bind fun y1259 =>
 jn (wFI 0 (w64 ((↑(p0.number.length):Int) + 1)) (fun k1336 (l1333,l1334,x1335) =>
  (wCg 0 (↑p0.edges.length:Int) (fun k1375 (l1372,l1373,x1374) =>
   ((idx p0.edges (↑k1375:Int)).bind fun x1412 =>
   if p2=true then
    (chk x1412.to_ l1372.length).bind fun _ =>
    if (gd l1372 x1412.to_.toNat) < 1125899906842624 then
     (chk x1412.from_ l1372.length).bind fun _ =>
     if (w64 ((gd l1372 x1412.to_.toNat) + x1412.count)) < (gd l1372 x1412.from_.toNat) then
      ((chk x1412.from_ l1373.length).bind fun _ =>
      some ()).bind fun _ =>
      some ((nK l1372 x1412.from_.toNat (w64 ((gd l1372 x1412.to_.toNat) + x1412.count))),(nK l1373 x1412.from_.toNat (↑k1375:Int)),x1412.from_)
     else
      some (l1372,l1373,x1374)
    else
     some (l1372,l1373,x1374)
   else
    (chk x1412.from_ l1372.length).bind fun _ =>
    if (gd l1372 x1412.from_.toNat) < 1125899906842624 then
     (chk x1412.to_ l1372.length).bind fun _ =>
     if (w64 ((gd l1372 x1412.from_.toNat) + x1412.count)) < (gd l1372 x1412.to_.toNat) then
      ((chk x1412.to_ l1373.length).bind fun _ =>
      some ()).bind fun _ =>
      some ((nK l1372 x1412.to_.toNat (w64 ((gd l1372 x1412.from_.toNat) + x1412.count))),(nK l1373 x1412.to_.toNat (↑k1375:Int)),x1412.to_)
     else
      some (l1372,l1373,x1374)
    else
     some (l1372,l1373,x1374)).bind fun (l1406,l1407,x1408) =>
   some (l1406,l1407,x1408)) (l1333,l1334,-1)).bind fun (y1380,y1381,y1382) =>
  if y1382 < 0 then
   esc (some ((⟨y1380,y1381⟩:wCm),0,true))
  else
   some (.inl (y1380,y1381,y1382))) (y1259,l12,-1)) fun (y1697,y1698,y1699) =>
 some ((⟨y1697,y1698⟩:wCm),y1699,false)
def wBv (p0:wAr):Option (Bool) :=
 (wAs p0 (-1) false).bind fun (x3,x4,x5) =>
 some x5
def wDa (p0:wAD) (p1:List wAa):Option ((Option wAr) × Int) :=
 (wCn p0).bind fun (x5,x6) =>
 match x5 with
 | none =>
  if x6=0 then
   (wAz p1 (fun x=>wAq p0 x)).bind fun x40 =>
   if x40=true then
    none
   else
    some (none,1)
  else
   some (none,x6)
 | some x30 =>
  if x6=0 then
   (wAz p1 (fun x=>wAq p0 x)).bind fun x71 =>
   if x71=true then
    (wBv x30).bind fun x96 =>
    if x96=true then
     some ((some x30),0)
    else
     some (none,7)
   else
    some (none,1)
  else
   some (none,x6)
def wEk (p0:wAa):Option (wAF) :=
 some (⟨p0.Skier,p0.Mat⟩:wAF)
def wBO (p0:wAr) (p1:wAF) (p2:wAF):Option (wAH) :=
 ((wAs p0 (wBE p0.number p1 0) false).bind fun (x26,x27,x28) =>
 some (x26.far,x26.by_)).bind fun (l17,l20) =>
 ((wAs p0 (wBE p0.number p2 0) false).bind fun (x145,x146,x147) =>
 some (x145.far,x145.by_)).bind fun (l131,l134) =>
 (chk (wBE p0.number p1 0) l131.length).bind fun _ =>
 (chk (wBE p0.number p2 0) l17.length).bind fun _ =>
 some (⟨w64 (-(gd l131 (wBE p0.number p1 0).toNat)),(gd l17 (wBE p0.number p2 0).toNat)⟩:wAH)
def wCo (p0:wAD) (p1:wAa):Option (wAH × Int) :=
 (wDa p0 [p1]).bind fun (x27,x28) =>
 match x27 with
 | none =>
  if x28=0 then
   (wBp).bind fun x58 =>
   (wEk p1).bind fun x68 =>
   none
  else
   some ((⟨0,0⟩:wAH),x28)
 | some x52 =>
  if x28=0 then
   (wBp).bind fun x95 =>
   (wEk p1).bind fun x105 =>
   (wBO x52 x95 x105).bind fun x125 =>
   some (x125,0)
  else
   some ((⟨0,0⟩:wAH),x28)
def wBS (p0:Int) (p1:Int) (p2:Int):Option (Bool) :=
 if p1 <= p0 then
  some (decide (p0 <= p2))
 else
  some false
def wAw (p0:wAG) (p1:(wAG->Option Bool)):Option (Bool) :=
 (p1 p0).bind fun x5 =>
 some (!x5)
def wAh (p0:List wAG) (p1:(wAG->Option Bool)):Option (Int) :=
 jn (wFI 0 (↑p0.length:Int) (fun k2 _ =>
  (idx p0 (↑k2:Int)).bind fun x22 =>
  (p1 x22).bind fun x30 =>
  if x30=true then
   esc (some (↑k2:Int))
  else
   some (.inl ())) ()) fun _ =>
 some (-1)
def wAX (p0:List wAG) (p1:(wAG->Option Bool)):Option (Bool) :=
 (wAh p0 p1).bind fun x1 =>
 some (decide (0 <= x1))
def wBi (p0:List wAG) (p1:(wAG->Option Bool)):Option (Bool) :=
 (wAX p0 (fun x=>wAw x p1)).bind fun x13 =>
 some (!x13)
def wBH (p0:wAG):Option (Bool) :=
 (wBS p0.Who 0 99).bind fun x5 =>
 if x5=true then
  (wBS p0.From 0 p0.To).bind fun x17 =>
  if x17=true then
   some (decide (p0.To <= 10000))
  else
   some false
 else
  some false
def wCN (p0:List wAG):Option (Int) :=
 (wBS (↑p0.length:Int) 1 30).bind fun x1 =>
 if x1=true then
  (wBi p0 wBH).bind fun x15 =>
  if x15=true then
   some 0
  else
   some 3
 else
  some 2
def wBg (p0:List wAG) (p1:Int) (p2:Int):Option (Int) :=
 (wCN p0).bind fun x1 =>
 if x1=0 then
  (wBS p1 0 10000).bind fun x13 =>
  if x13=true then
   if p2 <= p1 then
    some 3
   else
    if 10000 < p2 then
     some 3
    else
     some 0
  else
   some 3
 else
  some x1
def wBh (p0:Int) (p1:Int) (p2:List wAG):Option (Int) :=
 (idx p2 p1).bind fun x3 =>
 (idx p2 p0).bind fun x10 =>
 some (w64 (x3.To - x10.To))
def wAU (p0:List Int) (p1:Int) (p2:Int) (p3:((Int × Int)->Option Int)):Option ((List Int)) :=
 iter (fun (l8,x9) =>
  if x9 < p2 then
   iter (fun (l34,x35) =>
    if p1 < x35 then
     (chk x35 l34.length).bind fun _ =>
     (chk (w64 (x35 - 1)) l34.length).bind fun _ =>
     (p3 ((gd l34 x35.toNat),(gd l34 (w64 (x35 - 1)).toNat))).bind fun x65 =>
     if x65 < 0 then
      (chk (w64 (x35 - 1)) (nK l34 x35.toNat (gd l34 (w64 (x35 - 1)).toNat)).length).bind fun _ =>
      some (.inl ((nK (nK l34 x35.toNat (gd l34 (w64 (x35 - 1)).toNat)) (w64 (x35 - 1)).toNat (gd l34 x35.toNat)),w64 (x35 - 1)))
     else
      esc (some (.inl (l34,w64 (x9 + 1))))
    else
     esc (some (.inl (l34,w64 (x9 + 1))))) big (l8,x9)
  else
   esc (some l8)) big (p0,w64 (p1 + 1))
def wAN (p0:List Int) (p1:Int) (p2:Int) (p3:Int) (p4:((Int × Int)->Option Int)):Option ((List Int)) :=
 (wCg 0 p3 (fun k8 l7 =>
  (chk (w64 (p2 + (↑k8:Int))) l7.length).bind fun _ =>
  (chk (w64 (p1 + (↑k8:Int))) l7.length).bind fun _ =>
  (chk (w64 (p2 + (↑k8:Int))) (nK l7 (w64 (p1 + (↑k8:Int))).toNat (gd l7 (w64 (p2 + (↑k8:Int))).toNat)).length).bind fun _ =>
  some (nK (nK l7 (w64 (p1 + (↑k8:Int))).toNat (gd l7 (w64 (p2 + (↑k8:Int))).toNat)) (w64 (p2 + (↑k8:Int))).toNat (gd l7 (w64 (p1 + (↑k8:Int))).toNat))) p0).bind fun y13 =>
 some y13
def wAi (p0:List Int) (p1:Int) (p2:Int) (p3:Int) (p4:((Int × Int)->Option Int)):Option ((List Int)) :=
 (iter (fun (l16,x17,x18) =>
  if x17=x18 then
   esc (some (l16,x17))
  else
   if x18 < x17 then
    (wAN l16 (w64 (p2 - x17)) p2 x18 p4).bind fun x46 =>
    some (.inl (x46,w64 (x17 - x18),x18))
   else
    (wAN l16 (w64 (p2 - x17)) (w64 ((w64 (p2 + x18)) - x17)) x17 p4).bind fun x62 =>
    some (.inl (x62,x17,w64 (x18 - x17)))) big (p0,w64 (p2 - p1),w64 (p3 - p2))).bind fun (l2,x3) =>
 (wAN l2 (w64 (p2 - x3)) p2 x3 p4).bind fun x87 =>
 some x87
def wAn (rec_:(List Int)->Int->Int->Int->((Int × Int)->Option Int)->Option ((List Int))) (p0:List Int) (p1:Int) (p2:Int) (p3:Int) (p4:((Int × Int)->Option Int)):Option ((List Int)) :=
 if (w64 (p2 - p1))=1 then
  (iter (fun (x14,x15) =>
   if x14 < x15 then
    (chk (w64 ((wAg (w64 (x14 + x15))) / 2)) p0.length).bind fun _ =>
    (chk p1 p0.length).bind fun _ =>
    (p4 ((gd p0 (w64 ((wAg (w64 (x14 + x15))) / 2)).toNat),(gd p0 p1.toNat))).bind fun x43 =>
    if x43 < 0 then
     some (.inl (w64 ((w64 ((wAg (w64 (x14 + x15))) / 2)) + 1),x15))
    else
     some (.inl (x14,w64 ((wAg (w64 (x14 + x15))) / 2)))
   else
    esc (some x14)) big (p2,p3)).bind fun x4 =>
  iter (fun (l80,x81) =>
   if x81 < (w64 (x4 - 1)) then
    (chk (w64 (x81 + 1)) l80.length).bind fun _ =>
    (chk x81 l80.length).bind fun _ =>
    (chk (w64 (x81 + 1)) (nK l80 x81.toNat (gd l80 (w64 (x81 + 1)).toNat)).length).bind fun _ =>
    some (.inl ((nK (nK l80 x81.toNat (gd l80 (w64 (x81 + 1)).toNat)) (w64 (x81 + 1)).toNat (gd l80 x81.toNat)),w64 (x81 + 1)))
   else
    esc (some l80)) big (p0,p1)
 else
  if (w64 (p3 - p2))=1 then
   (iter (fun (x137,x138) =>
    if x137 < x138 then
     (chk p2 p0.length).bind fun _ =>
     (chk (w64 ((wAg (w64 (x137 + x138))) / 2)) p0.length).bind fun _ =>
     (p4 ((gd p0 p2.toNat),(gd p0 (w64 ((wAg (w64 (x137 + x138))) / 2)).toNat))).bind fun x166 =>
     if x166 < 0 then
      some (.inl (x137,w64 ((wAg (w64 (x137 + x138))) / 2)))
     else
      some (.inl (w64 ((w64 ((wAg (w64 (x137 + x138))) / 2)) + 1),x138))
    else
     esc (some x137)) big (p1,p2)).bind fun x127 =>
   iter (fun (l203,x204) =>
    if x127 < x204 then
     (chk (w64 (x204 - 1)) l203.length).bind fun _ =>
     (chk x204 l203.length).bind fun _ =>
     (chk (w64 (x204 - 1)) (nK l203 x204.toNat (gd l203 (w64 (x204 - 1)).toNat)).length).bind fun _ =>
     some (.inl ((nK (nK l203 x204.toNat (gd l203 (w64 (x204 - 1)).toNat)) (w64 (x204 - 1)).toNat (gd l203 x204.toNat)),w64 (x204 - 1)))
    else
     esc (some l203)) big (p0,p2)
  else
   if (w64 ((wAg (w64 (p1 + p3))) / 2)) < p2 then
    (iter (fun (x260,x261) =>
     if x260 < x261 then
      (chk (w64 ((w64 ((w64 ((w64 ((wAg (w64 (p1 + p3))) / 2)) + p2)) - 1)) - (w64 ((wAg (w64 (x260 + x261))) / 2)))) p0.length).bind fun _ =>
      (chk (w64 ((wAg (w64 (x260 + x261))) / 2)) p0.length).bind fun _ =>
      (p4 ((gd p0 (w64 ((w64 ((w64 ((w64 ((wAg (w64 (p1 + p3))) / 2)) + p2)) - 1)) - (w64 ((wAg (w64 (x260 + x261))) / 2)))).toNat),(gd p0 (w64 ((wAg (w64 (x260 + x261))) / 2)).toNat))).bind fun x294 =>
      if x294 < 0 then
       some (.inl (x260,w64 ((wAg (w64 (x260 + x261))) / 2)))
      else
       some (.inl (w64 ((w64 ((wAg (w64 (x260 + x261))) / 2)) + 1),x261))
     else
      esc (some x260)) big (w64 ((w64 ((w64 ((wAg (w64 (p1 + p3))) / 2)) + p2)) - p3),w64 ((wAg (w64 (p1 + p3))) / 2))).bind fun x250 =>
    (if x250 < p2 then
     some (decide (p2 < (w64 ((w64 ((w64 ((wAg (w64 (p1 + p3))) / 2)) + p2)) - x250))))
    else
     some false).bind fun b330 =>
    if b330=true then
     (wAi p0 x250 p2 (w64 ((w64 ((w64 ((wAg (w64 (p1 + p3))) / 2)) + p2)) - x250)) p4).bind fun x357 =>
     if p1 < x250 then
      if x250 < (w64 ((wAg (w64 (p1 + p3))) / 2)) then
       (rec_ x357 p1 x250 (w64 ((wAg (w64 (p1 + p3))) / 2)) p4).bind fun x373 =>
       if (w64 ((wAg (w64 (p1 + p3))) / 2)) < (w64 ((w64 ((w64 ((wAg (w64 (p1 + p3))) / 2)) + p2)) - x250)) then
        if (w64 ((w64 ((w64 ((wAg (w64 (p1 + p3))) / 2)) + p2)) - x250)) < p3 then
         (rec_ x373 (w64 ((wAg (w64 (p1 + p3))) / 2)) (w64 ((w64 ((w64 ((wAg (w64 (p1 + p3))) / 2)) + p2)) - x250)) p3 p4).bind fun x389 =>
         some x389
        else
         some x373
       else
        some x373
      else
       if (w64 ((wAg (w64 (p1 + p3))) / 2)) < (w64 ((w64 ((w64 ((wAg (w64 (p1 + p3))) / 2)) + p2)) - x250)) then
        if (w64 ((w64 ((w64 ((wAg (w64 (p1 + p3))) / 2)) + p2)) - x250)) < p3 then
         (rec_ x357 (w64 ((wAg (w64 (p1 + p3))) / 2)) (w64 ((w64 ((w64 ((wAg (w64 (p1 + p3))) / 2)) + p2)) - x250)) p3 p4).bind fun x408 =>
         some x408
        else
         some x357
       else
        some x357
     else
      if (w64 ((wAg (w64 (p1 + p3))) / 2)) < (w64 ((w64 ((w64 ((wAg (w64 (p1 + p3))) / 2)) + p2)) - x250)) then
       if (w64 ((w64 ((w64 ((wAg (w64 (p1 + p3))) / 2)) + p2)) - x250)) < p3 then
        (rec_ x357 (w64 ((wAg (w64 (p1 + p3))) / 2)) (w64 ((w64 ((w64 ((wAg (w64 (p1 + p3))) / 2)) + p2)) - x250)) p3 p4).bind fun x427 =>
        some x427
       else
        some x357
      else
       some x357
    else
     if p1 < x250 then
      if x250 < (w64 ((wAg (w64 (p1 + p3))) / 2)) then
       (rec_ p0 p1 x250 (w64 ((wAg (w64 (p1 + p3))) / 2)) p4).bind fun x447 =>
       if (w64 ((wAg (w64 (p1 + p3))) / 2)) < (w64 ((w64 ((w64 ((wAg (w64 (p1 + p3))) / 2)) + p2)) - x250)) then
        if (w64 ((w64 ((w64 ((wAg (w64 (p1 + p3))) / 2)) + p2)) - x250)) < p3 then
         (rec_ x447 (w64 ((wAg (w64 (p1 + p3))) / 2)) (w64 ((w64 ((w64 ((wAg (w64 (p1 + p3))) / 2)) + p2)) - x250)) p3 p4).bind fun x463 =>
         some x463
        else
         some x447
       else
        some x447
      else
       if (w64 ((wAg (w64 (p1 + p3))) / 2)) < (w64 ((w64 ((w64 ((wAg (w64 (p1 + p3))) / 2)) + p2)) - x250)) then
        if (w64 ((w64 ((w64 ((wAg (w64 (p1 + p3))) / 2)) + p2)) - x250)) < p3 then
         (rec_ p0 (w64 ((wAg (w64 (p1 + p3))) / 2)) (w64 ((w64 ((w64 ((wAg (w64 (p1 + p3))) / 2)) + p2)) - x250)) p3 p4).bind fun x483 =>
         some x483
        else
         some p0
       else
        some p0
     else
      if (w64 ((wAg (w64 (p1 + p3))) / 2)) < (w64 ((w64 ((w64 ((wAg (w64 (p1 + p3))) / 2)) + p2)) - x250)) then
       if (w64 ((w64 ((w64 ((wAg (w64 (p1 + p3))) / 2)) + p2)) - x250)) < p3 then
        (rec_ p0 (w64 ((wAg (w64 (p1 + p3))) / 2)) (w64 ((w64 ((w64 ((wAg (w64 (p1 + p3))) / 2)) + p2)) - x250)) p3 p4).bind fun x503 =>
        some x503
       else
        some p0
      else
       some p0
   else
    (iter (fun (x527,x528) =>
     if x527 < x528 then
      (chk (w64 ((w64 ((w64 ((w64 ((wAg (w64 (p1 + p3))) / 2)) + p2)) - 1)) - (w64 ((wAg (w64 (x527 + x528))) / 2)))) p0.length).bind fun _ =>
      (chk (w64 ((wAg (w64 (x527 + x528))) / 2)) p0.length).bind fun _ =>
      (p4 ((gd p0 (w64 ((w64 ((w64 ((w64 ((wAg (w64 (p1 + p3))) / 2)) + p2)) - 1)) - (w64 ((wAg (w64 (x527 + x528))) / 2)))).toNat),(gd p0 (w64 ((wAg (w64 (x527 + x528))) / 2)).toNat))).bind fun x561 =>
      if x561 < 0 then
       some (.inl (x527,w64 ((wAg (w64 (x527 + x528))) / 2)))
      else
       some (.inl (w64 ((w64 ((wAg (w64 (x527 + x528))) / 2)) + 1),x528))
     else
      esc (some x527)) big (p1,p2)).bind fun x517 =>
    (if x517 < p2 then
     some (decide (p2 < (w64 ((w64 ((w64 ((wAg (w64 (p1 + p3))) / 2)) + p2)) - x517))))
    else
     some false).bind fun b597 =>
    if b597=true then
     (wAi p0 x517 p2 (w64 ((w64 ((w64 ((wAg (w64 (p1 + p3))) / 2)) + p2)) - x517)) p4).bind fun x624 =>
     if p1 < x517 then
      if x517 < (w64 ((wAg (w64 (p1 + p3))) / 2)) then
       (rec_ x624 p1 x517 (w64 ((wAg (w64 (p1 + p3))) / 2)) p4).bind fun x640 =>
       if (w64 ((wAg (w64 (p1 + p3))) / 2)) < (w64 ((w64 ((w64 ((wAg (w64 (p1 + p3))) / 2)) + p2)) - x517)) then
        if (w64 ((w64 ((w64 ((wAg (w64 (p1 + p3))) / 2)) + p2)) - x517)) < p3 then
         (rec_ x640 (w64 ((wAg (w64 (p1 + p3))) / 2)) (w64 ((w64 ((w64 ((wAg (w64 (p1 + p3))) / 2)) + p2)) - x517)) p3 p4).bind fun x656 =>
         some x656
        else
         some x640
       else
        some x640
      else
       if (w64 ((wAg (w64 (p1 + p3))) / 2)) < (w64 ((w64 ((w64 ((wAg (w64 (p1 + p3))) / 2)) + p2)) - x517)) then
        if (w64 ((w64 ((w64 ((wAg (w64 (p1 + p3))) / 2)) + p2)) - x517)) < p3 then
         (rec_ x624 (w64 ((wAg (w64 (p1 + p3))) / 2)) (w64 ((w64 ((w64 ((wAg (w64 (p1 + p3))) / 2)) + p2)) - x517)) p3 p4).bind fun x675 =>
         some x675
        else
         some x624
       else
        some x624
     else
      if (w64 ((wAg (w64 (p1 + p3))) / 2)) < (w64 ((w64 ((w64 ((wAg (w64 (p1 + p3))) / 2)) + p2)) - x517)) then
       if (w64 ((w64 ((w64 ((wAg (w64 (p1 + p3))) / 2)) + p2)) - x517)) < p3 then
        (rec_ x624 (w64 ((wAg (w64 (p1 + p3))) / 2)) (w64 ((w64 ((w64 ((wAg (w64 (p1 + p3))) / 2)) + p2)) - x517)) p3 p4).bind fun x694 =>
        some x694
       else
        some x624
      else
       some x624
    else
     if p1 < x517 then
      if x517 < (w64 ((wAg (w64 (p1 + p3))) / 2)) then
       (rec_ p0 p1 x517 (w64 ((wAg (w64 (p1 + p3))) / 2)) p4).bind fun x714 =>
       if (w64 ((wAg (w64 (p1 + p3))) / 2)) < (w64 ((w64 ((w64 ((wAg (w64 (p1 + p3))) / 2)) + p2)) - x517)) then
        if (w64 ((w64 ((w64 ((wAg (w64 (p1 + p3))) / 2)) + p2)) - x517)) < p3 then
         (rec_ x714 (w64 ((wAg (w64 (p1 + p3))) / 2)) (w64 ((w64 ((w64 ((wAg (w64 (p1 + p3))) / 2)) + p2)) - x517)) p3 p4).bind fun x730 =>
         some x730
        else
         some x714
       else
        some x714
      else
       if (w64 ((wAg (w64 (p1 + p3))) / 2)) < (w64 ((w64 ((w64 ((wAg (w64 (p1 + p3))) / 2)) + p2)) - x517)) then
        if (w64 ((w64 ((w64 ((wAg (w64 (p1 + p3))) / 2)) + p2)) - x517)) < p3 then
         (rec_ p0 (w64 ((wAg (w64 (p1 + p3))) / 2)) (w64 ((w64 ((w64 ((wAg (w64 (p1 + p3))) / 2)) + p2)) - x517)) p3 p4).bind fun x750 =>
         some x750
        else
         some p0
       else
        some p0
     else
      if (w64 ((wAg (w64 (p1 + p3))) / 2)) < (w64 ((w64 ((w64 ((wAg (w64 (p1 + p3))) / 2)) + p2)) - x517)) then
       if (w64 ((w64 ((w64 ((wAg (w64 (p1 + p3))) / 2)) + p2)) - x517)) < p3 then
        (rec_ p0 (w64 ((wAg (w64 (p1 + p3))) / 2)) (w64 ((w64 ((w64 ((wAg (w64 (p1 + p3))) / 2)) + p2)) - x517)) p3 p4).bind fun x770 =>
        some x770
       else
        some p0
      else
       some p0
def wAQ:Nat->(List Int)->Int->Int->Int->((Int × Int)->Option Int)->Option ((List Int))
 | 0=>fun _ _ _ _ _=>none
 | n_ + 1=>wAn (wAQ n_)
def wBJ (p0:List Int) (p1:Int) (p2:((Int × Int)->Option Int)):Option ((List Int)) :=
 (iter (fun (l16,x17,x18) =>
  if x18 <= p1 then
   (wAU l16 x17 x18 p2).bind fun x39 =>
   some (.inl (x39,x18,w64 (x18 + 20)))
  else
   esc (some (l16,x17))) big (p0,0,20)).bind fun (l2,x3) =>
 (wAU l2 x3 p1 p2).bind fun x71 =>
 iter (fun (l88,x89) =>
  if x89 < p1 then
   (iter (fun (l121,x122,x123) =>
    if x123 <= p1 then
     (wAQ 1000 l121 x122 (w64 (x122 + x89)) x123 p2).bind fun x146 =>
     some (.inl (x146,x123,w64 (x123 + (w64 (2 * x89)))))
    else
     esc (some (l121,x122))) big (l88,0,w64 (2 * x89))).bind fun (l107,x108) =>
   if (w64 (x108 + x89)) < p1 then
    (wAQ 1000 l107 x108 (w64 (x108 + x89)) p1 p2).bind fun x182 =>
    some (.inl (x182,w64 (x89 * 2)))
   else
    some (.inl (l107,w64 (x89 * 2)))
  else
   esc (some l88)) big (x71,20)
def wAm (p0:List Int) (p1:((Int × Int)->Option Int)):Option ((List Int)) :=
 (wBJ p0 (↑p0.length:Int) p1).bind fun x2 =>
 some x2
def wAl (p0:wAG) (p1:Int):Option (Bool) :=
 if p0.From <= p1 then
  some (decide (p1 < p0.To))
 else
  some false
def wBZ (p0:List wAG) (p1:Int) (p2:Int):Option ((List Int) × (List Int) × Int) :=
 (mkz 8 (↑p0.length:Int) (0:Int)).bind fun x10 =>
 (wCg 0 (↑p0.length:Int) (fun k24 l23 =>
  (chk (↑k24:Int) l23.length).bind fun _ =>
  some (nK l23 k24 (↑k24:Int))) x10).bind fun y29 =>
 (mkz 8 (↑p0.length:Int) (0:Int)).bind fun x75 =>
 (wMt x75 0 y29).bind fun x83 =>
 (wAm x83 (fun x=>wBh x.1 x.2 p0)).bind fun x93 =>
 jn (iter (fun (x137,l138,l142) =>
  if x137 < p2 then
   jn (wFI 0 (↑x93.length:Int) (fun k170 _ =>
    (chk (↑k170:Int) x93.length).bind fun _ =>
    (idx p0 (gd x93 k170)).bind fun x202 =>
    (wAl x202 x137).bind fun x212 =>
    if x212=true then
     esc (if (gd x93 k170)=(-1) then
      esc (esc (some (l138,l142,x137)))
     else
      (app 8 l138 [(gd x93 k170)]).bind fun x241 =>
      (app 8 l142 [x137]).bind fun x254 =>
      some (.inl (x202.To,x241,x254)))
    else
     some (.inl ())) ()) fun _ =>
   esc (esc (some (l138,l142,x137)))
  else
   esc (some (.inl (l138,l142)))) big (p1,[],[])) fun (l104,l107) =>
 some (l104,l107,p2)
def wBw (p0:List wAG) (p1:Int) (p2:Int):Option ((List Int) × (List Int) × Int) :=
 (wBg p0 p1 p2).bind fun x1 =>
 if x1=0 then
  (wBZ p0 p1 p2).bind fun (x14,x15,x16) =>
  if x16 < p2 then
   some ([],[],6)
  else
   some (x14,x15,0)
 else
  some ([],[],x1)
def wBj (p0:List Int):Option (List Int):=wPN p0
def wCy (p0:List wAG) (p1:Int) (p2:Int):Option ((List Int) × Int) :=
 (wBw p0 p1 p2).bind fun (x1,x2,x3) =>
 (wBj x1).bind fun x19 =>
 some (x19,x3)
def wDq (p0:List wAG) (p1:Int) (p2:Int):Option (Int × Int) :=
 (wBg p0 p1 p2).bind fun x1 =>
 if x1=0 then
  (wBZ p0 p1 p2).bind fun (x14,x15,x16) =>
  if x16=p2 then
   some (0,6)
  else
   some (x16,0)
 else
  some (0,x1)
def wDh (p0:List wAG) (p1:Int) (p2:Int):Option ((List Int) × Int) :=
 (wBw p0 p1 p2).bind fun (x1,x2,x3) =>
 some (x2,x3)
def wBP (p0:wAG) (p1:Int) (p2:Int):Option (Bool) :=
 (wAl p0 p1).bind fun x5 =>
 if x5=true then
  (wAl p0 p2).bind fun x18 =>
  some x18
 else
  some false
def wBx (p0:List wAG) (p1:Int) (p2:Int) (p3:List Int):Option (Bool × Int) :=
 (wBg p0 p1 p2).bind fun x1 =>
 if x1=0 then
  jn (wFI 0 (↑p3.length:Int) (fun k14 _ =>
   (idx p3 (↑k14:Int)).bind fun x37 =>
   (wBS x37 p1 (w64 (p2 - 1))).bind fun x53 =>
   if x53=true then
    if (↑k14:Int)=0 then
     some (.inl ())
    else
     (idx p3 (w64 ((↑k14:Int) - 1))).bind fun x68 =>
     if x37 <= x68 then
      esc (some (false,0))
     else
      (wAX p0 (fun x=>wBP x x68 x37)).bind fun x106 =>
      if x106=true then
       esc (some (false,0))
      else
       some (.inl ())
   else
    esc (some (false,0))) ()) fun _ =>
  some (true,0)
 else
  some (false,x1)
def wBq:Option Bool:=some true
def wBa (p0:List Int) (p1:List Int) (p2:Int):Option (Bool) :=
 (wBt p0).bind fun x1 =>
 (wBN x1 5 5 12).bind fun (x16,x17,x18,x19) =>
 (wBt p1).bind fun x59 =>
 (wBK x59 14).bind fun (x74,x75) =>
 (rem (w64 p2) (↑x16.Starts.length:Int)).bind fun x93 =>
 (quo (w64 p2) 8).bind fun x96 =>
 (rem x96 (w64 ((↑x16.Splits.length:Int) + 1))).bind fun x99 =>
 (wCo x16 (⟨x93,x99⟩:wAa)).bind fun (x135,x136) =>
 (idx x17 x93).bind fun x162 =>
 (idx x162 x99).bind fun x181 =>
 if x136=0 then
  if x181 < x135.Lo then
   some false
  else
   if x135.Hi < x181 then
    some false
   else
    if x135.Lo < 0 then
     some false
    else
     if 360000 < x135.Hi then
      some false
     else
      jn (wFI 0 3 (fun k225 a224 =>
       (chk (↑k225:Int) [x135.Lo,x181,x135.Hi].length).bind fun _ =>
       (quo (gd [x135.Lo,x181,x135.Hi] k225) 100).bind fun x250 =>
       (wCy x74 0 (min (w64 (x250 + 1)) 10000)).bind fun (x254,x255) =>
       (wDq x74 0 (min (w64 (x250 + 1)) 10000)).bind fun (x269,x270) =>
       (if x255=0 then
        if ((decide (x255=0)) == (decide (x270=6)))=true then
         if x270=0 then
          some (decide ((min (w64 (x250 + 1)) 10000) <= x269))
         else
          some false
        else
         some true
       else
        if x255=6 then
         if ((decide (x255=0)) == (decide (x270=6)))=true then
          if x270=0 then
           some (decide ((min (w64 (x250 + 1)) 10000) <= x269))
          else
           some false
         else
          some true
        else
         some true).bind fun b280 =>
       if b280=true then
        esc (some false)
       else
        (chk (↑k225:Int) 3).bind fun _ =>
        if x255=0 then
         some (.inl (a224.set k225 (↑x254.length:Int)))
        else
         some (.inl ((a224.set k225 (↑x254.length:Int)).set k225 31))) (Arr.fill 3 0)) fun y363 =>
      if (y363.get 1) < (y363.get (0)) then
       some false
      else
       if (y363.get 2) < (y363.get 1) then
        some false
       else
        (quo x135.Lo 100).bind fun x384 =>
        (wDh x74 0 (min (w64 (x384 + 1)) 10000)).bind fun (x388,x389) =>
        (quo x135.Hi 100).bind fun x402 =>
        (wBx x74 0 (min (w64 (x402 + 1)) 10000) x388).bind fun (x412,x413) =>
        if x389=0 then
         if x413=0 then
          if x412=true then
           if (↑x388.length:Int)=(y363.get (0)) then
            (wBq).bind fun x439 =>
            some x439
           else
            some false
          else
           some false
         else
          some false
        else
         (wBq).bind fun x453 =>
         some x453
 else
  some false
end Go.Proofs.YtkeeechdijfkhaaGreat
namespace Go.KL
open Go.RowKit
section
variable {N:Nat} {P:Program} {l:List Oper} {Q:wDg} {D:List Deferred} {ks:List Nat} {s:Sch} {σ:Env} {w:World} {B:Base} {U:PHeap} {L:List Res} {i d:Nat} {o:Oper}
theorem Runs.shr1 {t u:TypeId} {x y:Operand} {m:Int} (ho:o.op=.binOp .shr t x y u) (hx:ev σ x=.int .u64 m) (hy:ev σ y=.int .u64 1):Runs P σ w o (.int .u64 (m / 2)) w:=by
 refine ⟨by rw [ho];rfl,?_⟩
 have e:m.fdiv 2=m / 2:=Int.fdiv_eq_ediv_of_nonneg m (by decide)
 have b:Min.min 1 IntKind.u64.bits=1:=by decide
 simp [execOp,ho,hx,hy,binOp,eqGuard,Op.shift,b]
 exact e
end
end Go.KL
namespace Go.KX
open Go.RowKit Go.KL
structure Gh where
 N:Nat
 σ:Env
 t:List Nat
 ac:Code
 bc:Code
 rb:Nat
 fn:FuncId
def g0:Gh:=⟨0,fun _=>undef,[],.skip,.skip,0,0⟩
structure Cl where
 b:Nat
 c:Nat
 g:Gh
abbrev Mu:=Pos->Option Cl
mutual
def Rv (μ:Mu):AV->Value->Prop
 | .int k n,v=>v=.int k n
 | .bool b,v=>v=.bool b
 | .ptr b off,v=>∃ c,μ b=some c/\v=.pointer (some ⟨c.1,off,none⟩)
 | .pnil,v=>v=.pointer none
 | .sl b off n c,v=>∃ d,μ b=some d/\n <= c/\v=.slice (some ⟨d.1,off,none⟩) n c
 | .rw b eo co n,v=>∃ d,μ b=some d/\eo + n <= d.2/\v=.slice (some ⟨d.1,co,none⟩) n (d.2 - eo)
 | .rz b eo,v=>∃ d,μ b=some d/\∃ o,v=.slice (some ⟨d.1,o,none⟩) 0 (d.2 - eo)
 | .snil,v=>v=.slice none 0 0
 | .map b,v=>∃ c,μ b=some c/\v=.map (some c.1)
 | .mnil,v=>v=.map none
 | .fn f fi ca,v=>∃ fv cv,RvL μ fi fv/\RvL μ ca cv/\v=.func (.func (f.nat - 1)) fv.toArray cv.toArray
 | .yld b,v=>∃ c,μ b=some c/\v=.func (.yield c.1) #[] #[]
 | .fnil,v=>v=.nilFunc
 | .agg l,v=>∃ vs,RvL μ l vs/\v=.agg vs.toArray
 | .tup l,v=>∃ vs,RvL μ l vs/\v=.tuple vs.toArray
def RvL (μ:Mu):List AV->List Value->Prop
 | [],vs=>vs=[]
 | a :: l,vs=>∃ v ws,Rv μ a v/\RvL μ l ws/\vs=v :: ws
end
def Mu.Le (μ μ':Mu):Prop:=∀ p c,μ p=some c->μ' p=some c
theorem Mu.Le.refl (μ:Mu):μ.Le μ:=fun _ _ h=>h
theorem Mu.Le.trans {a b c:Mu} (h:a.Le b) (k:b.Le c):a.Le c:=fun p x hx=>k p x (h p x hx)
mutual
theorem Rv.mono {μ μ':Mu} (hm:μ.Le μ'):∀ {a:AV} {v:Value},Rv μ a v->Rv μ' a v
 | .int _ _,_,h=>h
 | .bool _,_,h=>h
 | .ptr _ _,_,⟨c,h1,h2⟩=>⟨c,hm _ _ h1,h2⟩
 | .pnil,_,h=>h
 | .sl _ _ _ _,_,⟨c,h1,h2⟩=>⟨c,hm _ _ h1,h2⟩
 | .rw _ _ _ _,_,⟨c,h1,h2⟩=>⟨c,hm _ _ h1,h2⟩
 | .rz _ _,_,⟨c,h1,h2⟩=>⟨c,hm _ _ h1,h2⟩
 | .snil,_,h=>h
 | .map _,_,⟨c,h1,h2⟩=>⟨c,hm _ _ h1,h2⟩
 | .mnil,_,h=>h
 | .fn _ _ _,_,⟨fv,cv,h1,h2,h3⟩=>⟨fv,cv,RvL.mono hm h1,RvL.mono hm h2,h3⟩
 | .yld _,_,⟨c,h1,h2⟩=>⟨c,hm _ _ h1,h2⟩
 | .fnil,_,h=>h
 | .agg _,_,⟨vs,h1,h2⟩=>⟨vs,RvL.mono hm h1,h2⟩
 | .tup _,_,⟨vs,h1,h2⟩=>⟨vs,RvL.mono hm h1,h2⟩
theorem RvL.mono {μ μ':Mu} (hm:μ.Le μ'):∀ {l:List AV} {vs:List Value},RvL μ l vs->RvL μ' l vs
 | [],_,h=>h
 | _ :: _,_,⟨v,ws,h1,h2,h3⟩=>⟨v,ws,Rv.mono hm h1,RvL.mono hm h2,h3⟩
end
theorem wGz {μ:Mu}:RvL μ [] []:=rfl
theorem wBU {μ:Mu} {a:AV} {l:List AV} {v:Value} {vs:List Value} (h:Rv μ a v) (h':RvL μ l vs):RvL μ (a :: l) (v :: vs):=⟨v,vs,h,h',rfl⟩
theorem wDG {μ:Mu}:∀ {l:List AV} {vs:List Value},RvL μ l vs->vs.length=l.length
 | [],_,h=>by cases h;rfl
 | _ :: _,_,⟨_,_,_,h2,h3⟩=>by subst h3;simp [wDG h2]
theorem wEN {μ:Mu}:∀ {l k:List AV} {vs ws:List Value},RvL μ l vs->RvL μ k ws->RvL μ (l ++ k) (vs ++ ws)
 | [],_,_,_,h,h'=>by cases h;exact h'
 | _ :: _,_,_,_,⟨v,ws,h1,h2,h3⟩,h'=>by subst h3;exact wBU h1 (wEN h2 h')
theorem wFO {μ:Mu}:∀ {l:List AV} {vs:List Value},RvL μ l vs->∀ {i:Nat} {a:AV},l[i]?=some a->∃ v,vs[i]?=some v/\Rv μ a v
 | [],_,_,i,a,hi=>by simp at hi
 | b :: l,_,⟨v,ws,h1,h2,h3⟩,i,a,hi=>by
  subst h3
  cases i with
  | zero=>simp at hi;subst hi;exact ⟨v,rfl,h1⟩
  | succ i=>simpa using wFO h2 (i:=i) (by simpa using hi)
theorem wIY {μ:Mu}:∀ {l:List AV} {vs:List Value} (n:Nat),RvL μ l vs->RvL μ (l.drop n) (vs.drop n)
 | _,_,0,h=>h
 | [],_,n + 1,h=>by cases h;exact rfl
 | _ :: _,_,n + 1,⟨_,_,_,h2,h3⟩=>by subst h3;exact wIY n h2
theorem wIZ {μ:Mu}:∀ {l:List AV} {vs:List Value} (n:Nat),RvL μ l vs->RvL μ (l.take n) (vs.take n)
 | _,_,0,_=>rfl
 | [],_,n + 1,h=>by cases h;exact rfl
 | _ :: _,_,n + 1,⟨_,_,h1,h2,h3⟩=>by subst h3;exact wBU h1 (wIZ n h2)
theorem wHA {μ:Mu} {l:List AV} {vs:List Value} (h:RvL μ l vs):∀ n,RvL μ (rep n l) (nN n vs).flatten
 | 0=>rfl
 | n + 1=>by rw [List.replicate_succ,List.flatten_cons];exact wEN h (wHA h n)
section
variable {α:Type}
theorem wGV:∀ (l:List α) (n:Nat),nth l n=l[n]?
 | [],_=>rfl
 | _ :: _,0=>rfl
 | _ :: l,n + 1=>by show nth l n=_;rw [wGV l n];simp
theorem wEl:∀ (l:List α),len l=l.length
 | []=>rfl
 | _ :: l=>by show Nat.succ (len l)=_;rw [wEl l];rfl
theorem wGF {a:α} {o:Option (List α)} {r:List α} (h:wKI a o=some r):∃ r',o=some r'/\r=a :: r':=by
 cases o with
 | none=>cases h
 | some r'=>cases h;exact ⟨r',rfl,rfl⟩
theorem wKZ:∀ {l:List α} {n:Nat} {r:List α},tk l n=some r->r=l.take n/\n <= l.length
 | [],0,r,h=>by cases h;simp
 | [],n + 1,r,h=>by cases h
 | a :: l,0,r,h=>by cases h;simp
 | a :: l,n + 1,r,h=>by
  obtain ⟨r',h1,rfl⟩:=wGF (show wKI a (tk l n)=some r from h)
  obtain ⟨h2,h3⟩:=wKZ h1
  simp [h2,h3]
theorem wLQ:∀ {l:List α} {off n:Nat} {r:List α},sub l off n=some r->r=(l.drop off).take n/\off + n <= l.length
 | [],0,n,r,h=>by have:=wKZ (l:=[]) (n:=n) h;simpa using this
 | [],off + 1,n,r,h=>by cases h
 | a :: l,0,n,r,h=>by have:=wKZ (l:=a :: l) (n:=n) h;simpa using this
 | a :: l,off + 1,n,r,h=>by
  obtain ⟨h1,h2⟩:=wLQ (show sub l off n=some r from h)
  exact ⟨by simpa using h1,by simp;omega⟩
theorem wKa:∀ {l vs r:List α},ov l vs=some r->vs.length <= l.length/\r=vs ++ l.drop vs.length
 | [],[],r,h=>by cases h;simp
 | [],v :: vs,r,h=>by cases h
 | a :: l,[],r,h=>by cases h;simp
 | a :: l,v :: vs,r,h=>by
  obtain ⟨r',h1,rfl⟩:=wGF (show wKI v (ov l vs)=some r from h)
  obtain ⟨h2,h3⟩:=wKa h1
  subst h3
  exact ⟨by simpa using h2,by simp⟩
theorem wJO:∀ {l:List α} {off:Nat} {vs r:List α},wQb l off vs=some r->off + vs.length <= l.length/\r=l.take off ++ vs ++ l.drop (off + vs.length)
 | [],0,vs,r,h=>by have:=wKa (l:=[]) h;simp at this;simp [this]
 | [],off + 1,vs,r,h=>by cases h
 | a :: l,0,vs,r,h=>by have:=wKa (l:=a :: l) h;simp at this;simp [this]
 | a :: l,off + 1,vs,r,h=>by
  obtain ⟨r',h1,rfl⟩:=wGF (show wKI a (wQb l off vs)=some r from h)
  obtain ⟨h2,h3⟩:=wJO h1
  subst h3
  refine ⟨by simp;omega,?_⟩
  rw [show off + 1 + vs.length=(off + vs.length) + 1 from by omega]
  simp
end
theorem setN_eq:∀ (vs l:List Value) (off:Nat),off + vs.length <= l.length->wEV l off vs=l.take off ++ vs ++ l.drop (off + vs.length)
 | [],l,off,_=>by simp [wEV]
 | v :: vs,l,off,h=>by
  simp only [List.length_cons] at h
  have hlt:off < l.length:=by omega
  rw [wEV,setN_eq vs (l.set off v) (off + 1) (by simp;omega)]
  have h1:(l.set off v).take (off + 1)=l.take off ++ [v]:=by
   rw [List.take_set,List.take_add_one,nV hlt]
   rw [List.set_append_right _ _ (by simp;omega)]
   simp [Nat.min_eq_left (Nat.le_of_lt hlt)]
  rw [h1,List.drop_set_of_lt (by omega)]
  rw [show off + 1 + vs.length=off + (v :: vs).length from by simp;omega]
  simp
theorem wIa {μ:Mu} {l vs r:List AV} {L V:List Value} {off:Nat} (h:wQb l off vs=some r) (hl:RvL μ l L) (hv:RvL μ vs V):off + V.length <= L.length/\RvL μ r (wEV L off V):=by
 obtain ⟨h1,rfl⟩:=wJO h
 have e1:=wDG hl
 have e2:=wDG hv
 have h2:off + V.length <= L.length:=by omega
 refine ⟨h2,?_⟩
 rw [setN_eq V L off h2,e2]
 exact wEN (wEN (wIZ off hl) hv) (wIY _ hl)
theorem wFP {μ:Mu} {l r:List AV} {L:List Value} {off n:Nat} (h:sub l off n=some r) (hl:RvL μ l L):RvL μ r ((L.drop off).take n)/\off + n <= L.length:=by
 obtain ⟨rfl,h1⟩:=wLQ h
 have e1:=wDG hl
 exact ⟨wIZ n (wIY off hl),by omega⟩
theorem wSS {μ:Mu} {a:AV} {v:Value} (h:Rv μ a v) (h1:a.one=true):one v=true:=by
 cases a <;> simp only [Rv] at h <;> first | (cases h1;done) | (subst h;rfl) | (obtain ⟨_,_,_,_,_,rfl⟩:=h;rfl) | (obtain ⟨_,_,_,_,rfl⟩:=h;rfl) | (obtain ⟨_,_,_,rfl⟩:=h;rfl) | (obtain ⟨_,_,rfl⟩:=h;rfl)
theorem wEO {μ:Mu}:∀ {l:List AV} {vs:List Value},RvL μ l vs->wQc l=true->∀ v ∈ vs,one v=true
 | [],_,h,_=>by cases h;simp
 | a :: l,_,⟨v,ws,h1,h2,h3⟩,ho=>by
  subst h3
  have ho:(a.one && wQc l)=true:=ho
  rw [nA] at ho
  intro u hu
  rcases nt.1 hu with rfl | hu
  ·exact wSS h1 ho.1
  ·exact wEO h2 ho.2 u hu
theorem wGa {μ:Mu} {a:AV} {v:Value} (h:Rv μ a v):∃ vs,RvL μ a.cells vs/\v.cells=vs.toArray:=by
 cases a with
 | agg l=>obtain ⟨vs,h1,rfl⟩:=h;exact ⟨vs,h1,rfl⟩
 | tup l=>obtain ⟨vs,h1,rfl⟩:=h;exact ⟨[_],wBU ⟨vs,h1,rfl⟩ wGz,rfl⟩
 | _ =>
  refine ⟨[v],wBU h wGz,?_⟩
  simp only [Rv] at h
  first | (subst h;rfl) | (obtain ⟨_,_,_,_,_,rfl⟩:=h;rfl) | (obtain ⟨_,_,_,_,rfl⟩:=h;rfl) | (obtain ⟨_,_,_,rfl⟩:=h;rfl) | (obtain ⟨_,_,rfl⟩:=h;rfl)
end Go.KX
namespace Go.KX
noncomputable section
open Go.RowKit Go.KL
def EnvR (μ:Mu) (σA:Tr AV) (σ:Env):Prop:=∀ p:Pos,Rv μ (evA σA (.t p)) (σ (p.nat - 1))
theorem wKb (σA:Tr AV) (p:Pos):evA σA (.t p)=(σA.get p).getD u:=by
 show Option.rec (motive:=fun _=>AV) u (fun v=>v) (σA.get p)=_
 cases σA.get p <;> rfl
theorem EnvR.mono {μ μ':Mu} {σA:Tr AV} {σ:Env} (h:EnvR μ σA σ) (hm:μ.Le μ'):EnvR μ' σA σ:=fun p=>(h p).mono hm
theorem EnvR.put {μ:Mu} {σA:Tr AV} {σ:Env} (h:EnvR μ σA σ) {p:Pos} {a:AV} {v:Value} (hv:Rv μ a v):EnvR μ (σA.set p a) (upd σ (p.nat - 1) v):=by
 intro q
 rw [wKb,Tr.get_set]
 by_cases e:q=p
 ·subst e;rw [if_pos rfl,wCq];exact hv
 ·rw [if_neg e,wDn,<- wKb]
  ·exact h q
  ·intro e2
   have:=p.nat_pos;have:=q.nat_pos
   exact e (Pos.nat_inj (by omega))
theorem wNg (μ:Mu):Rv μ u undef:=⟨[],rfl,rfl⟩
theorem wLR {μ:Mu}:∀ {args:List AV} {vs:List Value},RvL μ args vs->∀ {p:Pos} {t:Tr AV} {σ σ':Env},EnvR μ t σ->(∀ i,i < p.nat - 1->σ' i=σ i)->(∀ j v,vs[j]?=some v->σ' (p.nat - 1 + j)=v) ->
  (∀ i,p.nat - 1 + vs.length <= i->σ' i=σ i)->EnvR μ (wNW args p t) σ'
 | [],_,h,p,t,σ,σ',hE,h1,_,h3=>by
  cases h
  intro q
  have:=hE q
  by_cases e:q.nat - 1 < p.nat - 1
  ·rw [h1 _ e];exact this
  ·rw [h3 _ (by simp;omega)];exact this
 | a :: l,_,⟨v,ws,h1,h2,h3⟩,p,t,σ,σ',hE,g1,g2,g3=>by
  subst h3
  have hp:=p.nat_pos
  refine wLR h2 (p:=p.succ) (hE.put (p:=p) h1) ?_ ?_ ?_
  ·intro i hi
   rw [Pos.nat_succ] at hi
   by_cases e:i=p.nat - 1
   ·subst e;rw [wCq];exact g2 0 v rfl
   ·rw [wDn _ _ e];exact g1 i (by omega)
  ·intro j x hx
   rw [Pos.nat_succ]
   have:=g2 (j + 1) x (by simpa using hx)
   rw [<- this];congr 1;omega
  ·intro i hi
   rw [Pos.nat_succ] at hi
   rw [wDn _ _ (by omega)]
   exact g3 i (by simp;omega)
theorem wQk {μ:Mu} {args:List AV} {vs:List Value} (h:RvL μ args vs):EnvR μ (wNW args .H .e) (wPx vs):=by
 have h0:EnvR μ .e (fun _=>undef):=by intro p;rw [wKb,Tr.get_e];exact wNg μ
 refine wLR h (p:=.H) h0 (fun i hi=>by simp [Pos.nat] at hi) (fun j v hv=>?_) (fun i hi=>?_)
 ·simp [wPx,Pos.nat,hv]
 ·simp only [Pos.nat] at hi
  simp [wPx,kJ (by omega:vs.length <= i)]
mutual
def okc:AV->Value->Bool
 | .int k n,.int k' n'=>keq k k' && zeq n n'
 | .bool b,.bool b'=>b == b'
 | .pnil,.pointer none=>true
 | .snil,.slice none 0 0=>true
 | .mnil,.map none=>true
 | .fnil,.nilFunc=>true
 | .agg l,.agg vs=>wPP l vs.toList
 | .tup l,.tuple vs=>wPP l vs.toList
 | _,_=>false
def wPP:List AV->List Value->Bool
 | [],[]=>true
 | a :: l,v :: vs=>okc a v && wPP l vs
 | _,_=>false
end
theorem wLS:∀ {a b:Int},zeq a b=true ↔ a=b
 | .ofNat a,.ofNat b=>by simp [zeq];omega
 | .negSucc a,.negSucc b=>by simp [zeq]
 | .ofNat a,.negSucc b=>by simp [zeq]
 | .negSucc a,.ofNat b=>by simp [zeq]
theorem wEP (a b:Int):zeq a b=decide (a=b):=by
 by_cases h:a=b
 ·rw [wLS.2 h];simp [h]
 ·have:zeq a b ≠ true:=fun e=>h (wLS.1 e)
  simp [h,nu.2 this]
theorem wHB:∀ (a b:Int),zlt a b=decide (a < b)
 | .ofNat a,.ofNat b=>by
  simp only [zlt,nT,Int.ofNat_lt]
  by_cases h:a < b
  ·simp [h,nJ]
  ·simp [h,nu,nJ]
 | .negSucc a,.negSucc b=>by
  simp only [zlt,no]
  by_cases h:b < a
  ·have h2:-((a:Int) + 1) < -((b:Int) + 1):=by omega
   simp [h2,nJ];exact h
  ·have h2:¬ -((a:Int) + 1) < -((b:Int) + 1):=by omega
   simp [h2,nu,nJ];omega
 | .ofNat a,.negSucc b=>by
  simp only [zlt,no,nT]
  have h2:¬ (a:Int) < -((b:Int) + 1):=by omega
  simp [h2]
 | .negSucc a,.ofNat b=>by
  simp only [zlt,no,nT]
  have h2:-((a:Int) + 1) < (b:Int):=by omega
  simp [h2]
theorem wNh (a b:Int):zle a b=decide (a <= b):=by
 rw [zle,wHB]
 by_cases h:a <= b
 ·simp [h,Int.not_lt.2 h]
 ·simp [h,Int.not_le.1 h]
theorem wBY {a b:IntKind} (h:keq a b=true):a=b:=by cases a <;> cases b <;> first | rfl | cases h
mutual
theorem wNi (μ:Mu):∀ {a:AV} {v:Value},okc a v=true->Rv μ a v
 | .int k n,v,h=>by
  cases v <;> simp only [okc,nA,nX] at h
  rw [wBY h.1,wLS.1 h.2];rfl
 | .bool b,v,h=>by
  cases v <;> simp only [okc,beq_iff_eq,nX] at h
  subst h;rfl
 | .pnil,v,h=>by
  unfold okc at h
  split at h <;> first | rfl | (exfalso;simp_all;done) | simp_all [Rv]
 | .snil,v,h=>by
  unfold okc at h
  split at h <;> first | rfl | (exfalso;simp_all;done) | simp_all [Rv]
 | .mnil,v,h=>by
  unfold okc at h
  split at h <;> first | rfl | (exfalso;simp_all;done) | simp_all [Rv]
 | .fnil,v,h=>by
  cases v <;> simp only [okc,nX] at h
  rfl
 | .agg l,v,h=>by
  cases v <;> simp only [okc,nX] at h
  exact ⟨_,wGG μ h,by simp⟩
 | .tup l,v,h=>by
  cases v <;> simp only [okc,nX] at h
  exact ⟨_,wGG μ h,by simp⟩
 | .ptr _ _,v,h=>by simp [okc] at h
 | .sl _ _ _ _,v,h=>by simp [okc] at h
 | .rw _ _ _ _,v,h=>by simp [okc] at h
 | .rz _ _,v,h=>by simp [okc] at h
 | .map _,v,h=>by simp [okc] at h
 | .fn _ _ _,v,h=>by simp [okc] at h
 | .yld _,v,h=>by simp [okc] at h
theorem wGG (μ:Mu):∀ {l:List AV} {vs:List Value},wPP l vs=true->RvL μ l vs
 | [],[],_=>rfl
 | a :: l,v :: vs,h=>by
  simp only [wPP,nA] at h
  exact wBU (wNi μ h.1) (wGG μ h.2)
 | [],_ :: _,h=>by simp [wPP] at h
 | _ :: _,[],h=>by simp [wPP] at h
end
def wBz:AOd->Operand->Bool
 | .t p,.tmp t=>nD p.nat (t + 1)
 | .c a,.const v=>okc a v
 | .c (.fn f [] []),.func g=>nD f.nat (g + 1)
 | _,_=>false
def wJP:List AOd->List Operand->Bool
 | [],[]=>true
 | x :: l,y :: k=>wBz x y && wJP l k
 | _,_=>false
theorem wAR {μ:Mu} {σA:Tr AV} {σ:Env} {x:AOd} {y:Operand} (h:wBz x y=true) (hE:EnvR μ σA σ):Rv μ (evA σA x) (ev σ y):=by
 unfold wBz at h
 split at h
 ·rename_i p t
  have:=nB h
  have h2:=hE p
  rw [this] at h2
  exact h2
 ·exact wNi μ h
 ·rename_i f g
  have:=nB h
  exact ⟨[],[],rfl,rfl,by show Value.func (.func g) #[] #[]=_;rw [this];rfl⟩
 ·cases h
theorem wGb {μ:Mu} {σA:Tr AV} {σ:Env}:∀ {l:List AOd} {k:List Operand},wJP l k=true->EnvR μ σA σ->RvL μ (evs σA l) (k.map (ev σ))
 | [],[],_,_=>rfl
 | x :: l,y :: k,h,hE=>by
  simp only [wJP,nA] at h
  exact wBU (wAR h.1 hE) (wGb h.2 hE)
 | [],_ :: _,h,_=>by simp [wJP] at h
 | _ :: _,[],h,_=>by simp [wJP] at h
def MR {K:Type} (μ:Mu) (l:List (K × AV)) (t:List (K × Value)):Prop:=l.map (·.1)=t.map (·.1)/\RvL μ (l.map (·.2)) (t.map (·.2))
def mk2 (k:IntKind) (x:Int × Int):Value:=.agg #[.int k x.1,.int k x.2]
def exC:Ex->Exit
 | .nrm=>.normal
 | .exit i=>.exit i
 | .ret=>.ret
def lsC:LS->LoopState × Option Code
 | .ready=>(.ready,none)
 | .busy=>(.busy,none)
 | .done .ret=>(.done,some .ret)
 | .done (.exit i)=>(.done,some (.exit i))
 | .done .nrm=>(.ready,none)
abbrev Chk:=AC->Code->Nat->Prop
structure wMP (C:Chk) (μ:Mu) (w:World) (c:Cl) (σA:Tr AV) (t:List Pos) (asg body:AC) (s:LS):Prop where
 at_:LoopAt w c.1 c.g.N c.g.σ c.g.t c.g.ac c.g.bc c.g.rb c.g.fn (lsC s).1 (lsC s).2
 env:EnvR μ σA c.g.σ
 ht:t.map Pos.nat=c.g.t.map (· + 1)
 tN:∀ x ∈ c.g.t,x < c.g.N
 asg:C asg c.g.ac c.g.N
 body:C body c.g.bc c.g.N
def AbR (C:Chk) (P:Program) (μ:Mu) (w:World) (c:Cl):AB->Prop
 | .cells T l=>∃ vs,RvL μ l vs/\Blk w c.1 T vs
 | .row T sz l=>∃ vs,RvL μ l vs/\RowAt w (some ⟨c.1,0,none⟩) c.2 T sz vs
 | .map0=>∃ ck,w.heap[c.1]?=some (.map #[] ck)
 | .mapI k l=>∃ es ck t,w.heap[c.1]?=some (.map es ck)/\MpR es (fun n:Int=>nq k n) id t/\MR μ l t
 | .map2 k l=>∃ es ck t,w.heap[c.1]?=some (.map es ck)/\MpR es (mk2 k) id t/\MR μ l t
 | .loop σA t asg body s=>wMP C μ w c σA t asg body s
 | .dead=>True
def wMQ:AB->Prop
 | .dead=>False
 | _=>True
variable {C:Chk} {P:Program} {μ μ' μ'':Mu} {w w' w'':World} {h h' h'':AH}
theorem MR.mono {K:Type} {l:List (K × AV)} {t:List (K × Value)} (h:MR μ l t) (hm:μ.Le μ'):MR μ' l t:=⟨h.1,h.2.mono hm⟩
theorem AbR.mono {c:Cl} {B:AB} (h:AbR C P μ w c B) (hm:μ.Le μ'):AbR C P μ' w c B:=by
 cases B with
 | cells T l=>obtain ⟨vs,h1,h2⟩:=h;exact ⟨vs,h1.mono hm,h2⟩
 | row T sz l=>obtain ⟨vs,h1,h2⟩:=h;exact ⟨vs,h1.mono hm,h2⟩
 | map0=>exact h
 | mapI k l=>obtain ⟨es,ck,t,h1,h2,h3⟩:=h;exact ⟨es,ck,t,h1,h2,h3.mono hm⟩
 | map2 k l=>obtain ⟨es,ck,t,h1,h2,h3⟩:=h;exact ⟨es,ck,t,h1,h2,h3.mono hm⟩
 | loop σA t asg body s=>exact ⟨h.at_,h.env.mono hm,h.ht,h.tN,h.asg,h.body⟩
 | dead=>trivial
theorem AbR.keep {c:Cl} {B:AB} {X:Nat->Prop} (h:AbR C P μ w c B) (k:Keep w w' X) (hx:¬ X c.1):AbR C P μ w' c B:=by
 cases B with
 | cells T l=>obtain ⟨vs,h1,h2⟩:=h;exact ⟨vs,h1,h2.keep k hx⟩
 | row T sz l =>
  obtain ⟨vs,h1,h2⟩:=h
  refine ⟨vs,h1,?_⟩
  obtain ⟨cur,h3,h4⟩:=RowAt.cells h2
  exact .inr ⟨c.1,cur,rfl,(k.block _ (wAc h3) hx).trans h3,h4⟩
 | map0=>obtain ⟨ck,h1⟩:=h;exact ⟨ck,(k.block _ (wAc h1) hx).trans h1⟩
 | mapI _ l=>obtain ⟨es,ck,t,h1,h2⟩:=h;exact ⟨es,ck,t,(k.block _ (wAc h1) hx).trans h1,h2⟩
 | map2 _ l=>obtain ⟨es,ck,t,h1,h2⟩:=h;exact ⟨es,ck,t,(k.block _ (wAc h1) hx).trans h1,h2⟩
 | loop σA t asg body s=>exact ⟨h.at_.keep k hx,h.env,h.ht,h.tN,h.asg,h.body⟩
 | dead=>trivial
def img (μ:Mu) (fl:Nat) (c:Nat):Prop:=∃ p d,μ p=some d/\d.1=c/\fl <= p.nat
structure Ext (μ:Mu) (fl:Nat) (w:World) (μ':Mu) (w':World):Prop where
 mono:μ.Le μ'
 new:∀ p c,μ' p=some c->μ p=some c \/ img μ fl c.1 \/ w.heap.size <= c.1
 keep:Keep w w' (img μ fl)
theorem Ext.refl (μ:Mu) (fl:Nat) (w:World):Ext μ fl w μ w:=⟨Mu.Le.refl μ,fun _ _ h=>.inl h,Keep.refl w _⟩
theorem Ext.img {fl:Nat} {c:Nat} (E:Ext μ fl w μ' w') (hi:img μ' fl c):KX.img μ fl c \/ w.heap.size <= c:=by
 obtain ⟨p,d,h1,rfl,h2⟩:=hi
 rcases E.new p _ h1 with h3 | h3 | h3
 ·exact .inl ⟨p,d,h3,rfl,h2⟩
 ·exact .inl h3
 ·exact .inr h3
theorem Ext.trans {fl:Nat} (E:Ext μ fl w μ' w') (E':Ext μ' fl w' μ'' w''):Ext μ fl w μ'' w'':=by
 refine ⟨E.mono.trans E'.mono,fun p c hp=>?_,E.keep.step E'.keep fun i hi hm=>?_⟩
 ·rcases E'.new p c hp with h1 | h1 | h1
  ·exact E.new p c h1
  ·exact .inr (E.img h1)
  ·exact .inr (.inr (nP E.keep.size h1))
 ·rcases E.img hm with h1 | h1
  ·exact h1
  ·omega
structure Sim (C:Chk) (P:Program) (μ:Mu) (h:AH) (w:World):Prop where
 nx:∀ p,h.nx.nat <= p.nat->μ p=none
 lt:∀ p c,μ p=some c->c.1 < w.heap.size
 inj:∀ p q a b c d,h.m.get p=some a->h.m.get q=some b->wMQ a->wMQ b->μ p=some c->μ q=some d->c.1=d.1->p=q
 at_:∀ p b,h.m.get p=some b->∃ c,μ p=some c/\AbR C P μ w c b
theorem Sim.keep (S:Sim C P μ h w) (k:Keep w w' Non):Sim C P μ h w' :=
 ⟨S.nx,fun p c hp=>nW (S.lt p c hp) k.size,S.inj,fun p b hb=>let ⟨c,h1,h2⟩:=S.at_ p b hb;⟨c,h1,h2.keep k id⟩⟩
theorem Sim.floor (S:Sim C P μ h w) (f:Pos):Sim C P μ ⟨h.m,h.nx,f⟩ w:=⟨S.nx,S.lt,S.inj,S.at_⟩
theorem Sim.non (S:Sim C P μ h w) (E:Ext μ h.nx.nat w μ' w') (fl:Nat):Keep w w' Non/\Ext μ fl w μ' w':=by
 have hn:∀ c,¬ img μ h.nx.nat c:=fun c ⟨p,k,h1,_,h2⟩=>by rw [S.nx p h2] at h1;cases h1
 refine ⟨E.keep.weak fun i _ hi=>hn i hi,E.mono,fun p c hp=>?_,E.keep.weak fun i _ hi=>(hn i hi).elim⟩
 rcases E.new p c hp with h1 | h1 | h1
 ·exact .inl h1
 ·exact (hn _ h1).elim
 ·exact .inr (.inr h1)
theorem wIb {h h':AH} {p:Pos} {B:AB} (hp:h.put p B=some h'):h.fl.nat <= p.nat/\h'=⟨h.m.set p B,h.nx,h.fl⟩:=by
 unfold AH.put at hp
 split at hp
 ·cases hp
 ·rename_i hf
  cases hp
  refine ⟨?_,rfl⟩
  rcases nj p.nat h.fl.nat with hlt | hge
  ·rw [(Pos.ltb_iff p h.fl false).2 (.inl hlt)] at hf;cases hf
  ·exact hge
theorem Sim.put {p:Pos} {B B':AB} {c:Cl} (S:Sim C P μ h w) (hp:h.put p B'=some h') (hB:h.m.get p=some B) (hl:wMQ B) (hc:μ p=some c) (K:Keep w w' (·=c.1)) (hB':AbR C P μ w' c B') :
  Sim C P μ h' w'/\Ext μ h.fl.nat w μ w'/\h'.fl=h.fl:=by
 obtain ⟨hf,rfl⟩:=wIb hp
 refine ⟨⟨S.nx,fun p c hp=>nW (S.lt p c hp) K.size,?_,?_⟩,⟨Mu.Le.refl μ,fun _ _ h=>.inl h,K.weak fun i _ e=>⟨p,c,hc,e.symm,hf⟩⟩,rfl⟩
 ·intro q r a b d e hq hr la lb hd he hde
  simp only [Tr.get_set] at hq hr
  split at hq <;> split at hr
  ·rename_i h1 h2;rw [h1,h2]
  ·rename_i h1 h2;exact (S.inj q r B b d e (h1 ▸ hB) hr hl lb hd he hde)
  ·rename_i h1 h2;exact (S.inj q r a B d e hq (h2 ▸ hB) la hl hd he hde)
  ·exact S.inj q r a b d e hq hr la lb hd he hde
 ·intro q b hq
  simp only [Tr.get_set] at hq
  split at hq
  ·rename_i h1;subst h1;cases hq;exact ⟨c,hc,hB'⟩
  ·rename_i h1
   obtain ⟨d,h2,h3⟩:=S.at_ q b hq
   refine ⟨d,h2,?_⟩
   by_cases lb:wMQ b
   ·exact h3.keep K fun e=>h1 (S.inj q p b B d c hq hB lb hl h2 hc e)
   ·cases b <;> first | trivial | exact (lb trivial).elim
def Mu.add (μ:Mu) (p:Pos) (c:Cl):Mu:=fun q=>if q=p then some c else μ q
theorem Mu.add_le {p:Pos} {c:Cl} (hn:μ p=none):μ.Le (μ.add p c):=by
 intro q d hq
 unfold Mu.add
 by_cases e:q=p
 ·subst e;rw [hn] at hq;cases hq
 ·rw [if_neg e];exact hq
theorem Mu.add_same (μ:Mu) (p:Pos) (c:Cl):μ.add p c p=some c:=by simp [Mu.add]
theorem Sim.push {c:Cl} {B:AB} (S:Sim C P μ h w) (K:Keep w w' Non) (hc:w.heap.size <= c.1) (hlt:c.1 < w'.heap.size) (hB:AbR C P (μ.add h.nx c) w' c B) :
  Sim C P (μ.add h.nx c) (h.push B) w'/\Ext μ h.fl.nat w (μ.add h.nx c) w'/\(h.push B).fl=h.fl/\(μ.add h.nx c) h.nx=some c:=by
 have hn:=S.nx h.nx (nE _)
 have hle:=Mu.add_le (c:=c) hn
 refine ⟨⟨?_,?_,?_,?_⟩,⟨hle,?_,K.weak fun _ _ h=>h.elim⟩,rfl,Mu.add_same _ _ _⟩
 ·intro p hp
  have hp:h.nx.succ.nat <= p.nat:=hp
  rw [Pos.nat_succ] at hp
  unfold Mu.add
  rw [if_neg (fun e=>by subst e;omega)]
  exact S.nx p (by omega)
 ·intro p d hd
  unfold Mu.add at hd
  split at hd
  ·cases hd;exact hlt
  ·exact nW (S.lt p d hd) K.size
 ·intro p q a b d e hp hq la lb hd he hde
  simp only [AH.push,Tr.get_set] at hp hq
  unfold Mu.add at hd he
  split at hd <;> split at he
  ·rename_i h1 h2;rw [h1,h2]
  ·cases hd;have:=S.lt _ _ he;omega
  ·cases he;have:=S.lt _ _ hd;omega
  ·rename_i h1 h2
   rw [if_neg h1] at hp
   rw [if_neg h2] at hq
   exact S.inj p q a b d e hp hq la lb hd he hde
 ·intro p b hb
  simp only [AH.push,Tr.get_set] at hb
  split at hb
  ·rename_i h1;subst h1;cases hb;exact ⟨c,Mu.add_same _ _ _,hB⟩
  ·obtain ⟨d,h2,h3⟩:=S.at_ p b hb
   exact ⟨d,hle _ _ h2,(h3.mono hle).keep K id⟩
 ·intro p d hd
  unfold Mu.add at hd
  split at hd
  ·cases hd;exact .inr (.inr hc)
  ·exact .inl hd
theorem Sim.move {p:Pos} {B B':AB} {c d:Cl} (S:Sim C P μ h w) (hp:h.put p .dead=some h') (hB:h.m.get p=some B) (hl:wMQ B) (hc:μ p=some c) (K:Keep w w' (·=c.1)) (hd:d.1=c.1 \/ w.heap.size <= d.1) (hlt:d.1 < w'.heap.size)
  (hB':AbR C P (μ.add h.nx d) w' d B'):Sim C P (μ.add h.nx d) (h'.push B') w'/\Ext μ h.fl.nat w (μ.add h.nx d) w'/\(h'.push B').fl=h.fl/\(μ.add h.nx d) h.nx=some d:=by
 obtain ⟨hf,rfl⟩:=wIb hp
 have hn:=S.nx h.nx (nE _)
 have hle:=Mu.add_le (c:=d) hn
 have hpn:p ≠ h.nx:=fun e=>by rw [e,hn] at hc;cases hc
 refine ⟨⟨?_,?_,?_,?_⟩,⟨hle,?_,K.weak fun i _ e=>⟨p,c,hc,e.symm,hf⟩⟩,rfl,Mu.add_same _ _ _⟩
 ·intro q hq
  have hq:h.nx.succ.nat <= q.nat:=hq
  rw [Pos.nat_succ] at hq
  unfold Mu.add
  rw [if_neg (fun e=>by subst e;omega)]
  exact S.nx q (by omega)
 ·intro q e he
  unfold Mu.add at he
  split at he
  ·cases he;exact hlt
  ·exact nW (S.lt q e he) K.size
 ·have key:∀ q b e,q ≠ h.nx->((h.m.set p .dead).set h.nx B').get q=some b->wMQ b->(μ.add h.nx d) q=some e->e.1 ≠ d.1:=by
   intro q b e hq hb lb he hed
   simp only [Tr.get_set,if_neg hq] at hb
   unfold Mu.add at he
   rw [if_neg hq] at he
   split at hb
   ·cases hb;exact lb
   ·rename_i hqp
    rcases hd with h1 | h1
    ·exact hqp (S.inj q p b B e c hb hB lb hl he hc (hed.trans h1))
    ·have:=S.lt _ _ he;omega
  intro q r a b e f hq hr la lb he hf hef
  by_cases e1:q=h.nx <;> by_cases e2:r=h.nx
  ·rw [e1,e2]
  ·subst e1;rw [Mu.add_same] at he;cases he;exact absurd hef.symm (key r b f e2 hr lb hf)
  ·subst e2;rw [Mu.add_same] at hf;cases hf;exact absurd hef (key q a e e1 hq la he)
  ·simp only [AH.push,Tr.get_set,if_neg e1,if_neg e2] at hq hr
   unfold Mu.add at he hf
   rw [if_neg e1] at he
   rw [if_neg e2] at hf
   split at hq
   ·cases hq;exact la.elim
   ·split at hr
    ·cases hr;exact lb.elim
    ·exact S.inj q r a b e f hq hr la lb he hf hef
 ·intro q b hb
  simp only [AH.push,Tr.get_set] at hb
  split at hb
  ·rename_i h1;subst h1;cases hb;exact ⟨d,Mu.add_same _ _ _,hB'⟩
  ·split at hb
   ·rename_i h1 h2;subst h2;cases hb;exact ⟨c,hle _ _ hc,trivial⟩
   ·rename_i h1 h2
    obtain ⟨e,h3,h4⟩:=S.at_ q b hb
    refine ⟨e,hle _ _ h3,?_⟩
    by_cases lb:wMQ b
    ·exact (h4.mono hle).keep K fun e'=>h2 (S.inj q p b B e c hb hB lb hl h3 hc e')
    ·cases b <;> first | trivial | exact (lb trivial).elim
 ·intro q e he
  unfold Mu.add at he
  split at he
  ·cases he
   rcases hd with h1 | h1
   ·exact .inr (.inl ⟨p,c,hc,h1.symm,hf⟩)
   ·exact .inr (.inr h1)
  ·exact .inl he
end
end Go.KX
namespace Go.KX
noncomputable section
open Go.RowKit Go.KL
def aggD:TypeDesc->Bool
 | .struct _ | .array _ _=>true
 | _=>false
def wEa (P:Program) (t:TypeId) (f:TypeDesc->Bool):Bool:=match P.underlying t with
 | some d=>f d
 | none=>false
def szT (P:Program) (t n:Nat):Bool:=match P.info? t with
 | some i=>nD i.size n
 | none=>false
def byT (P:Program) (t n:Nat):Bool:=match P.info? t with
 | some i=>nD i.bytes n
 | none=>false
def zT (P:Program) (t:TypeId) (z:List AV):Bool:=match P.info? t with
 | some i=>match i.zero with
  | some v=>wPP z v.cells.toList
  | none=>false
 | none=>false
section
variable {C:Chk} {P:Program} {μ μ':Mu} {w w':World} {h h':AH} {σ:Env} {σA:Tr AV} {t e:TypeId} {o:Oper}
theorem wAp {f:TypeDesc->Bool} (hc:wEa P t f=true):∃ d,P.underlying t=some d/\f d=true:=by
 unfold wEa at hc
 split at hc
 ·exact ⟨_,by assumption,hc⟩
 ·cases hc
theorem wAt {d:TypeDesc} (hu:P.underlying t=some d) (w:World):(underlying t).run P w=.ok d w:=run_underlying hu w
theorem wDy {n:Nat} (hc:szT P t n=true) (w:World):(sizeOf t).run P w=.ok n w:=by
 unfold szT at hc
 split at hc
 ·rename_i i hi
  rw [<- nB hc]
  simp [sizeOf,typeInfo,hi]
 ·cases hc
theorem wGc {n:Nat} (hc:szT P t n=true):∃ i,P.info? t=some i/\i.size=n:=by
 unfold szT at hc
 split at hc
 ·rename_i i hi;exact ⟨i,hi,nB hc⟩
 ·cases hc
theorem wGd {n:Nat} (hc:byT P t n=true):∃ i,P.info? t=some i/\i.bytes=n:=by
 unfold byT at hc
 split at hc
 ·rename_i i hi;exact ⟨i,hi,nB hc⟩
 ·cases hc
theorem wFQ {z:List AV} (hc:zT P t z=true):∃ i v,P.info? t=some i/\i.zero=some v/\∀ μ,RvL μ z v.cells.toList:=by
 unfold zT at hc
 split at hc
 ·rename_i i hi
  split at hc
  ·rename_i v hv;exact ⟨i,v,hi,hv,fun μ=>wGG μ hc⟩
  ·cases hc
 ·cases hc
theorem wDz {i:TypeInfo} {z:Value} (hi:P.info? t=some i) (hz:i.zero=some z) (w:World):(zeroValue t).run P w=.ok z w:=by
 simp [zeroValue,typeInfo,hi,hz]
theorem wHC {d:TypeDesc} (hu:P.underlying t=some d) (w:World):(isAgg t).run P w=.ok (aggD d) w:=by
 simp only [isAgg,Sem.run_bind,wAt hu,Result.andThen_ok]
 cases d <;> rfl
def wPQ (P:Program) (t:TypeId) (b:Bool):Bool:=wEa P t fun d=>aggD d == b
theorem wEm {b:Bool} (hc:wPQ P t b=true) (w:World):(isAgg t).run P w=.ok b w:=by
 obtain ⟨d,h1,h2⟩:=wAp hc
 rw [wHC h1,eq_of_beq h2]
def OkP (P:Program) (op:Op) (f:Tr AV->AH->Option (AV × AH)):Prop :=
 ∀ σA h v h',f σA h=some (v,h')->h'=h/\∀ μ σ,EnvR μ σA σ->∃ cv,Rv μ v cv/\∀ (o:Oper) (w:World),o.op=op->Runs P σ w o cv w
def c_mv (x:AOd):Op->Bool
 | .move y | .assign y=>wBz x y
 | _=>false
theorem p_mv {x:AOd} {op:Op} (hc:c_mv x op=true):OkP P op (wSA x):=by
 intro σA h v h' hr
 cases hr
 refine ⟨rfl,fun μ σ hE=>?_⟩
 unfold c_mv at hc
 split at hc
 ·exact ⟨_,wAR hc hE,fun o w ho=>Runs.mv ho rfl⟩
 ·exact ⟨_,wAR hc hE,fun o w ho=>Runs.as ho rfl⟩
 ·cases hc
def wNj (c x y:AOd):Op->Bool
 | .pick c' x' y'=>wBz c c' && (wBz x x' && wBz y y')
 | _=>false
theorem wST {c x y:AOd} {op:Op} (hc:wNj c x y op=true):OkP P op (wGt c x y):=by
 intro σA h v h' hr
 unfold wNj at hc
 split at hc
 ·rename_i c' x' y'
  simp only [nA] at hc
  unfold wGt at hr
  split at hr
  ·rename_i hb;cases hr
   exact ⟨rfl,fun μ σ hE=>⟨_,wAR hc.2.1 hE,fun o w ho=>Runs.pickT ho (by have:=wAR hc.1 hE;rw [hb] at this;exact this) rfl⟩⟩
  ·rename_i hb;cases hr
   exact ⟨rfl,fun μ σ hE=>⟨_,wAR hc.2.2 hE,fun o w ho=>Runs.pickF ho (by have:=wAR hc.1 hE;rw [hb] at this;exact this) rfl⟩⟩
  ·cases hr
 ·cases hc
def wNk (x:AOd):Op->Bool
 | .nilCheck y=>wBz x y
 | _=>false
theorem wSU {x:AOd} {op:Op} (hc:wNk x op=true):OkP P op (wGu x):=by
 intro σA h v h' hr
 unfold wNk at hc
 split at hc
 ·unfold wGu at hr
  split at hr
  ·rename_i hb;cases hr
   refine ⟨rfl,fun μ σ hE=>?_⟩
   have:=wAR hc hE;rw [hb] at this
   refine ⟨_,this,fun o w ho=>?_⟩
   obtain ⟨c,h1,h2⟩:=this
   rw [h2];exact Runs.nilp ho h2
  ·rename_i hb;cases hr
   refine ⟨rfl,fun μ σ hE=>?_⟩
   have:=wAR hc hE;rw [hb] at this
   refine ⟨_,this,fun o w ho=>?_⟩
   obtain ⟨fv,cv,_,_,h2⟩:=this
   rw [h2];exact Runs.nilf ho h2
  ·rename_i hb;cases hr
   refine ⟨rfl,fun μ σ hE=>?_⟩
   have:=wAR hc hE;rw [hb] at this
   refine ⟨_,this,fun o w ho=>?_⟩
   obtain ⟨c,h1,h2⟩:=this
   rw [h2];exact Runs.nily ho h2
  ·cases hr
 ·cases hc
theorem wIc {k:IntKind} {n:Int} (hk:inK k n=true):k.wrap n=n:=by
 unfold inK at hk
 split at hk <;> (try simp only [nJ] at hk) <;> (try simp only [IntKind.wrap_i64,IntKind.wrap_u8,IntKind.wrap_u32,Go.IntKind.wrap_u64,no,nT]) <;> first | omega | cases hk
theorem wBb {x:Option AV} {v:AV} (hr:okV h x=some (v,h')):x=some v/\h'=h:=by
 cases x <;> cases hr;exact ⟨rfl,rfl⟩
theorem wBV {α:Type} {b:Bool} {x:Option α} {v:α} (hr:ifO b x=some v):b=true/\x=some v:=by
 cases b
 ·cases hr
 ·exact ⟨rfl,hr⟩
theorem wIC {f:Int->Int->Int} {x y v:AV} (hr:wKJ f x y=some v):∃ k a b,x=.int k a/\y=.int k b/\v=.int k (f a b)/\k.wrap (f a b)=f a b:=by
 unfold wKJ at hr
 split at hr
 ·rename_i k a k' b
  split at hr
  ·rename_i hk
   split at hr
   ·rename_i hi;cases hr;exact ⟨k,a,b,rfl,by rw [wBY hk],rfl,wIc hi⟩
   ·cases hr
  ·cases hr
 ·cases hr
theorem wPR {f:Int->Int->Int} {x y v:AV} (hr:div f x y=some v):∃ k a b,x=.int k a/\y=.int k b/\v=.int k (f a b)/\k.wrap (f a b)=f a b/\b ≠ 0:=by
 unfold div at hr
 split at hr
 ·rename_i k a k' b
  split at hr
  ·rename_i hk
   split at hr
   ·cases hr
   ·rename_i hz
    split at hr
    ·rename_i hi;cases hr
     exact ⟨k,a,b,rfl,by rw [wBY hk],rfl,wIc hi,fun e=>by rw [wLS.2 e] at hz;cases hz⟩
    ·cases hr
  ·cases hr
 ·cases hr
theorem wNl {f:Int->Int->Bool} {x y v:AV} (hr:wPJ f x y=some v):∃ k a b,x=.int k a/\y=.int k b/\v=.bool (f a b):=by
 unfold wPJ at hr
 split at hr
 ·rename_i k a k' b
  split at hr
  ·rename_i hk;cases hr;exact ⟨k,a,b,rfl,by rw [wBY hk],rfl⟩
  ·cases hr
 ·cases hr
def wCj (b:BinOp) (x y:AOd):Op->Bool
 | .binOp b' _ x' y' _=>(b' == b) && (wBz x x' && wBz y y')
 | _=>false
theorem wFn {b:BinOp} {x y:AOd} {op:Op} (hc:wCj b x y op=true):∃ t x' y' t',op=.binOp b t x' y' t'/\wBz x x'=true/\wBz y y'=true:=by
 unfold wCj at hc
 split at hc
 ·rename_i b' t x' y' t'
  simp only [nA,beq_iff_eq] at hc
  obtain ⟨rfl,h1,h2⟩:=hc
  exact ⟨t,x',y',t',rfl,h1,h2⟩
 ·cases hc
theorem wKc {b:BinOp} {f:Int->Int->Int} {x y:AOd} {op:Op} (hc:wCj b x y op=true)
  (hrun:∀ (o:Oper) (σ:Env) (w:World) t x' y' t' k m n,o.op=.binOp b t x' y' t'->ev σ x'=.int k m->ev σ y'=.int k n->Runs P σ w o (.int k (k.wrap (f m n))) w) :
  OkP P op (fun σ h=>okV h (wKJ f (evA σ x) (evA σ y))):=by
 intro σA h v h' hr
 obtain ⟨t,x',y',t',rfl,h1,h2⟩:=wFn hc
 obtain ⟨hr2,rfl⟩:=wBb hr
 obtain ⟨k,m,n,e1,e2,rfl,e3⟩:=wIC hr2
 refine ⟨rfl,fun μ σ hE=>⟨_,rfl,fun o w ho=>?_⟩⟩
 have g1:=wAR h1 hE;rw [e1] at g1
 have g2:=wAR h2 hE;rw [e2] at g2
 have:=hrun o σ w t x' y' t' k m n ho g1 g2
 rwa [e3] at this
theorem p_add {x y:AOd} {op:Op} (hc:wCj .add x y op=true):OkP P op (wNH x y) :=
 wKc hc fun o σ w t x' y' t' k m n ho h1 h2=>⟨by rw [ho];rfl,by simp [execOp,ho,h1,h2,binOp,eqGuard,Op.intArith]⟩
theorem p_sub {x y:AOd} {op:Op} (hc:wCj .sub x y op=true):OkP P op (wNI x y) :=
 wKc hc fun o σ w t x' y' t' k m n ho h1 h2=>⟨by rw [ho];rfl,by simp [execOp,ho,h1,h2,binOp,eqGuard,Op.intArith];rfl⟩
theorem p_mul {x y:AOd} {op:Op} (hc:wCj .mul x y op=true):OkP P op (wNJ x y) :=
 wKc hc fun o σ w t x' y' t' k m n ho h1 h2=>⟨by rw [ho];rfl,by simp [execOp,ho,h1,h2,binOp,eqGuard,Op.intArith]⟩
theorem wSV {b:BinOp} {f:Int->Int->Int} {x y:AOd} {op:Op} (hc:wCj b x y op=true)
  (hrun:∀ (o:Oper) (σ:Env) (w:World) t x' y' t' k m n,o.op=.binOp b t x' y' t'->ev σ x'=.int k m->ev σ y'=.int k n->n ≠ 0->k.wrap (f m n)=f m n->Runs P σ w o (.int k (f m n)) w) :
  OkP P op (fun σ h=>okV h (div f (evA σ x) (evA σ y))):=by
 intro σA h v h' hr
 obtain ⟨t,x',y',t',rfl,h1,h2⟩:=wFn hc
 obtain ⟨hr2,rfl⟩:=wBb hr
 obtain ⟨k,m,n,e1,e2,rfl,e3,e4⟩:=wPR hr2
 refine ⟨rfl,fun μ σ hE=>⟨_,rfl,fun o w ho=>?_⟩⟩
 have g1:=wAR h1 hE;rw [e1] at g1
 have g2:=wAR h2 hE;rw [e2] at g2
 exact hrun o σ w t x' y' t' k m n ho g1 g2 e4 e3
theorem p_quo {x y:AOd} {op:Op} (hc:wCj .quo x y op=true):OkP P op (wNK x y) :=
 wSV hc fun o σ w t x' y' t' k m n ho h1 h2 h3 h4=>⟨by rw [ho];rfl,by simp [execOp,ho,h1,h2,binOp,eqGuard,Op.intDiv,h3,h4]⟩
theorem p_rem {x y:AOd} {op:Op} (hc:wCj .rem x y op=true):OkP P op (wNL x y) :=
 wSV hc fun o σ w t x' y' t' k m n ho h1 h2 h3 h4=>⟨by rw [ho];rfl,by simp [execOp,ho,h1,h2,binOp,eqGuard,Op.intDiv,h3]⟩
theorem wMR {b:BinOp} {f:Int->Int->Bool} {x y:AOd} {op:Op} (hc:wCj b x y op=true)
  (hrun:∀ (o:Oper) (σ:Env) (w:World) t x' y' t' k m n,o.op=.binOp b t x' y' t'->ev σ x'=.int k m->ev σ y'=.int k n->Runs P σ w o (.bool (f m n)) w) :
  OkP P op (fun σ h=>okV h (wPJ f (evA σ x) (evA σ y))):=by
 intro σA h v h' hr
 obtain ⟨t,x',y',t',rfl,h1,h2⟩:=wFn hc
 obtain ⟨hr2,rfl⟩:=wBb hr
 obtain ⟨k,m,n,e1,e2,rfl⟩:=wNl hr2
 refine ⟨rfl,fun μ σ hE=>⟨_,rfl,fun o w ho=>?_⟩⟩
 have g1:=wAR h1 hE;rw [e1] at g1
 have g2:=wAR h2 hE;rw [e2] at g2
 exact hrun o σ w t x' y' t' k m n ho g1 g2
theorem p_lss {x y:AOd} {op:Op} (hc:wCj .lss x y op=true):OkP P op (wNM x y) :=
 wMR hc fun o σ w t x' y' t' k m n ho h1 h2=>(Runs.lss ho h1 h2).to (by rw [wHB])
theorem p_leq {x y:AOd} {op:Op} (hc:wCj .leq x y op=true):OkP P op (wNN x y) :=
 wMR hc fun o σ w t x' y' t' k m n ho h1 h2=>(Runs.leq ho h1 h2).to (by rw [wNh])
theorem p_gtr {x y:AOd} {op:Op} (hc:wCj .gtr x y op=true):OkP P op (wNO x y) :=
 wMR hc fun o σ w t x' y' t' k m n ho h1 h2=>(Runs.gtr ho h1 h2).to (by rw [wHB])
theorem p_geq {x y:AOd} {op:Op} (hc:wCj .geq x y op=true):OkP P op (wNP x y) :=
 wMR hc fun o σ w t x' y' t' k m n ho h1 h2=>(Runs.geq ho h1 h2).to (by rw [wNh])
theorem p_eql {x y:AOd} {op:Op} (hc:wCj .eql x y op=true):OkP P op (wNQ x y) :=
 wMR hc fun o σ w t x' y' t' k m n ho h1 h2=>(Runs.eql ho h1 h2).to (by rw [wEP])
theorem p_neq {x y:AOd} {op:Op} (hc:wCj .neq x y op=true):OkP P op (wNR x y) :=
 wMR hc fun o σ w t x' y' t' k m n ho h1 h2=>(Runs.neq ho h1 h2).to (by rw [wEP];simp)
def wQl (x:AOd):Op->Bool
 | .unOp .neg _ y=>wBz x y
 | _=>false
theorem p_neg {x:AOd} {op:Op} (hc:wQl x op=true):OkP P op (wNS x):=by
 intro σA h v h' hr
 unfold wQl at hc
 split at hc
 ·obtain ⟨hr2,rfl⟩:=wBb hr
  obtain ⟨k,m,n,e1,e2,rfl,e3⟩:=wIC hr2
  rw [e2] at e1
  simp only at e1
  cases e1
  refine ⟨rfl,fun μ σ hE=>⟨_,rfl,fun o w ho=>?_⟩⟩
  have g2:=wAR hc hE;rw [e2] at g2
  refine ⟨by rw [ho];rfl,?_⟩
  have:ev σ _=.int k n:=g2
  simp only [execOp,ho,this,Op.unary,Op.intArith,Sem.run_bind,Sem.run_pure,Result.andThen_ok]
  rw [show (0:Int) - n=Int.sub 0 n from rfl,e3]
 ·cases hc
def wQm (x:AOd):Op->Bool
 | .unOp .not _ y=>wBz x y
 | _=>false
theorem p_not {x:AOd} {op:Op} (hc:wQm x op=true):OkP P op (wKN x):=by
 intro σA h v h' hr
 unfold wQm at hc
 split at hc
 ·unfold wKN at hr
  split at hr
  ·rename_i hb;cases hr
   refine ⟨rfl,fun μ σ hE=>⟨_,rfl,fun o w ho=>?_⟩⟩
   have g:=wAR hc hE;rw [hb] at g
   exact Runs.not ho g
  ·cases hr
 ·cases hc
def wNm:TypeDesc->Option IntKind
 | .int k=>some k
 | _=>none
def wQn (k:IntKind) (x:AOd):Op->Bool
 | .convert s t y=>wEa P s (fun d=>(wNm d).isSome) && (wEa P t (fun d=>match wNm d with | some k'=>keq k k' | none=>false) && wBz x y)
 | _=>false
theorem p_cvt {k:IntKind} {x:AOd} {op:Op} (hc:wQn (P:=P) k x op=true):OkP P op (wKO k x):=by
 intro σA h v h' hr
 unfold wQn at hc
 split at hc
 ·simp only [nA] at hc
  obtain ⟨c1,c2,c3⟩:=hc
  unfold wKO at hr
  split at hr
  ·rename_i k0 n hb
   obtain ⟨hi,hr⟩:=wBV hr
   cases hr
   refine ⟨rfl,fun μ σ hE=>⟨_,rfl,fun o w ho=>?_⟩⟩
   have g:=wAR c3 hE;rw [hb] at g
   obtain ⟨d,d1,d2⟩:=wAp c1
   obtain ⟨e,e1,e2⟩:=wAp c2
   cases d <;> first | (cases d2;done) | skip
   cases e <;> first | (cases e2;done) | skip
   have:=wBY e2
   subst this
   have g':ev σ _=.int k0 n:=g
   exact ⟨by rw [ho];rfl,by simp [execOp,ho,g',convert,wAt d1,wAt e1,Conv.intToInt,wIc hi]⟩
  ·cases hr
 ·cases hc
def wQo (f:Pos) (fi ca:List AOd):Op->Bool
 | .makeFunc (.func g) fi' ca'=>nD f.nat (g + 1) && (wJP fi fi'.toList && wJP ca ca'.toList)
 | _=>false
theorem p_mkf {f:Pos} {fi ca:List AOd} {op:Op} (hc:wQo f fi ca op=true):OkP P op (wMN f fi ca):=by
 intro σA h v h' hr
 cases hr
 unfold wQo at hc
 split at hc
 ·simp only [nA] at hc
  obtain ⟨c1,c2,c3⟩:=hc
  refine ⟨rfl,fun μ σ hE=>⟨_,⟨_,_,wGb c2 hE,wGb c3 hE,rfl⟩,fun o w ho=>?_⟩⟩
  have e:=nB c1
  refine ⟨by rw [ho];rfl,?_⟩
  simp [execOp,ho,Instr.makeFunc,e,<- kV]
 ·cases hc
def wQp (i:Nat) (x:AOd):Op->Bool
 | .extract y j=>nD i j && wBz x y
 | _=>false
theorem p_ext {i:Nat} {x:AOd} {op:Op} (hc:wQp i x op=true):OkP P op (wKU i x):=by
 intro σA h v h' hr
 unfold wQp at hc
 split at hc
 ·simp only [nA] at hc
  have e:=nB hc.1
  subst e
  unfold wKU at hr
  split at hr
  ·rename_i l hb
   obtain ⟨hr2,rfl⟩:=wBb hr
   refine ⟨rfl,fun μ σ hE=>?_⟩
   have g:=wAR hc.2 hE;rw [hb] at g
   obtain ⟨vs,g1,g2⟩:=g
   rw [wGV] at hr2
   obtain ⟨cv,g3,g4⟩:=wFO g1 hr2
   exact ⟨cv,g4,fun o w ho=>Runs.ext ho g2 (by simpa using g3)⟩
  ·cases hr
 ·cases hc
end
end
end Go.KX
namespace Go.KX
noncomputable section
open Go.RowKit Go.KL
section
variable {C:Chk} {P:Program} {μ μ':Mu} {w w':World} {h h':AH} {σ:Env} {σA:Tr AV} {t e:TypeId} {o:Oper}
def wQq (P:Program) (ne:Bool) (x y:AOd):Op->Bool
 | .binOp b t x' y' _=>(match ne with | true=>b == .neq | false=>b == .eql) && (wEa P t (fun d=>match d with | .bool=>true | _=>false) && (wBz x x' && wBz y y'))
 | _=>false
theorem wID (ne b:Bool):(ne != b)=(match ne with | true=>!b | false=>b):=by cases ne <;> cases b <;> rfl
theorem p_eqb {ne:Bool} {x y:AOd} {op:Op} (hc:wQq P ne x y op=true):OkP P op (wKK ne x y):=by
 intro σA h v h' hr
 unfold wQq at hc
 split at hc
 ·simp only [nA] at hc
  obtain ⟨c0,c1,c2,c3⟩:=hc
  unfold wKK at hr
  split at hr
  ·rename_i a b e1 e2
   cases hr
   refine ⟨rfl,fun μ σ hE=>⟨_,rfl,fun o w ho=>?_⟩⟩
   have g1:=wAR c2 hE;rw [e1] at g1
   have g2:=wAR c3 hE;rw [e2] at g2
   obtain ⟨d,d1,d2⟩:=wAp c1
   cases d <;> first | (cases d2;done) | skip
   cases ne
   ·have:=eq_of_beq c0;subst this
    exact (Runs.eqB ho g1 g2 (wAt d1)).to (by rw [wID])
   ·have:=eq_of_beq c0;subst this
    exact (Runs.neB ho g1 g2 (wAt d1)).to (by rw [wID])
  ·cases hr
 ·cases hc
def nilD (k:Nat) (d:TypeDesc):Bool:=match k,d with
 | 0,.pointer _=>true
 | 1,.slice _=>true
 | 2,.map _ _=>true
 | 3,.func _ _ _=>true
 | _,_=>false
theorem wNn {k:Nat} {d:TypeDesc} {a b:AV} {r:Bool} {x y:Value} (hu:P.underlying t=some d) (hd:nilD k d=true) (hr:wMJ k a b=some r) (hx:Rv μ a x) (hy:Rv μ b y) (w:World):(Op.equal t x y).run P w=.ok r w:=by
 unfold Op.equal Op.maxDepth
 rw [show (10000:Nat)=9999 + 1 from rfl,Op.equalIn]
 unfold wMJ at hr
 split at hr <;> cases hr <;> simp only [Rv] at hx hy <;> (cases d <;> first | (cases hd;done) | skip) <;>
  (try obtain ⟨_,_,_,_,_,rfl⟩:=hx) <;> (try obtain ⟨_,_,_,_,rfl⟩:=hx) <;> (try obtain ⟨_,_,_,rfl⟩:=hx) <;> (try obtain ⟨_,_,rfl⟩:=hx) <;> (try subst hx) <;>
  (try obtain ⟨_,_,_,_,_,rfl⟩:=hy) <;> (try obtain ⟨_,_,_,_,rfl⟩:=hy) <;> (try obtain ⟨_,_,_,rfl⟩:=hy) <;> (try obtain ⟨_,_,rfl⟩:=hy) <;> (try subst hy) <;>
  simp only [Sem.run_bind,wAt hu,Result.andThen_ok,Sem.run_pure] <;> rfl
theorem wKd {k:Nat} {a b:AV} {r:Bool} {x y:Value} (hr:wMJ k a b=some r) (hx:Rv μ a x) (hy:Rv μ b y) (op:BinOp) (p q:Operand) (w:World):(eqGuard op t p q x y).run P w=.ok () w:=by
 unfold wMJ at hr
 split at hr <;> cases hr <;> simp only [Rv] at hx hy <;>
  (try obtain ⟨_,_,_,_,_,rfl⟩:=hx) <;> (try obtain ⟨_,_,_,_,rfl⟩:=hx) <;> (try obtain ⟨_,_,_,rfl⟩:=hx) <;> (try obtain ⟨_,_,rfl⟩:=hx) <;> (try subst hx) <;>
  (try obtain ⟨_,_,_,_,_,rfl⟩:=hy) <;> (try obtain ⟨_,_,_,_,rfl⟩:=hy) <;> (try obtain ⟨_,_,_,rfl⟩:=hy) <;> (try obtain ⟨_,_,rfl⟩:=hy) <;> (try subst hy) <;>
  simp only [eqGuard] <;> (cases op <;> rfl)
def wQr (P:Program) (k:Nat) (ne:Bool) (x y:AOd):Op->Bool
 | .binOp b t x' y' _=>(match ne with | true=>b == .neq | false=>b == .eql) && (wEa P t (nilD k) && (wBz x x' && wBz y y'))
 | _=>false
theorem p_eqn {k:Nat} {ne:Bool} {x y:AOd} {op:Op} (hc:wQr P k ne x y op=true):OkP P op (wKL k ne x y):=by
 intro σA h v h' hr
 unfold wQr at hc
 split at hc
 ·rename_i b t x' y' t'
  simp only [nA] at hc
  obtain ⟨c0,c1,c2,c3⟩:=hc
  unfold wKL at hr
  split at hr
  ·rename_i r e1
   cases hr
   refine ⟨rfl,fun μ σ hE=>⟨_,rfl,fun o w ho=>?_⟩⟩
   have g1:=wAR c2 hE
   have g2:=wAR c3 hE
   obtain ⟨d,d1,d2⟩:=wAp c1
   have g3:=wNn d1 d2 e1 g1 g2
   have g4:=fun op=>wKd (P:=P) (t:=t) e1 g1 g2 op x' y'
   refine ⟨by rw [ho];rfl,?_⟩
   generalize hX:ev σ x'=X at g1 g3 g4
   generalize hY:ev σ y'=Y at g2 g3 g4
   have nint:(∀ k n,X ≠ .int k n)/\(∀ k n,X ≠ .float k n)/\(∀ k n m,X ≠ .complex k n m)/\(∀ s,X ≠ .string s):=by
    unfold wMJ at e1
    split at e1 <;> cases e1 <;> rename_i e2 e3 <;> rw [e2] at g1 <;> simp only [Rv] at g1 <;>
     (try obtain ⟨_,_,_,_,_,rfl⟩:=g1) <;> (try obtain ⟨_,_,_,_,rfl⟩:=g1) <;> (try obtain ⟨_,_,_,rfl⟩:=g1) <;> (try obtain ⟨_,_,rfl⟩:=g1) <;> (try subst g1) <;>
     exact ⟨by simp,by simp,by simp,by simp⟩
   obtain ⟨n1,n2,n3,n4⟩:=nint
   cases ne
   ·have:=eq_of_beq c0;subst this
    simp only [execOp,ho,Sem.run_bind,hX,hY,g4 .eql w,Result.andThen_ok]
    have:(binOp .eql t X Y).run P w=.ok (.bool r) w:=by
     cases X <;> first | exact absurd rfl (n1 _ _) | exact absurd rfl (n2 _ _) | exact absurd rfl (n3 _ _ _) | exact absurd rfl (n4 _) | (simp only [binOp,Sem.run_bind,g3 w,Result.andThen_ok];rfl)
    rw [this]
    simp [wID]
   ·have:=eq_of_beq c0;subst this
    simp only [execOp,ho,Sem.run_bind,hX,hY,g4 .neq w,Result.andThen_ok]
    have:(binOp .neq t X Y).run P w=.ok (.bool (!r)) w:=by
     cases X <;> first | exact absurd rfl (n1 _ _) | exact absurd rfl (n2 _ _) | exact absurd rfl (n3 _ _ _) | exact absurd rfl (n4 _) | (simp only [binOp,Sem.run_bind,g3 w,Result.andThen_ok];rfl)
    rw [this]
    simp [wID]
  ·cases hr
 ·cases hc
mutual
def Sh.depth:Sh->Nat
 | .int=>1
 | .bool=>1
 | .str fs=>wLT fs + 1
def wLT:List (Nat × Nat × Sh)->Nat
 | []=>0
 | (_,_,s) :: fs=>Nat.max s.depth (wLT fs)
end
mutual
def wKe (P:Program):Sh->TypeId->Bool
 | .int,t=>wEa P t fun d=>(wNm d).isSome
 | .bool,t=>wEa P t fun d=>match d with | .bool=>true | _=>false
 | .str fs,t=>(!P.stoodInHeld t) && wEa P t fun d=>match d with | .struct gs=>wMS P fs gs.toList | _=>false
def wMS (P:Program):List (Nat × Nat × Sh)->List Field->Bool
 | [],[]=>true
 | (off, sz, s) :: fs, g :: gs => (g.name != "_") && (nD g.offset off && (szT P g.type sz && (wKe P s g.type && wMS P fs gs)))
 | _,_=>false
end
theorem wNo {s:Sh} (hc:wKe P s t=true) (w:World):(isAgg t).run P w=.ok (match s with | .str _=>true | _=>false) w:=by
 cases s with
 | int =>
  obtain ⟨d,h1,h2⟩:=wAp hc
  rw [wHC h1];cases d <;> first | rfl | cases h2
 | bool =>
  obtain ⟨d,h1,h2⟩:=wAp hc
  rw [wHC h1];cases d <;> first | rfl | cases h2
 | str fs =>
  simp only [wKe,nA] at hc
  obtain ⟨d,h1,h2⟩:=wAp hc.2
  rw [wHC h1];cases d <;> first | rfl | cases h2
theorem wJQ {s:Sh} {l:List AV} {vs:List Value} {off sz:Nat} {a:AV} (hc:wKe P s t=true) (hz:szT P t sz=true) (hp:wPK s l off sz=some a) (hl:RvL μ l vs):∃ v,Rv μ a v/\∀ w,(part t vs.toArray off).run P w=.ok v w:=by
 have hag:=wNo hc
 unfold wPK at hp
 split at hp
 ·split at hp
  ·rename_i r hs
   cases hp
   obtain ⟨h1,h2⟩:=wFP hs hl
   exact ⟨_,⟨_,h1,rfl⟩,fun w=>wCd hag (wDy hz) rfl⟩
  ·cases hp
 ·rename_i hne
  rw [wGV] at hp
  obtain ⟨v,h1,h2⟩:=wFO hl hp
  refine ⟨v,h2,fun w=>wFh (fun w=>?_) h1⟩
  rw [hag w]
  cases s <;> first | rfl | exact absurd rfl (hne _)
mutual
theorem wLU:∀ (s:Sh) (t:TypeId) (d:Nat) (a b:AV) (x y:Value) (r:Bool),wKe P s t=true->s.depth <= d->wPL s a b=some r->Rv μ a x->Rv μ b y->∀ w,(Op.equalIn d t x y).run P w=.ok r w
 | .int,t,d,a,b,x,y,r,hc,hd,hr,hx,hy,w=>by
  obtain ⟨d,rfl⟩:∃ e,d=e + 1:=⟨d - 1,by simp only [Sh.depth] at hd;omega⟩
  unfold wPL at hr
  split at hr <;> first | (cases hr;done) | skip
  all_goals (try (rename_i h0;cases h0))
  split at hr <;> cases hr
  rename_i hk
  obtain ⟨dd,d1,d2⟩:=wAp hc
  cases dd <;> first | (cases d2;done) | skip
  simp only [Rv] at hx hy
  subst hx hy
  have:=wBY hk;subst this
  simp [Op.equalIn,wAt d1,wEP,wKA]
 | .bool,t,d,a,b,x,y,r,hc,hd,hr,hx,hy,w=>by
  obtain ⟨d,rfl⟩:∃ e,d=e + 1:=⟨d - 1,by simp only [Sh.depth] at hd;omega⟩
  unfold wPL at hr
  split at hr <;> first | (cases hr;done) | skip
  all_goals (try (rename_i h0;cases h0))
  cases hr
  obtain ⟨dd,d1,d2⟩:=wAp hc
  cases dd <;> first | (cases d2;done) | skip
  simp only [Rv] at hx hy
  subst hx hy
  simp [Op.equalIn,wAt d1]
 | .str fs,t,d,a,b,x,y,r,hc,hd,hr,hx,hy,w=>by
  simp only [Sh.depth] at hd
  obtain ⟨d,rfl⟩:∃ e,d=e + 1:=⟨d - 1,by omega⟩
  unfold wPL at hr
  split at hr <;> first | (cases hr;done) | skip
  all_goals (try (rename_i h0;cases h0))
  simp only [wKe,nA,nv] at hc
  obtain ⟨dd,d1,d2⟩:=wAp hc.2
  cases dd <;> first | (cases d2;done) | skip
  rename_i gs
  obtain ⟨xs,h1,rfl⟩:=hx
  obtain ⟨ys,h2,rfl⟩:=hy
  have hf:P.fieldsOf t=gs:=by unfold Program.fieldsOf;rw [d1]
  rw [run_equalIn_agg w d t _ _ (by rw [hf];exact d1) hc.1,hf]
  exact wLV fs gs.toList d _ _ xs ys r d2 (by omega) hr h1 h2 w
theorem wLV:∀ (fs:List (Nat × Nat × Sh)) (gs:List Field) (d:Nat) (l k:List AV) (xs ys:List Value) (r:Bool),wMS P fs gs=true->wLT fs <= d->wSN fs l k=some r->RvL μ l xs->RvL μ k ys ->
  ∀ w,(Op.eqFields d xs.toArray ys.toArray gs).run P w=.ok r w
 | [],[],d,l,k,xs,ys,r,hc,hd,hr,hx,hy,w=>by
  simp only [wSN] at hr;cases hr;rfl
 | (off,sz,s) :: fs,g :: gs,d,l,k,xs,ys,r,hc,hd,hr,hx,hy,w=>by
  simp only [wMS,nA] at hc
  obtain ⟨c1,c2,c3,c4,c5⟩:=hc
  have e:=nB c2
  subst e
  simp only [wSN] at hr
  split at hr
  ·rename_i a b ha hb
   obtain ⟨u,u1,u2⟩:=wJQ c4 c3 ha hx
   obtain ⟨v,v1,v2⟩:=wJQ c4 c3 hb hy
   have hne : g.name ≠ "_" := by simpa using c1
   have hd1:s.depth <= d:=nP (Nat.le_max_left _ _) hd
   have hd2:wLT fs <= d:=nP (Nat.le_max_right _ _) hd
   cases hq:wPL s a b with
   | none=>rw [hq] at hr;cases hr
   | some q =>
    have hE:=wLU s g.type d a b u v q c4 hd1 hq u1 v1
    rw [hq] at hr
    cases q with
    | true =>
     simp only at hr
     have hF:=wLV fs gs d l k xs ys r c5 hd2 hr hx hy
     simp [Op.eqFields,hne,u2,v2,hE,hF,Result.andThen]
    | false =>
     simp only [nh] at hr
     subst hr
     simp [Op.eqFields,hne,u2,v2,hE,Result.andThen]
  ·cases hr
 | [],_ :: _,d,l,k,xs,ys,r,hc,hd,hr,hx,hy,w=>by simp [wMS] at hc
 | _ :: _,[],d,l,k,xs,ys,r,hc,hd,hr,hx,hy,w=>by simp [wMS] at hc
end
theorem wPS {fs:List (Nat × Nat × Sh)} {r:Bool}:∀ {a b:AV},wPL (.str fs) a b=some r->∃ l k,a=.agg l/\b=.agg k:=by
 intro a b h
 cases a <;> cases b <;> first | exact ⟨_,_,rfl,rfl⟩ | (simp [wPL] at h;done)
def wQs (P:Program) (ne:Bool) (s:Sh) (x y:AOd):Op->Bool
 | .binOp b t x' y' _=>(match ne with | true=>b == .neq | false=>b == .eql) && (Nat.ble s.depth 10000 && (wKe P s t && ((match s with | .str _=>true | _=>false) && ((!P.eqGuardType P.depth t) && (wBz x x' && wBz y y')))))
 | _=>false
theorem p_eqs {ne:Bool} {s:Sh} {x y:AOd} {op:Op} (hc:wQs P ne s x y op=true):OkP P op (wKM ne s x y):=by
 intro σA h v h' hr
 unfold wQs at hc
 split at hc
 ·rename_i b t x' y' t'
  simp only [nA,nv] at hc
  obtain ⟨c0,c1,c2,c3,c4,c5,c6⟩:=hc
  unfold wKM at hr
  split at hr
  ·rename_i r e1
   cases hr
   refine ⟨rfl,fun μ σ hE=>⟨_,rfl,fun o w ho=>?_⟩⟩
   have g1:=wAR c5 hE
   have g2:=wAR c6 hE
   have g3:∀ w,(Op.equal t (ev σ x') (ev σ y')).run P w=.ok r w:=wLU s t 10000 _ _ _ _ r c2 (nL c1) e1 g1 g2
   cases s <;> first | (cases c3;done) | skip
   obtain ⟨l,k,h1,h2⟩:=wPS e1
   rw [h1] at g1;rw [h2] at g2
   obtain ⟨xs,_,g1⟩:=g1
   obtain ⟨ys,_,g2⟩:=g2
   rw [g1,g2] at g3
   refine ⟨by rw [ho];rfl,?_⟩
   cases ne
   ·have:=eq_of_beq c0;subst this
    simp [execOp,ho,g1,g2,binOp,eqGuard,c4,g3,wID]
   ·have:=eq_of_beq c0;subst this
    simp [execOp,ho,g1,g2,binOp,eqGuard,c4,g3,wID]
  ·cases hr
 ·cases hc
end
end
end Go.KX
namespace Go.KX
noncomputable section
open Go.RowKit Go.KL
section
variable {C:Chk} {P:Program} {μ μ':Mu} {w w':World} {h h':AH} {σ:Env} {σA:Tr AV} {t e:TypeId} {o:Oper}
def wQt (P:Program) (off:Nat) (x:AOd):Op->Bool
 | .fieldAddr t y i=>wEa P t (fun d=>match d with
   | .struct fs=>match fs[i]? with
    | some f=>nD f.offset off && (match P.info? f.type with | some j=>nl 0 j.size | none=>false)
    | none=>false
   | _=>false) && wBz x y
 | _=>false
theorem p_fad {off:Nat} {x:AOd} {op:Op} (hc:wQt P off x op=true):OkP P op (wKQ off x):=by
 intro σA h v h' hr
 unfold wQt at hc
 split at hc
 ·rename_i t y i
  simp only [nA] at hc
  obtain ⟨c1,c2⟩:=hc
  unfold wKQ at hr
  split at hr
  ·rename_i b oo hb
   cases hr
   refine ⟨rfl,fun μ σ hE=>?_⟩
   have g:=wAR c2 hE;rw [hb] at g
   obtain ⟨c,g1,g2⟩:=g
   refine ⟨_,⟨c,g1,rfl⟩,fun o w ho=>?_⟩
   obtain ⟨d,d1,d2⟩:=wAp c1
   split at d2
   ·rename_i fs
    split at d2
    ·rename_i f hf
     simp only [nA] at d2
     have e:=nB d2.1
     subst e
     have d3:=d2.2
     split at d3
     ·rename_i j hj
      have hpos:0 < j.size:=by simpa [nJ] using d3
      obtain ⟨n,hn⟩:∃ n,j.size=n + 1:=⟨j.size - 1,by omega⟩
      exact Runs.fa (n:=n) ho g2 (wAt d1) hf (fun w=>by rw [<- hn];simp [sizeOf,typeInfo,hj])
     ·cases d3
    ·cases d2
   ·cases d2
  ·cases hr
 ·cases hc
def wQu (P:Program) (off:Nat) (x:AOd):Op->Bool
 | .field t y i=>wEa P t (fun d=>match d with
   | .struct fs=>match fs[i]? with
    | some f=>nD f.offset off && wPQ P f.type false
    | none=>false
   | _=>false) && wBz x y
 | _=>false
def wNp (P:Program) (off n:Nat) (x:AOd):Op->Bool
 | .field t y i=>wEa P t (fun d=>match d with
   | .struct fs=>match fs[i]? with
    | some f=>nD f.offset off && (wPQ P f.type true && szT P f.type n)
    | none=>false
   | _=>false) && wBz x y
 | _=>false
theorem p_fld {off:Nat} {x:AOd} {op:Op} (hc:wQu P off x op=true):OkP P op (wKR off x):=by
 intro σA h v h' hr
 unfold wQu at hc
 split at hc
 ·rename_i t y i
  simp only [nA] at hc
  obtain ⟨c1,c2⟩:=hc
  unfold wKR at hr
  split at hr
  ·rename_i l hb
   obtain ⟨hr2,rfl⟩:=wBb hr
   refine ⟨rfl,fun μ σ hE=>?_⟩
   have g:=wAR c2 hE;rw [hb] at g
   obtain ⟨vs,g1,g2⟩:=g
   rw [wGV] at hr2
   obtain ⟨cv,g3,g4⟩:=wFO g1 hr2
   refine ⟨cv,g4,fun o w ho=>?_⟩
   obtain ⟨d,d1,d2⟩:=wAp c1
   split at d2
   ·split at d2
    ·rename_i f hf
     simp only [nA] at d2
     have e:=nB d2.1
     subst e
     exact Runs.fld ho g2 (wAt d1) hf (wFh (wEm d2.2) g3)
    ·cases d2
   ·cases d2
  ·cases hr
 ·cases hc
theorem wDr {x:Option (List AV)} {v:AV} (hr:wIA x=some v):∃ l,x=some l/\v=.agg l:=by
 cases x <;> cases hr;exact ⟨_,rfl,rfl⟩
theorem wSW {off n:Nat} {x:AOd} {op:Op} (hc:wNp P off n x op=true):OkP P op (wGx off n x):=by
 intro σA h v h' hr
 unfold wNp at hc
 split at hc
 ·rename_i t y i
  simp only [nA] at hc
  obtain ⟨c1,c2⟩:=hc
  unfold wGx at hr
  split at hr
  ·rename_i l hb
   obtain ⟨hr2,rfl⟩:=wBb hr
   obtain ⟨r,hr3,rfl⟩:=wDr hr2
   refine ⟨rfl,fun μ σ hE=>?_⟩
   have g:=wAR c2 hE;rw [hb] at g
   obtain ⟨vs,g1,g2⟩:=g
   obtain ⟨g3,g4⟩:=wFP hr3 g1
   refine ⟨_,⟨_,g3,rfl⟩,fun o w ho=>?_⟩
   obtain ⟨d,d1,d2⟩:=wAp c1
   split at d2
   ·split at d2
    ·rename_i f hf
     simp only [nA] at d2
     have e:=nB d2.1
     subst e
     exact Runs.fld ho g2 (wAt d1) hf (wCd (wEm d2.2.1) (wDy d2.2.2) rfl)
    ·cases d2
   ·cases d2
  ·cases hr
 ·cases hc
theorem wBy {a:AV} {n:Nat} (hr:wGr a=some n):a=.int .i64 n:=by
 unfold wGr at hr
 split at hr
 ·cases hr;rfl
 ·cases hr
def wQv (P:Program) (sz:Nat) (x y:AOd):Op->Bool
 | .indexAddr t x' y'=>wEa P t (fun d=>match d with
   | .slice e=>szT P e sz
   | _=>false) && (wBz x x' && wBz y y')
 | _=>false
theorem p_iad {sz:Nat} {x y:AOd} {op:Op} (hc:wQv P sz x y op=true):OkP P op (wKS sz x y):=by
 intro σA h v h' hr
 unfold wQv at hc
 split at hc
 ·rename_i t x' y'
  simp only [nA] at hc
  obtain ⟨c1,c2,c3⟩:=hc
  obtain ⟨d,d1,d2⟩:=wAp c1
  split at d2
  ·rename_i e
   unfold wKS at hr
   split at hr
   ·rename_i b off n c i hb hi
    obtain ⟨hlt,hr⟩:=wBV hr
    cases hr
    have hlt:i < n:=by simpa [nJ] using hlt
    have hi:=wBy hi
    refine ⟨rfl,fun μ σ hE=>?_⟩
    have g:=wAR c2 hE;rw [hb] at g
    have k:=wAR c3 hE;rw [hi] at k
    obtain ⟨m,g1,g2,g3⟩:=g
    refine ⟨_,⟨m,g1,rfl⟩,fun o w ho=>?_⟩
    have:=Runs.ia (P:=P) (o:=o) (w:=w) (i:=(i:Int)) ho g3 k (wAt d1) (wDy d2) (by omega) (by omega)
    simpa using this
   ·rename_i b eo co n i hb hi
    obtain ⟨hlt,hr⟩:=wBV hr
    cases hr
    have hlt:i < n:=by simpa [nJ] using hlt
    have hi:=wBy hi
    refine ⟨rfl,fun μ σ hE=>?_⟩
    have g:=wAR c2 hE;rw [hb] at g
    have k:=wAR c3 hE;rw [hi] at k
    obtain ⟨m,g1,g2,g3⟩:=g
    refine ⟨_,⟨m,g1,rfl⟩,fun o w ho=>?_⟩
    have:=Runs.ia (P:=P) (o:=o) (w:=w) (i:=(i:Int)) ho g3 k (wAt d1) (wDy d2) (by omega) (by omega)
    simpa using this
   ·cases hr
  ·cases d2
 ·cases hc
def wNq (P:Program) (sz n:Nat) (x y:AOd):Op->Bool
 | .indexAddr t x' y'=>wEa P t (fun d=>match d with
   | .array m e=>nD m n && szT P e sz
   | _=>false) && (wBz x x' && wBz y y')
 | _=>false
theorem wSX {sz n:Nat} {x y:AOd} {op:Op} (hc:wNq P sz n x y op=true):OkP P op (wGy sz n x y):=by
 intro σA h v h' hr
 unfold wNq at hc
 split at hc
 ·rename_i t x' y'
  simp only [nA] at hc
  obtain ⟨c1,c2,c3⟩:=hc
  obtain ⟨d,d1,d2⟩:=wAp c1
  split at d2
  ·rename_i m e
   simp only [nA] at d2
   have em:=nB d2.1
   subst em
   unfold wGy at hr
   split at hr
   ·rename_i b off i hb hi
    obtain ⟨hlt,hr⟩:=wBV hr
    cases hr
    have hlt:i < m:=by simpa [nJ] using hlt
    have hi:=wBy hi
    refine ⟨rfl,fun μ σ hE=>?_⟩
    have g:=wAR c2 hE;rw [hb] at g
    have k:=wAR c3 hE;rw [hi] at k
    obtain ⟨q,g1,g3⟩:=g
    refine ⟨_,⟨q,g1,rfl⟩,fun o w ho=>?_⟩
    have:=Runs.iaA (P:=P) (o:=o) (w:=w) (i:=(i:Int)) ho g3 k (wAt d1) (wDy d2.2) (by omega) (by omega)
    simpa using this
   ·cases hr
  ·cases d2
 ·cases hc
def c_ix (P:Program) (n:Nat) (x y:AOd):Op->Bool
 | .index t x' y'=>wEa P t (fun d=>match d with
   | .array m e=>nD m n && (szT P e 1 && wPQ P e false)
   | _=>false) && (wBz x x' && wBz y y')
 | _=>false
theorem p_ix {n:Nat} {x y:AOd} {op:Op} (hc:c_ix P n x y op=true):OkP P op (wQf n x y):=by
 intro σA h v h' hr
 unfold c_ix at hc
 split at hc
 ·rename_i t x' y'
  simp only [nA] at hc
  obtain ⟨c1,c2,c3⟩:=hc
  obtain ⟨d,d1,d2⟩:=wAp c1
  split at d2
  ·rename_i m e
   simp only [nA] at d2
   have em:=nB d2.1
   subst em
   unfold wQf at hr
   split at hr
   ·rename_i l i hb hi
    obtain ⟨hlt,hr⟩:=wBV hr
    obtain ⟨hr2,rfl⟩:=wBb hr
    have hlt:i < m:=by simpa [nJ] using hlt
    have hi:=wBy hi
    refine ⟨rfl,fun μ σ hE=>?_⟩
    have g:=wAR c2 hE;rw [hb] at g
    have k:=wAR c3 hE;rw [hi] at k
    obtain ⟨vs,g1,g2⟩:=g
    rw [wGV] at hr2
    obtain ⟨cv,g3,g4⟩:=wFO g1 hr2
    refine ⟨cv,g4,fun o w ho=>?_⟩
    exact Runs.ixA (P:=P) (o:=o) (w:=w) (i:=(i:Int)) ho g2 k (wAt d1) (wDy d2.2.1) (by omega) (by omega) (wFh (wEm d2.2.2) (by simpa using g3))
   ·cases hr
  ·cases d2
 ·cases hc
def wQw (P:Program) (sz n:Nat) (x y:AOd):Op->Bool
 | .index t x' y'=>wEa P t (fun d=>match d with
   | .array m e=>nD m n && (szT P e sz && wPQ P e true)
   | _=>false) && (wBz x x' && wBz y y')
 | _=>false
theorem p_ixA {sz n:Nat} {x y:AOd} {op:Op} (hc:wQw P sz n x y op=true):OkP P op (wKT sz n x y):=by
 intro σA h v h' hr
 unfold wQw at hc
 split at hc
 ·rename_i t x' y'
  simp only [nA] at hc
  obtain ⟨c1,c2,c3⟩:=hc
  obtain ⟨d,d1,d2⟩:=wAp c1
  split at d2
  ·rename_i m e
   simp only [nA] at d2
   have em:=nB d2.1
   subst em
   unfold wKT at hr
   split at hr
   ·rename_i l i hb hi
    obtain ⟨hlt,hr⟩:=wBV hr
    obtain ⟨hr2,rfl⟩:=wBb hr
    obtain ⟨r,hr3,rfl⟩:=wDr hr2
    have hlt:i < m:=by simpa [nJ] using hlt
    have hi:=wBy hi
    refine ⟨rfl,fun μ σ hE=>?_⟩
    have g:=wAR c2 hE;rw [hb] at g
    have k:=wAR c3 hE;rw [hi] at k
    obtain ⟨vs,g1,g2⟩:=g
    obtain ⟨g3,g4⟩:=wFP hr3 g1
    refine ⟨_,⟨_,g3,rfl⟩,fun o w ho=>?_⟩
    exact Runs.ixA (P:=P) (o:=o) (w:=w) (i:=(i:Int)) ho g2 k (wAt d1) (wDy d2.2.1) (by omega) (by omega) (wCd (wEm d2.2.2) (wDy d2.2.1) (by simp))
   ·cases hr
  ·cases d2
 ·cases hc
def wQJ:Option AOd->Option Operand->Bool
 | none,none=>true
 | some x,some y=>wBz x y
 | _,_=>false
theorem wNr {x:Option AOd} {y:Option Operand} {r:Option Nat} (hr:bnd σA x=some r) (hc:wQJ x y=true) (hE:EnvR μ σA σ):(r=none/\y=none) \/ ∃ n z,r=some n/\y=some z/\ev σ z=.int .i64 n:=by
 cases x with
 | none =>
  cases y with
  | none=>cases hr;exact .inl ⟨rfl,rfl⟩
  | some _=>cases hc
 | some x =>
  cases y with
  | none=>cases hc
  | some y =>
   simp only [bnd] at hr
   split at hr
   ·rename_i n hn
    cases hr
    have:=wAR (show wBz x y=true from hc) hE
    rw [wBy hn] at this
    exact .inr ⟨n,y,rfl,rfl,this⟩
   ·cases hr
def vI (n:Nat):Value:=.int .i64 (n:Int)
theorem wHD {P:Program} {n y:Nat} {code:BoundsCode} (hle:n <= y) (w:World):(Instr.sliceBound (vI n) y code).run P w=.ok n w:=by
 have h1:(n:Int) <= y:=by omega
 simp [Instr.sliceBound,vI,asIntOf,h1]
theorem wEx {P:Program} {s:Bool} {len cap:Nat} {lo hi mx:Option Nat} {l hh m:Nat} (hm:m=mx.getD cap) (hh':hh=hi.getD len) (hl:l=lo.getD 0) (h1:l <= hh) (h2:hh <= m) (h3:m <= cap) (hmh:mx.isSome=true->hi.isSome=true) (w:World) :
  (Instr.sliceBounds s len cap (lo.map vI) (hi.map vI) (mx.map vI)).run P w=.ok (l,hh,m) w:=by
 subst hm hh' hl
 unfold Instr.sliceBounds
 cases mx <;> cases hi <;> cases lo <;> simp only [kW,kX] at h1 h2 h3 <;> (try (simp at hmh;done)) <;> simp [wHD h1,wHD h2,wHD h3]
theorem wHE {x:Option AOd} {y:Option Operand} {r:Option Nat} (hr:bnd σA x=some r) (hc:wQJ x y=true) (hE:EnvR μ σA σ):y.map (ev σ)=r.map vI:=by
 rcases wNr hr hc hE with ⟨rfl,rfl⟩ | ⟨n,z,rfl,rfl,h1⟩
 ·rfl
 ·simp [h1,vI]
theorem wFR (b off n:Nat):(Addr.add ⟨b,off,none⟩ n)=⟨b,off + n,none⟩:=wDL b off n
theorem wNs {P:Program} {sz:Nat} {a v:AV} {x:Value} {lo hi mx:Option Nat} (hr0:wSO sz a (orD lo 0) hi mx=some v) (hx:Rv μ a x) (hmh:mx.isSome=true->hi.isSome=true) :
  ∃ A len cap cv l hh m,x=.slice A len cap/\Rv μ v cv/\(∀ s w,(Instr.sliceBounds s len cap (lo.map vI) (hi.map vI) (mx.map vI)).run P w=.ok (l,hh,m) w) /\
   cv=.slice (if m=l then A else A.map (·.add (l * sz))) (hh - l) (m - l):=by
 obtain ⟨l,hl,hr⟩:∃ l,lo.getD 0=l/\wSO sz a l hi mx=some v:=⟨_,rfl,by rw [<- wNG];exact hr0⟩
 clear hr0
 unfold wSO at hr
 split at hr
 ·obtain ⟨hb,hr⟩:=wBV hr
  cases hr
  simp only [nA] at hb
  obtain ⟨⟨b1,b2⟩,b3⟩:=hb
  have l0:=nB b1
  have hx:x=.slice none 0 0:=hx
  subst hx
  have h2:hi.getD 0=0:=by cases hi with | none=>rfl | some n=>exact nB b2
  have h3:mx.getD 0=0:=by cases mx with | none=>rfl | some n=>exact nB b3
  refine ⟨none,0,0,_,0,0,0,rfl,(rfl:Rv μ .snil _),fun s w=>wEx h3.symm h2.symm (by rw [hl,l0]) (nE _) (nE _) (nE _) hmh w,by simp⟩
 ·rename_i b off n c
  obtain ⟨d,g1,g2,rfl⟩:=hx
  simp only [wNG] at hr
  obtain ⟨hb,hr⟩:=wBV hr
  cases hr
  simp only [nA,nO] at hb
  obtain ⟨⟨b1,b2⟩,b3⟩:=hb
  refine ⟨_,n,c,_,l,hi.getD n,mx.getD c,rfl,⟨d,g1,by omega,rfl⟩,fun s w=>wEx rfl rfl hl.symm b1 b2 b3 hmh w,?_⟩
  by_cases e:mx.getD c=l
  ·simp [e]
  ·have:nD (mx.getD c) l=false:=by
    cases hq:nD (mx.getD c) l with
    | false=>rfl
    | true=>exact absurd (nB hq) e
   simp [e,this,wFR]
 ·rename_i b eo co n
  obtain ⟨d,g1,g2,rfl⟩:=hx
  simp only [wNG] at hr
  split at hr
  ·obtain ⟨hb,hr⟩:=wBV hr
   simp only [nA,nO] at hb
   obtain ⟨b1,b2⟩:=hb
   have fin:∀ cv,cv=Value.slice (if d.2 - eo=l then some ⟨d.1,co,none⟩ else (some (⟨d.1,co,none⟩:Addr)).map (·.add (l * sz))) (hi.getD n - l) (d.2 - eo - l)->Rv μ v cv ->
     ∃ A len cap cv l hh m,Value.slice (some ⟨d.1,co,none⟩) n (d.2 - eo)=.slice A len cap/\Rv μ v cv/\(∀ s w,(Instr.sliceBounds s len cap (lo.map vI) (hi.map vI) ((none:Option Nat).map vI)).run P w=.ok (l,hh,m) w) /\
      cv=.slice (if m=l then A else A.map (·.add (l * sz))) (hh - l) (m - l):=fun cv e hv =>
    ⟨_,n,d.2 - eo,cv,l,hi.getD n,d.2 - eo,rfl,hv,fun s w=>wEx rfl rfl hl.symm b1 (by simp only [kW];omega) (nE _) hmh w,e⟩
   split at hr
   ·cases hr
    refine fin _ rfl ⟨d,g1,by omega,?_⟩
    simp [Addr.add]
   ·rename_i l0
    split at hr
    ·rename_i hlt
     cases hr
     have hlt:l < n:=by simpa [nJ] using hlt
     refine fin _ rfl ⟨d,g1,by omega,?_⟩
     rw [if_neg (by omega)]
     simp [wFR,Nat.sub_sub]
    ·rename_i hlt
     cases hr
     have hlt:¬ l < n:=by
      intro hq
      have:nl l n=true:=by rw [nJ];exact hq
      rw [this] at hlt;cases hlt
     have e1:hi.getD n - l=0:=by omega
     refine fin _ rfl ?_
     rw [e1]
     by_cases e2:d.2 - eo=l
     ·rw [if_pos e2];exact ⟨d,g1,co,by congr 1;omega⟩
     ·rw [if_neg e2];exact ⟨d,g1,co + l * sz,by simp only [kY,wFR];congr 1;omega⟩
  ·rename_i m
   obtain ⟨hb,hr⟩:=wBV hr
   cases hr
   simp only [nA,nO] at hb
   obtain ⟨⟨b1,b2⟩,b3⟩:=hb
   refine ⟨_,n,d.2 - eo,_,l,hi.getD n,m,rfl,⟨d,g1,by omega,rfl⟩,fun s w=>wEx (mx:=some m) rfl rfl hl.symm b1 b2 (by simp only [kX];omega) hmh w,?_⟩
   by_cases e:m=l
   ·simp [e]
   ·have:nD m l=false:=by
     cases hq:nD m l with
     | false=>rfl
     | true=>exact absurd (nB hq) e
    simp [e,this,wFR]
 ·cases hr
def wQx (P:Program) (sz:Nat) (x:AOd) (lo hi mx:Option AOd):Op->Bool
 | .slice t y l m n=>wEa P t (fun d=>match d with
   | .slice e=>szT P e sz
   | _=>false) && (wBz x y && (wQJ lo l && (wQJ hi m && (wQJ mx n && (!mx.isSome || hi.isSome)))))
 | _=>false
theorem p_slc {sz:Nat} {x:AOd} {lo hi mx:Option AOd} {op:Op} (hc:wQx P sz x lo hi mx op=true):OkP P op (wKP sz x lo hi mx):=by
 intro σA h v h' hr
 unfold wQx at hc
 split at hc
 ·rename_i t y l m n
  simp only [nA] at hc
  obtain ⟨c1,c2,c3,c4,c5,c6⟩:=hc
  obtain ⟨d,d1,d2⟩:=wAp c1
  split at d2
  ·rename_i e
   unfold wKP at hr
   split at hr
   ·rename_i rl rh rm h1 h2 h3
    obtain ⟨hr2,rfl⟩:=wBb hr
    refine ⟨rfl,fun μ σ hE=>?_⟩
    have hmh:rm.isSome=true->rh.isSome=true:=by
     intro hs
     rcases wNr h3 c5 hE with ⟨rfl,_⟩ | ⟨_,z,rfl,rfl,_⟩
     ·cases hs
     ·cases mx with
      | none=>simp [bnd] at h3
      | some _ =>
       cases hi with
       | none=>simp at c6
       | some _ =>
        rcases wNr h2 c4 hE with ⟨rfl,e0⟩ | ⟨_,_,rfl,_⟩
        ·subst e0;simp [wQJ] at c4
        ·rfl
    obtain ⟨A,len,cap,cv,ll,hh,mm,e1,e2,e3,e4⟩:=wNs (P:=P) hr2 (wAR c2 hE) hmh
    refine ⟨cv,e2,fun o w ho=>⟨by rw [ho];rfl,?_⟩⟩
    have b1:=wHE h1 c3 hE
    have b2:=wHE h2 c4 hE
    have b3:=wHE h3 c5 hE
    simp [execOp,ho,Instr.sliceAt,Instr.slice,wAt d1,e1,b1,b2,b3,e3,wDy d2,e4]
   ·cases hr
  ·cases d2
 ·cases hc
def wNt (P:Program) (sz n:Nat) (x:AOd) (lo hi:Option AOd):Op->Bool
 | .slice t y l m none=>wEa P t (fun d=>match d with
   | .array k e=>nD k n && szT P e sz
   | _=>false) && (wBz x y && (wQJ lo l && wQJ hi m))
 | _=>false
theorem wSY {sz n:Nat} {x:AOd} {lo hi:Option AOd} {op:Op} (hc:wNt P sz n x lo hi op=true):OkP P op (wGw sz n x lo hi):=by
 intro σA h v h' hr
 unfold wNt at hc
 split at hc
 ·rename_i t y l m
  simp only [nA] at hc
  obtain ⟨c1,c2,c3,c4⟩:=hc
  obtain ⟨d,d1,d2⟩:=wAp c1
  split at d2
  ·rename_i k e
   simp only [nA] at d2
   have ek:=nB d2.1
   subst ek
   unfold wGw at hr
   split at hr
   ·rename_i rl rh b off h1 h2 hb
    obtain ⟨hr2,rfl⟩:=wBb hr
    refine ⟨rfl,fun μ σ hE=>?_⟩
    have g:=wAR c2 hE;rw [hb] at g
    obtain ⟨c,g1,g2⟩:=g
    obtain ⟨A,len,cap,cv,ll,hh,mm,e1,e2,e3,e4⟩:=wNs (P:=P) (μ:=μ) (x:=.slice (some ⟨c.1,off,none⟩) k k) hr2 ⟨c,g1,nE _,rfl⟩ (by intro hs;cases hs)
    cases e1
    refine ⟨cv,e2,fun o w ho=>⟨by rw [ho];rfl,?_⟩⟩
    have b1:=wHE h1 c3 hE
    have b2:=wHE h2 c4 hE
    have e3':=e3 false
    simp only [Option.map_none] at e3'
    simp [execOp,ho,Instr.sliceAt,wAt d1,g2,Instr.sureAddr,b1,b2,e3',wDy d2.2,e4]
    split <;> simp
   ·cases hr
  ·cases d2
 ·cases hc
end
end
end Go.KX
namespace Go.KX
noncomputable section
open Go.RowKit Go.KL
section
variable {C:Chk} {P:Program} {μ μ':Mu} {w w':World} {h h':AH} {σ:Env} {σA:Tr AV} {t e:TypeId} {o:Oper}
def wJR (place:Nat->Option (Nat × Nat)):List (Nat × Nat × AOd)->List (Nat × Operand)->Bool
 | [],[]=>true
 | (off,n,x) :: ps,(i,y) :: qs=>(match place i with | some (o,s)=>nD o off && nD s n | none=>false) && (wBz x y && wJR place ps qs)
 | _,_=>false
theorem wHF {place:Nat->Option (Nat × Nat)} (hE:EnvR μ σA σ):∀ {ps:List (Nat × Nat × AOd)} {qs:List (Nat × Operand)} {cs r:List AV} {CS:List Value},wIW σA cs ps=some r->wJR place ps qs=true->RvL μ cs CS ->
  ∃ R,lay place CS (qs.map fun (p:Nat × Operand)=>(p.1,ev σ p.2))=some R/\RvL μ r R/\R.length=CS.length
 | [],[],cs,r,CS,hr,_,hl=>by
  simp only [wIW] at hr;cases hr;exact ⟨CS,rfl,hl,rfl⟩
 | (off,n,x) :: ps,(i,y) :: qs,cs,r,CS,hr,hc,hl=>by
  simp only [wJR,nA] at hc
  obtain ⟨c1,c2,c3⟩:=hc
  split at c1
  ·rename_i o s hp
   simp only [nA] at c1
   have e1:=nB c1.1
   have e2:=nB c1.2
   subst e1 e2
   simp only [wIW] at hr
   split at hr
   ·rename_i hn
    have hn:=nB hn
    split at hr
    ·rename_i cs' ho
     obtain ⟨vs,v1,v2⟩:=wGa (wAR c2 hE)
     obtain ⟨g1,g2⟩:=wIa ho hl v1
     have hlen:vs.length=s:=by rw [wDG v1,<- wEl,hn]
     obtain ⟨R,r1,r2,r3⟩:=wHF hE hr c3 g2
     refine ⟨R,?_,r2,by rw [r3,wBm]⟩
     rw [nG,lay,hp]
     simp only [v2,kS,hlen,beq_self_eq_true,Bool.true_and]
     rw [if_pos (by rw [nO];omega)]
     exact r1
    ·cases hr
   ·cases hr
  ·cases c1
 | [],_ :: _,cs,r,CS,hr,hc,hl=>by simp [wJR] at hc
 | _ :: _,[],cs,r,CS,hr,hc,hl=>by simp [wJR] at hc
def plL (P:Program):List Field->Option (List (Nat × Nat))
 | []=>some []
 | f :: fs=>match P.info? f.type,plL P fs with
  | some i,some l=>some ((f.offset,i.size) :: l)
  | _,_=>none
theorem wSZ:∀ {fs:List Field} {pl:List (Nat × Nat)},plL P fs=some pl->wQC P fs.toArray pl:=by
 intro fs pl hp w
 rw [List.mapM_toArray]
 have key:∀ (fs:List Field) (pl:List (Nat × Nat)),plL P fs=some pl->((fs.mapM fun f=>do pure (f.offset,<- sizeOf f.type):Sem (List (Nat × Nat)))).run P w=.ok pl w:=by
  intro fs
  induction fs with
  | nil=>intro pl hp;cases hp;simp
  | cons f fs ih =>
   intro pl hp
   unfold plL at hp
   split at hp
   ·rename_i i l h1 h2
    cases hp
    have hs:(sizeOf f.type).run P w=.ok i.size w:=by simp [sizeOf,typeInfo,h1]
    simp only [List.mapM_cons,Sem.run_bind,hs,Result.andThen_ok,Sem.run_pure,ih l h2]
   ·cases hp
 have:=key fs pl hp
 simp only [Sem.run_map,this,Result.andThen_ok]
def wQy (P:Program) (z:List AV) (ps:List (Nat × Nat × AOd)):Op->Bool
 | .build t qs=>zT P t z && wEa P t (fun d=>match d with
   | .struct fs=>match plL P fs.toList with
    | some pl=>wJR (fun i=>pl[i]?) ps qs.toList
    | none=>false
   | .array _ e=>match P.info? e with
    | some j=>wJR (fun i=>some (i * j.size,j.size)) ps qs.toList
    | none=>false
   | _=>false)
 | _=>false
theorem p_bld {z:List AV} {ps:List (Nat × Nat × AOd)} {op:Op} (hc:wQy P z ps op=true):OkP P op (wNT z ps):=by
 intro σA h v h' hr
 unfold wQy at hc
 split at hc
 ·rename_i t qs
  simp only [nA] at hc
  obtain ⟨c1,c2⟩:=hc
  obtain ⟨hr2,rfl⟩:=wBb hr
  obtain ⟨r,hr3,rfl⟩:=wDr hr2
  obtain ⟨i,zv,z1,z2,z3⟩:=wFQ c1
  obtain ⟨d,d1,d2⟩:=wAp c2
  refine ⟨rfl,fun μ σ hE=>?_⟩
  split at d2
  ·rename_i fs
   split at d2
   ·rename_i pl hpl
    obtain ⟨R,r1,r2,_⟩:=wHF hE hr3 d2 (z3 μ)
    refine ⟨_,⟨R,r2,rfl⟩,fun o w ho=>?_⟩
    exact Runs.build (P:=P) (ps:=qs.toList) (z:=zv.cells.toList) ho rfl (wDz z1 z2) ⟨fs,wAt d1,wSZ hpl⟩ (by simp) r1
   ·cases d2
  ·rename_i n e
   split at d2
   ·rename_i j hj
    obtain ⟨R,r1,r2,_⟩:=wHF hE hr3 d2 (z3 μ)
    refine ⟨_,⟨R,r2,rfl⟩,fun o w ho=>?_⟩
    exact Runs.buildA (P:=P) (ps:=qs.toList) (z:=zv.cells.toList) ho rfl (wDz z1 z2) (wAt d1) (fun w=>by simp [sizeOf,typeInfo,hj]) (by simp) r1
   ·cases d2
  ·cases d2
 ·cases hc
def wMT (P:Program) (b:Builtin) (x:AOd):Op->Bool
 | .call c=>match c.callee with
  | .builtin b'=>(b' == b) && (match c.args.toList,c.argTypes.toList with
   | [y],[t]=>wEa P t (fun d=>match d with | .slice _=>true | _=>false) && wBz x y
   | _,_=>false)
  | _=>false
 | _=>false
theorem wLW {b:Builtin} {x:AOd} {op:Op} (hc:wMT P b x op=true):∃ y t e,op=.call { callee:=.builtin b,args:=#[y],argTypes:=#[t] }/\P.underlying t=some (.slice e)/\wBz x y=true:=by
 unfold wMT at hc
 split at hc
 ·rename_i c
  obtain ⟨ce,args,tys⟩:=c
  simp only at hc
  split at hc
  ·rename_i b'
   simp only [nA,beq_iff_eq] at hc
   obtain ⟨rfl,h2⟩:=hc
   split at h2
   ·rename_i y t h3 h4
    simp only [nA] at h2
    obtain ⟨d,d1,d2⟩:=wAp h2.1
    cases d <;> first | (cases d2;done) | skip
    refine ⟨y,t,_,?_,d1,h2.2⟩
    congr 2
    ·exact nH (by simpa using h3)
    ·exact nH (by simpa using h4)
   ·cases h2
  ·cases hc
 ·cases hc
theorem p_len {x:AOd} {op:Op} (hc:wMT P .len x op=true):OkP P op (wKV x):=by
 intro σA h v h' hr
 obtain ⟨y,t,e,rfl,d1,c2⟩:=wLW hc
 unfold wKV at hr
 split at hr <;> cases hr <;> rename_i hb
 ·refine ⟨rfl,fun μ σ hE=>⟨_,rfl,fun o w ho=>?_⟩⟩
  have g:=wAR c2 hE;rw [hb] at g
  exact Runs.len ho g (wAt d1)
 ·refine ⟨rfl,fun μ σ hE=>⟨_,rfl,fun o w ho=>?_⟩⟩
  have g:=wAR c2 hE;rw [hb] at g
  obtain ⟨c,_,_,g⟩:=g
  exact Runs.len ho g (wAt d1)
 ·refine ⟨rfl,fun μ σ hE=>⟨_,rfl,fun o w ho=>?_⟩⟩
  have g:=wAR c2 hE;rw [hb] at g
  obtain ⟨c,_,_,g⟩:=g
  exact Runs.len ho g (wAt d1)
 ·refine ⟨rfl,fun μ σ hE=>⟨_,rfl,fun o w ho=>?_⟩⟩
  have g:=wAR c2 hE;rw [hb] at g
  obtain ⟨c,_,q,g⟩:=g
  exact Runs.len ho g (wAt d1)
theorem Runs.cap {t e:TypeId} {x:Operand} {a:Option Addr} {n c:Nat} (ho:o.op=.call { callee:=.builtin .cap,args:=#[x],argTypes:=#[t] }) (hx:ev σ x=.slice a n c)
  (ht:∀ w,(underlying t).run P w=.ok (.slice e) w):Runs P σ w o (.int .i64 c) w :=
 ⟨by rw [ho];rfl,by simp [execOp,ho,resolve,invoke,builtin,Builtin.cap_,hx,ht,goInt]⟩
theorem p_cap {x:AOd} {op:Op} (hc:wMT P .cap x op=true):OkP P op (wKW x):=by
 intro σA h v h' hr
 obtain ⟨y,t,e,rfl,d1,c2⟩:=wLW hc
 unfold wKW at hr
 split at hr <;> cases hr <;> rename_i hb
 ·refine ⟨rfl,fun μ σ hE=>⟨_,rfl,fun o w ho=>?_⟩⟩
  have g:=wAR c2 hE;rw [hb] at g
  exact Runs.cap ho g (wAt d1)
 ·refine ⟨rfl,fun μ σ hE=>⟨_,rfl,fun o w ho=>?_⟩⟩
  have g:=wAR c2 hE;rw [hb] at g
  obtain ⟨c,_,_,g⟩:=g
  exact Runs.cap ho g (wAt d1)
def wSC (b:Builtin) (x y:AOd):Op->Bool
 | .call c=>match c.callee with
  | .builtin b'=>(b' == b) && (match c.args.toList with
   | [x',y']=>wBz x x' && wBz y y'
   | _=>false)
  | _=>false
 | _=>false
theorem wNu {b:Builtin} {x y:AOd} {op:Op} (hc:wSC b x y op=true):∃ x' y' tys,op=.call { callee:=.builtin b,args:=#[x',y'],argTypes:=tys }/\wBz x x'=true/\wBz y y'=true:=by
 unfold wSC at hc
 split at hc
 ·rename_i c
  obtain ⟨ce,args,tys⟩:=c
  simp only at hc
  split at hc
  ·rename_i b'
   simp only [nA,beq_iff_eq] at hc
   obtain ⟨rfl,h2⟩:=hc
   split at h2
   ·rename_i x' y' h3
    simp only [nA] at h2
    refine ⟨x',y',tys,?_,h2.1,h2.2⟩
    congr 2
    exact nH (by simpa using h3)
   ·cases h2
  ·cases hc
 ·cases hc
theorem p_min {x y:AOd} {op:Op} (hc:wSC .min x y op=true):OkP P op (wNU x y):=by
 intro σA h v h' hr
 obtain ⟨x',y',tys,rfl,c1,c2⟩:=wNu hc
 obtain ⟨hr2,rfl⟩:=wBb hr
 split at hr2
 ·rename_i a b e1 e2
  cases hr2
  refine ⟨rfl,fun μ σ hE=>⟨_,rfl,fun o w ho=>?_⟩⟩
  have g1:=wAR c1 hE;rw [e1] at g1
  have g2:=wAR c2 hE;rw [e2] at g2
  refine (Runs.min ho g1 g2).to ?_
  have:(match zlt b a with | true=>b | false=>a)=Min.min a b:=by
   rw [wHB,Int.min_def]
   by_cases hq:b < a
   ·simp [hq,Int.not_le.2 hq]
   ·simp [hq,Int.not_lt.1 hq]
  exact congrArg (nq .i64) this.symm
 ·cases hr2
theorem p_max {x y:AOd} {op:Op} (hc:wSC .max x y op=true):OkP P op (wNV x y):=by
 intro σA h v h' hr
 obtain ⟨x',y',tys,rfl,c1,c2⟩:=wNu hc
 obtain ⟨hr2,rfl⟩:=wBb hr
 split at hr2
 ·rename_i a b e1 e2
  cases hr2
  refine ⟨rfl,fun μ σ hE=>⟨_,rfl,fun o w ho=>?_⟩⟩
  have g1:=wAR c1 hE;rw [e1] at g1
  have g2:=wAR c2 hE;rw [e2] at g2
  refine (Runs.max ho g1 g2).to ?_
  have:(match zlt a b with | true=>b | false=>a)=Max.max a b:=by
   rw [wHB,Int.max_def]
   by_cases hq:a < b
   ·simp [hq,Int.le_of_lt hq]
   ·by_cases hq2:a <= b
    ·have:a=b:=by omega
     simp [this]
    ·simp [hq,hq2]
  exact congrArg (nq .i64) this.symm
 ·cases hr2
def OkL (C:Chk) (P:Program) (op:Op) (f:Tr AV->AH->Option (AV × AH)):Prop :=
 ∀ σA h v h',f σA h=some (v,h')->h'=h/\∀ μ σ w,EnvR μ σA σ->Sim C P μ h w->∃ cv,Rv μ v cv/\∀ (o:Oper),o.op=op->wFC P σ w o cv
theorem wEy {b:Pos} {l:List AV} (hr:wDp h b=some l) (S:Sim C P μ h w):∃ c vs,μ b=some c/\RvL μ l vs/\∀ w',Keep w w' Non->∀ j v,vs[j]?=some v->w'.cell? ⟨c.1,j,none⟩=some v:=by
 unfold wDp at hr
 split at hr
 ·rename_i B hB
  obtain ⟨c,h1,h2⟩:=S.at_ b B hB
  cases B <;> simp only [wLO] at hr <;> first | (cases hr;done) | cases hr
  ·obtain ⟨vs,h3,h4⟩:=h2
   exact ⟨c,vs,h1,h3,fun w' K j v hv=>(h4.non K).cell hv⟩
  ·obtain ⟨vs,h3,h4⟩:=h2
   refine ⟨c,vs,h1,h3,fun w' K j v hv=>?_⟩
   obtain ⟨cur,g1,g2,g3,g4,g5⟩:=RowAt.cells h4
   have g1':=(K.block _ (wAc g1) id).trans g1
   have:cur.toList[j]?=some v:=by
    rw [<- g5,kQ] at hv
    split at hv
    ·exact hv
    ·cases hv
   simp only [World.cell?,g1']
   simpa using this
 ·cases hr
def wSa (P:Program) (x:AOd):Op->Bool
 | .load t y=>wPQ P t false && wBz x y
 | _=>false
theorem l_ld {x:AOd} {op:Op} (hc:wSa P x op=true):OkL C P op (wOz x):=by
 intro σA h v h' hr
 unfold wSa at hc
 split at hc
 ·simp only [nA] at hc
  unfold wOz at hr
  split at hr
  ·rename_i b off hb
   split at hr
   ·rename_i l hl
    obtain ⟨hr2,rfl⟩:=wBb hr
    refine ⟨rfl,fun μ σ w hE S=>?_⟩
    obtain ⟨c,vs,h1,h2,h3⟩:=wEy hl S
    have g:=wAR hc.2 hE;rw [hb] at g
    obtain ⟨c',g1,g2⟩:=g
    rw [h1] at g1;cases g1
    rw [wGV] at hr2
    obtain ⟨cv,g3,g4⟩:=wFO h2 hr2
    exact ⟨cv,g4,fun o ho w' K=>Runs.ld ho g2 (wEm hc.1) (h3 w' K _ _ g3)⟩
   ·cases hr
  ·cases hr
 ·cases hc
def wNv (P:Program) (n:Nat) (x:AOd):Op->Bool
 | .load t y=>(wPQ P t true && szT P t n) && wBz x y
 | _=>false
theorem l_ldA {n:Nat} {x:AOd} {op:Op} (hc:wNv P n x op=true):OkL C P op (wHi n x):=by
 intro σA h v h' hr
 unfold wNv at hc
 split at hc
 ·simp only [nA] at hc
  unfold wHi at hr
  split at hr
  ·rename_i b off hb
   split at hr
   ·rename_i l hl
    obtain ⟨hr2,rfl⟩:=wBb hr
    obtain ⟨r,hr3,rfl⟩:=wDr hr2
    refine ⟨rfl,fun μ σ w hE S=>?_⟩
    obtain ⟨c,vs,h1,h2,h3⟩:=wEy hl S
    have g:=wAR hc.2 hE;rw [hb] at g
    obtain ⟨c',g1,g2⟩:=g
    rw [h1] at g1;cases g1
    obtain ⟨g3,g4⟩:=wFP hr3 h2
    refine ⟨_,⟨_,g3,rfl⟩,fun o ho w' K=>Runs.ldA ho g2 (wEm hc.1.1) (wDy hc.1.2) (by simp;omega) fun j u hu=>?_⟩
    exact h3 w' K _ _ (wEh rfl j u hu)
   ·cases hr
  ·cases hr
 ·cases hc
def OkE (C:Chk) (P:Program) (op:Op) (f:Tr AV->AH->Option (AV × AH)):Prop :=
 ∀ σA h v h',f σA h=some (v,h')->∀ μ σ w,EnvR μ σA σ->Sim C P μ h w->∀ (o:Oper),o.op=op->∃ μ' w' cv,Ext μ h.fl.nat w μ' w'/\Sim C P μ' h' w'/\Rv μ' v cv/\h'.fl=h.fl/\Runs P σ w o cv w'
def OkU (C:Chk) (P:Program) (op:Op) (f:Tr AV->AH->Option (AV × AH)):Prop :=
 ∀ σA h v h',f σA h=some (v,h')->∀ μ σ w,EnvR μ σA σ->Sim C P μ h w->∀ (o:Oper),o.op=op->∃ μ' w',Ext μ h.fl.nat w μ' w'/\Sim C P μ' h' w'/\v=u/\h'.fl=h.fl/\Does P σ w o w'
theorem OkP.toL {op:Op} {f:Tr AV->AH->Option (AV × AH)} (hp:OkP P op f):OkL C P op f:=by
 intro σA h v h' hr
 obtain ⟨h1,h2⟩:=hp σA h v h' hr
 exact ⟨h1,fun μ σ w hE _=>let ⟨cv,g1,g2⟩:=h2 μ σ hE;⟨cv,g1,fun o ho w' _=>g2 o w' ho⟩⟩
theorem OkL.toE {op:Op} {f:Tr AV->AH->Option (AV × AH)} (hp:OkL C P op f):OkE C P op f:=by
 intro σA h v h' hr μ σ w hE S o ho
 obtain ⟨rfl,h2⟩:=hp σA h v h' hr
 obtain ⟨cv,g1,g2⟩:=h2 μ σ w hE S
 exact ⟨μ,w,cv,Ext.refl μ _ w,S,g1,rfl,g2 o ho w (Keep.refl w _)⟩
theorem wFo {T:TypeId} {z:List AV} {cs:List Value} (S:Sim C P μ h w) (hz:RvL μ z cs):∃ μ',Ext μ h.fl.nat w μ' (w.alloc (.cells cs.toArray T))/\Sim C P μ' (h.push (.cells T z)) (w.alloc (.cells cs.toArray T))/\(h.push (.cells T z)).fl=h.fl/\μ' h.nx=some ⟨w.heap.size,0,g0⟩:=by
 have hle:=Mu.add_le (c:=⟨w.heap.size,0,g0⟩) (S.nx h.nx (nE _))
 obtain ⟨h1,h2,h3,h4⟩:=S.push (w':=w.alloc (.cells cs.toArray T)) (c:=⟨w.heap.size,0,g0⟩) (B:=.cells T z) (wBD w _) (nE _) (by rw [wHx];exact Nat.lt_succ_self _) ⟨cs,hz.mono hle,wEf w cs T⟩
 exact ⟨_,h2,h1,h3,h4⟩
def wNw (P:Program) (T:Nat) (z:List AV):Op->Bool
 | .alloc t=>nD T t && zT P t z
 | _=>false
theorem e_new {T:Nat} {z:List AV} {op:Op} (hc:wNw P T z op=true):OkE C P op (wQd T z):=by
 intro σA h v h' hr μ σ w hE S o ho
 cases hr
 unfold wNw at hc
 split at hc
 ·simp only [nA] at hc
  have e:=nB hc.1
  subst e
  obtain ⟨i,zv,z1,z2,z3⟩:=wFQ hc.2
  obtain ⟨μ',h1,h2,h3,h4⟩:=wFo (T:=T) S (z3 μ)
  refine ⟨μ',_,_,h1,h2,⟨_,h4,rfl⟩,h3,by rw [ho];rfl,?_⟩
  simp [execOp,ho,Instr.alloc,wDz z1 z2,newVar,newRow,newObj,Sem.run]
 ·cases hc
def wNx (T:Nat) (x:AOd):Op->Bool
 | .box t y=>nD T t && wBz x y
 | _=>false
theorem e_box {T:Nat} {x:AOd} {op:Op} (hc:wNx T x op=true):OkE C P op (wMM T x):=by
 intro σA h v h' hr μ σ w hE S o ho
 cases hr
 unfold wNx at hc
 split at hc
 ·simp only [nA] at hc
  have e:=nB hc.1
  subst e
  obtain ⟨vs,v1,v2⟩:=wGa (wAR hc.2 hE)
  obtain ⟨μ',h1,h2,h3,h4⟩:=wFo (T:=T) S v1
  refine ⟨μ',_,_,h1,h2,⟨_,h4,rfl⟩,h3,by rw [ho];rfl,?_⟩
  simp [execOp,ho,Instr.box,newVar,newRow,newObj,v2,Sem.run]
 ·cases hc
theorem wQz (S:Sim C P μ h w):∃ μ',Ext μ h.fl.nat w μ' (w.alloc (.map #[] 0))/\Sim C P μ' (h.push .map0) (w.alloc (.map #[] 0))/\(h.push .map0).fl=h.fl/\μ' h.nx=some ⟨w.heap.size,0,g0⟩:=by
 obtain ⟨h1,h2,h3,h4⟩:=S.push (w':=w.alloc (.map #[] 0)) (c:=⟨w.heap.size,0,g0⟩) (B:=.map0) (wBD w _) (nE _) (by rw [wHx];exact Nat.lt_succ_self _) ⟨0,heap_alloc_new w _⟩
 exact ⟨_,h2,h1,h3,h4⟩
def wNy:Op->Bool
 | .makeMap _ none=>true
 | _=>false
theorem e_mkm {op:Op} (hc:wNy op=true):OkE C P op wQe:=by
 intro σA h v h' hr μ σ w hE S o ho
 cases hr
 unfold wNy at hc
 split at hc
 ·obtain ⟨μ',h1,h2,h3,h4⟩:=wQz S
  refine ⟨μ',_,_,h1,h2,⟨_,h4,rfl⟩,h3,by rw [ho];rfl,?_⟩
  simp [execOp,ho,Instr.makeMap,newObj,Sem.run,Result.andThen]
 ·cases hc
theorem wFS {zc:Array Value} {n:Nat}:∀ c,((nU (c * zc.size)).map (zc[· % zc.size]!)).toList=(nN c zc.toList).flatten \/ False:=by
 intro c
 left
 induction c with
 | zero=>simp
 | succ c ih =>
  rw [kV,Array.toList_range] at ih ⊢
  rw [Nat.succ_mul,List.range_add,List.map_append,ih,List.replicate_succ',List.flatten_append]
  congr 1
  simp only [List.map_map,List.flatten_singleton]
  apply List.ext_getElem
  ·simp
  ·intro i h1 h2
   simp at h1
   simp [Nat.add_mul_mod_self_right,Nat.mod_eq_of_lt h1,Nat.add_comm (c * zc.size) i,h1]
def wNz (P:Program) (T sz by_:Nat) (z:List AV) (x y:AOd):Op->Bool
 | .makeSlice t x' y'=>wEa P t (fun d=>match d with | .slice e=>nD e T | _=>false) && (szT P T sz && (byT P T by_ && (zT P T z && (nD (len z) sz && (wBz x x' && wBz y y')))))
 | _=>false
theorem e_mks {T sz by_:Nat} {z:List AV} {x y:AOd} {op:Op} (hc:wNz P T sz by_ z x y op=true):OkE C P op (wGv T sz by_ z x y):=by
 intro σA h v h' hr μ σ w hE S o ho
 unfold wNz at hc
 split at hc
 ·rename_i t x' y'
  simp only [nA] at hc
  obtain ⟨c1,c2,c3,c4,c5,c6,c7⟩:=hc
  obtain ⟨d,d1,d2⟩:=wAp c1
  split at d2 <;> first | (cases d2;done) | skip
  have e:=nB d2
  subst e
  rename_i e
  obtain ⟨i,i1,i2⟩:=wGc c2
  obtain ⟨i',j1,j2⟩:=wGd c3
  obtain ⟨i'',zv,k1,k2,k3⟩:=wFQ c4
  rw [i1] at j1 k1;cases j1;cases k1
  have hz:=nB c5
  unfold wGv at hr
  split at hr
  ·rename_i l c hl hcc
   obtain ⟨hb,hr⟩:=wBV hr
   cases hr
   simp only [nA,nO] at hb
   obtain ⟨⟨⟨b1,b2⟩,b3⟩,b4⟩:=hb
   have hx:=wAR c6 hE;rw [wBy hl] at hx
   have hy:=wAR c7 hE;rw [wBy hcc] at hy
   have hx:ev σ x'=.int .i64 (l:Int):=hx
   have hy:ev σ y'=.int .i64 (c:Int):=hy
   have zlen:zv.cells.size=sz:=by rw [<- hz,wEl,<- wDG (k3 μ)];simp
   have hrun:=run_makeSlice (P:=P) w t e i zv d1 i1 k2 .i64 .i64 (l:Int) (c:Int) (by omega) (by omega) (by rw [i2,ni];exact b2) (by rw [j2];have hb:=Int.ofNat_le.2 b3;rw [Int.natCast_mul] at hb;exact hb) (by omega)
   simp only [ni,i2] at hrun
   have hcells:(madeCells zv.cells (c * sz))=((nN c zv.cells.toList).flatten).toArray:=by
    apply nH
    have:=wFS (zc:=zv.cells) (n:=0) c
    simp only [or_false] at this
    rw [zlen] at this
    show ((nU (c * sz)).map (zv.cells[· % zv.cells.size]!)).toList=_
    rw [zlen,this]
   rw [hcells] at hrun
   obtain ⟨μ',h1,h2,h3,h4⟩:=wFo (T:=e) S (wHA (k3 μ) c)
   refine ⟨μ',_,_,h1,h2,⟨_,h4,b1,rfl⟩,h3,by rw [ho];rfl,?_⟩
   simp [execOp,ho,hx,hy,hrun,Result.andThen]
  ·cases hr
 ·cases hc
def wJS (P:Program) (T n:Nat) (z:List AV) (ps:List (Nat × Nat × AOd)):Op->Bool
 | .buildSlice t m qs=>nD m n && (wEa P t (fun d=>match d with | .slice e=>nD e T | _=>false) && (match P.info? T with
   | some i=>Nat.ble (n * i.size) 16777216 && (wJR (fun k=>some (k * i.size,i.size)) ps qs.toList && (match i.zero with
    | some v=>wPP z ((kZ (n * i.size)).map fun k=>v.cells[k % v.cells.size]!)
    | none=>false))
   | none=>false))
 | _=>false
theorem wSb {T n:Nat} {z:List AV} {ps:List (Nat × Nat × AOd)} {op:Op} (hc:wJS P T n z ps op=true):OkE C P op (wEi T n z ps):=by
 intro σA h v h' hr μ σ w hE S o ho
 unfold wJS at hc
 split at hc
 ·rename_i t m qs
  simp only [nA] at hc
  obtain ⟨c1,c2,c3⟩:=hc
  have e:=nB c1
  subst e
  obtain ⟨d,d1,d2⟩:=wAp c2
  split at d2 <;> first | (cases d2;done) | skip
  have e:=nB d2
  subst e
  rename_i e
  split at c3
  ·rename_i i hi
   simp only [nA,nO] at c3
   obtain ⟨c3,c4,c5⟩:=c3
   split at c5
   ·rename_i zv hz
    unfold wEi at hr
    split at hr
    ·rename_i r hr3
     cases hr
     obtain ⟨R,r1,r2,r3⟩:=wHF hE hr3 c4 (wGG μ c5)
     have hf:=wDo _ _ _ _ r1
     obtain ⟨μ',h1,h2,h3,h4⟩:=wFo (T:=e) S r2
     refine ⟨μ',_,_,h1,h2,⟨_,h4,nE _,rfl⟩,h3,by rw [ho];rfl,?_⟩
     have hs:∀ w,(sizeOf e).run P w=.ok i.size w:=fun w=>by simp [sizeOf,typeInfo,hi]
     have hn':¬ m * i.size > 2 ^ 24:=by omega
     have hq:(qs.map fun (p:Nat × Operand)=>(p.1,ev σ p.2)).toList=qs.toList.map fun (p:Nat × Operand)=>(p.1,ev σ p.2):=by simp
     by_cases h0:m * i.size=0
     ·rw [h0] at hf
      simp only [List.range_zero,nz] at hf
      have hr0:(nU 0).map (fun x=>(#[]:Array Value)[x % (#[]:Array Value).size]!)=#[]:=by rw [show (nU 0)=#[] from rfl,Array.map_empty]
      have hn0:¬ (0:Nat) > 2 ^ 24:=by decide
      simp only [execOp,ho,Instr.buildSlice,Sem.run_bind,wAt d1,hs,Result.andThen_ok,h0,if_neg hn0,if_true,Sem.run_pure,hq,hr0,hf]
      simp [newRow,newObj,Sem.run,Result.andThen]
     ·have hzs:(nU (m * i.size)).map (zv.cells[· % zv.cells.size]!)=((kZ (m * i.size)).map fun k=>zv.cells[k % zv.cells.size]!).toArray:=by rw [<- kR,List.map_toArray]
      simp only [execOp,ho,Instr.buildSlice,Sem.run_bind,wAt d1,hs,wDz hi hz,Result.andThen_ok,if_neg hn',if_neg h0,Sem.run_pure,hq,hzs,hf]
      simp [newRow,newObj,Sem.run,Result.andThen]
    ·cases hr
   ·cases c5
  ·cases c3
 ·cases hc
end
end
end Go.KX
namespace Go.KX
noncomputable section
open Go.RowKit Go.KL
section
variable {C:Chk} {P:Program} {μ μ':Mu} {w w':World} {h h':AH} {σ:Env} {σA:Tr AV} {t e:TypeId} {o:Oper}
theorem wFp {b:Pos} {off:Nat} {vs:List AV} {VS:List Value} {c:Cl} (hr:setAt h b off vs=some h') (S:Sim C P μ h w) (hv:RvL μ vs VS) (h1:∀ v ∈ VS,one v=true) (hc:μ b=some c) :
  ∃ w',(storeCells ⟨c.1,off,none⟩ VS).run P w=.ok () w'/\Sim C P μ h' w'/\Ext μ h.fl.nat w μ w'/\h'.fl=h.fl:=by
 unfold setAt at hr
 split at hr
 ·rename_i T l hB
  split at hr
  ·rename_i l' hl
   obtain ⟨c',g1,vs0,g2,g3⟩:=S.at_ b _ hB
   rw [hc] at g1;cases g1
   obtain ⟨k1,k2⟩:=wIa hl g2 hv
   obtain ⟨w',q1,q2,q3,q4⟩:=wCZ (P:=P) off VS 0 vs0 w g3 k1 h1
   obtain ⟨s1,s2,s3⟩:=S.put hr hB trivial hc q3 (B':=.cells T l') ⟨_,k2,q2⟩
   exact ⟨w',q1,s1,s2,s3⟩
  ·cases hr
 ·rename_i T sz l hB
  split at hr
  ·rename_i l' hl
   obtain ⟨c',g1,vs0,g2,g3⟩:=S.at_ b _ hB
   rw [hc] at g1;cases g1
   obtain ⟨k1,k2⟩:=wIa hl g2 hv
   obtain ⟨cur,r1,r2,r3,r4,r5⟩:=RowAt.cells g3
   have hB':Blk w c.1 T cur.toList:=by unfold Blk;rw [r1]
   have hcl:vs0.length <= cur.toList.length:=by rw [<- r5];simp;omega
   obtain ⟨w',q1,q2,q3,q4⟩:=wCZ (P:=P) off VS 0 cur.toList w hB' (by omega) h1
   obtain ⟨s1,s2,s3⟩:=S.put hr hB trivial hc q3 (B':=.row T sz l') ⟨_,k2,.inr ⟨c.1,(wEV cur.toList (off + 0) VS).toArray,rfl,q2,by rw [wBm];exact r2,r3,by simp [wBm,r4],by
    rw [wBm,Nat.add_zero]
    show (wEV cur.toList off VS).take vs0.length=_
    rw [wGp _ _ _ _ k1,r5]⟩⟩
   exact ⟨w',q1,s1,s2,s3⟩
  ·cases hr
 ·cases hr
def c_st (P:Program) (n:Nat) (x y:AOd):Op->Bool
 | .store t x' y'=>szT P t n && (wBz x x' && wBz y y')
 | _=>false
theorem u_st {n:Nat} {x y:AOd} {op:Op} (hc:c_st P n x y op=true):OkU C P op (wQD n x y):=by
 intro σA h v h' hr μ σ w hE S o ho
 unfold c_st at hc
 split at hc
 ·rename_i t x' y'
  simp only [nA] at hc
  obtain ⟨c1,c2,c3⟩:=hc
  unfold wQD at hr
  split at hr
  ·rename_i b off hb
   split at hr
   ·rename_i hk
    simp only [nA] at hk
    split at hr
    ·rename_i h1 hs
     cases hr
     have g:=wAR c2 hE;rw [hb] at g
     obtain ⟨c,g1,g2⟩:=g
     obtain ⟨VS,v1,v2⟩:=wGa (wAR c3 hE)
     obtain ⟨w',q1,q2,q3,q4⟩:=wFp hs S v1 (wEO v1 hk.2) g1
     have hn:=nB hk.1
     have hlen:VS.length=n:=by rw [wDG v1,<- wEl,hn]
     refine ⟨μ,w',q3,q2,rfl,q4,by rw [ho];rfl,?_⟩
     simp [execOp,ho,Instr.storeAt,g2,Instr.sureAddr,storeVar,v2,wDy c1,hlen,q1]
    ·cases hr
   ·cases hr
  ·cases hr
 ·cases hc
theorem wId {sz m:Nat} {a:AV} {l:List AV} {y:Value} (hr:slice h sz a=some (m,l)) (S:Sim C P μ h w) (hy:Rv μ a y) :
  ∃ A c VS,y=.slice A m c/\RvL μ l VS/\VS.length=m * sz/\(m=0 \/ ∃ ad,A=some ad/\∀ j u,VS[j]?=some u->w.cell? (ad.add j)=some u):=by
 have key:∀ (b:Pos) (off m:Nat) (c:Cl) (l0 r:List AV),μ b=some c->wDp h b=some l0->sub l0 off (m * sz)=some r->∃ VS,RvL μ r VS/\VS.length=m * sz/\∀ j u,VS[j]?=some u->w.cell? ((⟨c.1,off,none⟩:Addr).add j)=some u:=by
  intro b off m c l0 r hc hl hs
  obtain ⟨c',vs,h1,h2,h3⟩:=wEy hl S
  rw [hc] at h1;cases h1
  obtain ⟨g1,g2⟩:=wFP hs h2
  exact ⟨_,g1,by simp;omega,fun j u hu=>by rw [wFR];exact h3 w (Keep.refl w _) _ _ (wEh rfl j u hu)⟩
 unfold slice at hr
 split at hr
 ·cases hr
  have hy:y=.slice none 0 0:=hy
  exact ⟨none,0,[],hy,rfl,by simp,.inl rfl⟩
 ·cases hr
  obtain ⟨d,_,q,rfl⟩:=hy
  exact ⟨_,_,[],rfl,rfl,by simp,.inl rfl⟩
 ·split at hr
  ·rename_i l0 hl
   split at hr
   ·rename_i r hs
    cases hr
    obtain ⟨d,h1,_,rfl⟩:=hy
    obtain ⟨VS,v1,v2,v3⟩:=key _ _ _ _ _ _ h1 hl hs
    exact ⟨_,_,VS,rfl,v1,v2,.inr ⟨_,rfl,v3⟩⟩
   ·cases hr
  ·cases hr
 ·split at hr
  ·rename_i l0 hl
   split at hr
   ·rename_i r hs
    cases hr
    obtain ⟨d,h1,_,rfl⟩:=hy
    obtain ⟨VS,v1,v2,v3⟩:=key _ _ _ _ _ _ h1 hl hs
    exact ⟨_,_,VS,rfl,v1,v2,.inr ⟨_,rfl,v3⟩⟩
   ·cases hr
  ·cases hr
 ·cases hr
theorem wHG {A A2:Option Addr} {n c c2 ty:Nat} {inf:TypeInfo} (ht:P.underlying t=some (.slice e)) (hi:P.info? e=some inf) (hnc:n <= c):(Builtin.append_ #[t,t] ty #[.slice A n c,.slice A2 0 c2]).run P w=.ok (.slice A n c) w:=by
 have hs:∀ w,(sizeOf e).run P w=.ok inf.size w:=fun w=>by simp [sizeOf,typeInfo,hi]
 cases A <;> cases A2 <;> simp [Builtin.append_,wAt ht,hs,Builtin.lenOf,Builtin.firstCells,hnc,storeCells,loadCells,loadCellsFrom]
theorem wOA {T sz c:Nat} {l:List AV} {cs:List Value} {cur:Array Value} (S:Sim C P μ h w) (K:Keep w w' Non) (hl:RvL μ l cs) (hn:w'.heap[w.heap.size]?=some (.cells cur T (0,0))) (h1:cs.length <= c * sz) (h2:c <= maxLen) (h3:cur.size=c * sz) (h4:cur.toList.take cs.length=cs) :
  ∃ μ',Ext μ h.fl.nat w μ' w'/\Sim C P μ' (h.push (.row T sz l)) w'/\(h.push (.row T sz l)).fl=h.fl/\μ' h.nx=some ⟨w.heap.size,c,g0⟩:=by
 have hle:=Mu.add_le (c:=⟨w.heap.size,c,g0⟩) (S.nx h.nx (nE _))
 obtain ⟨q1,q2,q3,q4⟩:=S.push (w':=w') (c:=⟨w.heap.size,c,g0⟩) (B:=.row T sz l) K (nE _) (wAc hn) ⟨cs,hl.mono hle,.inr ⟨_,cur,rfl,hn,h1,h2,h3,h4⟩⟩
 exact ⟨_,q2,q1,q3,q4⟩
def wPT (P:Program) (T sz by_:Nat) (x y:AOd):Op->Bool
 | .call c=>match c.callee with
  | .builtin b=>(b == .append) && (match c.args.toList,c.argTypes.toList with
   | [x',y'],[t,t']=>nD t t' && (wEa P t (fun d=>match d with | .slice e=>nD e T | _=>false) && (wBz x x' && (wBz y y' && (szT P T sz && (byT P T by_ && (match P.info? T with
    | some i=>match i.zero with | some v=>nD v.cells.size sz && (nl 0 sz && nl 0 by_) | none=>false
    | none=>false))))))
   | _,_=>false)
  | _=>false
 | _=>false
theorem wPU {T sz by_:Nat} {x y:AOd} {op:Op} (hc:wPT P T sz by_ x y op=true) :
  ∃ x' y' t i z,op=.call { callee:=.builtin .append,args:=#[x',y'],argTypes:=#[t,t] }/\P.underlying t=some (.slice T)/\wBz x x'=true/\wBz y y'=true/\P.info? T=some i/\i.zero=some z/\i.size=sz/\i.bytes=by_/\z.cells.size=sz/\0 < sz/\0 < by_:=by
 unfold wPT at hc
 split at hc
 ·rename_i c
  obtain ⟨ce,args,tys⟩:=c
  simp only at hc
  split at hc
  ·rename_i b
   simp only [nA,beq_iff_eq] at hc
   obtain ⟨rfl,h2⟩:=hc
   split at h2
   ·rename_i x' y' t t' h3 h4
    simp only [nA] at h2
    obtain ⟨a1,a2,a3,a4,a5,a6,a7⟩:=h2
    have e:=nB a1
    subst e
    obtain ⟨d,d1,d2⟩:=wAp a2
    split at d2 <;> first | (cases d2;done) | skip
    have e:=nB d2
    subst e
    obtain ⟨i,i1,i2⟩:=wGc a5
    obtain ⟨j,j1,j2⟩:=wGd a6
    rw [i1] at j1;cases j1
    rw [i1] at a7
    simp only at a7
    split at a7
    ·rename_i z hz
     simp only [nA,nJ] at a7
     refine ⟨x',y',t,i,z,?_,d1,a3,a4,i1,hz,i2,j2,nB a7.1,a7.2.1,a7.2.2⟩
     congr 2
     ·exact nH (by simpa using h3)
     ·exact nH (by simpa using h4)
    ·cases a7
   ·cases h2
  ·cases hc
 ·cases hc
theorem wSc (v:Value) (h1:one v=true):v.oneCell'=true:=by cases v <;> first | rfl | cases h1
theorem e_app {T sz by_:Nat} {x y:AOd} {op:Op} (hc:wPT P T sz by_ x y op=true):OkE C P op (wJH T sz by_ x y):=by
 intro σA h v h' hr μ σ w hE S o ho
 obtain ⟨x',y',t,i,z,rfl,ht,c1,c2,hi,hz,i2,j2,hzs,hsz,hby⟩:=wPU hc
 unfold wJH at hr
 split at hr
 ·rename_i m news hs
  obtain ⟨hones,hr'⟩:=wBV hr
  clear hr;have hr:=hr';clear hr'
  obtain ⟨A2,cc2,NS,e2,n1,n2,n3⟩:=wId hs S (wAR c2 hE)
  have hx:=wAR c1 hE
  have h1:∀ u ∈ NS,u.oneCell'=true:=fun u hu=>wSc u (wEO n1 hones u hu)
  have fin:∀ {μ':Mu} {w':World} {cv:Value},Ext μ h.fl.nat w μ' w'->Sim C P μ' h' w'->Rv μ' v cv->h'.fl=h.fl->(Builtin.append_ #[t,t] o.type #[ev σ x',ev σ y']).run P w=.ok cv w' ->
    ∃ μ' w' cv,Ext μ h.fl.nat w μ' w'/\Sim C P μ' h' w'/\Rv μ' v cv/\h'.fl=h.fl/\Runs P σ w o cv w':=fun a b c d f =>
   ⟨_,_,_,a,b,c,d,by rw [ho];rfl,by simp [execOp,ho,resolve,invoke,builtin,f]⟩
  unfold app at hr
  split at hr
  ·have zero:∀ {A:Option Addr} {n c:Nat},ev σ x'=.slice A n c->n <= c->Rv μ v (.slice A n c)->h'=h->∃ μ' w' cv,Ext μ h.fl.nat w μ' w'/\Sim C P μ' h' w'/\Rv μ' v cv/\h'.fl=h.fl/\Runs P σ w o cv w':=by
    intro A n c hA hnc hv hh
    subst hh
    exact fin (Ext.refl μ _ w) S hv rfl (by rw [hA,e2];exact wHG ht hi hnc)
   split at hr <;> cases hr <;> rename_i hb <;> rw [hb] at hx
   ·have g:ev σ x'=.slice none 0 0:=hx
    exact zero g (nE _) rfl rfl
   ·obtain ⟨d,g1,g2,g3⟩:=hx
    exact zero g3 g2 ⟨d,g1,g2,rfl⟩ rfl
   ·obtain ⟨d,g1,g2,g3⟩:=hx
    exact zero g3 (by omega) ⟨d,g1,g2,rfl⟩ rfl
  ·rename_i m
   obtain ⟨ad,rfl,hcell⟩:∃ ad,A2=some ad/\∀ j u,NS[j]?=some u->w.cell? (ad.add j)=some u:=by
    rcases n3 with h0 | h0
    ·cases h0
    ·exact h0
   have maxb:(140737488355328:Nat) <= maxLen:=by decide
   have lenb:∀ n:Nat,n * by_ <= 140737488355328->n <= 140737488355328:=fun n hn=>nP (kC _ hby) hn
   split at hr
   ·rename_i hb
    rw [hb] at hx
    have hx:ev σ x'=.slice none 0 0:=hx
    obtain ⟨hble,hr'⟩:=wBV hr
    clear hr;have hr:=hr';clear hr'
    cases hr
    have hble:=nL hble
    obtain ⟨A',c',w',r1,r2,r3,r4⟩:=wDM (P:=P) (w:=w) (A:=none) (c:=0) (n:=0) (cs:=[]) (ty:=o.type) (c2:=cc2) ht hi hz i2 hzs hsz (.inl ⟨rfl,rfl,rfl⟩) (by simp) n2 (.inr ⟨ad,rfl,hcell⟩) h1 (by rw [j2,Nat.zero_add];exact hble) (by omega)
    rcases r2 with ⟨_,_,q⟩ | ⟨b,cur,rfl,q1,q2,q3,q4,q5⟩
    ·exfalso
     have:([] ++ NS).length=0:=by rw [q];rfl
     rw [List.nil_append,n2] at this
     have:=Nat.mul_pos (Nat.succ_pos m) hsz
     omega
    ·have hb:w.heap.size <= b:=by
      rcases r4 b rfl with q | q
      ·cases q
      ·exact q
     have K:Keep w w' Non:=r3.weak fun i _ q=>by cases q
     rw [List.nil_append] at q2 q5
     have hle:=Mu.add_le (c:=⟨b,c',g0⟩) (S.nx h.nx (nE _))
     obtain ⟨s1,s2,s3,s4⟩:=S.push (w':=w') (c:=⟨b,c',g0⟩) (B:=.row T sz news) K hb (wAc q1) ⟨NS,n1.mono hle,.inr ⟨_,cur,rfl,q1,q2,q3,q4,q5⟩⟩
     refine fin s2 s1 ⟨_,s4,?_,?_⟩ s3 (by rw [hx,e2];exact r1)
     ·rw [n2] at q2
      have:=ng q2 hsz
      simpa using this
     ·simp
   ·rename_i b off n c hb
    rw [hb] at hx
    obtain ⟨d,g1,g2,g3⟩:=hx
    split at hr
    ·rename_i hle
     have hle:=nL hle
     split at hr
     ·rename_i h1' hset
      cases hr
      obtain ⟨w',q1,q2,q3,q4⟩:=wFp hset S n1 (wEO n1 hones) g1
      refine fin q3 q2 ⟨d,g1,hle,rfl⟩ q4 ?_
      rw [g3,e2]
      have hf:=run_firstCells_some (P:=P) w i.size (m + 1) ad (m + 1) cc2 NS (by rw [i2];exact n2) hcell
      rw [i2] at hf
      simp [Builtin.append_,wAt ht,sizeOf,typeInfo,hi,Builtin.lenOf,hle,hf,wFR,i2,q1]
     ·cases hr
    ·rename_i hlt
     obtain ⟨hble,hr'⟩:=wBV hr
     clear hr;have hr:=hr';clear hr'
     have hble:=nL hble
     split at hr
     ·rename_i nn olds hold
      cases hr
      have hgt:c < n + (m + 1):=by
       rcases nj c (n + (m + 1)) with q | q
       ·exact q
       ·have q':Nat.ble (n + (m + 1)) c=true:=by rw [nO];exact q
        rw [q'] at hlt;cases hlt
      obtain ⟨A1,cc1,OS,k1,k2,k3,k4⟩:=wId hold S (show Rv μ (.sl b off n c) _ from ⟨d,g1,g2,rfl⟩)
      cases k1
      have hlen:=lenb _ hble
      have olds':∀ j v,OS[j]?=some v->w.cell? ((⟨d.1,off,none⟩:Addr).add j)=some v:=by
       rcases k4 with q | ⟨ad',q1,q2⟩
       ·intro j v hv
        have hnil:OS=[]:=nY (by rw [k3,q];simp)
        rw [hnil] at hv
        simp at hv
       ·cases q1;exact q2
      have hr:=run_append_grow (P:=P) w t o.type T i z ht hi hz ⟨d.1,off,none⟩ n c OS (by rw [i2];exact k3) olds' ad (m + 1) cc2 NS (by rw [i2];exact n2) hcell hgt (by omega) (growslice_fits hgt (by rw [j2];exact hble))
      have hge:=grownCap_ge w (n + (m + 1)) c T
      have hcm:grownCap w (n + (m + 1)) c T <= maxLen:=grownCap_le_maxLen w (n + (m + 1)) c T (by omega)
      have hlen2:(OS ++ NS).length=(n + (m + 1)) * sz:=by rw [nr,k3,n2,kH]
      obtain ⟨μ',s1,s2,s3,s4⟩:=wOA (T:=T) (sz:=sz) (c:=grownCap w (n + (m + 1)) c T) (w':=w.drew.alloc (.cells (OS.toArray ++ NS.toArray ++ Builtin.zeroCells z.cells (grownCap w (n + (m + 1)) c T - (n + (m + 1)))) T)) (cur:=OS.toArray ++ NS.toArray ++ Builtin.zeroCells z.cells (grownCap w (n + (m + 1)) c T - (n + (m + 1)))) S
       ((Keep.drew w).non (wBD w.drew _)) (wEN k2 n1) (heap_alloc_new w.drew _) (by rw [hlen2];exact kL _ hge) hcm
       (by
        simp only [kU,kS,size_zeroCells,hzs,k3,n2,<- kH]
        congr 1
        omega)
       (by simp only [kM,nw];rw [<- nw];exact List.take_left)
      refine fin s1 s2 ⟨_,s4,?_,?_⟩ s3 (by rw [g3,e2];exact hr)
      ·simpa using hge
      ·simp
     ·cases hr
   ·rename_i b eo co n hb
    rw [hb] at hx
    obtain ⟨d,g1,g2,g3⟩:=hx
    split at hr
    ·rename_i T' sz' l hB
     split at hr
     ·rename_i hin
      simp only [nA] at hin
      obtain ⟨p1,p2,p3,p4⟩:=hin
      have p1:=nL p1
      have p2:=nB p2
      have p3:=nB p3
      have p4:=nB p4
      subst p2 p3 p4
      split at hr
      ·rename_i h1' hset
       cases hr
       obtain ⟨d',k1,OS,k2,k3⟩:=S.at_ b _ hB
       rw [g1] at k1;cases k1
       obtain ⟨cur,r1,r2,_⟩:=RowAt.cells k3
       have hle:n + (m + 1) <= d.2:=by
        rw [wEl,<- wDG k2] at p1
        exact ng (nP p1 r2) hsz
       obtain ⟨w',q1,q2,q3,q4⟩:=wFp hset S n1 (wEO n1 hones) g1
       refine fin q3 q2 ⟨d,g1,by omega,rfl⟩ q4 ?_
       rw [g3,e2]
       have hf:=run_firstCells_some (P:=P) w i.size (m + 1) ad (m + 1) cc2 NS (by rw [i2];exact n2) hcell
       rw [i2] at hf
       simp [Builtin.append_,wAt ht,sizeOf,typeInfo,hi,Builtin.lenOf,hle,hf,wFR,i2,q1]
      ·cases hr
     obtain ⟨hcond,hr'⟩:=wBV hr
     clear hr;have hr:=hr';clear hr'
     simp only [nA] at hcond
     obtain ⟨⟨⟨⟨⟨q1,q2⟩,q3⟩,q4⟩,q5⟩,q6⟩:=hcond
     have q1:=nB q1
     have q2:=nB q2
     have q3:=nB q3
     have q4:=nB q4
     have q5:=nB q5
     have hble:=nL q6
     subst q1 q2 q3 q4
     split at hr
     ·rename_i h1' hput
      cases hr
      obtain ⟨d',k1,OS,k2,k3⟩:=S.at_ b _ hB
      rw [g1] at k1;cases k1
      have hol:OS.length=n * sz:=by rw [wDG k2,<- wEl,<- q5]
      obtain ⟨A',c',w',r1,r2,r3,r4⟩:=wDM (P:=P) (w:=w) (A:=some ⟨d.1,0,none⟩) (c:=d.2) (n:=n) (cs:=OS) (ty:=o.type) (c2:=cc2) ht hi hz i2 hzs hsz k3 hol n2 (.inr ⟨ad,rfl,hcell⟩) h1 (by rw [j2];exact hble) (by omega)
      rcases r2 with ⟨_,_,q⟩ | ⟨b',cur,rfl,p1,p2,p3,p4,p5⟩
      ·exfalso
       have:(OS ++ NS).length=0:=by rw [q];rfl
       rw [nr,n2] at this
       have:=Nat.mul_pos (Nat.succ_pos m) hsz
       omega
      ·have hb':b'=d.1 \/ w.heap.size <= b':=by
        rcases r4 b' rfl with q | q
        ·cases q;exact .inl rfl
        ·exact .inr q
       have K:Keep w w' (·=d.1):=r3.weak fun i _ q=>by cases q;rfl
       have hle:=Mu.add_le (c:=⟨b',c',g0⟩) (S.nx h.nx (nE _))
       have hnx:h.nx=h.nx:=rfl
       obtain ⟨s1,s2,s3,s4⟩:=S.move (w':=w') (d:=⟨b',c',g0⟩) (B':=.row T sz (l ++ news)) hput hB trivial g1 K hb' (wAc p1) ⟨OS ++ NS,(wEN k2 n1).mono hle,.inr ⟨_,cur,rfl,p1,p2,p3,p4,p5⟩⟩
       refine fin s2 s1 ⟨_,s4,?_,?_⟩ s3 (by rw [g3,e2];simpa using r1)
       ·rw [nr,hol,n2,<- kH] at p2
        have:=ng p2 hsz
        simpa using this
       ·simp
     ·cases hr
    ·cases hr
   ·cases hr
 ·cases hr
def wRA (P:Program) (sz:Nat) (x y:AOd):Op->Bool
 | .call c=>match c.callee with
  | .builtin b=>(b == .copy) && (match c.args.toList,c.argTypes.toList with
   | [x',y'],t :: _=>wEa P t (fun d=>match d with | .slice e=>szT P e sz | _=>false) && (wBz x x' && wBz y y')
   | _,_=>false)
  | _=>false
 | _=>false
theorem e_cpy {sz:Nat} {x y:AOd} {op:Op} (hc:wRA P sz x y op=true):OkE C P op (wJI sz x y):=by
 intro σA h v h' hr μ σ w hE S o ho
 unfold wRA at hc
 split at hc
 ·rename_i c
  obtain ⟨ce,args,tys⟩:=c
  simp only at hc
  split at hc
  ·rename_i b
   simp only [nA,beq_iff_eq] at hc
   obtain ⟨rfl,h2⟩:=hc
   split at h2
   ·rename_i x' y' t ts h3 h4
    simp only [nA] at h2
    obtain ⟨a1,a2,a3⟩:=h2
    obtain ⟨d,d1,d2⟩:=wAp a1
    split at d2 <;> first | (cases d2;done) | skip
    rename_i e
    have ea:args=#[x',y']:=nH (by simpa using h3)
    have et:tys[0]?=some t:=by rw [<- kK,h4];rfl
    unfold wJI at hr
    split at hr
    ·rename_i b off n cc m news hx hs
     split at hr
     ·rename_i vs hsub
      obtain ⟨hones,hr'⟩:=wBV hr
      clear hr;have hr:=hr';clear hr'
      split at hr
      ·rename_i h1' hset
       cases hr
       have g:=wAR a2 hE;rw [hx] at g
       obtain ⟨c0,g1,_,g3⟩:=g
       obtain ⟨A2,cc2,NS,e2,n1,n2,n3⟩:=wId hs S (wAR a3 hE)
       generalize hk:(if Nat.ble m n=true then m else n)=k at hsub ⊢
       have hmin:Nat.min m n=k:=by
        rw [<- hk]
        by_cases q:m <= n
        ·rw [if_pos (by rw [nO];exact q)];exact Nat.min_eq_left q
        ·rw [if_neg (by rw [nO];exact q)];exact Nat.min_eq_right (by omega)
       obtain ⟨k1,k2⟩:=wFP hsub n1
       rw [List.drop_zero] at k1
       obtain ⟨w',q1,q2,q3,q4⟩:=wFp hset S k1 (wEO k1 hones) g1
       refine ⟨μ,w',_,q3,q2,rfl,q4,by rw [ho];rfl,?_⟩
       have hf:∀ (w1:World),w1=w->(Builtin.firstCells sz k (.slice A2 m cc2)).run P w1=.ok (NS.take (k * sz)).toArray w1:=by
        intro w1 hw1
        subst hw1
        cases A2 with
        | none =>
         have hm:m=0:=by
          rcases n3 with q | ⟨_,q,_⟩
          ·exact q
          ·cases q
         have hN:NS=[]:=nY (by rw [n2,hm];simp)
         subst hN
         simp [Builtin.firstCells]
        | some ad =>
         have hcell:∀ j u,(NS.take (k * sz))[j]?=some u->w1.cell? (ad.add j)=some u:=by
          intro j u hu
          rw [kQ] at hu
          split at hu
          ·rcases n3 with q | ⟨ad',q,q'⟩
           ·have hN:NS=[]:=nY (by rw [n2,q];simp)
            subst hN;simp at hu
           ·cases q;exact q' j u hu
          ·cases hu
         exact run_firstCells_some (P:=P) w1 sz k ad m cc2 (NS.take (k * sz)) (by rw [List.length_take];omega) hcell
       have hs2:=wDy d2
       simp [execOp,ho,ea,et,resolve,invoke,builtin,Builtin.copy_,wAt d1,g3,e2,Builtin.lenOf,hmin,hs2,hf w rfl,q1,goInt,Result.andThen]
      ·cases hr
     ·cases hr
    ·cases hr
   ·cases h2
  ·cases hc
 ·cases hc
def wRB (P:Program) (z:List AV) (x:AOd):Op->Bool
 | .call c=>match c.callee with
  | .builtin b=>(b == .clear) && (match c.args.toList,c.argTypes.toList with
   | [x'],[t]=>wEa P t (fun d=>match d with | .slice e=>zT P e z | _=>false) && wBz x x'
   | _,_=>false)
  | _=>false
 | _=>false
theorem wEC {zc:Array Value} (c:Nat):(Builtin.zeroCells zc c).toList=(nN c zc.toList).flatten:=by
 have:=wFS (zc:=zc) (n:=0) c
 simp only [or_false] at this
 exact this
def wRC (P:Program) (T sz by_:Nat) (z:List AV) (x y:AOd):Op->Bool
 | .call c=>match c.callee with
  | .builtin b=>(b == .append) && (match c.args.toList,c.argTypes.toList with
   | [x',y'],[t,t']=>wEa P t (fun d=>match d with | .slice e=>nD e T | _=>false) && (wEa P t' (fun d=>match d with | .int _=>true | _=>false) && (wBz x x' && (wBz y y' && (szT P T sz && (byT P T by_ && (zT P T z && (nD (len z) sz && (nl 0 sz && nl 0 by_))))))))
   | _,_=>false)
  | _=>false
 | _=>false
theorem e_apz {T sz by_:Nat} {z:List AV} {x y:AOd} {op:Op} (hc:wRC P T sz by_ z x y op=true):OkE C P op (wJM T sz by_ z x y):=by
 intro σA h v h' hr μ σ w hE S o ho
 unfold wRC at hc
 split at hc <;> first | (cases hc;done) | skip
 rename_i c
 obtain ⟨ce,args,tys⟩:=c
 simp only at hc
 split at hc <;> first | (cases hc;done) | skip
 rename_i b
 simp only [nA,beq_iff_eq] at hc
 obtain ⟨rfl,h2⟩:=hc
 split at h2 <;> first | (cases h2;done) | skip
 rename_i x' y' t t' h3 h4
 simp only [nA] at h2
 obtain ⟨a1,a2,a3,a4,a5,a6,a7,a8,a9,a10⟩:=h2
 have hargs:args=#[x',y']:=nH (by simpa using h3)
 have htys:tys=#[t,t']:=nH (by simpa using h4)
 subst hargs htys
 obtain ⟨d,d1,d2⟩:=wAp a1
 split at d2 <;> first | (cases d2;done) | skip
 have e:=nB d2
 subst e
 rename_i e
 obtain ⟨dn,n1,n2⟩:=wAp a2
 split at n2 <;> first | (cases n2;done) | skip
 rename_i kn
 obtain ⟨i,i1,i2⟩:=wGc a5
 obtain ⟨i',j1,j2⟩:=wGd a6
 obtain ⟨i'',zv,k1,k2,k3⟩:=wFQ a7
 rw [i1] at j1 k1;cases j1;cases k1
 have hz:=nB a8
 have hsz:0 < sz:=by simpa [nJ] using a9
 have hx:=wAR a3 hE
 have hy:=wAR a4 hE
 have fin:∀ {μ':Mu} {w':World} {cv:Value},Ext μ h.fl.nat w μ' w'->Sim C P μ' h' w'->Rv μ' v cv->h'.fl=h.fl->(Builtin.append_ #[t,t'] o.type #[ev σ x',ev σ y']).run P w=.ok cv w' ->
   ∃ μ' w' cv,Ext μ h.fl.nat w μ' w'/\Sim C P μ' h' w'/\Rv μ' v cv/\h'.fl=h.fl/\Runs P σ w o cv w':=fun a b c d f =>
  ⟨_,_,_,a,b,c,d,by rw [ho];rfl,by simp [execOp,ho,resolve,invoke,builtin,f]⟩
 have zlen:zv.cells.size=sz:=by rw [<- hz,wEl,<- wDG (k3 μ)];simp
 unfold wJM at hr
 split at hr
 ·rename_i nn hxs hn
  rw [hxs] at hx
  rw [wBy hn] at hy
  have hx:ev σ x'=.slice none 0 0:=hx
  have hy:ev σ y'=.int .i64 (nn:Int):=hy
  cases nn with
  | zero =>
   cases hr
   refine fin (Ext.refl μ _ w) S rfl rfl ?_
   rw [hx,hy]
   simp [Builtin.append_,run_underlying d1,run_underlying n1,sizeOf,typeInfo,i1,asInt,asIntOf,IntKind.wrap_i64]
  | succ m =>
   obtain ⟨hble,hr⟩:=wBV hr
   have hble:=nL hble
   cases hr
   have hby:0 < by_:=by simpa [nJ] using a10
   have hnb:m + 1 <= 140737488355328:=nP (kC _ hby) hble
   have hrun:=Go.Lib.run_append_nil_zeros (P:=P) w t t' o.type e i zv .i64 kn d1 n1 i1 k2 (m + 1) (by omega) (by rw [i2];exact hsz) (by omega) (by rw [j2];omega)
   have hge:=grownCap_ge w (m + 1) 0 e
   have maxb:(140737488355328:Nat) <= maxLen:=by decide
   have hcm:grownCap w (m + 1) 0 e <= maxLen:=grownCap_le_maxLen w (m + 1) 0 e (by omega)
   have hcs:((nN (m + 1) zv.cells.toList).flatten).length=(m + 1) * sz:=by rw [<- wEC];simp [size_zeroCells,zlen]
   obtain ⟨μ',s1,s2,s3,s4⟩:=wOA (T:=e) (sz:=sz) (c:=grownCap w (m + 1) 0 e) (w':=w.drew.alloc (.cells (Builtin.zeroCells zv.cells (m + 1) ++ Builtin.zeroCells zv.cells (grownCap w (m + 1) 0 e - (m + 1))) e)) (cur:=Builtin.zeroCells zv.cells (m + 1) ++ Builtin.zeroCells zv.cells (grownCap w (m + 1) 0 e - (m + 1))) S
    ((Keep.drew w).non (wBD w.drew _)) (wHA (k3 μ) (m + 1)) (heap_alloc_new w.drew _) (by rw [hcs];exact kL _ hge) hcm
    (by
     simp only [kU,size_zeroCells,zlen,<- kH]
     congr 1
     omega)
    (by
     rw [kM,wEC]
     exact List.take_left)
   refine fin s1 s2 ⟨_,s4,?_,?_⟩ s3 (by rw [hx,hy];exact hrun)
   ·simpa using hge
   ·simp
 ·cases hr
theorem e_clr {z:List AV} {x:AOd} {op:Op} (hc:wRB P z x op=true):OkE C P op (wJJ z x):=by
 intro σA h v h' hr μ σ w hE S o ho
 unfold wRB at hc
 split at hc
 ·rename_i c
  obtain ⟨ce,args,tys⟩:=c
  simp only at hc
  split at hc
  ·rename_i b
   simp only [nA,beq_iff_eq] at hc
   obtain ⟨rfl,h2⟩:=hc
   split at h2
   ·rename_i x' t h3 h4
    simp only [nA] at h2
    obtain ⟨a1,a2⟩:=h2
    obtain ⟨d,d1,d2⟩:=wAp a1
    split at d2 <;> first | (cases d2;done) | skip
    rename_i e
    have ea:args=#[x']:=nH (by simpa using h3)
    have et:tys=#[t]:=nH (by simpa using h4)
    subst ea et
    have hx:=wAR a2 hE
    obtain ⟨i,zv,z1,z2,z3⟩:=wFQ d2
    have zero:∀ {A:Option Addr} {c:Nat},ev σ x'=.slice A 0 c->v=u->h'=h->∃ μ' w' cv,Ext μ h.fl.nat w μ' w'/\Sim C P μ' h' w'/\Rv μ' v cv/\h'.fl=h.fl/\Runs P σ w o cv w':=by
     intro A c hA hv hh
     subst hv hh
     refine ⟨μ,w,undef,Ext.refl μ _ w,S,wNg μ,rfl,by rw [ho];rfl,?_⟩
     cases A <;> simp [execOp,ho,resolve,invoke,builtin,Builtin.clear_,hA,wAt d1,undef]
    have full:∀ {b:Pos} {c:Cl} {off n cap:Nat},μ b=some c->ev σ x'=.slice (some ⟨c.1,off,none⟩) n cap->clr h z b off n=some (v,h')->∃ μ' w' cv,Ext μ h.fl.nat w μ' w'/\Sim C P μ' h' w'/\Rv μ' v cv/\h'.fl=h.fl/\Runs P σ w o cv w':=by
     intro b c off n cap hb hA hr
     unfold clr at hr
     split at hr
     ·cases hr;exact zero hA rfl rfl
     ·rename_i n
      obtain ⟨hones,hr'⟩:=wBV hr
      split at hr'
      ·rename_i h1' hset
       cases hr'
       have k1:=wHA (z3 μ) (n + 1)
       have k2:∀ v ∈ (nN (n + 1) zv.cells.toList).flatten,one v=true:=by
        intro v hv
        simp only [List.mem_flatten,List.mem_replicate] at hv
        obtain ⟨l,⟨_,rfl⟩,hv⟩:=hv
        exact wEO (z3 μ) hones v hv
       obtain ⟨w',q1,q2,q3,q4⟩:=wFp hset S k1 k2 hb
       refine ⟨μ,w',undef,q3,q2,wNg μ,q4,by rw [ho];rfl,?_⟩
       rw [<- wEC] at q1
       simp [execOp,ho,resolve,invoke,builtin,Builtin.clear_,hA,wAt d1,wDz z1 z2,q1,undef,Result.andThen]
      ·cases hr'
    unfold wJJ at hr
    split at hr
    ·rename_i hb;rw [hb] at hx;obtain ⟨c,g1,_,g3⟩:=hx;exact full g1 g3 hr
    ·rename_i hb;rw [hb] at hx;obtain ⟨c,g1,_,g3⟩:=hx;exact full g1 g3 hr
    ·rename_i hb;rw [hb] at hx;cases hr;obtain ⟨c,g1,q,g3⟩:=hx;exact zero g3 rfl rfl
    ·rename_i hb;rw [hb] at hx;cases hr;have hx:ev σ x'=.slice none 0 0:=hx;exact zero hx rfl rfl
    ·cases hr
   ·cases h2
  ·cases hc
 ·cases hc
end
end
end Go.KX
namespace Go.KX
noncomputable section
open Go.RowKit Go.KL
section
variable {C:Chk} {P:Program} {μ μ':Mu} {w w':World} {h h':AH} {σ:Env} {σA:Tr AV} {t e:TypeId} {o:Oper} {K:Type} [DecidableEq K]
def wPC (P:Program) (two:Bool) (k:IntKind) (kt:TypeId):Bool:=match two with
 | false=>wEa P kt fun d=>match wNm d with | some k'=>keq k k' | none=>false
 | true=>(!P.stoodInHeld kt) && wEa P kt fun d=>match d with
  | .struct fs=>match fs.toList with
   | [f, g] => nD f.type g.type && (nD f.offset 0 && (nD g.offset 1 && ((f.name != "_") && ((g.name != "_") && wEa P f.type fun d => match wNm d with | some k' => keq k k' | none => false))))
   | _=>false
  | _=>false
theorem keyI {k:IntKind} {kt:TypeId} (hc:wPC P false k kt=true):KeyR P kt (fun n:Int=>nq k n):=by
 obtain ⟨d,d1,d2⟩:=wAp hc
 cases d <;> first | (cases d2;done) | skip
 have:=wBY d2
 subst this
 exact KeyR.ofInt d1
theorem wMU {k:IntKind} {kt:TypeId} (hc:wPC P true k kt=true):KeyR P kt (mk2 k):=by
 simp only [wPC,nA,nv] at hc
 obtain ⟨c0,c1⟩:=hc
 obtain ⟨d,d1,d2⟩:=wAp c1
 split at d2
 ·rename_i fs
  split at d2
  ·rename_i f g hfs
   simp only [nA] at d2
   obtain ⟨a1,a2,a3,a4,a5,a6⟩:=d2
   obtain ⟨di,i1,i2⟩:=wAp a6
   cases di <;> first | (cases i2;done) | skip
   have ek:=wBY i2
   subst ek
   have efs:fs=#[f,g]:=nH (by simpa using hfs)
   subst efs
   have T:Two P kt f.type f g k:=⟨d1,rfl,nB a2,by simpa using a4,(nB a1).symm,nB a3,by simpa using a5,i1,fun w=>wHC i1 w,c0⟩
   exact T.keyR (mk2 k) (·.1) (·.2) (fun _=>rfl) fun x y h1 h2=>Prod.ext h1 h2
  ·cases d2
 ·cases d2
theorem mrI {l:List (Int × AV)} {tt:List (Int × Value)} (hm:MR μ l tt) (n:Int):(wML l n=none/\wIw tt n=none) \/ ∃ a v,wML l n=some a/\wIw tt n=some v/\Rv μ a v:=by
 induction l generalizing tt with
 | nil=>cases tt with
  | nil=>exact .inl ⟨rfl,rfl⟩
  | cons q tt=>have:=hm.1;simp at this
 | cons p l ih =>
  cases tt with
  | nil=>have:=hm.1;simp at this
  | cons q tt =>
   obtain ⟨a,x⟩:=p
   obtain ⟨b,v⟩:=q
   obtain ⟨h1,h2⟩:=hm
   simp only [nG,nI] at h1
   obtain ⟨v',ws,g1,g2,g3⟩:=h2
   simp only [nG,nI] at g3
   obtain ⟨rfl,rfl⟩:=g3
   obtain ⟨rfl,h1⟩:=h1
   simp only [wML,wIw]
   by_cases e:n=a
   ·right;exact ⟨x,v,by simp [wEP,e],by simp [e],g1⟩
   ·have:=ih (tt:=tt) ⟨h1,g2⟩
    simpa [wEP,e] using this
theorem wRD {l:List (Int × AV)} {tt:List (Int × Value)} (hm:MR μ l tt) (n:Int) {a:AV} {v:Value} (hv:Rv μ a v):MR μ (wND l n a) (mput tt n v):=by
 induction l generalizing tt with
 | nil=>cases tt with
  | nil=>exact ⟨rfl,wBU hv wGz⟩
  | cons q tt=>have:=hm.1;simp at this
 | cons p l ih =>
  cases tt with
  | nil=>have:=hm.1;simp at this
  | cons q tt =>
   obtain ⟨b,x⟩:=p
   obtain ⟨b',v0⟩:=q
   obtain ⟨h1,h2⟩:=hm
   simp only [nG,nI] at h1
   obtain ⟨v',ws,g1,g2,g3⟩:=h2
   simp only [nG,nI] at g3
   obtain ⟨rfl,rfl⟩:=g3
   obtain ⟨rfl,h1⟩:=h1
   simp only [wND,mput,wEP]
   by_cases e:n=b
   ·simp only [e,decide_true,if_true]
    exact ⟨by simp [h1],wBU hv g2⟩
   ·have:=ih (tt:=tt) ⟨h1,g2⟩
    simp only [e,decide_false,if_false]
    exact ⟨by simp [this.1],wBU g1 this.2⟩
theorem wRE {l:List (Int × AV)} {tt:List (Int × Value)} (hm:MR μ l tt) (n:Int):MR μ (wNF l n) (mdel tt n):=by
 induction l generalizing tt with
 | nil=>cases tt with
  | nil=>exact ⟨rfl,rfl⟩
  | cons q tt=>have:=hm.1;simp at this
 | cons p l ih =>
  cases tt with
  | nil=>have:=hm.1;simp at this
  | cons q tt =>
   obtain ⟨b,x⟩:=p
   obtain ⟨b',v0⟩:=q
   obtain ⟨h1,h2⟩:=hm
   simp only [nG,nI] at h1
   obtain ⟨v',ws,g1,g2,g3⟩:=h2
   simp only [nG,nI] at g3
   obtain ⟨rfl,rfl⟩:=g3
   obtain ⟨rfl,h1⟩:=h1
   simp only [wNF,mdel,wEP]
   by_cases e:n=b
   ·simp only [e,decide_true,if_true]
    exact ⟨h1,g2⟩
   ·have:=ih (tt:=tt) ⟨h1,g2⟩
    simp only [e,decide_false,if_false]
    exact ⟨by simp [this.1],wBU g1 this.2⟩
theorem z2 (x y a b:Int):(zeq x a && zeq y b)=decide ((x,y)=(a,b)):=by
 rw [wEP,wEP]
 by_cases h1:x=a <;> by_cases h2:y=b <;> simp [h1,h2]
theorem mr2 {l:List ((Int × Int) × AV)} {tt:List ((Int × Int) × Value)} (hm:MR μ l tt) (x y:Int):(wMK l x y=none/\wIw tt (x,y)=none) \/ ∃ a v,wMK l x y=some a/\wIw tt (x,y)=some v/\Rv μ a v:=by
 induction l generalizing tt with
 | nil=>cases tt with
  | nil=>exact .inl ⟨rfl,rfl⟩
  | cons q tt=>have:=hm.1;simp at this
 | cons p l ih =>
  cases tt with
  | nil=>have:=hm.1;simp at this
  | cons q tt =>
   obtain ⟨⟨a,b⟩,x0⟩:=p
   obtain ⟨b',v⟩:=q
   obtain ⟨h1,h2⟩:=hm
   simp only [nG,nI] at h1
   obtain ⟨v',ws,g1,g2,g3⟩:=h2
   simp only [nG,nI] at g3
   obtain ⟨rfl,rfl⟩:=g3
   obtain ⟨rfl,h1⟩:=h1
   simp only [wMK,wIw,z2]
   by_cases e:(x,y)=(a,b)
   ·right;exact ⟨x0,v,by simp only [e,decide_true],by simp only [e,if_true],g1⟩
   ·have:=ih (tt:=tt) ⟨h1,g2⟩
    simp only [e,decide_false,if_false]
    exact this
theorem wRF {l:List ((Int × Int) × AV)} {tt:List ((Int × Int) × Value)} (hm:MR μ l tt) (x y:Int) {a:AV} {v:Value} (hv:Rv μ a v):MR μ (wNC l x y a) (mput tt (x,y) v):=by
 induction l generalizing tt with
 | nil=>cases tt with
  | nil=>exact ⟨rfl,wBU hv wGz⟩
  | cons q tt=>have:=hm.1;simp at this
 | cons p l ih =>
  cases tt with
  | nil=>have:=hm.1;simp at this
  | cons q tt =>
   obtain ⟨⟨b1,b2⟩,x0⟩:=p
   obtain ⟨b',v0⟩:=q
   obtain ⟨h1,h2⟩:=hm
   simp only [nG,nI] at h1
   obtain ⟨v',ws,g1,g2,g3⟩:=h2
   simp only [nG,nI] at g3
   obtain ⟨rfl,rfl⟩:=g3
   obtain ⟨rfl,h1⟩:=h1
   simp only [wNC,mput,z2]
   by_cases e:(x,y)=(b1,b2)
   ·simp only [e,decide_true,if_true]
    exact ⟨by simp [h1],wBU hv g2⟩
   ·have:=ih (tt:=tt) ⟨h1,g2⟩
    simp only [e,decide_false,if_false]
    exact ⟨by simp [this.1],wBU g1 this.2⟩
theorem wRG {l:List ((Int × Int) × AV)} {tt:List ((Int × Int) × Value)} (hm:MR μ l tt) (x y:Int):MR μ (wNE l x y) (mdel tt (x,y)):=by
 induction l generalizing tt with
 | nil=>cases tt with
  | nil=>exact ⟨rfl,rfl⟩
  | cons q tt=>have:=hm.1;simp at this
 | cons p l ih =>
  cases tt with
  | nil=>have:=hm.1;simp at this
  | cons q tt =>
   obtain ⟨⟨b1,b2⟩,x0⟩:=p
   obtain ⟨b',v0⟩:=q
   obtain ⟨h1,h2⟩:=hm
   simp only [nG,nI] at h1
   obtain ⟨v',ws,g1,g2,g3⟩:=h2
   simp only [nG,nI] at g3
   obtain ⟨rfl,rfl⟩:=g3
   obtain ⟨rfl,h1⟩:=h1
   simp only [wNE,mdel,z2]
   by_cases e:(x,y)=(b1,b2)
   ·simp only [e,decide_true,if_true]
    exact ⟨h1,g2⟩
   ·have:=ih (tt:=tt) ⟨h1,g2⟩
    simp only [e,decide_false,if_false]
    exact ⟨by simp [this.1],wBU g1 this.2⟩
theorem wSd {mt kt et:TypeId} {m ck:Nat} {es:Array MapEntry} {mk:K->Value} {tt:List (K × Value)} {a:K} {z:Value} {ok:Bool} (hm:w.heap[m]?=some (.map es ck)) (hu:P.underlying mt=some (.map kt et)) (R:KeyR P kt mk) (hz:∀ w,(zeroValue et).run P w=.ok z w) (hh:MpR es mk id tt) :
  (Instr.lookup mt (.map (some m)) (mk a) ok).run P w=.ok (if ok then .tuple #[wBE tt a z,.bool (wIS tt a)] else wBE tt a z) w:=by
 have hf:=R.find id es.toList tt a w hh
 have hg:=wFJ tt a 0
 unfold wBE wIS
 simp [Instr.lookup,run_underlying hu,MapKept.run_getObj_map hm,R.chk,hf,Result.andThen,<- hg]
 cases e:wCr tt a 0 <;> simp [hz,Result.andThen]
theorem wRH {mt kt et:TypeId} {m ck:Nat} {es:Array MapEntry} {mk:K->Value} {tt:List (K × Value)} {a:K} {v:Value} (hm:w.heap[m]?=some (.map es ck)) (hu:P.underlying mt=some (.map kt et)) (R:KeyR P kt mk) (hh:MpR es mk id tt) :
  ∃ es' ck',MpR es' mk id (mput tt a v)/\(Instr.mapUpdate mt (.map (some m)) (mk a) v).run P w=.ok () (w.putObj m (.map es' ck')):=by
 have hf:=R.find id es.toList tt a w hh
 cases e:wCr tt a 0 with
 | none =>
  obtain ⟨e1,_⟩:=wFK e v
  refine ⟨es.push { key:=mk a,val:=v,born:=ck },ck + 1,?_,?_⟩
  ·unfold MpR at hh ⊢;rw [e1];simp [hh]
  ·simp [Instr.mapUpdate,run_underlying hu,MapKept.run_getObj_map hm,R.chk,hf,e,Result.andThen,MapKept.run_setObj_map _ hm]
   rfl
 | some p =>
  obtain ⟨q,u⟩:=p
  obtain ⟨_,h2,h3,_⟩:=wFL e v
  rw [Nat.sub_zero] at h2 h3
  have hq:q < tt.length:=(nM.1 h2).1
  have hl:es.size=tt.length:=by have:=congrArg np hh;simpa using this
  have hkq:((es[q]?).map (·.key)).getD (mk a)=mk a:=by
   have h4:(es.toList.map (fun e=>(e.key,e.val)))[q]?=some (mk a,u):=by rw [hh,nR,h2];rfl
   rw [nR] at h4
   cases h5:es.toList[q]? with
   | none=>rw [h5] at h4;cases h4
   | some e =>
    rw [h5] at h4
    simp only [kY,nh,Prod.mk.injEq] at h4
    have h6:es[q]?=some e:=by simpa using h5
    rw [h6];simp [h4.1]
  refine ⟨es.modify q fun e=>{ e with key:=mk a,val:=v },ck,?_,?_⟩
  ·unfold MpR at hh ⊢
   rw [h3]
   apply List.ext_getElem?
   intro n
   have hn:=congrArg (·[n]?) hh
   simp only [nR] at hn ⊢
   rw [List.getElem?_set]
   simp only [Array.toList_modify,List.getElem?_modify]
   by_cases hqn:q=n
   ·subst hqn
    have h5:es.toList[q]?=some (es.toList[q]'(by simpa [hl] using hq)):=nV _
    simp [h5,hq]
   ·simp only [hqn,if_false]
    simpa [hqn] using hn
  ·simp [Instr.mapUpdate,run_underlying hu,MapKept.run_getObj_map hm,R.chk,hf,e,Result.andThen,MapKept.run_setObj_map _ hm,Instr.keyThatStays,hkq,R.same]
   rfl
theorem wRI {mt kt et ty:TypeId} {tys:Array TypeId} {m ck:Nat} {es:Array MapEntry} {mk:K->Value} {tt:List (K × Value)} {a:K} (hty:tys[0]?=some mt) (hm:w.heap[m]?=some (.map es ck)) (hu:P.underlying mt=some (.map kt et)) (R:KeyR P kt mk) (hh:MpR es mk id tt) :
  ∃ es' ck',MpR es' mk id (mdel tt a)/\(Builtin.delete_ tys ty #[.map (some m),mk a]).run P w=.ok (.tuple #[]) (w.putObj m (.map es' ck')):=by
 have hf:=R.find id es.toList tt a w hh
 cases e:wCr tt a 0 with
 | none =>
  obtain ⟨_,e1⟩:=wFK e (.bool true)
  refine ⟨es,ck,by rw [e1];exact hh,?_⟩
  simp [Builtin.delete_,hty,run_underlying hu,MapKept.run_getObj_map hm,R.chk,hf,e,Result.andThen,MapKept.run_setObj_map _ hm]
  rfl
 | some p =>
  obtain ⟨q,u⟩:=p
  obtain ⟨_,h2,_,h3⟩:=wFL e (.bool true)
  rw [Nat.sub_zero] at h2 h3
  refine ⟨es.eraseIdxIfInBounds q,ck,?_,?_⟩
  ·unfold MpR at hh ⊢
   rw [h3,<- wEM,<- hh,wEM]
   simp
  ·simp [Builtin.delete_,hty,run_underlying hu,MapKept.run_getObj_map hm,R.chk,hf,e,Result.andThen,MapKept.run_setObj_map _ hm]
   rfl
def wRJ (C:Chk) (P:Program) (μ:Mu) (w:World) (c:Cl) (two:Bool) (k:IntKind) (kt:TypeId) (B:AB) (y:AV) (Y:Value):Prop :=
  ∃ (K:Type) (_:DecidableEq K) (mk:K->Value) (a:K) (es:Array MapEntry) (ck:Nat) (tt:List (K × Value)),Y=mk a/\w.heap[c.1]?=some (.map es ck)/\KeyR P kt mk/\MpR es mk id tt /\
   (∀ q,wGs two k B y=some q->(q=none/\wIw tt a=none) \/ ∃ x v,q=some x/\wIw tt a=some v/\Rv μ x v) /\
   (∀ x v B',wOx two k B y x=some B'->Rv μ x v->wMQ B'/\∀ w' es' ck',w'.heap[c.1]?=some (.map es' ck')->MpR es' mk id (mput tt a v)->AbR C P μ w' c B') /\
   (∀ B',wOy two k B y=some B'->wMQ B'/\∀ w' es' ck',w'.heap[c.1]?=some (.map es' ck')->MpR es' mk id (mdel tt a)->AbR C P μ w' c B')
theorem wOB {two:Bool} {k:IntKind} {kt:TypeId} {B:AB} {y:AV} {Y:Value} {c:Cl} (hk:wPC P two k kt=true) (hB:AbR C P μ w c B) (hY:Rv μ y Y) (hr:(wGs two k B y).isSome=true \/ (∃ v,(wOx two k B y v).isSome=true) \/ (wOy two k B y).isSome=true) :
  wRJ C P μ w c two k kt B y Y/\wMQ B:=by
 have caseI:two=false->∀ (n:Int) (es:Array MapEntry) (ck:Nat) (tt:List (Int × Value)) (l:List (Int × AV)),y=.int k n->w.heap[c.1]?=some (.map es ck)->MpR es (fun n:Int=>nq k n) id tt->MR μ l tt ->
   (∀ q,wGs two k B y=some q->q=wML l n)->(∀ x B',wOx two k B y x=some B'->B'=.mapI k (wND l n x))->(∀ B',wOy two k B y=some B'->B'=.mapI k (wNF l n) \/ (B'=.map0/\l=[]))->wRJ C P μ w c two k kt B y Y:=by
  intro h2 n es ck tt l hy hm hp hM q1 q2 q3
  subst h2 hy
  have hY:Y=.int k n:=hY
  refine ⟨Int,inferInstance,fun n=>nq k n,n,es,ck,tt,hY,hm,keyI hk,hp,?_,?_,?_⟩
  ·intro q hq
   rw [q1 q hq]
   exact mrI hM n
  ·intro x v B' hB' hv
   have:=q2 x B' hB'
   subst this
   exact ⟨trivial,fun w' es' ck' g1 g2=>⟨es',ck',_,g1,g2,wRD hM n hv⟩⟩
  ·intro B' hB'
   rcases q3 B' hB' with rfl | ⟨rfl,rfl⟩
   ·exact ⟨trivial,fun w' es' ck' g1 g2=>⟨es',ck',_,g1,g2,wRE hM n⟩⟩
   ·refine ⟨trivial,fun w' es' ck' g1 g2=>⟨ck',?_⟩⟩
    cases tt with
    | cons p tt=>have:=hM.1;simp at this
    | nil =>
     have:es'=#[]:=by
      unfold MpR at g2
      simp only [mdel,nz,kO] at g2
      exact nH (by simpa using g2)
     rw [this] at g1;exact g1
 have case2:two=true->∀ (n m:Int) (es:Array MapEntry) (ck:Nat) (tt:List ((Int × Int) × Value)) (l:List ((Int × Int) × AV)),y=.agg [.int k n,.int k m]->w.heap[c.1]?=some (.map es ck)->MpR es (mk2 k) id tt->MR μ l tt ->
   (∀ q,wGs two k B y=some q->q=wMK l n m)->(∀ x B',wOx two k B y x=some B'->B'=.map2 k (wNC l n m x))->(∀ B',wOy two k B y=some B'->B'=.map2 k (wNE l n m) \/ (B'=.map0/\l=[]))->wRJ C P μ w c two k kt B y Y:=by
  intro h2 n m es ck tt l hy hm hp hM q1 q2 q3
  subst h2 hy
  have hY:Y=mk2 k (n,m):=by
   obtain ⟨vs,g1,rfl⟩:=hY
   obtain ⟨v1,ws,g2,g3,rfl⟩:=g1
   obtain ⟨v2,ws2,g4,g5,rfl⟩:=g3
   cases g5
   have g2:v1=.int k n:=g2
   have g4:v2=.int k m:=g4
   subst g2 g4
   rfl
  refine ⟨Int × Int,inferInstance,mk2 k,(n,m),es,ck,tt,hY,hm,wMU hk,hp,?_,?_,?_⟩
  ·intro q hq
   rw [q1 q hq]
   exact mr2 hM n m
  ·intro x v B' hB' hv
   have:=q2 x B' hB'
   subst this
   exact ⟨trivial,fun w' es' ck' g1 g2=>⟨es',ck',_,g1,g2,wRF hM n m hv⟩⟩
  ·intro B' hB'
   rcases q3 B' hB' with rfl | ⟨rfl,rfl⟩
   ·exact ⟨trivial,fun w' es' ck' g1 g2=>⟨es',ck',_,g1,g2,wRG hM n m⟩⟩
   ·refine ⟨trivial,fun w' es' ck' g1 g2=>⟨ck',?_⟩⟩
    cases tt with
    | cons p tt=>have:=hM.1;simp at this
    | nil =>
     have:es'=#[]:=by
      unfold MpR at g2
      simp only [mdel,nz,kO] at g2
      exact nH (by simpa using g2)
     rw [this] at g1;exact g1
 have shape:(∃ n,two=false/\y=.int k n/\(B=.map0 \/ ∃ l,B=.mapI k l)) \/ (∃ n m,two=true/\y=.agg [.int k n,.int k m]/\(B=.map0 \/ ∃ l,B=.map2 k l)):=by
  have fI:∀ {k':IntKind} {b:Bool} {α:Type} {x:Option α},(ifO b x).isSome=true->b=true:=fun {k' b α x} hq=>by cases b <;> first | rfl | cases hq
  rcases hr with hr | ⟨v,hr⟩ | hr
  ·unfold wGs at hr
   split at hr <;> first | (cases hr;done) | skip
   ·have:=wBY (fI (k':=k) hr);subst this;exact .inl ⟨_,rfl,rfl,.inl rfl⟩
   ·have:=fI (k':=k) hr;simp only [nA] at this
    have e1:=wBY this.1;have e2:=wBY this.2;subst e1 e2;exact .inr ⟨_,_,rfl,rfl,.inl rfl⟩
   ·have:=fI (k':=k) hr;simp only [nA] at this
    have e1:=wBY this.1;have e2:=wBY this.2;subst e1 e2;exact .inl ⟨_,rfl,rfl,.inr ⟨_,rfl⟩⟩
   ·have:=fI (k':=k) hr;simp only [nA] at this
    have e1:=wBY this.1;have e2:=wBY this.2.1;have e3:=wBY this.2.2;subst e1 e2 e3;exact .inr ⟨_,_,rfl,rfl,.inr ⟨_,rfl⟩⟩
  ·unfold wOx at hr
   split at hr <;> first | (cases hr;done) | skip
   ·have:=wBY (fI (k':=k) hr);subst this;exact .inl ⟨_,rfl,rfl,.inl rfl⟩
   ·have:=fI (k':=k) hr;simp only [nA] at this
    have e1:=wBY this.1;have e2:=wBY this.2;subst e1 e2;exact .inr ⟨_,_,rfl,rfl,.inl rfl⟩
   ·have:=fI (k':=k) hr;simp only [nA] at this
    have e1:=wBY this.1;have e2:=wBY this.2;subst e1 e2;exact .inl ⟨_,rfl,rfl,.inr ⟨_,rfl⟩⟩
   ·have:=fI (k':=k) hr;simp only [nA] at this
    have e1:=wBY this.1;have e2:=wBY this.2.1;have e3:=wBY this.2.2;subst e1 e2 e3;exact .inr ⟨_,_,rfl,rfl,.inr ⟨_,rfl⟩⟩
  ·unfold wOy at hr
   split at hr <;> first | (cases hr;done) | skip
   ·have:=wBY (fI (k':=k) hr);subst this;exact .inl ⟨_,rfl,rfl,.inl rfl⟩
   ·have:=fI (k':=k) hr;simp only [nA] at this
    have e1:=wBY this.1;have e2:=wBY this.2;subst e1 e2;exact .inr ⟨_,_,rfl,rfl,.inl rfl⟩
   ·have:=fI (k':=k) hr;simp only [nA] at this
    have e1:=wBY this.1;have e2:=wBY this.2;subst e1 e2;exact .inl ⟨_,rfl,rfl,.inr ⟨_,rfl⟩⟩
   ·have:=fI (k':=k) hr;simp only [nA] at this
    have e1:=wBY this.1;have e2:=wBY this.2.1;have e3:=wBY this.2.2;subst e1 e2 e3;exact .inr ⟨_,_,rfl,rfl,.inr ⟨_,rfl⟩⟩
 have iS:∀ {b:Bool} {α:Type} {x:Option α} {v:α},ifO b x=some v->x=some v:=fun hq=>(wBV hq).2
 rcases shape with ⟨n,rfl,rfl,rfl | ⟨l,rfl⟩⟩ | ⟨n,m,rfl,rfl,rfl | ⟨l,rfl⟩⟩
 ·obtain ⟨ck,hm⟩:=hB
  refine ⟨?_,trivial⟩
  exact caseI rfl n #[] ck [] [] rfl hm rfl ⟨rfl,rfl⟩ (fun q hq=>by simp only [wGs] at hq;cases iS hq;rfl) (fun x B' hq=>by simp only [wOx] at hq;cases iS hq;rfl) (fun B' hq=>by simp only [wOy] at hq;cases iS hq;exact .inr ⟨rfl,rfl⟩)
 ·obtain ⟨es,ck,tt,hm,hp,hM⟩:=hB
  refine ⟨?_,trivial⟩
  exact caseI rfl n es ck tt l rfl hm hp hM (fun q hq=>by simp only [wGs] at hq;cases iS hq;rfl) (fun x B' hq=>by simp only [wOx] at hq;cases iS hq;rfl) (fun B' hq=>by simp only [wOy] at hq;cases iS hq;exact .inl rfl)
 ·obtain ⟨ck,hm⟩:=hB
  refine ⟨?_,trivial⟩
  exact case2 rfl n m #[] ck [] [] rfl hm rfl ⟨rfl,rfl⟩ (fun q hq=>by simp only [wGs] at hq;cases iS hq;rfl) (fun x B' hq=>by simp only [wOx] at hq;cases iS hq;rfl) (fun B' hq=>by simp only [wOy] at hq;cases iS hq;exact .inr ⟨rfl,rfl⟩)
 ·obtain ⟨es,ck,tt,hm,hp,hM⟩:=hB
  refine ⟨?_,trivial⟩
  exact case2 rfl n m es ck tt l rfl hm hp hM (fun q hq=>by simp only [wGs] at hq;cases iS hq;rfl) (fun x B' hq=>by simp only [wOx] at hq;cases iS hq;rfl) (fun B' hq=>by simp only [wOy] at hq;cases iS hq;exact .inl rfl)
def wSe (P:Program) (two:Bool) (k:IntKind) (ok:Bool) (z:AV) (x y:AOd):Op->Bool
 | .lookup t x' y' ok'=>wEa P t (fun d=>match d with
   | .map kt et=>wPC P two k kt && (match P.info? et with
    | some i=>match i.zero with | some v=>okc z v | none=>false
    | none=>false)
   | _=>false) && ((ok == ok') && (wBz x x' && wBz y y'))
 | _=>false
def lkV (ok:Bool) (z:AV) (q:Option AV):AV:=match ok with
 | true=>.tup [q.getD z,.bool q.isSome]
 | false=>q.getD z
theorem l_lk {two:Bool} {k:IntKind} {ok:Bool} {z:AV} {x y:AOd} {op:Op} (hc:wSe P two k ok z x y op=true):OkL C P op (wPA two k ok z x y):=by
 intro σA h v h' hr
 unfold wSe at hc
 split at hc
 ·rename_i t x' y' ok'
  simp only [nA,beq_iff_eq] at hc
  obtain ⟨c1,rfl,c2,c3⟩:=hc
  obtain ⟨d,d1,d2⟩:=wAp c1
  split at d2 <;> first | (cases d2;done) | skip
  rename_i kt et
  simp only [nA] at d2
  obtain ⟨k1,k2⟩:=d2
  split at k2 <;> first | (cases k2;done) | skip
  rename_i i hi
  split at k2 <;> first | (cases k2;done) | skip
  rename_i zv hz
  unfold wPA at hr
  split at hr <;> first | (cases hr;done) | skip
  rename_i b hx
  split at hr <;> first | (cases hr;done) | skip
  rename_i B hB
  have key:∀ q,wGs two k B (evA σA y)=some q->h'=h->v=lkV ok z q->h'=h/\∀ μ σ w,EnvR μ σA σ->Sim C P μ h w->∃ cv,Rv μ v cv/\∀ (o:Oper),o.op=.lookup t x' y' ok->wFC P σ w o cv:=by
   intro q hq hh hv
   subst hh hv
   refine ⟨rfl,fun μ σ w hE S=>?_⟩
   have g:=wAR c2 hE;rw [hx] at g
   obtain ⟨c,g1,g2⟩:=g
   obtain ⟨c',g3,g4⟩:=S.at_ b B hB
   rw [g1] at g3;cases g3
   obtain ⟨⟨K,_,mk,a,es,ck,tt,e1,e2,e3,e4,e5,_,_⟩,hl⟩:=wOB k1 g4 (wAR c3 hE) (.inl (by rw [hq];rfl))
   have hrun:∀ w',Keep w w' Non->∀ (o:Oper),o.op=.lookup t x' y' ok->Runs P σ w' o (if ok then .tuple #[wBE tt a zv,.bool (wIS tt a)] else wBE tt a zv) w':=by
    intro w' K o ho
    have hm:=(K.block _ (wAc e2) id).trans e2
    have:=wSd (P:=P) (ok:=ok) hm d1 e3 (wDz hi hz) e4 (a:=a)
    exact ⟨by rw [ho];rfl,by simp [execOp,ho,g2,e1,this,Result.andThen]⟩
   refine ⟨_,?_,fun o ho w' K=>hrun w' K o ho⟩
   have hval:Rv μ (q.getD z) (wBE tt a zv)/\q.isSome=wIS tt a:=by
    rcases e5 q hq with ⟨rfl,q2⟩ | ⟨x,v,rfl,q2,q3⟩
    ·unfold wBE wIS;rw [q2];exact ⟨wNi μ k2,rfl⟩
    ·unfold wBE wIS;rw [q2];exact ⟨q3,rfl⟩
   cases ok
   ·exact hval.1
   ·exact ⟨_,wBU hval.1 (wBU (v:=.bool (wIS tt a)) (by rw [<- hval.2];rfl) wGz),rfl⟩
  split at hr
  ·rename_i q hq
   cases hr
   exact key _ hq rfl (by cases ok <;> rfl)
  ·rename_i hq
   cases hr
   exact key _ hq rfl (by cases ok <;> rfl)
  ·cases hr
 ·cases hc
def wLX (P:Program) (two:Bool) (k:IntKind) (x y z:AOd):Op->Bool
 | .mapUpdate t x' y' z' | .insert t x' y' z'=>wEa P t (fun d=>match d with
   | .map kt et=>wPC P two k kt
   | _=>false) && (wBz x x' && (wBz y y' && wBz z z'))
 | _=>false
theorem wOC {two:Bool} {k:IntKind} {x y z:AOd} {op:Op} (hc:wLX P two k x y z op=true):∃ t kt et x' y' z',(op=.mapUpdate t x' y' z' \/ op=.insert t x' y' z')/\P.underlying t=some (.map kt et)/\wPC P two k kt=true/\wBz x x'=true/\wBz y y'=true/\wBz z z'=true:=by
 have key:∀ {t:TypeId} {x' y' z':Operand},(wEa P t (fun d=>match d with | .map kt et=>wPC P two k kt | _=>false) && (wBz x x' && (wBz y y' && wBz z z')))=true->∃ kt et,P.underlying t=some (.map kt et)/\wPC P two k kt=true/\wBz x x'=true/\wBz y y'=true/\wBz z z'=true:=by
  intro t x' y' z' hq
  simp only [nA] at hq
  obtain ⟨d,d1,d2⟩:=wAp hq.1
  split at d2 <;> first | (cases d2;done) | skip
  exact ⟨_,_,d1,d2,hq.2⟩
 unfold wLX at hc
 split at hc
 ·obtain ⟨kt,et,g⟩:=key hc;exact ⟨_,kt,et,_,_,_,.inl rfl,g⟩
 ·obtain ⟨kt,et,g⟩:=key hc;exact ⟨_,kt,et,_,_,_,.inr rfl,g⟩
 ·cases hc
theorem wSf {two:Bool} {k:IntKind} {x y z:AOd} {op:Op} (hc:wLX P two k x y z op=true):OkU C P op (wGS two k x y z):=by
 intro σA h v h' hr μ σ w hE S o ho
 obtain ⟨t,kt,et,x',y',z',hop,d1,k1,c1,c2,c3⟩:=wOC hc
 unfold wGS at hr
 split at hr <;> first | (cases hr;done) | skip
 rename_i b hx
 split at hr <;> first | (cases hr;done) | skip
 rename_i B hB
 split at hr <;> first | (cases hr;done) | skip
 rename_i B' hp
 split at hr <;> first | (cases hr;done) | skip
 rename_i h1' hput
 cases hr
 have g:=wAR c1 hE;rw [hx] at g
 obtain ⟨c,g1,g2⟩:=g
 obtain ⟨c',g3,g4⟩:=S.at_ b B hB
 rw [g1] at g3;cases g3
 obtain ⟨⟨K,_,mk,a,es,ck,tt,e1,e2,e3,e4,_,e6,_⟩,hl⟩:=wOB k1 g4 (wAR c2 hE) (.inr (.inl ⟨_,by rw [hp];rfl⟩))
 obtain ⟨es',ck',r1,r2⟩:=wRH (P:=P) (v:=ev σ z') e2 d1 e3 e4 (a:=a)
 obtain ⟨l1,l2⟩:=e6 _ (ev σ z') B' hp (wAR c3 hE)
 obtain ⟨s1,s2,s3⟩:=S.put hput hB hl g1 (wBo w c.1 (.map es' ck')) (l2 _ es' ck' (wFN _ (wAc e2)) r1)
 refine ⟨μ,_,s2,s1,rfl,s3,by rw [ho];rcases hop with e | e <;> (rw [e];rfl),?_⟩
 rcases hop with e | e <;> rw [e] at ho <;> simp [execOp,ho,g2,e1,r2,Result.andThen]
def wOD (P:Program) (two:Bool) (k:IntKind) (x y:AOd):Op->Bool
 | .call c=>match c.callee with
  | .builtin b=>(b == .delete) && (match c.args.toList,c.argTypes.toList with
   | [x',y'],t :: _=>wEa P t (fun d=>match d with | .map kt _=>wPC P two k kt | _=>false) && (wBz x x' && wBz y y')
   | _,_=>false)
  | _=>false
 | _=>false
theorem wSg {two:Bool} {k:IntKind} {x y:AOd} {op:Op} (hc:wOD P two k x y op=true):OkE C P op (wGT two k x y):=by
 intro σA h v h' hr μ σ w hE S o ho
 unfold wOD at hc
 split at hc <;> first | (cases hc;done) | skip
 rename_i c
 obtain ⟨ce,args,tys⟩:=c
 simp only at hc
 split at hc <;> first | (cases hc;done) | skip
 rename_i b
 simp only [nA,beq_iff_eq] at hc
 obtain ⟨rfl,h2⟩:=hc
 split at h2 <;> first | (cases h2;done) | skip
 rename_i x' y' t ts h3 h4
 simp only [nA] at h2
 obtain ⟨a1,a2,a3⟩:=h2
 obtain ⟨d,d1,d2⟩:=wAp a1
 split at d2 <;> first | (cases d2;done) | skip
 rename_i kt et
 have ea:args=#[x',y']:=nH (by simpa using h3)
 have et':tys[0]?=some t:=by rw [<- kK,h4];rfl
 unfold wGT at hr
 split at hr <;> first | (cases hr;done) | skip
 rename_i b hx
 split at hr <;> first | (cases hr;done) | skip
 rename_i B hB
 split at hr <;> first | (cases hr;done) | skip
 rename_i B' hp
 split at hr <;> first | (cases hr;done) | skip
 rename_i h1' hput
 cases hr
 have g:=wAR a2 hE;rw [hx] at g
 obtain ⟨c,g1,g2⟩:=g
 obtain ⟨c',g3,g4⟩:=S.at_ b B hB
 rw [g1] at g3;cases g3
 obtain ⟨⟨K,_,mk,a,es,ck,tt,e1,e2,e3,e4,_,_,e7⟩,hl⟩:=wOB d2 g4 (wAR a3 hE) (.inr (.inr (by rw [hp];rfl)))
 obtain ⟨es',ck',r1,r2⟩:=wRI (P:=P) (ty:=o.type) et' e2 d1 e3 e4 (a:=a)
 obtain ⟨l1,l2⟩:=e7 B' hp
 obtain ⟨s1,s2,s3⟩:=S.put hput hB hl g1 (wBo w c.1 (.map es' ck')) (l2 _ es' ck' (wFN _ (wAc e2)) r1)
 refine ⟨μ,_,_,s2,s1,wNg μ,s3,by rw [ho];rfl,?_⟩
 simp [execOp,ho,ea,resolve,invoke,builtin,g2,e1,r2,undef,Result.andThen]
def wJT (P:Program) (x:AOd):Op->Bool
 | .call c=>match c.callee with
  | .builtin b=>(b == .len) && (match c.args.toList,c.argTypes.toList with
   | [x'],[t]=>wEa P t (fun d=>match d with | .map _ _=>true | _=>false) && wBz x x'
   | _,_=>false)
  | _=>false
 | _=>false
theorem wSh {x:AOd} {op:Op} (hc:wJT P x op=true):OkL C P op (wFE x):=by
 intro σA h v h' hr
 unfold wJT at hc
 split at hc <;> first | (cases hc;done) | skip
 rename_i c
 obtain ⟨ce,args,tys⟩:=c
 simp only at hc
 split at hc <;> first | (cases hc;done) | skip
 rename_i b
 simp only [nA,beq_iff_eq] at hc
 obtain ⟨rfl,h2⟩:=hc
 split at h2 <;> first | (cases h2;done) | skip
 rename_i x' t h3 h4
 simp only [nA] at h2
 obtain ⟨a1,a2⟩:=h2
 obtain ⟨d,d1,d2⟩:=wAp a1
 split at d2 <;> first | (cases d2;done) | skip
 rename_i kt et
 have ea:args=#[x']:=nH (by simpa using h3)
 have et':tys=#[t]:=nH (by simpa using h4)
 subst ea et'
 unfold wFE at hr
 split at hr
 ·rename_i hx
  cases hr
  refine ⟨rfl,fun μ σ w hE S=>⟨_,rfl,fun o ho w' K=>?_⟩⟩
  have g:=wAR a2 hE;rw [hx] at g
  have g:ev σ x'=.map none:=g
  exact ⟨by rw [ho];rfl,by simp [execOp,ho,resolve,invoke,builtin,Builtin.len_,g,run_underlying d1,goInt,Result.andThen]⟩
 ·rename_i b hx
  split at hr <;> first | (cases hr;done) | skip
  rename_i B hB
  split at hr <;> first | (cases hr;done) | skip
  rename_i n hn
  cases hr
  refine ⟨rfl,fun μ σ w hE S=>⟨_,rfl,fun o ho w' K=>?_⟩⟩
  have g:=wAR a2 hE;rw [hx] at g
  obtain ⟨c,g1,g2⟩:=g
  obtain ⟨c',g3,g4⟩:=S.at_ b B hB
  rw [g1] at g3;cases g3
  have hmap:∃ es ck,w.heap[c.1]?=some (.map es ck)/\es.size=n:=by
   unfold lenB at hn
   split at hn <;> first | (cases hn;done) | skip
   ·cases hn;obtain ⟨ck,q⟩:=g4;exact ⟨_,ck,q,rfl⟩
   ·cases hn
    obtain ⟨es,ck,tt,q1,q2,q3⟩:=g4
    refine ⟨es,ck,q1,?_⟩
    have e1:=congrArg np q2
    have e2:=congrArg np q3.1
    simp at e1 e2
    rw [wEl];omega
   ·cases hn
    obtain ⟨es,ck,tt,q1,q2,q3⟩:=g4
    refine ⟨es,ck,q1,?_⟩
    have e1:=congrArg np q2
    have e2:=congrArg np q3.1
    simp at e1 e2
    rw [wEl];omega
  obtain ⟨es,ck,q1,q2⟩:=hmap
  have hm:=(K.block _ (wAc q1) id).trans q1
  refine ⟨by rw [ho];rfl,?_⟩
  simp [execOp,ho,resolve,invoke,builtin,Builtin.len_,g2,run_underlying d1,MapKept.run_getObj_map hm,goInt,Result.andThen,q2]
 ·cases hr
end
end
end Go.KX
namespace Go.KX
noncomputable section
open Go.RowKit Go.KL
def kdA:AOp->Nat
 | .mv _ | .pick _ _ _ | .nilc _ | .add _ _ | .sub _ _ | .mul _ _ | .quo _ _ | .rem _ _ | .lss _ _ | .leq _ _ | .gtr _ _ | .geq _ _ | .eql _ _ | .neq _ _ | .eqb _ _ _ | .eqn _ _ _ _ | .eqs _ _ _ _
 | .bad | .and _ _ | .shr _ _ | .ixs _ _ | .neg _ | .not _ | .cvt _ _ | .mkf _ _ _ | .slc _ _ _ _ _ | .slcA _ _ _ _ _ | .fad _ _ | .fld _ _ | .fldA _ _ _ | .iad _ _ _ | .iadA _ _ _ _ | .ix _ _ _ | .ixA _ _ _ _ | .ext _ _ | .bld _ _ | .len _ | .cap _ | .min _ _ | .max _ _=>3
 | .ld _ | .ldA _ _ | .lk _ _ _ _ _ _ | .lenM _=>1
 | .st _ _ _ | .mput _ _ _ _ _=>4
 | .call _ _=>5
 | _=>0
def wOE (x:AOd) (l:List AOd):Op->Bool
 | .call c=>match c.callee with
  | .value f=>wBz x f && wJP l c.args.toList
  | _=>false
 | _=>false
def wSD:List UInt8->List Nat->Bool
 | [],[]=>true
 | a :: l,b :: k=>nD a.toNat b && wSD l k
 | _,_=>false
theorem wOF:∀ {l:List UInt8} {k:List Nat},wSD l k=true->l.map UInt8.toNat=k
 | [],[],_=>rfl
 | a :: l,b :: k,h=>by
  simp only [wSD,nA] at h
  rw [nG,nB h.1,wOF h.2]
 | [],_ :: _,h=>by simp [wSD] at h
 | _ :: _,[],h=>by simp [wSD] at h
def wRK (P:Program) (l:List Nat) (y:AOd):Op->Bool
 | .index t (.const (.string s)) y'=>wEa P t (fun d=>match d with | .string=>true | _=>false) && (wSD s.data.toList l && wBz y y')
 | _=>false
def wHH (P:Program) (a:AOp) (op:Op):Bool:=match a with
 | .mv x=>c_mv x op
 | .pick c x y=>wNj c x y op
 | .new T z=>wNw P T z op
 | .box T x=>wNx T x op
 | .ld x=>wSa P x op
 | .ldA n x=>wNv P n x op
 | .st n x y=>c_st P n x y op
 | .nilc x=>wNk x op
 | .add x y=>wCj .add x y op
 | .sub x y=>wCj .sub x y op
 | .mul x y=>wCj .mul x y op
 | .quo x y=>wCj .quo x y op
 | .rem x y=>wCj .rem x y op
 | .lss x y=>wCj .lss x y op
 | .leq x y=>wCj .leq x y op
 | .gtr x y=>wCj .gtr x y op
 | .geq x y=>wCj .geq x y op
 | .eql x y=>wCj .eql x y op
 | .neq x y=>wCj .neq x y op
 | .eqb ne x y=>wQq P ne x y op
 | .eqn k ne x y=>wQr P k ne x y op
 | .eqs ne s x y=>wQs P ne s x y op
 | .neg x=>wQl x op
 | .not x=>wQm x op
 | .cvt k x=>wQn (P:=P) k x op
 | .mkf f fi ca=>wQo f fi ca op
 | .mkm=>wNy op
 | .mks T sz by_ z x y=>wNz P T sz by_ z x y op
 | .slc sz x lo hi mx=>wQx P sz x lo hi mx op
 | .slcA sz n x lo hi=>wNt P sz n x lo hi op
 | .fad off x=>wQt P off x op
 | .fld off x=>wQu P off x op
 | .fldA off n x=>wNp P off n x op
 | .iad sz x y=>wQv P sz x y op
 | .iadA sz n x y=>wNq P sz n x y op
 | .ix n x y=>c_ix P n x y op
 | .ixA sz n x y=>wQw P sz n x y op
 | .lk two k ok z x y=>wSe P two k ok z x y op
 | .mput two k x y z=>wLX P two k x y z op
 | .mdel two k x y=>wOD P two k x y op
 | .ext i x=>wQp i x op
 | .bld z ps=>wQy P z ps op
 | .blds T n z ps=>wJS P T n z ps op
 | .len x=>wMT P .len x op
 | .lenM x=>wJT P x op
 | .cap x=>wMT P .cap x op
 | .app T sz by_ x y=>wPT P T sz by_ x y op
 | .cpy sz x y=>wRA P sz x y op
 | .clr z x=>wRB P z x op
 | .min x y=>wSC .min x y op
 | .max x y=>wSC .max x y op
 | .call x l=>wOE x l op
 | .bad=>true
 | .and x y=>wCj .and x y op
 | .shr x y=>wCj .shr x y op
 | .ixs l y=>wRK P l y op
 | .apz T sz by_ z x y=>wRC P T sz by_ z x y op
section
variable {C:Chk} {P:Program} {tb:Tr AF} {ex exY:Run}
theorem p_bad {op:Op}:OkP P op (wSP):=by
 intro σA h v h' hr
 cases hr
theorem p_and {x y:AOd} {op:Op} (hc:wCj .and x y op=true):OkP P op (wNX x y):=by
 intro σA h v h' hr
 obtain ⟨t,x',y',t',rfl,h1,h2⟩:=wFn hc
 obtain ⟨hr2,rfl⟩:=wBb hr
 split at hr2
 ·rename_i k a k' b ha hb
  split at hr2
  ·rename_i hk
   cases hr2
   have hk:=wBY hk
   subst hk
   refine ⟨rfl,fun μ σ hE=>⟨_,rfl,fun o w ho=>?_⟩⟩
   have g1:=wAR h1 hE;rw [ha] at g1
   have g2:=wAR h2 hE;rw [hb] at g2
   have g1:ev σ x'=.int k a:=g1
   have g2:ev σ y'=.int k b:=g2
   exact ⟨by rw [ho];rfl,by simp [execOp,ho,g1,g2,binOp,eqGuard,Op.intBits,andI]⟩
  ·cases hr2
 ·cases hr2
theorem p_shr {x y:AOd} {op:Op} (hc:wCj .shr x y op=true):OkP P op (wNY x y):=by
 intro σA h v h' hr
 obtain ⟨t,x',y',t',rfl,h1,h2⟩:=wFn hc
 obtain ⟨hr2,rfl⟩:=wBb hr
 split at hr2
 ·rename_i k a k' b ha hb
  cases hr2
  refine ⟨rfl,fun μ σ hE=>⟨_,rfl,fun o w ho=>?_⟩⟩
  have g1:=wAR h1 hE;rw [ha] at g1
  have g2:=wAR h2 hE;rw [hb] at g2
  have g1:ev σ x'=.int k a:=g1
  have g2:ev σ y'=.int k' (kD b):=g2
  have hn:¬ (kD b) < 0:=by simp
  exact ⟨by rw [ho];rfl,by simp [execOp,ho,g1,g2,binOp,eqGuard,Op.shift];intro hb0;omega⟩
 ·cases hr2
theorem p_ixs {l:List Nat} {y:AOd} {op:Op} (hc:wRK P l y op=true):OkP P op (wKX l y):=by
 intro σA h v h' hr
 unfold wRK at hc
 split at hc <;> first | (cases hc;done) | skip
 rename_i t s y'
 simp only [nA] at hc
 obtain ⟨c1,c2,c3⟩:=hc
 obtain ⟨d,d1,d2⟩:=wAp c1
 split at d2 <;> first | (cases d2;done) | skip
 have hl:=wOF c2
 unfold wKX at hr
 split at hr
 ·rename_i k i hy
  obtain ⟨hr2,rfl⟩:=wBb hr
  split at hr2
  ·rename_i b hb
   cases hr2
   rw [wGV,<- hl,nR] at hb
   have hi:i < s.data.toList.length:=by
    rcases nj i s.data.toList.length with q | q
    ·exact q
    ·rw [kJ q] at hb;cases hb
   have hi2:i < s.size:=by simpa using hi
   rw [nV hi] at hb
   have hb:(s.data.toList[i]).toNat=b:=by simpa using hb
   refine ⟨rfl,fun μ σ hE=>⟨_,rfl,fun o w ho=>?_⟩⟩
   have g:=wAR c3 hE;rw [hy] at g
   have g:ev σ y'=.int k (kD i):=g
   have hx:ev σ (.const (.string s))=.string s:=rfl
   have hrun:=run_index_string (P:=P) w t s k (kD i) d1
   rw [dif_pos ⟨by simp,by simpa using hi2⟩] at hrun
   have hbb:(s[(kD i).toNat]'(by simpa using hi2)).toNat=b:=by rw [<- hb];rfl
   rw [hbb] at hrun
   simp only [nT] at hrun
   exact ⟨by rw [ho];rfl,by simp only [execOp,ho,hx,g];simp [hrun]⟩
  ·cases hr2
 ·cases hr
theorem wIE {a:AOp} {op:Op} (hk:kdA a=3) (hc:wHH P a op=true):OkP P op (opY a tb ex exY):=by
 cases a <;> first
  | (simp [kdA] at hk;done)
  | exact p_bad | exact p_and hc | exact p_shr hc | exact p_ixs hc | exact p_mv hc | exact wST hc | exact wSU hc | exact p_add hc | exact p_sub hc | exact p_mul hc | exact p_quo hc | exact p_rem hc
  | exact p_lss hc | exact p_leq hc | exact p_gtr hc | exact p_geq hc | exact p_eql hc | exact p_neq hc | exact p_eqb hc | exact p_eqn hc | exact p_eqs hc
  | exact p_neg hc | exact p_not hc | exact p_cvt hc | exact p_mkf hc | exact p_slc hc | exact wSY hc | exact p_fad hc | exact p_fld hc | exact wSW hc
  | exact p_iad hc | exact wSX hc | exact p_ix hc | exact p_ixA hc | exact p_ext hc | exact p_bld hc | exact p_len hc | exact p_cap hc | exact p_min hc | exact p_max hc
theorem wIF {a:AOp} {op:Op} (hk:kdA a=1 \/ kdA a=3) (hc:wHH P a op=true):OkL C P op (opY a tb ex exY):=by
 rcases hk with hk | hk
 ·cases a <;> first
   | (simp [kdA] at hk;done)
   | exact l_ld hc | exact l_ldA hc | exact l_lk hc | exact wSh hc
 ·exact (wIE hk hc).toL
theorem wSi {a:AOp} {op:Op} (hk:kdA a=0 \/ kdA a=1 \/ kdA a=3) (hc:wHH P a op=true):OkE C P op (opY a tb ex exY):=by
 rcases hk with hk | hk
 ·cases a <;> first
   | (simp [kdA] at hk;done)
   | exact e_new hc | exact e_box hc | exact e_mkm hc | exact e_mks hc | exact wSg hc | exact wSb hc | exact e_app hc | exact e_apz hc | exact e_cpy hc | exact e_clr hc
 ·exact (wIF hk hc).toE
theorem wSj {a:AOp} {op:Op} (hk:kdA a=4) (hc:wHH P a op=true):OkU C P op (opY a tb ex exY):=by
 cases a <;> first
  | (simp [kdA] at hk;done)
  | exact u_st hc | exact wSf hc
def wGW (C:Chk) (P:Program) (tb:Tr AF) (ex:Run):Prop:=∀ f args h v h',wJK tb ex f args h=some (v,h') ->
 (∀ (a:Array Value) (w:World),(callFunc (f.nat - 1) a).run P w=.ok (.enter (f.nat - 1) a) w) /\
 ∀ μ w vs,Sim C P μ h w->RvL μ args vs->Gv P (f.nat - 1) vs w fun cv w'=>∃ μ',Ext μ h.fl.nat w μ' w'/\Sim C P μ' h' w'/\Rv μ' v cv/\h'.fl=h.fl
def wFT (C:Chk) (P:Program) (ex:Run):Prop:=∀ b args h v h',wJL ex b args h=some (v,h') ->
 ∀ μ w x c,Sim C P μ h w->RvL μ args x->μ b=some c->Yd P c.1 x w fun t w'=>∃ μ',Ext μ h.fl.nat w μ' w'/\Sim C P μ' h' w'/\v=.bool t/\h'.fl=h.fl
def wHI (P:Program) (N:Nat) (l:List Oper) (a:AO):Bool:=match l[a.ix]? with
 | none=>false
 | some o=>wHH P a.op o.op && ((match a.dst,o.dst with
   | none,none=>true
   | some p,some d=>nD p.nat (d + 1) && nl d N
   | _,_=>false) && ((match a.grd,o.guard with
   | none,none=>true
   | some (p,b),some (j,b')=>(b == b') && (match (l[j]?).bind (·.dst) with | some d=>nD p.nat (d + 1) | none=>false)
   | _,_=>false) && ((match a.kd with
   | 3=>nD (kdA a.op) 3
   | 1=>nD (kdA a.op) 1 || nD (kdA a.op) 3
   | _=>true) && ((!Nat.beq (kdA a.op) 4 || o.dst.isNone) && !Nat.beq a.kd 1005))))
structure AOK (P:Program) (N:Nat) (l:List Oper) (a:AO) (o:Oper):Prop where
 get:l[a.ix]?=some o
 op:wHH P a.op o.op=true
 dst:(a.dst=none/\o.dst=none) \/ ∃ p d,a.dst=some p/\o.dst=some d/\d=p.nat - 1/\d < N
 grd:(a.grd=none/\o.guard=none) \/ ∃ p b j d,a.grd=some (p,b)/\o.guard=some (j,b)/\(l[j]?).bind (·.dst)=some d/\d=p.nat - 1
 k3:a.kd=3->kdA a.op=3
 k1:a.kd=1->kdA a.op=1 \/ kdA a.op=3
 un:kdA a.op=4->o.dst=none
 k5:a.kd ≠ 1005
theorem wDT {N:Nat} {l:List Oper} {a:AO} (hc:wHI P N l a=true):∃ o,AOK P N l a o:=by
 unfold wHI at hc
 split at hc
 ·cases hc
 ·rename_i o ho
  simp only [nA] at hc
  obtain ⟨c1,c2,c3,c4,c5,c6⟩:=hc
  refine ⟨o,ho,c1,?_,?_,?_,?_,?_,?_⟩
  ·split at c2
   ·rename_i h1 h2;exact .inl ⟨h1,h2⟩
   ·rename_i p d h1 h2
    simp only [nA,nJ] at c2
    have:=nB c2.1
    exact .inr ⟨p,d,h1,h2,by rw [this];rfl,c2.2⟩
   ·cases c2
  ·split at c3
   ·rename_i h1 h2;exact .inl ⟨h1,h2⟩
   ·rename_i p b j b' h1 h2
    simp only [nA,beq_iff_eq] at c3
    obtain ⟨rfl,c3⟩:=c3
    split at c3
    ·rename_i d hd
     have:=nB c3
     exact .inr ⟨p,b,j,d,h1,h2,hd,by rw [this];rfl⟩
    ·cases c3
   ·cases c3
  ·intro hk;rw [hk] at c4;exact nB c4
  ·intro hk;rw [hk] at c4
   simp only [kE] at c4
   exact c4.imp nB nB
  ·intro hk;rw [hk] at c5
   simpa using c5
  ·intro hk;rw [hk] at c6
   simp at c6
theorem wIe {N:Nat} {l:List Oper} {a:AO} {o:Oper} {μ:Mu} {σA:Tr AV} {σ:Env} (A:AOK P N l a o) (hE:EnvR μ σA σ):wanted l σ o=wCt σA a.grd:=by
 unfold wanted
 rcases A.grd with ⟨h1,h2⟩ | ⟨p,b,j,d,h1,h2,h3,h4⟩
 ·rw [h1,h2];rfl
 ·rw [h1,h2]
  simp only [h3]
  show _=isB b (evA σA (.t p))
  have g:=hE p
  rw [<- h4] at g
  unfold isB
  cases hv:evA σA (.t p) <;> rw [hv] at g <;> simp only [Rv] at g <;>
   first | (rw [g];done) | (obtain ⟨_,_,_,_,_,g⟩:=g;rw [g];done) | (obtain ⟨_,_,_,_,g⟩:=g;rw [g];done) | (obtain ⟨_,_,_,g⟩:=g;rw [g];done) | (obtain ⟨_,_,g⟩:=g;rw [g];done) | (obtain ⟨_,g⟩:=g;rw [g];done) | rw [g]
theorem wEW {N:Nat} {l:List Oper} {a:AO} {o:Oper} {μ:Mu} {σA:Tr AV} {σ:Env} {v:AV} {cv:Value} (A:AOK P N l a o) (hE:EnvR μ σA σ) (hv:Rv μ v cv):EnvR μ (wGY a.dst σA v) (put' σ o cv):=by
 rcases A.dst with ⟨h1,h2⟩ | ⟨p,d,h1,h2,h3,_⟩
 ·rw [h1];unfold put';rw [h2];exact hE
 ·rw [h1];unfold put';rw [h2];subst h3;exact hE.put hv
theorem wIG {N:Nat} {l:List Oper} {a:AO} {o:Oper} (A:AOK P N l a o):∀ d,o.dst=some d->d < N:=by
 intro d hd
 rcases A.dst with ⟨_,h2⟩ | ⟨p,d',_,h2,_,h4⟩
 ·rw [h2] at hd;cases hd
 ·rw [h2] at hd;cases hd;exact h4
theorem wSk (HC:wGW C P tb ex) (HY:wFT C P exY) {N:Nat} {l:List Oper} {a:AO} {o:Oper} {μ:Mu} {σA:Tr AV} {σ:Env} {h h':AH} {v:AV} {w:World} (A:AOK P N l a o) (hw:wanted l σ o=true) (hr:opY a.op tb ex exY σA h=some (v,h')) (hE:EnvR μ σA σ) (S:Sim C P μ h w) :
  Step1 P l o σ w fun cv w'=>∃ μ',Ext μ h.fl.nat w μ' w'/\Sim C P μ' h' w'/\EnvR μ' (wGY a.dst σA v) (put' σ o cv)/\h'.fl=h.fl:=by
 have hop:=A.op
 by_cases k4:kdA a.op=4
 ·obtain ⟨μ',w',h1,h2,rfl,h4,h5⟩:=wSj (C:=C) k4 hop σA h v h' hr μ σ w hE S o rfl
  exact .inl ⟨hw,.inl ⟨A.un k4,w',h5,μ',h1,h2,wEW A (hE.mono h1.mono) (wNg μ'),h4⟩⟩
 ·by_cases k5:kdA a.op=5
  ·cases hq:a.op <;> rw [hq] at k5 <;> first | (simp [kdA] at k5;done) | skip
   rename_i x args
   rw [hq] at hop hr
   have hop:wOE x args o.op=true:=hop
   unfold wOE at hop
   split at hop <;> first | (cases hop;done) | skip
   rename_i c hoc
   obtain ⟨ce,cargs,tys⟩:=c
   simp only at hop
   split at hop <;> first | (cases hop;done) | skip
   rename_i f
   simp only [nA] at hop
   have hx:=wAR hop.1 hE
   have ha:=wGb hop.2 hE
   have hr:wGU x args tb ex exY σA h=some (v,h'):=hr
   unfold wGU at hr
   split at hr
   ·rename_i g fi ca hg
    rw [hg] at hx
    obtain ⟨fv,cv,g1,g2,g3⟩:=hx
    obtain ⟨hcall,hgv⟩:=HC _ _ _ _ _ hr
    have G:=hgv μ w _ S (wEN g1 (wEN ha g2))
    refine .inl ⟨hw,.inr (.inr (.inl ⟨_,_,_,Enters.mk (l:=cargs.toList) hoc g3 hcall rfl (by rw [nw]),G,?_⟩))⟩
    rintro cv' w' ⟨μ',h1,h2,h3,h4⟩
    exact ⟨μ',h1,h2,wEW A (hE.mono h1.mono) h3,h4⟩
   ·rename_i b hb
    rw [hb] at hx
    obtain ⟨c,g1,g2⟩:=hx
    have hy:=HY _ _ _ _ _ hr
    have Y:=hy μ w _ c S ha g1
    have R:=Yd.rounds (σ:=σ) hoc g2 rfl Y
    refine .inl ⟨hw,.inr (.inr (.inr (R.mono ?_)))⟩
    rintro cv w' ⟨t,rfl,μ',h1,h2,rfl,h4⟩
    exact ⟨μ',h1,h2,wEW A (hE.mono h1.mono) rfl,h4⟩
   ·cases hr
  ·have hk:kdA a.op=0 \/ kdA a.op=1 \/ kdA a.op=3:=by
    cases hq:a.op <;> rw [hq] at k4 k5 <;> simp [kdA] at k4 k5 ⊢
   obtain ⟨μ',w',cv,h1,h2,h3,h4,h5⟩:=wSi (C:=C) hk hop σA h v h' hr μ σ w hE S o rfl
   exact .inl ⟨hw,.inr (.inl ⟨cv,w',h5,μ',h1,h2,wEW A (hE.mono h1.mono) h3,h4⟩)⟩
theorem wSl (HC:wGW C P tb ex) (HY:wFT C P exY) {N:Nat} {l:List Oper} {a:AO} {o:Oper} {μ:Mu} {σA:Tr AV} {σ:Env} {h h':AH} {v:AV} {w:World} (A:AOK P N l a o) (hw:wanted l σ o=true) (hr:opK a.kd a.op tb ex exY σA h=some (v,h')) (hE:EnvR μ σA σ) (S:Sim C P μ h w) :
  Step1 P l o σ w fun cv w'=>(a.kd=2->Keep w w' Non)/\∃ μ',Ext μ h.fl.nat w μ' w'/\Sim C P μ' h' w'/\EnvR μ' (wGY a.dst σA v) (put' σ o cv)/\h'.fl=h.fl:=by
 by_cases k2:a.kd=2
 ·have hr:wQE a.op tb ex exY σA h=some (v,h'):=by rw [k2] at hr;exact hr
  unfold wQE at hr
  split at hr
  ·rename_i v0 h0 hq
   cases hr
   refine (wSk HC HY A hw hq hE (S.floor h.nx)).mono ?_
   rintro cv w' ⟨μ',h1,h2,h3,h4⟩
   obtain ⟨g1,g2⟩:=S.non h1 h.fl.nat
   exact ⟨fun _=>g1,μ',g2,h2.floor h.fl,h3,rfl⟩
  ·cases hr
 ·have hr:opY a.op tb ex exY σA h=some (v,h'):=by
   have hb:nD a.kd 2=false:=by
    cases hb:nD a.kd 2 with
    | false=>rfl
    | true=>exact absurd (nB hb) k2
   have:opK a.kd a.op=opY a.op:=by unfold opK;rw [hb]
   rw [this] at hr;exact hr
  exact (wSk HC HY A hw hr hE S).mono fun cv w' hq=>⟨fun e=>absurd e k2,hq⟩
def flK (k:Nat):Bool:=nD k 1 || nD k 3
def wJU:List AO->Sch
 | []=>.nil
 | a :: os=>match flK a.kd with
  | true=>.fl a.ix (wJU os)
  | false=>.fx a.ix (wJU os) .stop
theorem wJV (HC:wGW C P tb ex) (HY:wFT C P exY) {N:Nat} {l:List Oper} {ks:List Nat} {Q:wDg} {D:List Deferred}:∀ (os:List AO) (σA:Tr AV) (h:AH) (σA':Tr AV) (h':AH),wAk tb ex exY os σA h=some (σA',h') ->
  (∀ a ∈ os,wHI P N l a=true/\kOf ks a.ix=a.kd)->∀ (μ:Mu) (σ:Env) (w:World),Sim C P μ h w->EnvR μ σA σ ->
  (∀ μ' w' σ',Ext μ h.fl.nat w μ' w'->Sim C P μ' h' w'->EnvR μ' σA' σ'->h'.fl=h.fl->Q D .normal σ' w')->OKS N P l Q D ks (wJU os) σ w
 | [],σA,h,σA',h',hr,_,μ,σ,w,S,hE,hQ=>by
  rw [wAy] at hr;cases hr
  exact hQ μ w σ (Ext.refl μ _ w) S hE rfl
 | a :: os,σA,h,σA',h',hr,hc,μ,σ,w,S,hE,hQ=>by
  obtain ⟨hc1,hk⟩:=hc a (by simp)
  obtain ⟨o,A⟩:=wDT hc1
  have hc2:∀ b ∈ os,wHI P N l b=true/\kOf ks b.ix=b.kd:=fun b hb=>hc b (by simp [hb])
  rw [wBC] at hr
  have hw:=wIe A hE
  cases hwa:wCt σA a.grd with
  | false =>
   rw [hwa] at hr hw
   simp only at hr
   have IH:=wJV HC HY os _ h σA' h' hr hc2 μ (put' σ o undef) w S (wEW A hE (wNg μ)) hQ
   unfold wJU
   split
   ·exact ⟨o,A.get,wIG A,.inr ⟨hw,IH⟩⟩
   ·exact ⟨⟨o,A.get,wIG A,.inr ⟨hw,KeepD.refl l ks _ w,IH⟩⟩,trivial⟩
  | true =>
   rw [hwa] at hr hw
   simp only at hr
   split at hr
   ·rename_i r hop
    obtain ⟨v,h1⟩:=r
    simp only at hr
    unfold wJU
    split
    ·rename_i hfl
     have hk13:a.kd=1 \/ a.kd=3:=by
      unfold flK at hfl
      simp only [kE] at hfl
      exact hfl.imp nB nB
     have hop:opY a.op tb ex exY σA h=some (v,h1):=by
      rcases hk13 with e | e <;> (rw [e] at hop;exact hop)
     have hL:kdA a.op=1 \/ kdA a.op=3:=by
      rcases hk13 with e | e
      ·exact A.k1 e
      ·exact .inr (A.k3 e)
     obtain ⟨rfl,hh⟩:=wIF (C:=C) hL A.op σA h v h1 hop
     obtain ⟨cv,g1,g2⟩:=hh μ σ w hE S
     refine ⟨o,A.get,wIG A,.inl ⟨hw,?_⟩⟩
     by_cases k3:a.kd=3
     ·obtain ⟨_,hp⟩:=wIE (tb:=tb) (ex:=ex) (exY:=exY) (A.k3 k3) A.op σA h1 v h1 hop
      obtain ⟨cv,g1,g2⟩:=hp μ σ hE
      exact ⟨cv,fun w' _=>g2 o w' rfl,⟨fun _ w'=>g2 o w' rfl,fun _ w' _=>g2 o w' rfl⟩,wJV HC HY os _ h1 σA' h' hr hc2 μ _ w S (wEW A hE g1) hQ⟩
     ·exact ⟨cv,g2 o rfl,⟨fun e=>absurd (hk ▸ e) k3,fun e=>by rw [hk] at e;rcases hk13 with q | q <;> omega⟩,wJV HC HY os _ h1 σA' h' hr hc2 μ _ w S (wEW A hE g1) hQ⟩
    ·refine ⟨⟨o,A.get,wIG A,(wSl HC HY A hw hop hE S).mono ?_⟩,trivial⟩
     rintro cv w1 ⟨q0,μ1,q1,q2,q3,q4⟩
     refine ⟨⟨fun e=>q0 (hk ▸ e),fun e=>absurd (hk ▸ e) A.k5⟩,wJV HC HY os _ h1 σA' h' hr hc2 μ1 _ w1 q2 q3 fun μ' w' σ' r1 r2 r3 r4=>?_⟩
     rw [q4] at r1 r4
     exact hQ μ' w' σ' (q1.trans r1) r2 r3 r4
   ·cases hr
end
end
end Go.KX
namespace Go.KX
open Go.RowKit Go.KL
section
variable {C:Chk} {P:Program} {tb:Tr AF} {ex exY:Run}
def OkA (C:Chk) (P:Program) (op:Op) (f:Tr AV->AH->Option (AV × AH)):Prop :=
 ∀ σA h v h',f σA h=some (v,h')->∃ (B:AB) (vf:Pos->AV),h'=h.push B/\v=vf h.nx/\(∀ h2:AH,f σA h2=some (vf h2.nx,h2.push B))/\wMQ B/\∀ μ σ,EnvR μ σA σ->∀ o:Oper,o.op=op ->
  ∃ (ob:Obj) (val:Nat->Value),(∀ w:World,Runs P σ w o (val w.heap.size) (w.alloc ob)) /\
   (∀ μ' (w:World) b,μ.Le μ'->w.heap[b]?=some ob->AbR C P μ' w ⟨b,0,g0⟩ B)/\∀ μ' p b,μ' p=some ⟨b,0,g0⟩->Rv μ' (vf p) (val b)
theorem wMV {α:Type} {b:Bool} {x:Option α} (h:b=true):ifO b x=x:=by subst h;rfl
theorem a_new {T:Nat} {z:List AV} {op:Op} (hc:wNw P T z op=true):OkA C P op (wQd T z):=by
 intro σA h v h' hr
 cases hr
 unfold wNw at hc
 split at hc
 ·simp only [nA] at hc
  have e:=nB hc.1
  subst e
  obtain ⟨i,zv,z1,z2,z3⟩:=wFQ hc.2
  refine ⟨.cells T z,fun p=>.ptr p 0,rfl,rfl,fun h2=>rfl,trivial,fun μ σ hE o ho=>?_⟩
  refine ⟨_,fun b=>.pointer (some ⟨b,0,none⟩),fun w=>⟨by rw [ho];rfl,?_⟩,fun μ' w b hm hb=>⟨_,z3 μ',hb⟩,fun μ' p b hp=>⟨_,hp,rfl⟩⟩
  simp [execOp,ho,Instr.alloc,wDz z1 z2,newVar,newRow,newObj,Sem.run]
 ·cases hc
theorem a_box {T:Nat} {x:AOd} {op:Op} (hc:wNx T x op=true):OkA C P op (wMM T x):=by
 intro σA h v h' hr
 cases hr
 unfold wNx at hc
 split at hc
 ·simp only [nA] at hc
  have e:=nB hc.1
  subst e
  refine ⟨.cells T _,fun p=>.ptr p 0,rfl,rfl,fun h2=>rfl,trivial,fun μ σ hE o ho=>?_⟩
  obtain ⟨vs,v1,v2⟩:=wGa (wAR hc.2 hE)
  refine ⟨.cells vs.toArray T,fun b=>.pointer (some ⟨b,0,none⟩),fun w=>⟨by rw [ho];rfl,?_⟩,fun μ' w b hm hb=>⟨vs,v1.mono hm,hb⟩,fun μ' p b hp=>⟨_,hp,rfl⟩⟩
  simp [execOp,ho,Instr.box,newVar,newRow,newObj,v2,Sem.run]
 ·cases hc
theorem a_mkm {op:Op} (hc:wNy op=true):OkA C P op wQe:=by
 intro σA h v h' hr
 cases hr
 unfold wNy at hc
 split at hc
 ·refine ⟨.map0,fun p=>.map p,rfl,rfl,fun h2=>rfl,trivial,fun μ σ hE o ho=>?_⟩
  refine ⟨.map #[] 0,fun b=>.map (some b),fun w=>⟨by rw [ho];rfl,?_⟩,fun μ' w b hm hb=>⟨0,hb⟩,fun μ' p b hp=>⟨_,hp,rfl⟩⟩
  simp [execOp,ho,Instr.makeMap,newObj,Sem.run,Result.andThen]
 ·cases hc
theorem a_mks {T sz by_:Nat} {z:List AV} {x y:AOd} {op:Op} (hc:wNz P T sz by_ z x y op=true):OkA C P op (wGv T sz by_ z x y):=by
 intro σA h v h' hr
 unfold wNz at hc
 split at hc
 ·rename_i t x' y'
  simp only [nA] at hc
  obtain ⟨c1,c2,c3,c4,c5,c6,c7⟩:=hc
  obtain ⟨d,d1,d2⟩:=wAp c1
  split at d2 <;> first | (cases d2;done) | skip
  have e:=nB d2
  subst e
  rename_i e
  obtain ⟨i,i1,i2⟩:=wGc c2
  obtain ⟨i',j1,j2⟩:=wGd c3
  obtain ⟨i'',zv,k1,k2,k3⟩:=wFQ c4
  rw [i1] at j1 k1;cases j1;cases k1
  have hz:=nB c5
  unfold wGv at hr
  split at hr
  ·rename_i l c hl hcc
   obtain ⟨hb,hr⟩:=wBV hr
   cases hr
   simp only [nA,nO] at hb
   obtain ⟨⟨⟨b1,b2⟩,b3⟩,b4⟩:=hb
   refine ⟨.cells e (rep c z),fun p=>.sl p 0 l c,rfl,rfl,fun h2=>(by simp only [wGv,hl,hcc];exact wMV (by simp [b1,b2,b3,b4])),trivial,fun μ σ hE o ho=>?_⟩
   have hx:=wAR c6 hE;rw [wBy hl] at hx
   have hy:=wAR c7 hE;rw [wBy hcc] at hy
   have hx:ev σ x'=.int .i64 (l:Int):=hx
   have hy:ev σ y'=.int .i64 (c:Int):=hy
   have zlen:zv.cells.size=sz:=by rw [<- hz,wEl,<- wDG (k3 μ)];simp
   have hcells:(madeCells zv.cells (c * sz))=((nN c zv.cells.toList).flatten).toArray:=by
    apply nH
    have:=wFS (zc:=zv.cells) (n:=0) c
    simp only [or_false] at this
    rw [zlen] at this
    show ((nU (c * sz)).map (zv.cells[· % zv.cells.size]!)).toList=_
    rw [zlen,this]
   refine ⟨.cells ((nN c zv.cells.toList).flatten).toArray e,fun b=>.slice (some ⟨b,0,none⟩) l c,fun w=>⟨by rw [ho];rfl,?_⟩,fun μ' w b hm hb=>⟨_,wHA (k3 μ') c,hb⟩,fun μ' p b hp=>⟨_,hp,b1,rfl⟩⟩
   have hrun:=run_makeSlice (P:=P) w t e i zv d1 i1 k2 .i64 .i64 (l:Int) (c:Int) (by omega) (by omega) (by rw [i2,ni];exact b2) (by rw [j2];have hb:=Int.ofNat_le.2 b3;rw [Int.natCast_mul] at hb;exact hb) (by omega)
   simp only [ni,i2] at hrun
   rw [hcells] at hrun
   simp [execOp,ho,hx,hy,hrun,Result.andThen]
  ·cases hr
 ·cases hc
theorem wSm {T n:Nat} {z:List AV} {ps:List (Nat × Nat × AOd)} {op:Op} (hc:wJS P T n z ps op=true):OkA C P op (wEi T n z ps):=by
 intro σA h v h' hr
 unfold wJS at hc
 split at hc
 ·rename_i t m qs
  simp only [nA] at hc
  obtain ⟨c1,c2,c3⟩:=hc
  have e:=nB c1
  subst e
  obtain ⟨d,d1,d2⟩:=wAp c2
  split at d2 <;> first | (cases d2;done) | skip
  have e:=nB d2
  subst e
  rename_i e
  split at c3
  ·rename_i i hi
   simp only [nA,nO] at c3
   obtain ⟨c3,c4,c5⟩:=c3
   split at c5
   ·rename_i zv hz
    unfold wEi at hr
    split at hr
    ·rename_i r hr3
     cases hr
     refine ⟨.cells e r,fun p=>.sl p 0 m m,rfl,rfl,fun h2=>by simp only [wEi,hr3],trivial,fun μ σ hE o ho=>?_⟩
     obtain ⟨R,r1,r2,r3⟩:=wHF hE hr3 c4 (wGG μ c5)
     have hf:=wDo _ _ _ _ r1
     refine ⟨.cells R.toArray e,fun b=>.slice (some ⟨b,0,none⟩) m m,fun w=>⟨by rw [ho];rfl,?_⟩,fun μ' w b hm hb=>⟨_,r2.mono hm,hb⟩,fun μ' p b hp=>⟨_,hp,nE _,rfl⟩⟩
     have hs:∀ w,(sizeOf e).run P w=.ok i.size w:=fun w=>by simp [sizeOf,typeInfo,hi]
     have hn':¬ m * i.size > 2 ^ 24:=by omega
     have hq:(qs.map fun (p:Nat × Operand)=>(p.1,ev σ p.2)).toList=qs.toList.map fun (p:Nat × Operand)=>(p.1,ev σ p.2):=by simp
     by_cases h0:m * i.size=0
     ·rw [h0] at hf
      simp only [List.range_zero,nz] at hf
      have hr0:(nU 0).map (fun x=>(#[]:Array Value)[x % (#[]:Array Value).size]!)=#[]:=by rw [show (nU 0)=#[] from rfl,Array.map_empty]
      have hn0:¬ (0:Nat) > 2 ^ 24:=by decide
      simp only [execOp,ho,Instr.buildSlice,Sem.run_bind,wAt d1,hs,Result.andThen_ok,h0,if_neg hn0,if_true,Sem.run_pure,hq,hr0,hf]
      simp [newRow,newObj,Sem.run,Result.andThen]
     ·have hzs:(nU (m * i.size)).map (zv.cells[· % zv.cells.size]!)=((kZ (m * i.size)).map fun k=>zv.cells[k % zv.cells.size]!).toArray:=by rw [<- kR,List.map_toArray]
      simp only [execOp,ho,Instr.buildSlice,Sem.run_bind,wAt d1,hs,wDz hi hz,Result.andThen_ok,if_neg hn',if_neg h0,Sem.run_pure,hq,hzs,hf]
      simp [newRow,newObj,Sem.run,Result.andThen]
    ·cases hr
   ·cases c5
  ·cases c3
 ·cases hc
def wBW:AOp->List AOd
 | .mv x=>[x]
 | .pick c x y=>[c] ++ [x] ++ [y]
 | .new _ _=>[]
 | .box _ x=>[x]
 | .ld x=>[x]
 | .ldA _ x=>[x]
 | .st _ x y=>[x] ++ [y]
 | .nilc x=>[x]
 | .add x y=>[x] ++ [y]
 | .sub x y=>[x] ++ [y]
 | .mul x y=>[x] ++ [y]
 | .quo x y=>[x] ++ [y]
 | .rem x y=>[x] ++ [y]
 | .lss x y=>[x] ++ [y]
 | .leq x y=>[x] ++ [y]
 | .gtr x y=>[x] ++ [y]
 | .geq x y=>[x] ++ [y]
 | .eql x y=>[x] ++ [y]
 | .neq x y=>[x] ++ [y]
 | .eqb _ x y=>[x] ++ [y]
 | .eqn _ _ x y=>[x] ++ [y]
 | .eqs _ _ x y=>[x] ++ [y]
 | .neg x=>[x]
 | .not x=>[x]
 | .cvt _ x=>[x]
 | .mkf _ fi ca=>fi ++ ca
 | .mkm =>[]
 | .mks _ _ _ _ x y=>[x] ++ [y]
 | .slc _ x lo hi mx=>[x] ++ lo.toList ++ hi.toList ++ mx.toList
 | .slcA _ _ x lo hi=>[x] ++ lo.toList ++ hi.toList
 | .fad _ x=>[x]
 | .fld _ x=>[x]
 | .fldA _ _ x=>[x]
 | .iad _ x y=>[x] ++ [y]
 | .iadA _ _ x y=>[x] ++ [y]
 | .ix _ x y=>[x] ++ [y]
 | .ixA _ _ x y=>[x] ++ [y]
 | .lk _ _ _ _ x y=>[x] ++ [y]
 | .mput _ _ x y z=>[x] ++ [y] ++ [z]
 | .mdel _ _ x y=>[x] ++ [y]
 | .ext _ x=>[x]
 | .bld _ ps=>(ps.map fun q=>q.2.2)
 | .blds _ _ _ ps=>(ps.map fun q=>q.2.2)
 | .len x=>[x]
 | .lenM x=>[x]
 | .cap x=>[x]
 | .app _ _ _ x y=>[x] ++ [y]
 | .cpy _ x y=>[x] ++ [y]
 | .clr _ x=>[x]
 | .min x y=>[x] ++ [y]
 | .max x y=>[x] ++ [y]
 | .and x y=>[x] ++ [y]
 | .shr x y=>[x] ++ [y]
 | .ixs _ y=>[y]
 | .apz _ _ _ _ x y=>[x] ++ [y]
 | .call x l=>[x] ++ l
 | .bad=>[]
theorem wFq {σ1 σ2:Tr AV}:∀ {l:List AOd},(∀ x ∈ l,evA σ1 x=evA σ2 x)->evs σ1 l=evs σ2 l
 | [],_=>rfl
 | x :: l,h=>by
  show evA σ1 x :: evs σ1 l=evA σ2 x :: evs σ2 l
  rw [h x (by simp),wFq fun y hy=>h y (by simp [hy])]
theorem wFU {σ1 σ2:Tr AV}:∀ {ps:List (Nat × Nat × AOd)} {cs:List AV},(∀ q ∈ ps,evA σ1 q.2.2=evA σ2 q.2.2)->wIW σ1 cs ps=wIW σ2 cs ps
 | [],cs,_=>rfl
 | (off,n,x) :: ps,cs,h=>by
  have e:evA σ1 x=evA σ2 x:=h (off,n,x) (by simp)
  simp only [wIW,e]
  cases nD (len (evA σ2 x).cells) n with
  | false=>rfl
  | true =>
   cases wQb cs off (evA σ2 x).cells with
   | none=>rfl
   | some cs'=>exact wFU fun q hq=>h q (by simp [hq])
theorem wEn {σ1 σ2:Tr AV} {o:Option AOd} (h:∀ x ∈ o.toList,evA σ1 x=evA σ2 x):bnd σ1 o=bnd σ2 o:=by
 cases o with
 | none=>rfl
 | some x =>
  have e:=h x (by simp)
  simp only [bnd,e]
theorem wOG {σ1 σ2:Tr AV} (op:AOp) (h:∀ x ∈ wBW op,evA σ1 x=evA σ2 x) (hh:AH):opY op tb ex exY σ1 hh=opY op tb ex exY σ2 hh:=by
 cases op with
 | bld z ps=>exact (show wNT z ps σ1 hh=wNT z ps σ2 hh by simp only [wNT];rw [wFU fun q hq=>h q.2.2 (ny.2 ⟨q,hq,rfl⟩)])
 | blds T n z ps=>exact (show wEi T n z ps σ1 hh=wEi T n z ps σ2 hh by simp only [wEi];rw [wFU fun q hq=>h q.2.2 (ny.2 ⟨q,hq,rfl⟩)])
 | mkf f fi ca=>exact (show wMN f fi ca σ1 hh=wMN f fi ca σ2 hh by simp only [wMN];rw [wFq fun x hx=>h x (nb _ hx),wFq fun x hx=>h x (nZ _ hx)])
 | call x l=>exact (show wGU x l tb ex exY σ1 hh=wGU x l tb ex exY σ2 hh by simp only [wGU];rw [h x (nb _ (by simp)),wFq fun y hy=>h y (nZ _ hy)])
 | slc sz x lo hi mx=>exact (show wKP sz x lo hi mx σ1 hh=wKP sz x lo hi mx σ2 hh by
   simp only [wKP]
   rw [h x (by simp [wBW]),wEn fun y hy=>h y (by simp only [wBW,nQ];exact .inl (.inl (.inr hy))),wEn fun y hy=>h y (by simp only [wBW,nQ];exact .inl (.inr hy)),wEn fun y hy=>h y (by simp only [wBW,nQ];exact .inr hy)])
 | slcA sz n x lo hi=>exact (show wGw sz n x lo hi σ1 hh=wGw sz n x lo hi σ2 hh by
   simp only [wGw]
   rw [h x (by simp [wBW]),wEn fun y hy=>h y (by simp only [wBW,nQ];exact .inl (.inr hy)),wEn fun y hy=>h y (by simp only [wBW,nQ];exact .inr hy)])
 | mv a_x=>exact (show wSA a_x σ1 hh=wSA a_x σ2 hh by simp only [wSA,h a_x (by simp [wBW])])
 | pick a_c a_x a_y=>exact (show wGt a_c a_x a_y σ1 hh=wGt a_c a_x a_y σ2 hh by simp only [wGt,h a_c (by simp [wBW]),h a_x (by simp [wBW]),h a_y (by simp [wBW])])
 | new a_T a_z=>rfl
 | box a_T a_x=>exact (show wMM a_T a_x σ1 hh=wMM a_T a_x σ2 hh by simp only [wMM,h a_x (by simp [wBW])])
 | ld a_x=>exact (show wOz a_x σ1 hh=wOz a_x σ2 hh by simp only [wOz,h a_x (by simp [wBW])])
 | ldA a_n a_x=>exact (show wHi a_n a_x σ1 hh=wHi a_n a_x σ2 hh by simp only [wHi,h a_x (by simp [wBW])])
 | st a_n a_x a_y=>exact (show wQD a_n a_x a_y σ1 hh=wQD a_n a_x a_y σ2 hh by simp only [wQD,h a_x (by simp [wBW]),h a_y (by simp [wBW])])
 | nilc a_x=>exact (show wGu a_x σ1 hh=wGu a_x σ2 hh by simp only [wGu,h a_x (by simp [wBW])])
 | add a_x a_y=>exact (show wNH a_x a_y σ1 hh=wNH a_x a_y σ2 hh by simp only [wNH,h a_x (by simp [wBW]),h a_y (by simp [wBW])])
 | sub a_x a_y=>exact (show wNI a_x a_y σ1 hh=wNI a_x a_y σ2 hh by simp only [wNI,h a_x (by simp [wBW]),h a_y (by simp [wBW])])
 | mul a_x a_y=>exact (show wNJ a_x a_y σ1 hh=wNJ a_x a_y σ2 hh by simp only [wNJ,h a_x (by simp [wBW]),h a_y (by simp [wBW])])
 | quo a_x a_y=>exact (show wNK a_x a_y σ1 hh=wNK a_x a_y σ2 hh by simp only [wNK,h a_x (by simp [wBW]),h a_y (by simp [wBW])])
 | rem a_x a_y=>exact (show wNL a_x a_y σ1 hh=wNL a_x a_y σ2 hh by simp only [wNL,h a_x (by simp [wBW]),h a_y (by simp [wBW])])
 | lss a_x a_y=>exact (show wNM a_x a_y σ1 hh=wNM a_x a_y σ2 hh by simp only [wNM,h a_x (by simp [wBW]),h a_y (by simp [wBW])])
 | leq a_x a_y=>exact (show wNN a_x a_y σ1 hh=wNN a_x a_y σ2 hh by simp only [wNN,h a_x (by simp [wBW]),h a_y (by simp [wBW])])
 | gtr a_x a_y=>exact (show wNO a_x a_y σ1 hh=wNO a_x a_y σ2 hh by simp only [wNO,h a_x (by simp [wBW]),h a_y (by simp [wBW])])
 | geq a_x a_y=>exact (show wNP a_x a_y σ1 hh=wNP a_x a_y σ2 hh by simp only [wNP,h a_x (by simp [wBW]),h a_y (by simp [wBW])])
 | eql a_x a_y=>exact (show wNQ a_x a_y σ1 hh=wNQ a_x a_y σ2 hh by simp only [wNQ,h a_x (by simp [wBW]),h a_y (by simp [wBW])])
 | neq a_x a_y=>exact (show wNR a_x a_y σ1 hh=wNR a_x a_y σ2 hh by simp only [wNR,h a_x (by simp [wBW]),h a_y (by simp [wBW])])
 | eqb a_ne a_x a_y=>exact (show wKK a_ne a_x a_y σ1 hh=wKK a_ne a_x a_y σ2 hh by simp only [wKK,h a_x (by simp [wBW]),h a_y (by simp [wBW])])
 | eqn a_k a_ne a_x a_y=>exact (show wKL a_k a_ne a_x a_y σ1 hh=wKL a_k a_ne a_x a_y σ2 hh by simp only [wKL,h a_x (by simp [wBW]),h a_y (by simp [wBW])])
 | eqs a_ne a_s a_x a_y=>exact (show wKM a_ne a_s a_x a_y σ1 hh=wKM a_ne a_s a_x a_y σ2 hh by simp only [wKM,h a_x (by simp [wBW]),h a_y (by simp [wBW])])
 | neg a_x=>exact (show wNS a_x σ1 hh=wNS a_x σ2 hh by simp only [wNS,h a_x (by simp [wBW])])
 | not a_x=>exact (show wKN a_x σ1 hh=wKN a_x σ2 hh by simp only [wKN,h a_x (by simp [wBW])])
 | cvt a_k a_x=>exact (show wKO a_k a_x σ1 hh=wKO a_k a_x σ2 hh by simp only [wKO,h a_x (by simp [wBW])])
 | mkm =>rfl
 | mks a_T a_sz a_bytes a_z a_x a_y=>exact (show wGv a_T a_sz a_bytes a_z a_x a_y σ1 hh=wGv a_T a_sz a_bytes a_z a_x a_y σ2 hh by simp only [wGv,h a_x (by simp [wBW]),h a_y (by simp [wBW])])
 | fad a_off a_x=>exact (show wKQ a_off a_x σ1 hh=wKQ a_off a_x σ2 hh by simp only [wKQ,h a_x (by simp [wBW])])
 | fld a_off a_x=>exact (show wKR a_off a_x σ1 hh=wKR a_off a_x σ2 hh by simp only [wKR,h a_x (by simp [wBW])])
 | fldA a_off a_n a_x=>exact (show wGx a_off a_n a_x σ1 hh=wGx a_off a_n a_x σ2 hh by simp only [wGx,h a_x (by simp [wBW])])
 | iad a_sz a_x a_y=>exact (show wKS a_sz a_x a_y σ1 hh=wKS a_sz a_x a_y σ2 hh by simp only [wKS,h a_x (by simp [wBW]),h a_y (by simp [wBW])])
 | iadA a_sz a_n a_x a_y=>exact (show wGy a_sz a_n a_x a_y σ1 hh=wGy a_sz a_n a_x a_y σ2 hh by simp only [wGy,h a_x (by simp [wBW]),h a_y (by simp [wBW])])
 | ix a_n a_x a_y=>exact (show wQf a_n a_x a_y σ1 hh=wQf a_n a_x a_y σ2 hh by simp only [wQf,h a_x (by simp [wBW]),h a_y (by simp [wBW])])
 | ixA a_sz a_n a_x a_y=>exact (show wKT a_sz a_n a_x a_y σ1 hh=wKT a_sz a_n a_x a_y σ2 hh by simp only [wKT,h a_x (by simp [wBW]),h a_y (by simp [wBW])])
 | lk a_two a_k a_ok a_z a_x a_y=>exact (show wPA a_two a_k a_ok a_z a_x a_y σ1 hh=wPA a_two a_k a_ok a_z a_x a_y σ2 hh by simp only [wPA,h a_x (by simp [wBW]),h a_y (by simp [wBW])])
 | mput a_two a_k a_x a_y a_z=>exact (show wGS a_two a_k a_x a_y a_z σ1 hh=wGS a_two a_k a_x a_y a_z σ2 hh by simp only [wGS,h a_x (by simp [wBW]),h a_y (by simp [wBW]),h a_z (by simp [wBW])])
 | mdel a_two a_k a_x a_y=>exact (show wGT a_two a_k a_x a_y σ1 hh=wGT a_two a_k a_x a_y σ2 hh by simp only [wGT,h a_x (by simp [wBW]),h a_y (by simp [wBW])])
 | ext a_i a_x=>exact (show wKU a_i a_x σ1 hh=wKU a_i a_x σ2 hh by simp only [wKU,h a_x (by simp [wBW])])
 | len a_x=>exact (show wKV a_x σ1 hh=wKV a_x σ2 hh by simp only [wKV,h a_x (by simp [wBW])])
 | lenM a_x=>exact (show wFE a_x σ1 hh=wFE a_x σ2 hh by simp only [wFE,h a_x (by simp [wBW])])
 | cap a_x=>exact (show wKW a_x σ1 hh=wKW a_x σ2 hh by simp only [wKW,h a_x (by simp [wBW])])
 | app a_T a_sz a_bytes a_x a_y=>exact (show wJH a_T a_sz a_bytes a_x a_y σ1 hh=wJH a_T a_sz a_bytes a_x a_y σ2 hh by simp only [wJH,h a_x (by simp [wBW]),h a_y (by simp [wBW])])
 | cpy a_sz a_x a_y=>exact (show wJI a_sz a_x a_y σ1 hh=wJI a_sz a_x a_y σ2 hh by simp only [wJI,h a_x (by simp [wBW]),h a_y (by simp [wBW])])
 | clr a_z a_x=>exact (show wJJ a_z a_x σ1 hh=wJJ a_z a_x σ2 hh by simp only [wJJ,h a_x (by simp [wBW])])
 | min a_x a_y=>exact (show wNU a_x a_y σ1 hh=wNU a_x a_y σ2 hh by simp only [wNU,h a_x (by simp [wBW]),h a_y (by simp [wBW])])
 | max a_x a_y=>exact (show wNV a_x a_y σ1 hh=wNV a_x a_y σ2 hh by simp only [wNV,h a_x (by simp [wBW]),h a_y (by simp [wBW])])
 | bad=>rfl
 | and a_x a_y=>exact (show wNX a_x a_y σ1 hh=wNX a_x a_y σ2 hh by simp only [wNX,h a_x (by simp [wBW]),h a_y (by simp [wBW])])
 | ixs a_l a_y=>exact (show wKX a_l a_y σ1 hh=wKX a_l a_y σ2 hh by simp only [wKX,h a_y (by simp [wBW])])
 | apz a_T a_sz a_b a_z a_x a_y=>exact (show wJM a_T a_sz a_b a_z a_x a_y σ1 hh=wJM a_T a_sz a_b a_z a_x a_y σ2 hh by simp only [wJM,h a_x (by simp [wBW]),h a_y (by simp [wBW])])
 | shr a_x a_y=>exact (show wNY a_x a_y σ1 hh=wNY a_x a_y σ2 hh by simp only [wNY,h a_x (by simp [wBW]),h a_y (by simp [wBW])])
variable {r:Option Nat} {N:Nat} {Q:wDg} {D:List Deferred} {l:List Oper}
theorem CK.anyRel {id:Nat} {σ:Env} {w:World} (hm:P.follows .mixedOrders=true) (hpr:∀ i,i < l.length->∀ j ∈ prI l i,j < i) (J:(Nat->Bool)->Env->World->Prop)
  (h0:J (fun _=>false) σ { w with drawn:=w.drawn + 1 })
  (step:∀ S i σ w,i < l.length->S i=false->(∀ j ∈ prI l i,S j=true)->(∀ k,k < l.length->S k=true->∀ j ∈ prI l k,S j=true)->(∀ k,S k=true->k < l.length)->J S σ w ->
   ∃ o,l[i]?=some o/\(∀ d,o.dst=some d->d < N)/\Step1 P l o σ w fun v w'=>J (fun k=>k == i || S k) (put' σ o v) w')
  (fin:∀ S σ w,(∀ i,i < l.length->S i=true)->J S σ w->Q D .normal σ w):CK r N P (.region id l.toArray true) Q D σ w:=by
 intro a ha
 refine wpIn_region_any hm ?_
 have prog:∀ (listed:Array Bool),listed.size=l.length->Region.ready .any l.toArray listed=[]->∀ i,i < l.length->listed.getD i false=true:=by
  intro listed hsz hnil i
  induction i using Nat.strongRecOn with
  | _ i ih =>
   intro hi
   cases hb:listed.getD i false with
   | true=>rfl
   | false =>
    have:i ∈ Region.ready .any l.toArray listed:=(wDl hsz).2 ⟨hi,hb,fun j hj=>ih j (hpr i hi j hj) (Nat.lt_trans (hpr i hi j hj) hi)⟩
    rw [hnil] at this;cases this
 have core:∀ (fuel:Nat) (listed:Array Bool) (σ:Env) (a:Act) (w:World),listed.size=l.length->Rep N D a σ->(∀ k,k < l.length->listed.getD k false=true->∀ j ∈ prI l k,listed.getD j false=true) ->
   J (fun i=>listed.getD i false) σ w->(listed.toList.filter (! ·)).length <= fuel->wpAnyIn (WF r) 0 P .any l.toArray (wIO N Q) fuel listed a w:=by
  intro fuel
  induction fuel with
  | zero =>
   intro listed σ a w hsz hr hdc hJ hf
   have hall:∀ i,i < l.length->listed.getD i false=true:=by
    intro i hi
    cases hb:listed.getD i false with
    | true=>rfl
    | false=>have:=wFj listed i (by omega) hb;omega
   refine ⟨?_,σ,D,hr,fin _ σ w hall hJ⟩
   cases hr:Region.ready .any l.toArray listed with
   | nil=>rfl
   | cons x xs =>
    have hx:x ∈ Region.ready .any l.toArray listed:=by rw [hr];simp
    obtain ⟨h1,h2,_⟩:=(wDl hsz).1 hx
    rw [hall x h1] at h2;cases h2
  | succ fuel ih =>
   intro listed σ a w hsz hr hdc hJ hf
   refine ⟨fun hnil=>⟨σ,D,hr,fin _ σ w (prog listed hsz hnil) hJ⟩,fun i hi=>?_⟩
   obtain ⟨hlt,hun,hpi⟩:=(wDl hsz).1 hi
   have hsz':(listed.setIfInBounds i true).size=l.length:=by simpa using hsz
   have hf':((listed.setIfInBounds i true).toList.filter (! ·)).length <= fuel:=by have:=wFj listed i (by omega) hun;omega
   have hS:∀ k,listed.getD k false=true->k < l.length:=by
    intro k hk
    rcases nj k l.length with h | h
    ·exact h
    ·rw [na,Array.getElem?_eq_none (by omega)] at hk;cases hk
   obtain ⟨o,ho,hN,hst⟩:=step _ i σ w hlt hun hpi hdc hS hJ
   refine wGm ho hr hN hst ?_
   intro v w' a' hr' hJ'
   refine ih _ (KL.put' σ o v) a' w' hsz' hr' ?_ ?_ hf'
   ·intro k hk hkl j hj
    rw [wFi (by omega)] at hkl ⊢
    rcases hkl with rfl | hkl
    ·exact .inr (hpi j hj)
    ·exact .inr (hdc k hk hkl j hj)
   ·have e:(fun k=>(listed.setIfInBounds i true).getD k false)=fun k=>k == i || listed.getD k false:=by
     funext k
     rw [Bool.eq_iff_iff,wFi (by omega),kE,beq_iff_eq]
    rw [e]
    exact hJ'
 have rep:∀ k,(kG l.toArray.size false).getD k false=false:=by
  intro k
  rw [na,kA]
  split <;> rfl
 refine core l.toArray.size (kG l.toArray.size false) σ a _ (by simp) ha ?_ ?_ ?_
 ·intro k hk hkl
  rw [rep k] at hkl
  cases hkl
 ·have e:(fun i=>(kG l.toArray.size false).getD i false)=fun _=>false:=by
   funext i
   rw [na,kA]
   split <;> rfl
  rw [e]
  exact h0
 ·exact nP (List.length_filter_le _ _) (by simp)
end
end Go.KX
