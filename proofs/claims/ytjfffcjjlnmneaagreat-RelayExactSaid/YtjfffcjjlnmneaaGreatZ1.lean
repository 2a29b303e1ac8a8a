import Derived.Test.YtjfffcjjlnmneaaGreatZ0
import Derived.Lib.AppendZeros
namespace Go.KL
open Go.RowKit
open Go.KX (LoopAt Yd updL Dfr roundQ retM)
section
variable {B:Base} {φ φ':PHeap} {L M:List Res} {w w':World}
theorem St.keepX (h:St B φ L w) {X:Nat→Prop} (K:Keep w w' X) (h1:∀ b,X b→φ b=none∧B.mine b) (h2:∀ r ∈ L,∀ b,r.blk?=some b→¬ X b):St B φ L w' :=
  ⟨K.os.trans h.os,K.tape.trans h.tape,K.output.trans h.output,Nat.le_trans h.size K.size,fun b hb hm=>(K.block b (Nat.lt_of_lt_of_le hb h.size) fun hx=>hm (h1 b hx).2).trans (h.old b hb hm),
   fun b o hb=>(K.block b (lt_of_some (h.fro b o hb)) fun hx=>by rw [(h1 b hx).1] at hb;cases hb).trans (h.fro b o hb),h.le,h.src,fun r hr=>(h.at_ r hr).keep K (h2 r hr),h.own,h.dj⟩
theorem St.left (h:St B φ (L ++ M) w):St B φ L w :=
  ⟨h.os,h.tape,h.output,h.size,h.old,h.fro,h.le,h.src,fun r hr=>h.at_ r (List.mem_append_left _ hr),fun r hr=>h.own r (List.mem_append_left _ hr),fun i j r s b hi hj =>
    h.dj i j r s b (by rw [List.getElem?_append_left (List.getElem?_eq_some_iff.1 hi).1];exact hi) (by rw [List.getElem?_append_left (List.getElem?_eq_some_iff.1 hj).1];exact hj)⟩
theorem St.addLast (h:St B φ L w) {r:Res} {b:Nat} (hr:r.At w) (hb:r.blk?=some b) (hf:φ b=none) (hm:B.mine b) (hn:∀ s ∈ L,s.blk? ≠ some b):St B φ (L ++ [r]) w:=by
  refine ⟨h.os,h.tape,h.output,h.size,h.old,h.fro,h.le,h.src,fun s hs=>?_,fun s hs c hc=>?_,fun i j s u c hi hj hs hu=>?_⟩
  · rcases List.mem_append.1 hs with hs | hs
    · exact h.at_ s hs
    · rw [List.mem_singleton.1 hs];exact hr
  · rcases List.mem_append.1 hs with hs | hs
    · exact h.own s hs c hc
    · rw [List.mem_singleton.1 hs,hb] at hc
      cases hc
      exact ⟨hf,hm⟩
  · have at_:∀ (i:Nat) (s:Res),(L ++ [r])[i]?=some s→L[i]?=some s ∨ (i=L.length∧s=r):=by
      intro i s hi
      rcases Nat.lt_or_ge i L.length with hl | hl
      · rw [List.getElem?_append_left hl] at hi;exact .inl hi
      · rw [List.getElem?_append_right hl] at hi
        have hz:i - L.length=0:=by
          have:=(List.getElem?_eq_some_iff.1 hi).1
          simp at this
          omega
        rw [hz] at hi
        simp at hi
        exact .inr ⟨by omega,hi.symm⟩
    rcases at_ i s hi with h1 | ⟨h1,rfl⟩ <;> rcases at_ j u hj with h2 | ⟨h2,rfl⟩
    · exact h.dj i j s u c h1 h2 hs hu
    · rw [hb] at hu;cases hu
      exact absurd hs (hn s (List.mem_of_getElem? h1))
    · rw [hb] at hs;cases hs
      exact absurd hu (hn u (List.mem_of_getElem? h2))
    · omega
theorem St.putObj {l:Nat} {o o2:Obj} (h:St B φ (.obj l o :: L) w) (K:Keep w w' (·=l)) (h2:w'.heap[l]?=some o2):St B φ (.obj l o2 :: L) w' :=
  h.set (k:=0) (r:=.obj l o) (r':=.obj l o2) rfl (K.weak fun b _ e=>by rw [e];rfl) h2 fun b hb=>.inl hb
theorem St.outObj {l:Nat} {o:Obj} (h:St B φ (.obj l o :: L) w) (K:Keep w w' (·=l)):St B φ L w':=by
  have hm:=h.own (.obj l o) (by simp) l rfl
  have h0:St B φ L w:=h.drop 0
  refine h0.keepX K (fun b e=>by rw [e];exact hm) fun r hr b hb e=>?_
  subst e
  obtain ⟨i,hi⟩:=List.getElem?_of_mem hr
  have:=h.dj 0 (i + 1) (.obj b o) r b rfl (by simpa using hi) rfl hb
  omega
theorem St.outs {rbs:List Nat} {d:Obj} (h:St B φ (L ++ rbs.map fun rb=>.obj rb d) w) (K:Keep w w' (· ∈ rbs)):St B φ L w':=by
  refine h.left.keepX K (fun b hb=>?_) fun r hr b hb hm=>?_
  · exact h.own (.obj b d) (List.mem_append_right _ (List.mem_map.2 ⟨b,hb,rfl⟩)) b rfl
  · obtain ⟨i,hi⟩:=List.getElem?_of_mem hr
    obtain ⟨j,hj⟩:=List.getElem?_of_mem hm
    have hil:=(List.getElem?_eq_some_iff.1 hi).1
    have:=h.dj i (L.length + j) r (.obj b d) b (by rw [List.getElem?_append_left hil];exact hi) (by rw [List.getElem?_append_right (by omega),show L.length + j - L.length=j by omega,List.getElem?_map,hj];rfl) hb rfl
    omega
end
def LR (N:Nat) (σ:Env) (t:List Nat) (asg body:Code) (rb:Nat) (fn:FuncId) (s:LoopState) (pend:Option Code) (o:Obj):Prop :=
  ∃ a D,Rep N D a σ∧o=.loop { state:=s,pending:=pend,fn,tmps:=a.tmps,params:=t.toArray,assign:=asg,body,defers:=rb }
theorem LR.at_ {N:Nat} {σ:Env} {t:List Nat} {asg body:Code} {rb:Nat} {fn:FuncId} {s:LoopState} {pend:Option Code} {o:Obj} {w:World} {l:Nat} (h:LR N σ t asg body rb fn s pend o) (hw:w.heap[l]?=some o):LoopAt w l N σ t asg body rb fn s pend:=by
  obtain ⟨a,D,h1,rfl⟩:=h
  exact ⟨a,D,h1,hw⟩
theorem LR.of {N:Nat} {σ:Env} {t:List Nat} {asg body:Code} {rb:Nat} {fn:FuncId} {s:LoopState} {pend:Option Code} {w:World} {l:Nat} (h:LoopAt w l N σ t asg body rb fn s pend):∃ o,w.heap[l]?=some o∧LR N σ t asg body rb fn s pend o:=by
  obtain ⟨a,D,h1,h2⟩:=h
  exact ⟨_,h2,a,D,h1,rfl⟩
def YOK (P:Program) (l:Nat) {X S E:Type} (ar:PHeap→X→List Value→Prop) (PY:S→PHeap→List Res→Prop) (PE:E→PHeap→List Res→Prop) (f:S→X→Option (S ⊕ E)) (φ0:PHeap):Prop :=
  ∀ φ w s x vs r L,PHeap.Le φ0 φ→St ⟨w,L,φ⟩ φ L w→PY s φ L→ar φ x vs→f s x=some r →
    Yd P l vs w fun b w'=>∃ φ' L',St ⟨w,L,φ⟩ φ' L' w'∧(match r with | .inl s'=>b=true∧PY s' φ' L' | .inr e=>b=false∧PE e φ' L')
def ItS (w:World) (L:List Res) (φ:PHeap) {S E:Type} (PY:S→PHeap→List Res→Prop) (PE:E→PHeap→List Res→Prop) (r:S ⊕ E):Value→World→Prop:=fun _ w' =>
  ∃ φ' L',St ⟨w,L,φ⟩ φ' L' w'∧(match r with | .inl s=>PY s φ' L' | .inr e=>PE e φ' L')
section
variable {r:Option Nat} {N:Nat} {P:Program} {l:List Oper} {Q:Post} {D:List Deferred} {ks:List Nat} {B:Base} {φ:PHeap} {L:List Res} {σ:Env} {w:World} {i d:Nat} {o:Oper} {s:Sch} {X S E:Type} {ar:PHeap→X→List Value→Prop}
  {PY:S→PHeap→List Res→Prop} {PE:E→PHeap→List Res→Prop} {f:S→X→Option (S ⊕ E)}
theorem OKS.yieldT (n:Nat) {y:Nat} {x:Operand} {args:Array Operand} {ty:Array TypeId} {vs:List Value} {st:S} {a:X} {rr:S ⊕ E} {φ0:PHeap} (ho:l[i]?=some o) (hd:o.dst=some d) (hN:Nat.blt d N=true) (hw:wanted l σ o=true)
    (hop:o.op=.call { callee:=.value x,args:=args,argTypes:=ty }) (hx:ev σ x=.func (.yield y) #[] #[]) (ha:args.toList.map (ev σ)=vs) (hS:St B φ L w) (hY:YOK P y ar PY PE f φ0) (hle:PHeap.Le φ0 φ) (hP:PY st φ (L.drop n)) (har:ar φ a vs) (hf:f st a=some rr) (hk:mustX (kOf ks i)=false)
    (k:∀ φ' L' b w',PHeap.Le φ φ'→St B φ' (L.take n ++ L') w'→(match rr with | .inl s'=>b=true∧PY s' φ' L' | .inr e=>b=false∧PE e φ' L')→OKS N P l Q D ks s (upd σ d (.bool b)) w'):OKS N P l Q D ks (.fx i s .stop) σ w:=by
  have Y:=hY φ w st a vs rr _ hle (hS.enterT n) hP har hf
  have R:=Go.KX.Yd.rounds (σ:=σ) hop hx ha Y
  refine ⟨⟨o,ho,dlt hd hN,.inl ⟨hw,.inr (.inr (.inr (R.mono ?_)))⟩⟩,trivial⟩
  rintro v w' ⟨b,rfl,φ',L',h1,h2⟩
  obtain ⟨h3,h4⟩:=hS.backT n h1
  exact ⟨KeepD.of (.inl hk),by rw [put'_some hd];exact k φ' L' b w' h4 h3 h2⟩
def pendOf:Exit→Option Code
  | .ret=>some .ret
  | .exit i=>some (.exit i)
  | _=>none
theorem CK.rangeY {g:Operand} {t:List Nat} {asg body:Code} {fi:FuncId} {fl cl:List Value} {s0:S} {rr:S ⊕ E} {exO:E→Exit} (hx:ev σ g=.func (.func fi) fl.toArray cl.toArray)
    (hcall:∀ (args:Array Value) (w:World),(callFunc fi args).run P w=.ok (.enter fi args) w) (hS:St B φ L w) (ht:∀ x ∈ t,x < N) (hlen:∀ φ x vs,ar φ x vs→t.length=vs.length) (hex:∀ e,exO e=.ret ∨ ∃ i,exO e=.exit i) (h0:PY s0 φ L)
    (hit:∀ (l:Nat) (w1:World) (L1:List Res) (PY':S→PHeap→List Res→Prop) (PE':E→PHeap→List Res→Prop),St ⟨w1,L1,φ⟩ φ L1 w1→PY' s0 φ L1→YOK P l ar PY' PE' f φ→Gv P fi (fl ++ [.func (.yield l) #[] #[]] ++ cl) w1 (ItS w1 L1 φ PY' PE' rr))
    (hbody:∀ (l rb:Nat) (fn:FuncId) s x vs r φ' L' w' o B',PHeap.Le φ φ'→St B' φ' (.obj l o :: L') w'→PY s φ' L'→ar φ' x vs→f s x=some r→∀ σ0,(∀ i,σ0 i=updL σ t vs i) →
      CK (some l) N P asg (fun D' e σ1 w1=>e=.normal∧D'=[]∧∃ φ1 L1,St B' φ1 (.obj l o :: L1) w1∧∀ w2 o2,St B' φ1 (.obj l o2 :: L1) w2 →
        CK (some l) N P body (fun _ e2 _ w3=>∃ φ3 L3,St B' φ3 (.obj l o2 :: L3) w3∧(match r with | .inl s'=>e2=.normal∧PY s' φ3 L3 | .inr e'=>e2=exO e'∧PE e' φ3 L3)) [] σ1 w2) [] σ0 w')
    (hk:∀ rb φ' L' w',PHeap.Le φ φ'→St B φ' (L' ++ [.obj rb (.deferred (some []))]) w'→(match rr with | .inl s=>PY s φ' L'→Q (Go.KX.mark rb :: D) .normal σ w' | .inr e=>PE e φ' L'→Q (Go.KX.mark rb :: D) (exO e) σ w')) :
    CK none N P (.rangeFunc g t.toArray asg body) Q D σ w:=by
  refine Go.KX.CK.rangeFunc hx hcall fun fn l rb w1 e1 e2 hl hd K hs=>?_
  obtain ⟨o,ho,hLR⟩:=LR.of hl
  have hlt:l < w1.heap.size:=lt_of_some ho
  have hS0:=hS.grow K
  have hsz:∀ s ∈ L,∀ b,s.blk?=some b→b < w.heap.size:=fun s hs b hb=>(hS.at_ s hs).lt hb
  have hfree:∀ b,w.heap.size ≤ b→φ b=none∧B.mine b:=fun b hb=>by
    refine ⟨?_,.inl (Nat.le_trans hS.size hb)⟩
    cases e:φ b with
    | none=>rfl
    | some x=>have:=lt_of_some (hS.fro b x e);omega
  have hS1:St B φ (.obj l o :: L) w1:=by
    have h1:=hS0.addLast (r:=.obj l o) (b:=l) ho rfl (hfree l (by omega)).1 (hfree l (by omega)).2 fun s hs' e=>by have:=hsz s hs' l e;omega
    refine ⟨h1.os,h1.tape,h1.output,h1.size,h1.old,h1.fro,h1.le,h1.src,fun r hr=>h1.at_ r ?_,fun r hr=>h1.own r ?_,?_⟩
    · rcases List.mem_cons.1 hr with rfl | hr <;> simp [*]
    · rcases List.mem_cons.1 hr with rfl | hr <;> simp [*]
    · intro i j r s b hi hj hr hs'
      cases i with
      | zero =>
        simp only [List.getElem?_cons_zero,Option.some.injEq] at hi;subst hi;cases hr
        cases j with
        | zero=>rfl
        | succ j=>have:=hsz s (List.mem_of_getElem? (by simpa using hj)) _ hs';omega
      | succ i =>
        cases j with
        | zero=>simp only [List.getElem?_cons_zero,Option.some.injEq] at hj;subst hj;cases hs';have:=hsz r (List.mem_of_getElem? (by simpa using hi)) _ hr;omega
        | succ j=>rw [hS0.dj i j r s b (by simpa using hi) (by simpa using hj) hr hs']
  have hS2:St B φ ((.obj l o :: L) ++ [.obj rb (.deferred (some []))]) w1:=by
    refine hS1.addLast (b:=rb) hd rfl (hfree rb (by omega)).1 (hfree rb (by omega)).2 fun s hs' e=>?_
    rcases List.mem_cons.1 hs' with rfl | hs'
    · cases e;omega
    · have:=hsz s hs' rb e;omega
  let PYl:S→PHeap→List Res→Prop:=fun s φ L=>∃ o L',L=.obj l o :: L'∧LR N σ t asg body rb fn .ready none o∧PY s φ L'
  let PEl:E→PHeap→List Res→Prop:=fun e φ L=>∃ o L',L=.obj l o :: L'∧LR N σ t asg body rb fn .done (pendOf (exO e)) o∧PE e φ L'
  have hY:YOK P l ar PYl PEl f φ:=by
    rintro φ' w' s x vs r L3 hle hSt ⟨o',L',rfl,hLR',hP⟩ har hf
    refine Go.KX.Yd.of (hLR'.at_ (hSt.at_ (.obj l o') (by simp))) ht (hlen _ _ _ har) fun σ0 hσ0=>?_
    refine (hbody l rb fn s x vs r φ' L' w' o' _ hle hSt hP har hf σ0 hσ0).mono ?_
    rintro D' e σ1 w1 ⟨rfl,rfl,φ1,L1,hS1,hb⟩
    refine ⟨rfl,rfl,hLR'.at_ (hS1.at_ (.obj l o') (by simp)),fun w2 hl2 K2 _=>?_⟩
    obtain ⟨o2,ho2,hLR2⟩:=LR.of hl2
    refine (hb w2 o2 (hS1.putObj K2 ho2)).mono ?_
    rintro D2 e2 σ2 w3 ⟨φ3,L3,hS3,hm⟩
    cases r with
    | inl s' =>
      obtain ⟨rfl,hP'⟩:=hm
      refine ⟨hLR2.at_ (hS3.at_ (.obj l o2) (by simp)),fun w4 hl4 K4 _=>?_⟩
      obtain ⟨o4,ho4,hLR4⟩:=LR.of hl4
      exact ⟨φ3,_,hS3.putObj K4 ho4,rfl,o4,L3,rfl,hLR4,hP'⟩
    | inr e' =>
      obtain ⟨rfl,hP'⟩:=hm
      have fin:∀ w4 p,p=pendOf (exO e')→LoopAt w4 l N σ t asg body rb fn .done p→Keep w3 w4 (·=l)→∃ φ'' L'',St ⟨w',.obj l o' :: L',φ'⟩ φ'' L'' w4∧(false=false∧PEl e' φ'' L''):=by
        rintro w4 p rfl hl4 K4
        obtain ⟨o4,ho4,hLR4⟩:=LR.of hl4
        exact ⟨φ3,_,hS3.putObj K4 ho4,rfl,o4,L3,rfl,hLR4,hP'⟩
      have hB:=hLR2.at_ (hS3.at_ (.obj l o2) (by simp))
      rcases hex e' with he | ⟨i,he⟩
      · rw [he] at fin ⊢
        exact ⟨hB,fun w4 hl4 K4 _=>fin w4 _ rfl hl4 K4⟩
      · rw [he] at fin ⊢
        exact ⟨hB,fun w4 hl4 K4 _=>fin w4 _ rfl hl4 K4⟩
  have hE:St ⟨w1,.obj l o :: L,φ⟩ φ (.obj l o :: L) w1:=by have:=hS1.enterH (L.length + 1);simpa using this
  refine (hit l w1 (.obj l o :: L) PYl PEl hE ⟨o,L,rfl,hLR,h0⟩ hY).mono ?_
  rintro v w3 ⟨φ',L3,g1,g2⟩
  obtain ⟨g3,g4⟩:=hS2.backH (L.length + 1) (own':=L3) (φ':=φ') (w':=w3) (by simpa using g1)
  have g3:St B φ' (L3 ++ [.obj rb (.deferred (some []))]) w3:=by simpa using g3
  have hkk:=hk rb φ'
  cases rr with
  | inl s' =>
    obtain ⟨o',L',rfl,hLR',hP⟩:=g2
    refine .inl ⟨hLR'.at_ (g3.at_ (.obj l o') (by simp)),fun w4 K4 _=>hkk L' w4 g4 ?_ hP⟩
    exact St.outObj (L:=L' ++ [.obj rb (.deferred (some []))]) (by simpa using g3) K4
  | inr e' =>
    obtain ⟨o',L',rfl,hLR',hP⟩:=g2
    refine .inr ⟨exO e',hex e',?_,fun w4 K4 _=>hkk L' w4 g4 ?_ hP⟩
    · have:=hLR'.at_ (g3.at_ (.obj l o') (by simp))
      rcases hex e' with he | ⟨i,he⟩ <;> (rw [he] at this ⊢;exact this)
    · exact St.outObj (L:=L' ++ [.obj rb (.deferred (some []))]) (by simpa using g3) K4
theorem retM_of {rs:Array ResultVar} {R:Value→World→Prop} {rbs:List Nat} {e:Exit} (he:e=.normal ∨ e=.ret) (hS:St B φ (L ++ rbs.map fun rb=>.obj rb (.deferred (some []))) w)
    (k:∀ w',St B φ L w'→∃ v,(resRun rs σ).run P w'=.ok v w'∧R v w'):retM P rs R (rbs.map Go.KX.mark) e σ w:=by
  have hn:rbs.Nodup:=by
    rw [List.Nodup,List.pairwise_iff_getElem]
    intro i j hi hj hij e
    have at_:∀ (i:Nat) (h:i < rbs.length),(L ++ rbs.map fun rb=>Res.obj rb (.deferred (some [])))[L.length + i]?=some (.obj rbs[i] (.deferred (some []))):=fun i h=>by
      rw [List.getElem?_append_right (by omega),show L.length + i - L.length=i by omega,List.getElem?_map,List.getElem?_eq_getElem h]
      rfl
    have:=hS.dj _ _ _ _ rbs[i] (at_ i hi) (at_ j hj) rfl (by rw [e];rfl)
    omega
  have fin:∃ rbs':List Nat,rbs.map Go.KX.mark=rbs'.map Go.KX.mark∧rbs'.Nodup∧(∀ rb ∈ rbs',Dfr w rb)∧∀ w',Keep w w' (· ∈ rbs')→w'.heap.size=w.heap.size→∃ v,(resRun rs σ).run P w'=.ok v w'∧R v w' :=
    ⟨rbs,rfl,hn,fun rb hrb=>hS.at_ (.obj rb (.deferred (some []))) (List.mem_append_right _ (List.mem_map.2 ⟨rb,hrb,rfl⟩)),fun w' K _=>k w' (hS.outs K)⟩
  rcases he with rfl | rfl
  · exact fin
  · exact fin
end
end Go.KL
namespace Go.KL
def sortI (l:List Int):Option (List Int):=if l.length < 4611686018427387904 then some (l.mergeSort fun x y=>decide (x ≤ y)) else none
end Go.KL
namespace Go.Proofs.YtjfffcjjlnmneaaGreat
open Go.KL
structure T_klisterkit_Deck where
  bytes:List Int
  next:Int
  state:Int
deriving DecidableEq,Inhabited,Repr
structure T_relay_Rules where
  Classes:List Int
  Each:Int
  Laps:Int
  Spare:Int
  Loop:Int
  Unused:Int
deriving DecidableEq,Inhabited,Repr
structure T_relay_Leg where
  Skier:Int
  Loops:List Int
  Bouts:List (List Bool)
deriving DecidableEq,Inhabited,Repr
structure T_relay_Team where
  Bib:Int
  Classes:List Int
  Legs:List T_relay_Leg
deriving DecidableEq,Inhabited,Repr
structure T_relay_Race where
  Rules:T_relay_Rules
  Start:Int
  Teams:List T_relay_Team
deriving DecidableEq,Inhabited,Repr
structure T_relay_limit where
  of:(T_relay_Rules→Option Int)
  lo:Int
  hi:Int
structure T_relay_Shooting where
  Spares:Int
  Loops:Int
  Unused:Int
deriving DecidableEq,Inhabited,Repr
structure T_relay_desk where
  Race:T_relay_Race
  after:List (List Int)
deriving DecidableEq,Inhabited,Repr
structure T_start_Race where
  Laps:Int
  Bibs:List Int
  Times:List (List Int)
deriving DecidableEq,Inhabited,Repr
def m_klisterkit_Of (p0:List Int):Option (T_klisterkit_Deck) :=
  some (⟨p0,0,17⟩:T_klisterkit_Deck)
def m_klisterkit_Deck_Draw (p0:T_klisterkit_Deck) (p1:Int):Option (Int × T_klisterkit_Deck) :=
  if p1 ≤ 1 then
    some (0,p0)
  else
    if (↑p0.bytes.length:Int)=0 then
      some (0,p0)
    else
      (rem p0.next (↑p0.bytes.length:Int)).bind fun x10 =>
      (idx p0.bytes x10).bind fun x13 =>
      (quo p0.next (↑p0.bytes.length:Int)).bind fun x20 =>
      (rem (wu32 ((wu32 ((wu32 ((wu32 (p0.state * 45)) + (wu32 x13))) + (wu32 (77 * (wu32 x20))))) + 1)) 65519).bind fun x32 =>
      if (wu32 x20)=0 then
        if p1 ≤ 256 then
          (rem (w64 (wu32 x13)) p1).bind fun x42 =>
          some (x42,(⟨p0.bytes,w64 (p0.next + 1),x32⟩:T_klisterkit_Deck))
        else
          (rem (w64 (wu32 ((wu32 (x32 * 256)) + (wu32 x13)))) p1).bind fun x46 =>
          some (x46,(⟨p0.bytes,w64 (p0.next + 1),x32⟩:T_klisterkit_Deck))
      else
        (rem (w64 (wu32 ((wu32 (x32 * 256)) + (wu32 x13)))) p1).bind fun x50 =>
        some (x50,(⟨p0.bytes,w64 (p0.next + 1),x32⟩:T_klisterkit_Deck))
def m_klisterkit_Deck_Between (p0:T_klisterkit_Deck) (p1:Int) (p2:Int):Option (Int × T_klisterkit_Deck) :=
  (m_klisterkit_Deck_Draw p0 (w64 ((w64 (p2 - p1)) + 1))).bind fun (x2,x3) =>
  some (w64 (p1 + x2),x3)
def m_klisterlaw08_Ruled (p0:T_klisterkit_Deck) (p1:Int):Option (T_relay_Rules × T_klisterkit_Deck) :=
  (m_klisterkit_Deck_Between p0 1 2).bind fun (x6,x7) =>
  (m_klisterkit_Deck_Between x7 1 3).bind fun (x21,x22) =>
  (m_klisterkit_Deck_Draw x22 100).bind fun (x35,x36) =>
  (m_klisterkit_Deck_Draw x36 100).bind fun (x49,x50) =>
  (m_klisterkit_Deck_Draw x50 13).bind fun (x63,x64) =>
  (m_klisterkit_Deck_Between x64 1 p1).bind fun (x84,x85) =>
  (forR' 0 x84 (fun k136 (l127,x130,x131,l132) =>
    (m_klisterkit_Deck_Draw (⟨l127,x130,x131⟩:T_klisterkit_Deck) 2).bind fun (x198,x199) =>
    (app 8 l132 [x198]).bind fun x217 =>
    some (x199.bytes,x199.next,x199.state,x217)) (x85.bytes,x85.next,x85.state,[])).bind fun (y141,y142,y143,y144) =>
  some ((⟨y144,x6,x21,x35,w64 (200 + x49),w64 (100 * x63)⟩:T_relay_Rules),(⟨y141,y142,y143⟩:T_klisterkit_Deck))
def m_klisterkit_Deck_Coin (p0:T_klisterkit_Deck) (p1:Int):Option (Bool × T_klisterkit_Deck) :=
  (m_klisterkit_Deck_Draw p0 p1).bind fun (x2,x3) =>
  some (decide (x2=0),x3)
def m_klisterlaw08_Fired (p0:T_klisterkit_Deck):Option ((List Bool) × T_klisterkit_Deck) :=
  iter (fun (l31,x34,x35,l36,x40) =>
    if x40 < 5 then
      if (↑l36.length:Int) < 5 then
        (m_klisterkit_Deck_Coin (⟨l31,x34,x35⟩:T_klisterkit_Deck) 4).bind fun (x61,x62) =>
        (app 1 l36 [!x61]).bind fun x80 =>
        if x61=true then
          some (.inl (x62.bytes,x62.next,x62.state,x80,x40))
        else
          some (.inl (x62.bytes,x62.next,x62.state,x80,w64 (x40 + 1)))
      else
        if (↑l36.length:Int) < 8 then
          (m_klisterkit_Deck_Coin (⟨l31,x34,x35⟩:T_klisterkit_Deck) 6).bind fun (x112,x113) =>
          if x112=true then
            esc (some (l36,x113))
          else
            (m_klisterkit_Deck_Coin x113 4).bind fun (x132,x133) =>
            (app 1 l36 [!x132]).bind fun x151 =>
            if x132=true then
              some (.inl (x133.bytes,x133.next,x133.state,x151,x40))
            else
              some (.inl (x133.bytes,x133.next,x133.state,x151,w64 (x40 + 1)))
        else
          esc (some (l36,(⟨l31,x34,x35⟩:T_klisterkit_Deck)))
    else
      esc (some (l36,(⟨l31,x34,x35⟩:T_klisterkit_Deck)))) big (p0.bytes,p0.next,p0.state,[],0)
def m_klisterlaw08_Made (p0:T_klisterkit_Deck) (p1:Int) (p2:Int):Option (T_relay_Race × T_klisterkit_Deck) :=
  (m_klisterlaw08_Ruled p0 p2).bind fun (x6,x7) =>
  (m_klisterkit_Deck_Draw x7 50).bind fun (x24,x25) =>
  (m_klisterkit_Deck_Between x25 1 p1).bind fun (x46,x47) =>
  (forR' 0 x46 (fun k102 (l92,x95,x96,l97) =>
    (m_klisterkit_Deck_Between (⟨l92,x95,x96⟩:T_klisterkit_Deck) 1 9).bind fun (x131,x132) =>
    (m_klisterkit_Deck_Between x132 1 5).bind fun (x152,x153) =>
    (forR' 0 x152 (fun k204 (l195,x198,x199,l200) =>
      (m_klisterkit_Deck_Draw (⟨l195,x198,x199⟩:T_klisterkit_Deck) 2).bind fun (x269,x270) =>
      (app 8 l200 [x269]).bind fun x288 =>
      some (x270.bytes,x270.next,x270.state,x288)) (x153.bytes,x153.next,x153.state,[])).bind fun (y209,y210,y211,y212) =>
    (m_klisterkit_Deck_Between (⟨y209,y210,y211⟩:T_klisterkit_Deck) 300 900).bind fun (x355,x356) =>
    (m_klisterkit_Deck_Coin x356 4).bind fun (x369,x370) =>
    if x369=true then
      (m_klisterkit_Deck_Draw x370 (w64 ((w64 ((↑x6.Classes.length:Int) * x6.Laps)) + 1))).bind fun (x385,x386) =>
      (iter (fun (l443,x446,x447,l448,x453) =>
        if 0 < x453 then
          (m_klisterkit_Deck_Draw (⟨l443,x446,x447⟩:T_klisterkit_Deck) (↑y212.length:Int)).bind fun (x478,x479) =>
          iter (fun (l566,l570,l575,x578,x579,x580,x581) =>
            if x581 < x6.Laps then
              if 0 < x580 then
                (m_klisterkit_Deck_Draw (⟨l575,x578,x579⟩:T_klisterkit_Deck) 200).bind fun (x647,x648) =>
                (app 8 l566 [w64 (x355 + x647)]).bind fun x667 =>
                if 0 < x581 then
                  (m_klisterlaw08_Fired x648).bind fun (x729,x730) =>
                  (app 24 l570 [x729]).bind fun x758 =>
                  some (.inl (x667,x758,x730.bytes,x730.next,x730.state,w64 (x580 - 1),w64 (x581 + 1)))
                else
                  some (.inl (x667,l570,x648.bytes,x648.next,x648.state,w64 (x580 - 1),w64 (x581 + 1)))
              else
                esc ((app 56 l448 [(⟨x478,l566,l570⟩:T_relay_Leg)]).bind fun x827 =>
                some (.inl (l575,x578,x579,x827,x580)))
            else
              esc ((app 56 l448 [(⟨x478,l566,l570⟩:T_relay_Leg)]).bind fun x878 =>
              some (.inl (l575,x578,x579,x878,x580)))) big ([],[],x479.bytes,x479.next,x479.state,x453,0)
        else
          esc (some (l443,x446,x447,l448))) big (x386.bytes,x386.next,x386.state,[],x385)).bind fun (l399,x402,x403,l404) =>
      (app 56 l97 [(⟨w64 ((w64 (9 * (↑k102:Int))) + x131),y212,l404⟩:T_relay_Team)]).bind fun x951 =>
      some (l399,x402,x403,x951)
    else
      (iter (fun (l1029,x1032,x1033,l1034,x1039) =>
        if 0 < x1039 then
          (m_klisterkit_Deck_Draw (⟨l1029,x1032,x1033⟩:T_klisterkit_Deck) (↑y212.length:Int)).bind fun (x1064,x1065) =>
          iter (fun (l1152,l1156,l1161,x1164,x1165,x1166,x1167) =>
            if x1167 < x6.Laps then
              if 0 < x1166 then
                (m_klisterkit_Deck_Draw (⟨l1161,x1164,x1165⟩:T_klisterkit_Deck) 200).bind fun (x1233,x1234) =>
                (app 8 l1152 [w64 (x355 + x1233)]).bind fun x1253 =>
                if 0 < x1167 then
                  (m_klisterlaw08_Fired x1234).bind fun (x1315,x1316) =>
                  (app 24 l1156 [x1315]).bind fun x1344 =>
                  some (.inl (x1253,x1344,x1316.bytes,x1316.next,x1316.state,w64 (x1166 - 1),w64 (x1167 + 1)))
                else
                  some (.inl (x1253,l1156,x1234.bytes,x1234.next,x1234.state,w64 (x1166 - 1),w64 (x1167 + 1)))
              else
                esc ((app 56 l1034 [(⟨x1064,l1152,l1156⟩:T_relay_Leg)]).bind fun x1413 =>
                some (.inl (l1161,x1164,x1165,x1413,x1166)))
            else
              esc ((app 56 l1034 [(⟨x1064,l1152,l1156⟩:T_relay_Leg)]).bind fun x1464 =>
              some (.inl (l1161,x1164,x1165,x1464,x1166)))) big ([],[],x1065.bytes,x1065.next,x1065.state,x1039,0)
        else
          esc (some (l1029,x1032,x1033,l1034))) big (x370.bytes,x370.next,x370.state,[],w64 ((↑x6.Classes.length:Int) * x6.Laps))).bind fun (l985,x988,x989,l990) =>
      (app 56 l97 [(⟨w64 ((w64 (9 * (↑k102:Int))) + x131),y212,l990⟩:T_relay_Team)]).bind fun x1537 =>
      some (l985,x988,x989,x1537)) (x47.bytes,x47.next,x47.state,[])).bind fun (y107,y108,y109,y110) =>
  some ((⟨x6,x24,y110⟩:T_relay_Race),(⟨y107,y108,y109⟩:T_klisterkit_Deck))
def m_relay_in (p0:Int) (p1:Int) (p2:Int):Option (Bool) :=
  if p1 ≤ p0 then
    some (decide (p0 ≤ p2))
  else
    some false
def m_relay_each_int_1 (p0:Int) (p1:(Int→Option Bool)):Option (Bool) :=
  (p1 p0).bind fun x1 =>
  some (!x1)
def m_slices_IndexFunc_int_int (p0:List Int) (p1:(Int→Option Bool)):Option (Int) :=
  jn (forR 0 (↑p0.length:Int) (fun k2 _ =>
    (idx p0 (↑k2:Int)).bind fun x22 =>
    (p1 x22).bind fun x30 =>
    if x30=true then
      esc (some (↑k2:Int))
    else
      some (.inl ())) ()) fun _ =>
  some (-1)
def m_slices_ContainsFunc_int_int (p0:List Int) (p1:(Int→Option Bool)):Option (Bool) :=
  (m_slices_IndexFunc_int_int p0 p1).bind fun x1 =>
  some (decide (0 ≤ x1))
def m_relay_each_int (p0:List Int) (p1:(Int→Option Bool)):Option (Bool) :=
  (m_slices_ContainsFunc_int_int p0 (fun x=>m_relay_each_int_1 x p1)).bind fun x13 =>
  some (!x13)
def m_relay_classed_1 (p0:Int):Option (Bool) :=
  (m_relay_in p0 0 3).bind fun x1 =>
  some x1
def m_relay_classed (p0:List Int):Option (Bool) :=
  (m_relay_each_int p0 m_relay_classed_1).bind fun x2 =>
  some x2
def m_relay_limits_1 (p0:T_relay_Rules):Option (Int) :=
  some p0.Each
def m_relay_limits_2 (p0:T_relay_Rules):Option (Int) :=
  some p0.Laps
def m_relay_limits_3 (p0:T_relay_Rules):Option (Int) :=
  some p0.Spare
def m_relay_limits_4 (p0:T_relay_Rules):Option (Int) :=
  some p0.Loop
def m_relay_limits_5 (p0:T_relay_Rules):Option (Int) :=
  some p0.Unused
def m_relay_limits :Option ((List T_relay_limit)) :=
  some [(⟨m_relay_limits_1,1,4⟩:T_relay_limit),(⟨m_relay_limits_2,1,5⟩:T_relay_limit),(⟨m_relay_limits_3,0,600⟩:T_relay_limit),(⟨m_relay_limits_4,0,600⟩:T_relay_limit),(⟨m_relay_limits_5,0,6000⟩:T_relay_limit)]
def m_relay_CheckRules_1 (p0:T_relay_limit) (p1:T_relay_Rules):Option (Bool) :=
  (p0.of p1).bind fun x7 =>
  (m_relay_in x7 p0.lo p0.hi).bind fun x17 =>
  some x17
def m_relay_each_relay_limit_1 (p0:T_relay_limit) (p1:(T_relay_limit→Option Bool)):Option (Bool) :=
  (p1 p0).bind fun x5 =>
  some (!x5)
def m_slices_IndexFunc_relay_limit_relay_limit (p0:List T_relay_limit) (p1:(T_relay_limit→Option Bool)):Option (Int) :=
  jn (forR 0 (↑p0.length:Int) (fun k2 _ =>
    (idx p0 (↑k2:Int)).bind fun x22 =>
    (p1 x22).bind fun x34 =>
    if x34=true then
      esc (some (↑k2:Int))
    else
      some (.inl ())) ()) fun _ =>
  some (-1)
def m_slices_ContainsFunc_relay_limit_relay_limit (p0:List T_relay_limit) (p1:(T_relay_limit→Option Bool)):Option (Bool) :=
  (m_slices_IndexFunc_relay_limit_relay_limit p0 p1).bind fun x1 =>
  some (decide (0 ≤ x1))
def m_relay_each_relay_limit (p0:List T_relay_limit) (p1:(T_relay_limit→Option Bool)):Option (Bool) :=
  (m_slices_ContainsFunc_relay_limit_relay_limit p0 (fun x=>m_relay_each_relay_limit_1 x p1)).bind fun x13 =>
  some (!x13)
def m_relay_CheckRules (p0:T_relay_Rules):Option (Int) :=
  (m_relay_in (↑p0.Classes.length:Int) 1 4).bind fun x10 =>
  if x10=true then
    (m_relay_classed p0.Classes).bind fun x25 =>
    if x25=true then
      (m_relay_limits).bind fun x37 =>
      (m_relay_each_relay_limit x37 (fun x=>m_relay_CheckRules_1 x p0)).bind fun x64 =>
      if x64=true then
        some 0
      else
        some 3
    else
      some 3
  else
    some 2
def m_relay_Rules_sized (p0:T_relay_Rules) (p1:T_relay_Team):Option (Bool) :=
  (m_relay_in (↑p1.Classes.length:Int) 1 8).bind fun x9 =>
  if x9=true then
    if (↑p0.Classes.length:Int) < (↑p1.Legs.length:Int) then
      some false
    else
      jn (forR 0 (↑p1.Legs.length:Int) (fun k25 _ =>
        (idx p1.Legs (↑k25:Int)).bind fun x46 =>
        if p0.Laps < (↑x46.Loops.length:Int) then
          esc (some false)
        else
          if (↑k25:Int) < (w64 ((↑p1.Legs.length:Int) - 1)) then
            if (↑x46.Loops.length:Int) < p0.Laps then
              esc (some false)
            else
              if (↑x46.Bouts.length:Int)=(max 0 (w64 ((↑x46.Loops.length:Int) - 1))) then
                some (.inl ())
              else
                esc (some false)
          else
            if (↑x46.Bouts.length:Int)=(max 0 (w64 ((↑x46.Loops.length:Int) - 1))) then
              some (.inl ())
            else
              esc (some false)) ()) fun _ =>
      some true
  else
    some false
def m_relay_each_relay_Team_1 (p0:T_relay_Team) (p1:(T_relay_Team→Option Bool)):Option (Bool) :=
  (p1 p0).bind fun x5 =>
  some (!x5)
def m_slices_IndexFunc_relay_Team_relay_Team (p0:List T_relay_Team) (p1:(T_relay_Team→Option Bool)):Option (Int) :=
  jn (forR 0 (↑p0.length:Int) (fun k2 _ =>
    (idx p0 (↑k2:Int)).bind fun x22 =>
    (p1 x22).bind fun x38 =>
    if x38=true then
      esc (some (↑k2:Int))
    else
      some (.inl ())) ()) fun _ =>
  some (-1)
def m_slices_ContainsFunc_relay_Team_relay_Team (p0:List T_relay_Team) (p1:(T_relay_Team→Option Bool)):Option (Bool) :=
  (m_slices_IndexFunc_relay_Team_relay_Team p0 p1).bind fun x1 =>
  some (decide (0 ≤ x1))
def m_relay_each_relay_Team (p0:List T_relay_Team) (p1:(T_relay_Team→Option Bool)):Option (Bool) :=
  (m_slices_ContainsFunc_relay_Team_relay_Team p0 (fun x=>m_relay_each_relay_Team_1 x p1)).bind fun x13 =>
  some (!x13)
def m_relay_Check_1 (p0:T_relay_Team):Option (Bool) :=
  (m_relay_in p0.Bib 1 999).bind fun x5 =>
  if x5=true then
    (m_relay_classed p0.Classes).bind fun x18 =>
    some x18
  else
    some false
def m_relay_Race_legs_1 {S E:Type} (f:S→(T_relay_Team × T_relay_Leg)→Option (S ⊕ E)) (s0:S) (p1:T_relay_Race):Option (S ⊕ E) :=
  jn (forR 0 (↑p1.Teams.length:Int) (fun k12 s10 =>
    (idx p1.Teams (↑k12:Int)).bind fun x33 =>
    jn (forR 0 (↑x33.Legs.length:Int) (fun k66 s64 =>
      (idx x33.Legs (↑k66:Int)).bind fun x91 =>
      (f s64 (x33,x91)).bind fun yr115 =>
      match yr115 with
      | .inl s125 =>
        some (.inl s125)
      | .inr s125 =>
        esc (esc (some (.inr s125)))) s10) fun y142 =>
    some (.inl y142)) s0) fun y163 =>
  some (.inl y163)
def m_relay_Race_legs (p0:T_relay_Race):Option (Unit) :=
  some ()
def m_relay_Check_2 (p0:Int):Option (Bool) :=
  (m_relay_in p0 1 9000).bind fun x1 =>
  some x1
def m_relay_Shot (p0:List Bool):Option (T_relay_Shooting × Int) :=
  (m_relay_in (↑p0.length:Int) 5 8).bind fun x5 =>
  if x5=true then
    jn (forR 0 (↑p0.length:Int) (fun k23 x22 =>
      (idx p0 (↑k23:Int)).bind fun x45 =>
      if x22=0 then
        esc (some ((⟨0,0,0⟩:T_relay_Shooting),8))
      else
        if x45=true then
          some (.inl (w64 (x22 - 1)))
        else
          some (.inl x22)) 5) fun y72 =>
    if 0 < y72 then
      some ((⟨w64 ((↑p0.length:Int) - 5),y72,w64 (8 - (↑p0.length:Int))⟩:T_relay_Shooting),0)
    else
      some ((⟨w64 ((↑p0.length:Int) - 5),y72,0⟩:T_relay_Shooting),0)
  else
    some ((⟨0,0,0⟩:T_relay_Shooting),2)
def m_relay_Check (p0:T_relay_Race):Option (Int) :=
  (m_relay_CheckRules p0.Rules).bind fun x9 =>
  if x9=0 then
    (m_relay_in (↑p0.Teams.length:Int) 1 12).bind fun x21 =>
    if x21=true then
      (m_relay_each_relay_Team p0.Teams (fun x=>m_relay_Rules_sized p0.Rules x)).bind fun x38 =>
      if x38=true then
        (m_relay_in p0.Start 0 36000).bind fun x50 =>
        if x50=true then
          (m_relay_each_relay_Team p0.Teams m_relay_Check_1).bind fun x65 =>
          if x65=true then
            (m_relay_Race_legs p0).bind fun _ =>
            (m_relay_Race_legs_1 (S:=Unit) (E:=Int) (fun _ x146 =>
              (m_relay_each_int x146.2.Loops m_relay_Check_2).bind fun x191 =>
              if x191=true then
                some (.inl ())
              else
                some (.inr 3)) () p0).bind fun rr138 =>
            match rr138 with
            | .inl _ =>
              (m_relay_Race_legs p0).bind fun _ =>
              (m_relay_Race_legs_1 (S:=Unit) (E:=Int) (fun _ x290 =>
                (m_relay_in x290.2.Skier 0 (w64 ((↑x290.1.Classes.length:Int) - 1))).bind fun x341 =>
                if x341=true then
                  some (.inl ())
                else
                  some (.inr 1)) () p0).bind fun rr282 =>
              match rr282 with
              | .inl _ =>
                (m_relay_Race_legs p0).bind fun _ =>
                (m_relay_Race_legs_1 (S:=Unit) (E:=Int) (fun _ x492 =>
                  jn (forR 0 (↑x492.2.Bouts.length:Int) (fun k537 _ =>
                    (idx x492.2.Bouts (↑k537:Int)).bind fun x558 =>
                    (m_relay_Shot x558).bind fun (x571,x572) =>
                    if x572=0 then
                      some (.inl ())
                    else
                      esc (some (.inr x572))) ()) fun _ =>
                  some (.inl ())) () p0).bind fun rr484 =>
                match rr484 with
                | .inl _ =>
                  (forR' 0 (↑p0.Teams.length:Int) (fun k640 l637 =>
                    (idx p0.Teams (↑k640:Int)).bind fun x664 =>
                    some (mput l637 x664.Bib true)) ([]:List (Int × Bool))).bind fun y645 =>
                  if (↑(y645.length):Int) < (↑p0.Teams.length:Int) then
                    some 5
                  else
                    some 0
                | .inr y618 =>
                  some y618
              | .inr y364 =>
                some y364
            | .inr y214 =>
              some y214
          else
            some 3
        else
          some 3
      else
        some 2
    else
      some 2
  else
    some x9
def m_relay_begun (p0:T_relay_Race):Option ((Option T_relay_desk) × Int) :=
  (m_relay_Check p0).bind fun x5 =>
  if x5=0 then
    (forR' 0 (↑p0.Teams.length:Int) (fun k42 l37 =>
      (idx p0.Teams (↑k42:Int)).bind fun x66 =>
      (forR' 0 (↑x66.Legs.length:Int) (fun k111 (x106,l107) =>
        (idx x66.Legs (↑k111:Int)).bind fun x140 =>
        (forR' 0 (↑x140.Loops.length:Int) (fun k181 (x177,l178) =>
          (idx x140.Loops (↑k181:Int)).bind fun x211 =>
          if 0 < (↑k181:Int) then
            (idx x140.Bouts (w64 ((↑k181:Int) - 1))).bind fun x221 =>
            (m_relay_Shot x221).bind fun (x234,x235) =>
            (app 8 l178 [w64 ((w64 (x177 + x211)) + (w64 ((w64 (x234.Spares * p0.Rules.Spare)) + (w64 (x234.Loops * p0.Rules.Loop)))))]).bind fun x274 =>
            some (w64 ((w64 (x177 + x211)) + (w64 ((w64 (x234.Spares * p0.Rules.Spare)) + (w64 (x234.Loops * p0.Rules.Loop))))),x274)
          else
            (app 8 l178 [w64 (x177 + x211)]).bind fun x292 =>
            some (w64 (x177 + x211),x292)) (x106,l107)).bind fun (y186,y187) =>
        some (y186,y187)) (p0.Start,[])).bind fun (y116,y117) =>
      (app 24 l37 [y117]).bind fun x366 =>
      some x366) []).bind fun y47 =>
    some ((some (⟨p0,y47⟩:T_relay_desk)),0)
  else
    some (none,x5)
def m_slices_Clone_int_int (p0:List Int):Option ((List Int)) :=
  (app 8 ([]:List Int) p0).bind fun x11 =>
  some x11
def m_relay_desk_laps (p0:T_relay_desk):Option (T_start_Race) :=
  (forR' 0 (↑p0.Race.Teams.length:Int) (fun k51 (l42,l46) =>
    (idx p0.Race.Teams (↑k51:Int)).bind fun x80 =>
    (app 8 l42 [x80.Bib]).bind fun x108 =>
    (idx p0.after (↑k51:Int)).bind fun x121 =>
    (m_slices_Clone_int_int x121).bind fun x134 =>
    (app 24 l46 [x134]).bind fun x158 =>
    some (x108,x158)) ([],[])).bind fun (y56,y57) =>
  some (⟨w64 ((↑p0.Race.Rules.Classes.length:Int) * p0.Race.Rules.Laps),y56,y57⟩:T_start_Race)
def m_relay_Laps (p0:T_relay_Race):Option (T_start_Race × Int) :=
  (m_relay_begun p0).bind fun (x9,x10) =>
  match x9 with
  | none =>
    if x10=0 then
      none
    else
      some ((⟨0,[],[]⟩:T_start_Race),x10)
  | some x28 =>
    if x10=0 then
      (m_relay_desk_laps x28).bind fun x55 =>
      some (x55,0)
    else
      some ((⟨0,[],[]⟩:T_start_Race),x10)
def m_relay_desk_times (p0:T_relay_desk) (p1:Int):Option ((List Int)) :=
  (idx p0.after p1).bind fun x2 =>
  (forR' 0 (↑x2.length:Int) (fun k31 l27 =>
    (idx x2 (↑k31:Int)).bind fun x55 =>
    (rem (↑(k31 + 1):Int) p0.Race.Rules.Laps).bind fun x63 =>
    if x63=0 then
      (app 8 l27 [x55]).bind fun x73 =>
      some x73
    else
      some l27) []).bind fun y36 =>
  some y36
def m_relay_Times (p0:T_relay_Race):Option ((List (List Int)) × Int) :=
  (m_relay_begun p0).bind fun (x5,x6) =>
  match x5 with
  | none =>
    if x6=0 then
      (forR' 0 (↑p0.Teams.length:Int) (fun k29 _ =>
        none) ()).bind fun _ =>
      some ([],0)
    else
      some ([],x6)
  | some x24 =>
    if x6=0 then
      (forR' 0 (↑p0.Teams.length:Int) (fun k100 l95 =>
        (m_relay_desk_times x24 (↑k100:Int)).bind fun x129 =>
        (app 24 l95 [x129]).bind fun x153 =>
        some x153) []).bind fun y105 =>
      some (y105,0)
    else
      some ([],x6)
def m_relay_Legs (p0:T_relay_Race):Option ((List (List Int)) × Int) :=
  (m_relay_begun p0).bind fun (x5,x6) =>
  match x5 with
  | none =>
    if x6=0 then
      (forR' 0 (↑p0.Teams.length:Int) (fun k29 _ =>
        none) ()).bind fun _ =>
      some ([],0)
    else
      some ([],x6)
  | some x24 =>
    if x6=0 then
      (forR' 0 (↑p0.Teams.length:Int) (fun k102 l97 =>
        (m_relay_desk_times x24 (↑k102:Int)).bind fun x132 =>
        (forR' 0 (↑x132.length:Int) (fun k166 (x161,l162) =>
          (chk (↑k166:Int) x132.length).bind fun _ =>
          (app 8 l162 [w64 ((gd x132 k166) - x161)]).bind fun x206 =>
          some ((gd x132 k166),x206)) (p0.Start,[])).bind fun (y171,y172) =>
        (app 24 l97 [y172]).bind fun x252 =>
        some x252) []).bind fun y107 =>
      some (y107,0)
    else
      some ([],x6)
def m_start_in (p0:Int) (p1:Int) (p2:Int):Option (Bool) :=
  if p1 ≤ p0 then
    some (decide (p0 ≤ p2))
  else
    some false
def m_start_CheckRace_1 (p0:List Int) (p1:T_start_Race):Option (Bool) :=
  some (decide ((↑p0.length:Int) ≤ p1.Laps))
def m_start_all_int (p0:List (List Int)) (p1:((List Int)→Option Bool)):Option (Bool) :=
  jn (forR 0 (↑p0.length:Int) (fun k2 _ =>
    (idx p0 (↑k2:Int)).bind fun x22 =>
    (p1 x22).bind fun x35 =>
    if x35=true then
      some (.inl ())
    else
      esc (some false)) ()) fun _ =>
  some true
def m_start_all_int_122 (p0:List Int) (p1:(Int→Option Bool)):Option (Bool) :=
  jn (forR 0 (↑p0.length:Int) (fun k2 _ =>
    (idx p0 (↑k2:Int)).bind fun x22 =>
    (p1 x22).bind fun x30 =>
    if x30=true then
      some (.inl ())
    else
      esc (some false)) ()) fun _ =>
  some true
def m_start_CheckRace_2 (p0:Int):Option (Bool) :=
  (m_start_in p0 1 999).bind fun x1 =>
  some x1
def m_start_CheckRace_3_1 (p0:Int):Option (Bool) :=
  (m_start_in p0 0 360000).bind fun x1 =>
  some x1
def m_start_CheckRace_3 (p0:List Int):Option (Bool) :=
  (m_start_all_int_122 p0 m_start_CheckRace_3_1).bind fun x2 =>
  some x2
def m_start_twice (p0:List Int):Option (Bool) :=
  jn (forR 0 (↑p0.length:Int) (fun k20 l17 =>
    (idx p0 (↑k20:Int)).bind fun x41 =>
    if (mgetD l17 x41 false)=true then
      esc (some true)
    else
      some (.inl (mput l17 x41 true))) ([]:List (Int × Bool))) fun y68 =>
  some false
def m_start_CheckRace (p0:T_start_Race):Option (Int) :=
  (m_start_in p0.Laps 1 20).bind fun x10 =>
  if x10=true then
    if 60 < (↑p0.Bibs.length:Int) then
      some 2
    else
      if (↑p0.Times.length:Int)=(↑p0.Bibs.length:Int) then
        (m_start_all_int p0.Times (fun x=>m_start_CheckRace_1 x p0)).bind fun x33 =>
        if x33=true then
          (m_start_all_int_122 p0.Bibs m_start_CheckRace_2).bind fun x48 =>
          if x48=true then
            (m_start_all_int p0.Times m_start_CheckRace_3).bind fun x64 =>
            if x64=true then
              (m_start_twice p0.Bibs).bind fun x79 =>
              if x79=true then
                some 5
              else
                jn (forR 0 (↑p0.Times.length:Int) (fun k97 _ =>
                  (idx p0.Times (↑k97:Int)).bind fun x116 =>
                  jn (forR 1 (↑x116.length:Int) (fun k132 _ =>
                    (idx x116 (1 + ↑k132:Int)).bind fun x155 =>
                    (idx x116 (w64 ((1 + ↑k132:Int) - 1))).bind fun x163 =>
                    if x155 ≤ x163 then
                      esc (esc (some 4))
                    else
                      some (.inl ())) ()) fun _ =>
                  some (.inl ())) ()) fun _ =>
                some 0
            else
              some 3
          else
            some 3
        else
          some 2
      else
        some 2
  else
    some 2
def m_klisterkit_Fold (p0:Int) (p1:Int):Option (Int) :=
  if p1 ≤ 0 then
    some 0
  else
    (rem p0 p1).bind fun x4 =>
    (rem (w64 (x4 + p1)) p1).bind fun x7 =>
    some x7
def m_relay_Places (p0:T_relay_Race) (p1:Int):Option ((List Int) × Int) :=
  (m_relay_Times p0).bind fun (x5,x6) =>
  if x6=0 then
    (m_relay_in p1 0 (w64 ((↑p0.Rules.Classes.length:Int) - 1))).bind fun x23 =>
    if x23=true then
      (mkz 8 (↑x5.length:Int) 0).bind fun x35 =>
      (forR' 0 (↑x5.length:Int) (fun k56 l55 =>
        (idx x5 (↑k56:Int)).bind fun x80 =>
        if (↑x80.length:Int) ≤ p1 then
          some l55
        else
          (chk (↑k56:Int) l55.length).bind fun _ =>
          (forR' 0 (↑x5.length:Int) (fun k109 l108 =>
            (idx x5 (↑k109:Int)).bind fun x138 =>
            if p1 < (↑x138.length:Int) then
              (idx x138 p1).bind fun x155 =>
              (idx x80 p1).bind fun x162 =>
              if x155 < x162 then
                (chk (↑k56:Int) l108.length).bind fun _ =>
                some (List.set l108 k56 (w64 ((gd l108 k56) + 1)))
              else
                some l108
            else
              some l108) (List.set l55 k56 1)).bind fun y114 =>
          some y114) x35).bind fun y61 =>
      some (y61,0)
    else
      some ([],1)
  else
    some ([],x6)
def m_slices_Sort_int_int (p0:List Int):Option (List Int):=sortI p0
def m_relay_Fastest (p0:T_relay_Race) (p1:Int):Option ((List Int) × Int × Int) :=
  (m_relay_Legs p0).bind fun (x5,x6) =>
  if x6=0 then
    (m_relay_in p1 0 (w64 ((↑p0.Rules.Classes.length:Int) - 1))).bind fun x23 =>
    if x23=true then
      (forR' 0 (↑x5.length:Int) (fun k48 x47 =>
        (idx x5 (↑k48:Int)).bind fun x72 =>
        if p1 < (↑x72.length:Int) then
          (idx x72 p1).bind fun x87 =>
          some (min x47 x87)
        else
          some x47) 360000).bind fun y53 =>
      (forR' 0 (↑x5.length:Int) (fun k129 l125 =>
        (idx x5 (↑k129:Int)).bind fun x155 =>
        if p1 < (↑x155.length:Int) then
          (idx x155 p1).bind fun x171 =>
          if x171=y53 then
            (idx p0.Teams (↑k129:Int)).bind fun x180 =>
            (app 8 l125 [x180.Bib]).bind fun x205 =>
            some x205
          else
            some l125
        else
          some l125) []).bind fun y134 =>
      if (↑y134.length:Int)=0 then
        some ([],0,6)
      else
        (m_slices_Sort_int_int y134).bind fun x248 =>
        some (x248,y53,0)
    else
      some ([],0,1)
  else
    some ([],0,x6)
def m_slices_Index_int_int (p0:List Int) (p1:Int):Option (Int) :=
  jn (forR 0 (↑p0.length:Int) (fun k2 _ =>
    (idx p0 (↑k2:Int)).bind fun x22 =>
    if p1=x22 then
      esc (some (↑k2:Int))
    else
      some (.inl ())) ()) fun _ =>
  some (-1)
def m_slices_Contains_int_int (p0:List Int) (p1:Int):Option (Bool) :=
  (m_slices_Index_int_int p0 p1).bind fun x1 =>
  some (decide (0 ≤ x1))
def m_klisterlaw08_awake:Option Bool:=some true
def m_klisterlaw08_RelayExact (p0:List Int) (p1:Int):Option (Bool) :=
  (m_klisterkit_Of p0).bind fun x1 =>
  (m_klisterlaw08_Made x1 8 4).bind fun (x16,x17) =>
  (m_relay_Laps x16).bind fun (x57,x58) =>
  (m_relay_Times x16).bind fun (x85,x86) =>
  (m_relay_Legs x16).bind fun (x103,x104) =>
  if x58=0 then
    if x86=0 then
      if x104=0 then
        (m_relay_Check x16).bind fun x127 =>
        if x127=0 then
          if (↑x57.Times.length:Int)=(↑x16.Teams.length:Int) then
            if (↑x85.length:Int)=(↑x16.Teams.length:Int) then
              if (↑x103.length:Int)=(↑x16.Teams.length:Int) then
                if x57.Laps=(w64 ((↑x16.Rules.Classes.length:Int) * x16.Rules.Laps)) then
                  (m_start_CheckRace x57).bind fun x162 =>
                  if x162=0 then
                    jn (forR 0 (↑x16.Teams.length:Int) (fun k204 _ =>
                      (idx x16.Teams (↑k204:Int)).bind fun x228 =>
                      jn (forR 0 (↑x228.Legs.length:Int) (fun k277 (x273,x274,x275,x276) =>
                        (idx x228.Legs (↑k277:Int)).bind fun x310 =>
                        jn (forR 0 (↑x310.Loops.length:Int) (fun k343 (x341,x342) =>
                          (idx x310.Loops (↑k343:Int)).bind fun x380 =>
                          if 0 < (↑k343:Int) then
                            (idx x310.Bouts (w64 ((↑k343:Int) - 1))).bind fun x390 =>
                            (m_relay_Shot x390).bind fun (x403,x404) =>
                            if x404=0 then
                              if x403.Spares=(w64 ((↑x390.length:Int) - 5)) then
                                if x403.Loops < 0 then
                                  esc (esc (esc (some false)))
                                else
                                  if 5 < x403.Loops then
                                    esc (esc (esc (some false)))
                                  else
                                    (idx x57.Times (↑k204:Int)).bind fun x510 =>
                                    if (↑x510.length:Int) ≤ x342 then
                                      esc (esc (esc (some false)))
                                    else
                                      (idx x510 x342).bind fun x550 =>
                                      if x550=(w64 ((w64 (x341 + x380)) + (w64 ((w64 (x403.Spares * x16.Rules.Spare)) + (w64 (x403.Loops * x16.Rules.Loop)))))) then
                                        some (.inl (w64 ((w64 (x341 + x380)) + (w64 ((w64 (x403.Spares * x16.Rules.Spare)) + (w64 (x403.Loops * x16.Rules.Loop))))),w64 (x342 + 1)))
                                      else
                                        esc (esc (esc (some false)))
                              else
                                esc (esc (esc (some false)))
                            else
                              esc (esc (esc (some false)))
                          else
                            (idx x57.Times (↑k204:Int)).bind fun x592 =>
                            if (↑x592.length:Int) ≤ x342 then
                              esc (esc (esc (some false)))
                            else
                              (idx x592 x342).bind fun x631 =>
                              if x631=(w64 (x341 + x380)) then
                                some (.inl (w64 (x341 + x380),w64 (x342 + 1)))
                              else
                                esc (esc (esc (some false)))) (x273,x274)) fun (y656,y657) =>
                        if (↑x310.Loops.length:Int) < x16.Rules.Laps then
                          some (.inl (y656,y657,x275,x276))
                        else
                          (idx x85 (↑k204:Int)).bind fun x709 =>
                          if (↑x709.length:Int) ≤ x276 then
                            esc (esc (some false))
                          else
                            (idx x103 (↑k204:Int)).bind fun x734 =>
                            if (↑x734.length:Int) ≤ x276 then
                              esc (esc (some false))
                            else
                              (idx x709 x276).bind fun x767 =>
                              if x767=y656 then
                                (idx x734 x276).bind fun x785 =>
                                if x785=(w64 (y656 - x275)) then
                                  some (.inl (y656,y657,y656,w64 (x276 + 1)))
                                else
                                  esc (esc (some false))
                              else
                                esc (esc (some false))) (x16.Start,0,x16.Start,0)) fun (y835,y836,y837,y838) =>
                      (idx x57.Times (↑k204:Int)).bind fun x862 =>
                      if y836=(↑x862.length:Int) then
                        (idx x85 (↑k204:Int)).bind fun x881 =>
                        if y838=(↑x881.length:Int) then
                          (idx x103 (↑k204:Int)).bind fun x898 =>
                          if y838=(↑x898.length:Int) then
                            (idx x57.Bibs (↑k204:Int)).bind fun x914 =>
                            if x914=x228.Bib then
                              some (.inl ())
                            else
                              esc (some false)
                          else
                            esc (some false)
                        else
                          esc (some false)
                      else
                        esc (some false)) ()) fun _ =>
                    (m_klisterkit_Fold p1 (↑x16.Rules.Classes.length:Int)).bind fun x960 =>
                    (m_relay_Places x16 x960).bind fun (x986,x987) =>
                    (m_relay_Fastest x16 x960).bind fun (x1002,x1003,x1004) =>
                    (if x987=0 then
                      if (↑x986.length:Int)=(↑x16.Teams.length:Int) then
                        if x1004=0 then
                          some false
                        else
                          some (decide (¬ (x1004=6)))
                      else
                        some true
                    else
                      some true).bind fun b1017 =>
                    if b1017=true then
                      some false
                    else
                      jn (forR 0 (↑x85.length:Int) (fun k1059 _ =>
                        (idx x85 (↑k1059:Int)).bind fun x1086 =>
                        if x960 < (↑x1086.length:Int) then
                          (forR' 0 (↑x85.length:Int) (fun k1114 x1113 =>
                            (idx x85 (↑k1114:Int)).bind fun x1148 =>
                            if x960 < (↑x1148.length:Int) then
                              (idx x1148 x960).bind fun x1165 =>
                              (idx x1086 x960).bind fun x1172 =>
                              if x1165 < x1172 then
                                some (w64 (x1113 + 1))
                              else
                                some x1113
                            else
                              some x1113) 1).bind fun y1119 =>
                          if x1004=0 then
                            (idx x103 (↑k1059:Int)).bind fun x1216 =>
                            (idx x1216 x960).bind fun x1236 =>
                            if x1236 < x1003 then
                              esc (some false)
                            else
                              (idx x16.Teams (↑k1059:Int)).bind fun x1262 =>
                              (m_slices_Contains_int_int x1002 x1262.Bib).bind fun x1284 =>
                              if ((decide (x1236=x1003)) == x1284)=true then
                                (chk (↑k1059:Int) x986.length).bind fun _ =>
                                if (gd x986 k1059)=y1119 then
                                  some (.inl ())
                                else
                                  esc (some false)
                              else
                                esc (some false)
                          else
                            esc (some false)
                        else
                          (chk (↑k1059:Int) x986.length).bind fun _ =>
                          if (gd x986 k1059)=0 then
                            some (.inl ())
                          else
                            esc (some false)) ()) fun _ =>
                      (m_klisterlaw08_awake).bind fun x1346 =>
                      some x1346
                  else
                    some false
                else
                  some false
              else
                some false
            else
              some false
          else
            some false
        else
          some false
      else
        some false
    else
      some false
  else
    some false
end Go.Proofs.YtjfffcjjlnmneaaGreat
namespace Go.KX
open Go.RowKit Go.KL
structure Gh where
  N:Nat
  σ:Env
  t:List Nat
  ac:Code
  bc:Code
  rb:Nat
  fn:FuncId
def g0:Gh:=⟨0,fun _=>undef,[],.skip,.skip,0,0⟩
structure Cl where
  b:Nat
  c:Nat
  g:Gh
abbrev Mu:=Pos→Option Cl
mutual
def Rv (μ:Mu):AV→Value→Prop
  | .int k n,v=>v=.int k n
  | .bool b,v=>v=.bool b
  | .ptr b off,v=>∃ c,μ b=some c∧v=.pointer (some ⟨c.1,off,none⟩)
  | .pnil,v=>v=.pointer none
  | .sl b off n c,v=>∃ d,μ b=some d∧n ≤ c∧v=.slice (some ⟨d.1,off,none⟩) n c
  | .rw b eo co n,v=>∃ d,μ b=some d∧eo + n ≤ d.2∧v=.slice (some ⟨d.1,co,none⟩) n (d.2 - eo)
  | .rz b eo,v=>∃ d,μ b=some d∧∃ o,v=.slice (some ⟨d.1,o,none⟩) 0 (d.2 - eo)
  | .snil,v=>v=.slice none 0 0
  | .map b,v=>∃ c,μ b=some c∧v=.map (some c.1)
  | .mnil,v=>v=.map none
  | .fn f fi ca,v=>∃ fv cv,RvL μ fi fv∧RvL μ ca cv∧v=.func (.func (f.nat - 1)) fv.toArray cv.toArray
  | .yld b,v=>∃ c,μ b=some c∧v=.func (.yield c.1) #[] #[]
  | .fnil,v=>v=.nilFunc
  | .agg l,v=>∃ vs,RvL μ l vs∧v=.agg vs.toArray
  | .tup l,v=>∃ vs,RvL μ l vs∧v=.tuple vs.toArray
def RvL (μ:Mu):List AV→List Value→Prop
  | [],vs=>vs=[]
  | a :: l,vs=>∃ v ws,Rv μ a v∧RvL μ l ws∧vs=v :: ws
end
def Mu.Le (μ μ':Mu):Prop:=∀ p c,μ p=some c→μ' p=some c
theorem Mu.Le.refl (μ:Mu):μ.Le μ:=fun _ _ h=>h
theorem Mu.Le.trans {a b c:Mu} (h:a.Le b) (k:b.Le c):a.Le c:=fun p x hx=>k p x (h p x hx)
mutual
theorem Rv.mono {μ μ':Mu} (hm:μ.Le μ'):∀ {a:AV} {v:Value},Rv μ a v→Rv μ' a v
  | .int _ _,_,h=>h
  | .bool _,_,h=>h
  | .ptr _ _,_,⟨c,h1,h2⟩=>⟨c,hm _ _ h1,h2⟩
  | .pnil,_,h=>h
  | .sl _ _ _ _,_,⟨c,h1,h2⟩=>⟨c,hm _ _ h1,h2⟩
  | .rw _ _ _ _,_,⟨c,h1,h2⟩=>⟨c,hm _ _ h1,h2⟩
  | .rz _ _,_,⟨c,h1,h2⟩=>⟨c,hm _ _ h1,h2⟩
  | .snil,_,h=>h
  | .map _,_,⟨c,h1,h2⟩=>⟨c,hm _ _ h1,h2⟩
  | .mnil,_,h=>h
  | .fn _ _ _,_,⟨fv,cv,h1,h2,h3⟩=>⟨fv,cv,RvL.mono hm h1,RvL.mono hm h2,h3⟩
  | .yld _,_,⟨c,h1,h2⟩=>⟨c,hm _ _ h1,h2⟩
  | .fnil,_,h=>h
  | .agg _,_,⟨vs,h1,h2⟩=>⟨vs,RvL.mono hm h1,h2⟩
  | .tup _,_,⟨vs,h1,h2⟩=>⟨vs,RvL.mono hm h1,h2⟩
theorem RvL.mono {μ μ':Mu} (hm:μ.Le μ'):∀ {l:List AV} {vs:List Value},RvL μ l vs→RvL μ' l vs
  | [],_,h=>h
  | _ :: _,_,⟨v,ws,h1,h2,h3⟩=>⟨v,ws,Rv.mono hm h1,RvL.mono hm h2,h3⟩
end
theorem rvL_nil {μ:Mu}:RvL μ [] []:=rfl
theorem rvL_cons {μ:Mu} {a:AV} {l:List AV} {v:Value} {vs:List Value} (h:Rv μ a v) (h':RvL μ l vs):RvL μ (a :: l) (v :: vs):=⟨v,vs,h,h',rfl⟩
theorem rvL_len {μ:Mu}:∀ {l:List AV} {vs:List Value},RvL μ l vs→vs.length=l.length
  | [],_,h=>by cases h;rfl
  | _ :: _,_,⟨_,_,_,h2,h3⟩=>by subst h3;simp [rvL_len h2]
theorem rvL_app {μ:Mu}:∀ {l k:List AV} {vs ws:List Value},RvL μ l vs→RvL μ k ws→RvL μ (l ++ k) (vs ++ ws)
  | [],_,_,_,h,h'=>by cases h;exact h'
  | _ :: _,_,_,_,⟨v,ws,h1,h2,h3⟩,h'=>by subst h3;exact rvL_cons h1 (rvL_app h2 h')
theorem rvL_get {μ:Mu}:∀ {l:List AV} {vs:List Value},RvL μ l vs→∀ {i:Nat} {a:AV},l[i]?=some a→∃ v,vs[i]?=some v∧Rv μ a v
  | [],_,_,i,a,hi=>by simp at hi
  | b :: l,_,⟨v,ws,h1,h2,h3⟩,i,a,hi=>by
    subst h3
    cases i with
    | zero=>simp at hi;subst hi;exact ⟨v,rfl,h1⟩
    | succ i=>simpa using rvL_get h2 (i:=i) (by simpa using hi)
theorem rvL_drop {μ:Mu}:∀ {l:List AV} {vs:List Value} (n:Nat),RvL μ l vs→RvL μ (l.drop n) (vs.drop n)
  | _,_,0,h=>h
  | [],_,n + 1,h=>by cases h;exact rfl
  | _ :: _,_,n + 1,⟨_,_,_,h2,h3⟩=>by subst h3;exact rvL_drop n h2
theorem rvL_take {μ:Mu}:∀ {l:List AV} {vs:List Value} (n:Nat),RvL μ l vs→RvL μ (l.take n) (vs.take n)
  | _,_,0,_=>rfl
  | [],_,n + 1,h=>by cases h;exact rfl
  | _ :: _,_,n + 1,⟨_,_,h1,h2,h3⟩=>by subst h3;exact rvL_cons h1 (rvL_take n h2)
theorem rvL_rep {μ:Mu} {l:List AV} {vs:List Value} (h:RvL μ l vs):∀ n,RvL μ (rep n l) (List.replicate n vs).flatten
  | 0=>rfl
  | n + 1=>by rw [List.replicate_succ,List.flatten_cons];exact rvL_app h (rvL_rep h n)
section
variable {α:Type}
theorem nth_eq:∀ (l:List α) (n:Nat),nth l n=l[n]?
  | [],_=>rfl
  | _ :: _,0=>rfl
  | _ :: l,n + 1=>by show nth l n=_;rw [nth_eq l n];simp
theorem len_eq:∀ (l:List α),len l=l.length
  | []=>rfl
  | _ :: l=>by show Nat.succ (len l)=_;rw [len_eq l];rfl
theorem consO_some {a:α} {o:Option (List α)} {r:List α} (h:consO a o=some r):∃ r',o=some r'∧r=a :: r':=by
  cases o with
  | none=>cases h
  | some r'=>cases h;exact ⟨r',rfl,rfl⟩
theorem tk_some:∀ {l:List α} {n:Nat} {r:List α},tk l n=some r→r=l.take n∧n ≤ l.length
  | [],0,r,h=>by cases h;simp
  | [],n + 1,r,h=>by cases h
  | a :: l,0,r,h=>by cases h;simp
  | a :: l,n + 1,r,h=>by
    obtain ⟨r',h1,rfl⟩:=consO_some (show consO a (tk l n)=some r from h)
    obtain ⟨h2,h3⟩:=tk_some h1
    simp [h2,h3]
theorem sub_some:∀ {l:List α} {off n:Nat} {r:List α},sub l off n=some r→r=(l.drop off).take n∧off + n ≤ l.length
  | [],0,n,r,h=>by have:=tk_some (l:=[]) (n:=n) h;simpa using this
  | [],off + 1,n,r,h=>by cases h
  | a :: l,0,n,r,h=>by have:=tk_some (l:=a :: l) (n:=n) h;simpa using this
  | a :: l,off + 1,n,r,h=>by
    obtain ⟨h1,h2⟩:=sub_some (show sub l off n=some r from h)
    exact ⟨by simpa using h1,by simp;omega⟩
theorem ov_some:∀ {l vs r:List α},ov l vs=some r→vs.length ≤ l.length∧r=vs ++ l.drop vs.length
  | [],[],r,h=>by cases h;simp
  | [],v :: vs,r,h=>by cases h
  | a :: l,[],r,h=>by cases h;simp
  | a :: l,v :: vs,r,h=>by
    obtain ⟨r',h1,rfl⟩:=consO_some (show consO v (ov l vs)=some r from h)
    obtain ⟨h2,h3⟩:=ov_some h1
    subst h3
    exact ⟨by simpa using h2,by simp⟩
theorem over_some:∀ {l:List α} {off:Nat} {vs r:List α},over l off vs=some r→off + vs.length ≤ l.length∧r=l.take off ++ vs ++ l.drop (off + vs.length)
  | [],0,vs,r,h=>by have:=ov_some (l:=[]) h;simp at this;simp [this]
  | [],off + 1,vs,r,h=>by cases h
  | a :: l,0,vs,r,h=>by have:=ov_some (l:=a :: l) h;simp at this;simp [this]
  | a :: l,off + 1,vs,r,h=>by
    obtain ⟨r',h1,rfl⟩:=consO_some (show consO a (over l off vs)=some r from h)
    obtain ⟨h2,h3⟩:=over_some h1
    subst h3
    refine ⟨by simp;omega,?_⟩
    rw [show off + 1 + vs.length=(off + vs.length) + 1 from by omega]
    simp
end
theorem setN_eq:∀ (vs l:List Value) (off:Nat),off + vs.length ≤ l.length→setN l off vs=l.take off ++ vs ++ l.drop (off + vs.length)
  | [],l,off,_=>by simp [setN]
  | v :: vs,l,off,h=>by
    simp only [List.length_cons] at h
    have hlt:off < l.length:=by omega
    rw [setN,setN_eq vs (l.set off v) (off + 1) (by simp;omega)]
    have h1:(l.set off v).take (off + 1)=l.take off ++ [v]:=by
      rw [List.take_set,List.take_add_one,List.getElem?_eq_getElem hlt]
      rw [List.set_append_right _ _ (by simp;omega)]
      simp [Nat.min_eq_left (Nat.le_of_lt hlt)]
    rw [h1,List.drop_set_of_lt (by omega)]
    rw [show off + 1 + vs.length=off + (v :: vs).length from by simp;omega]
    simp
theorem rvL_over {μ:Mu} {l vs r:List AV} {L V:List Value} {off:Nat} (h:over l off vs=some r) (hl:RvL μ l L) (hv:RvL μ vs V):off + V.length ≤ L.length∧RvL μ r (setN L off V):=by
  obtain ⟨h1,rfl⟩:=over_some h
  have e1:=rvL_len hl
  have e2:=rvL_len hv
  have h2:off + V.length ≤ L.length:=by omega
  refine ⟨h2,?_⟩
  rw [setN_eq V L off h2,e2]
  exact rvL_app (rvL_app (rvL_take off hl) hv) (rvL_drop _ hl)
theorem rvL_sub {μ:Mu} {l r:List AV} {L:List Value} {off n:Nat} (h:sub l off n=some r) (hl:RvL μ l L):RvL μ r ((L.drop off).take n)∧off + n ≤ L.length:=by
  obtain ⟨rfl,h1⟩:=sub_some h
  have e1:=rvL_len hl
  exact ⟨rvL_take n (rvL_drop off hl),by omega⟩
theorem rv_one {μ:Mu} {a:AV} {v:Value} (h:Rv μ a v) (h1:a.one=true):one v=true:=by
  cases a <;> simp only [Rv] at h <;> first | (cases h1;done) | (subst h;rfl) | (obtain ⟨_,_,_,_,_,rfl⟩:=h;rfl) | (obtain ⟨_,_,_,_,rfl⟩:=h;rfl) | (obtain ⟨_,_,_,rfl⟩:=h;rfl) | (obtain ⟨_,_,rfl⟩:=h;rfl)
theorem rvL_ones {μ:Mu}:∀ {l:List AV} {vs:List Value},RvL μ l vs→ones l=true→∀ v ∈ vs,one v=true
  | [],_,h,_=>by cases h;simp
  | a :: l,_,⟨v,ws,h1,h2,h3⟩,ho=>by
    subst h3
    have ho:(a.one && ones l)=true:=ho
    rw [Bool.and_eq_true] at ho
    intro u hu
    rcases List.mem_cons.1 hu with rfl | hu
    · exact rv_one h1 ho.1
    · exact rvL_ones h2 ho.2 u hu
theorem rv_cells {μ:Mu} {a:AV} {v:Value} (h:Rv μ a v):∃ vs,RvL μ a.cells vs∧v.cells=vs.toArray:=by
  cases a with
  | agg l=>obtain ⟨vs,h1,rfl⟩:=h;exact ⟨vs,h1,rfl⟩
  | tup l=>obtain ⟨vs,h1,rfl⟩:=h;exact ⟨[_],rvL_cons ⟨vs,h1,rfl⟩ rvL_nil,rfl⟩
  | _ =>
    refine ⟨[v],rvL_cons h rvL_nil,?_⟩
    simp only [Rv] at h
    first | (subst h;rfl) | (obtain ⟨_,_,_,_,_,rfl⟩:=h;rfl) | (obtain ⟨_,_,_,_,rfl⟩:=h;rfl) | (obtain ⟨_,_,_,rfl⟩:=h;rfl) | (obtain ⟨_,_,rfl⟩:=h;rfl)
end Go.KX
namespace Go.KX
open Go.RowKit Go.KL
def EnvR (μ:Mu) (σA:Tr AV) (σ:Env):Prop:=∀ p:Pos,Rv μ (evA σA (.t p)) (σ (p.nat - 1))
theorem evA_t (σA:Tr AV) (p:Pos):evA σA (.t p)=(σA.get p).getD u:=by
  show Option.rec (motive:=fun _=>AV) u (fun v=>v) (σA.get p)=_
  cases σA.get p <;> rfl
theorem EnvR.mono {μ μ':Mu} {σA:Tr AV} {σ:Env} (h:EnvR μ σA σ) (hm:μ.Le μ'):EnvR μ' σA σ:=fun p=>(h p).mono hm
theorem EnvR.put {μ:Mu} {σA:Tr AV} {σ:Env} (h:EnvR μ σA σ) {p:Pos} {a:AV} {v:Value} (hv:Rv μ a v):EnvR μ (σA.set p a) (upd σ (p.nat - 1) v):=by
  intro q
  rw [evA_t,Tr.get_set]
  by_cases e:q=p
  · subst e;rw [if_pos rfl,upd_same];exact hv
  · rw [if_neg e,upd_ne,← evA_t]
    · exact h q
    · intro e2
      have:=p.nat_pos;have:=q.nat_pos
      exact e (Pos.nat_inj (by omega))
theorem rv_u (μ:Mu):Rv μ u undef:=⟨[],rfl,rfl⟩
theorem initA_ok {μ:Mu}:∀ {args:List AV} {vs:List Value},RvL μ args vs→∀ {p:Pos} {t:Tr AV} {σ σ':Env},EnvR μ t σ→(∀ i,i < p.nat - 1→σ' i=σ i)→(∀ j v,vs[j]?=some v→σ' (p.nat - 1 + j)=v) →
    (∀ i,p.nat - 1 + vs.length ≤ i→σ' i=σ i)→EnvR μ (initA args p t) σ'
  | [],_,h,p,t,σ,σ',hE,h1,_,h3=>by
    cases h
    intro q
    have:=hE q
    by_cases e:q.nat - 1 < p.nat - 1
    · rw [h1 _ e];exact this
    · rw [h3 _ (by simp;omega)];exact this
  | a :: l,_,⟨v,ws,h1,h2,h3⟩,p,t,σ,σ',hE,g1,g2,g3=>by
    subst h3
    have hp:=p.nat_pos
    refine initA_ok h2 (p:=p.succ) (hE.put (p:=p) h1) ?_ ?_ ?_
    · intro i hi
      rw [Pos.nat_succ] at hi
      by_cases e:i=p.nat - 1
      · subst e;rw [upd_same];exact g2 0 v rfl
      · rw [upd_ne _ _ e];exact g1 i (by omega)
    · intro j x hx
      rw [Pos.nat_succ]
      have:=g2 (j + 1) x (by simpa using hx)
      rw [← this];congr 1;omega
    · intro i hi
      rw [Pos.nat_succ] at hi
      rw [upd_ne _ _ (by omega)]
      exact g3 i (by simp;omega)
theorem init_ok {μ:Mu} {args:List AV} {vs:List Value} (h:RvL μ args vs):EnvR μ (initA args .H .e) (init vs):=by
  have h0:EnvR μ .e (fun _=>undef):=by intro p;rw [evA_t,Tr.get_e];exact rv_u μ
  refine initA_ok h (p:=.H) h0 (fun i hi=>by simp [Pos.nat] at hi) (fun j v hv=>?_) (fun i hi=>?_)
  · simp [init,Pos.nat,hv]
  · simp only [Pos.nat] at hi
    simp [init,List.getElem?_eq_none (by omega:vs.length ≤ i)]
mutual
noncomputable def okc:AV→Value→Bool
  | .int k n,.int k' n'=>keq k k' && zeq n n'
  | .bool b,.bool b'=>b == b'
  | .pnil,.pointer none=>true
  | .snil,.slice none 0 0=>true
  | .mnil,.map none=>true
  | .fnil,.nilFunc=>true
  | .agg l,.agg vs=>okcL l vs.toList
  | .tup l,.tuple vs=>okcL l vs.toList
  | _,_=>false
noncomputable def okcL:List AV→List Value→Bool
  | [],[]=>true
  | a :: l,v :: vs=>okc a v && okcL l vs
  | _,_=>false
end
theorem zeq_eq:∀ {a b:Int},zeq a b=true ↔ a=b
  | .ofNat a,.ofNat b=>by simp [zeq];omega
  | .negSucc a,.negSucc b=>by simp [zeq]
  | .ofNat a,.negSucc b=>by simp [zeq]
  | .negSucc a,.ofNat b=>by simp [zeq]
theorem zeq_dec (a b:Int):zeq a b=decide (a=b):=by
  by_cases h:a=b
  · rw [zeq_eq.2 h];simp [h]
  · have:zeq a b ≠ true:=fun e=>h (zeq_eq.1 e)
    simp [h,Bool.eq_false_iff.2 this]
theorem zlt_dec:∀ (a b:Int),zlt a b=decide (a < b)
  | .ofNat a,.ofNat b=>by
    simp only [zlt,Int.ofNat_eq_natCast,Int.ofNat_lt]
    by_cases h:a < b
    · simp [h,Nat.blt_eq]
    · simp [h,Bool.eq_false_iff,Nat.blt_eq]
  | .negSucc a,.negSucc b=>by
    simp only [zlt,Int.negSucc_eq]
    by_cases h:b < a
    · have h2:-((a:Int) + 1) < -((b:Int) + 1):=by omega
      simp [h2,Nat.blt_eq];exact h
    · have h2:¬ -((a:Int) + 1) < -((b:Int) + 1):=by omega
      simp [h2,Bool.eq_false_iff,Nat.blt_eq];omega
  | .ofNat a,.negSucc b=>by
    simp only [zlt,Int.negSucc_eq,Int.ofNat_eq_natCast]
    have h2:¬ (a:Int) < -((b:Int) + 1):=by omega
    simp [h2]
  | .negSucc a,.ofNat b=>by
    simp only [zlt,Int.negSucc_eq,Int.ofNat_eq_natCast]
    have h2:-((a:Int) + 1) < (b:Int):=by omega
    simp [h2]
theorem zle_dec (a b:Int):zle a b=decide (a ≤ b):=by
  rw [zle,zlt_dec]
  by_cases h:a ≤ b
  · simp [h,Int.not_lt.2 h]
  · simp [h,Int.not_le.1 h]
theorem keq_eq {a b:IntKind} (h:keq a b=true):a=b:=by cases a <;> cases b <;> first | rfl | cases h
mutual
theorem okc_ok (μ:Mu):∀ {a:AV} {v:Value},okc a v=true→Rv μ a v
  | .int k n,v,h=>by
    cases v <;> simp only [okc,Bool.and_eq_true,Bool.false_eq_true] at h
    rw [keq_eq h.1,zeq_eq.1 h.2];rfl
  | .bool b,v,h=>by
    cases v <;> simp only [okc,beq_iff_eq,Bool.false_eq_true] at h
    subst h;rfl
  | .pnil,v,h=>by
    unfold okc at h
    split at h <;> first | rfl | (exfalso;simp_all;done) | simp_all [Rv]
  | .snil,v,h=>by
    unfold okc at h
    split at h <;> first | rfl | (exfalso;simp_all;done) | simp_all [Rv]
  | .mnil,v,h=>by
    unfold okc at h
    split at h <;> first | rfl | (exfalso;simp_all;done) | simp_all [Rv]
  | .fnil,v,h=>by
    cases v <;> simp only [okc,Bool.false_eq_true] at h
    rfl
  | .agg l,v,h=>by
    cases v <;> simp only [okc,Bool.false_eq_true] at h
    exact ⟨_,okcL_ok μ h,by simp⟩
  | .tup l,v,h=>by
    cases v <;> simp only [okc,Bool.false_eq_true] at h
    exact ⟨_,okcL_ok μ h,by simp⟩
  | .ptr _ _,v,h=>by simp [okc] at h
  | .sl _ _ _ _,v,h=>by simp [okc] at h
  | .rw _ _ _ _,v,h=>by simp [okc] at h
  | .rz _ _,v,h=>by simp [okc] at h
  | .map _,v,h=>by simp [okc] at h
  | .fn _ _ _,v,h=>by simp [okc] at h
  | .yld _,v,h=>by simp [okc] at h
theorem okcL_ok (μ:Mu):∀ {l:List AV} {vs:List Value},okcL l vs=true→RvL μ l vs
  | [],[],_=>rfl
  | a :: l,v :: vs,h=>by
    simp only [okcL,Bool.and_eq_true] at h
    exact rvL_cons (okc_ok μ h.1) (okcL_ok μ h.2)
  | [],_ :: _,h=>by simp [okcL] at h
  | _ :: _,[],h=>by simp [okcL] at h
end
noncomputable def chkD:AOd→Operand→Bool
  | .t p,.tmp t=>Nat.beq p.nat (t + 1)
  | .c a,.const v=>okc a v
  | .c (.fn f [] []),.func g=>Nat.beq f.nat (g + 1)
  | _,_=>false
noncomputable def chkDs:List AOd→List Operand→Bool
  | [],[]=>true
  | x :: l,y :: k=>chkD x y && chkDs l k
  | _,_=>false
theorem chkD_ok {μ:Mu} {σA:Tr AV} {σ:Env} {x:AOd} {y:Operand} (h:chkD x y=true) (hE:EnvR μ σA σ):Rv μ (evA σA x) (ev σ y):=by
  unfold chkD at h
  split at h
  · rename_i p t
    have:=Nat.eq_of_beq_eq_true h
    have h2:=hE p
    rw [this] at h2
    exact h2
  · exact okc_ok μ h
  · rename_i f g
    have:=Nat.eq_of_beq_eq_true h
    exact ⟨[],[],rfl,rfl,by show Value.func (.func g) #[] #[]=_;rw [this];rfl⟩
  · cases h
theorem chkDs_ok {μ:Mu} {σA:Tr AV} {σ:Env}:∀ {l:List AOd} {k:List Operand},chkDs l k=true→EnvR μ σA σ→RvL μ (evs σA l) (k.map (ev σ))
  | [],[],_,_=>rfl
  | x :: l,y :: k,h,hE=>by
    simp only [chkDs,Bool.and_eq_true] at h
    exact rvL_cons (chkD_ok h.1 hE) (chkDs_ok h.2 hE)
  | [],_ :: _,h,_=>by simp [chkDs] at h
  | _ :: _,[],h,_=>by simp [chkDs] at h
def MR {K:Type} (μ:Mu) (l:List (K × AV)) (t:List (K × Value)):Prop:=l.map (·.1)=t.map (·.1)∧RvL μ (l.map (·.2)) (t.map (·.2))
def mk2 (k:IntKind) (x:Int × Int):Value:=.agg #[.int k x.1,.int k x.2]
def exC:Ex→Exit
  | .nrm=>.normal
  | .exit i=>.exit i
  | .ret=>.ret
def lsC:LS→LoopState × Option Code
  | .ready=>(.ready,none)
  | .busy=>(.busy,none)
  | .done .ret=>(.done,some .ret)
  | .done (.exit i)=>(.done,some (.exit i))
  | .done .nrm=>(.ready,none)
abbrev Chk:=AC→Code→Nat→Prop
structure LoopR (C:Chk) (μ:Mu) (w:World) (c:Cl) (σA:Tr AV) (t:List Pos) (asg body:AC) (s:LS):Prop where
  at_:LoopAt w c.1 c.g.N c.g.σ c.g.t c.g.ac c.g.bc c.g.rb c.g.fn (lsC s).1 (lsC s).2
  env:EnvR μ σA c.g.σ
  ht:t.map Pos.nat=c.g.t.map (· + 1)
  tN:∀ x ∈ c.g.t,x < c.g.N
  asg:C asg c.g.ac c.g.N
  body:C body c.g.bc c.g.N
def AbR (C:Chk) (P:Program) (μ:Mu) (w:World) (c:Cl):AB→Prop
  | .cells T l=>∃ vs,RvL μ l vs∧Blk w c.1 T vs
  | .row T sz l=>∃ vs,RvL μ l vs∧RowAt w (some ⟨c.1,0,none⟩) c.2 T sz vs
  | .map0=>∃ ck,w.heap[c.1]?=some (.map #[] ck)
  | .mapI k l=>∃ es ck t,w.heap[c.1]?=some (.map es ck)∧MpR es (fun n:Int=>Value.int k n) id t∧MR μ l t
  | .map2 k l=>∃ es ck t,w.heap[c.1]?=some (.map es ck)∧MpR es (mk2 k) id t∧MR μ l t
  | .loop σA t asg body s=>LoopR C μ w c σA t asg body s
  | .dead=>True
def live:AB→Prop
  | .dead=>False
  | _=>True
variable {C:Chk} {P:Program} {μ μ' μ'':Mu} {w w' w'':World} {h h' h'':AH}
theorem MR.mono {K:Type} {l:List (K × AV)} {t:List (K × Value)} (h:MR μ l t) (hm:μ.Le μ'):MR μ' l t:=⟨h.1,h.2.mono hm⟩
theorem AbR.mono {c:Cl} {B:AB} (h:AbR C P μ w c B) (hm:μ.Le μ'):AbR C P μ' w c B:=by
  cases B with
  | cells T l=>obtain ⟨vs,h1,h2⟩:=h;exact ⟨vs,h1.mono hm,h2⟩
  | row T sz l=>obtain ⟨vs,h1,h2⟩:=h;exact ⟨vs,h1.mono hm,h2⟩
  | map0=>exact h
  | mapI k l=>obtain ⟨es,ck,t,h1,h2,h3⟩:=h;exact ⟨es,ck,t,h1,h2,h3.mono hm⟩
  | map2 k l=>obtain ⟨es,ck,t,h1,h2,h3⟩:=h;exact ⟨es,ck,t,h1,h2,h3.mono hm⟩
  | loop σA t asg body s=>exact ⟨h.at_,h.env.mono hm,h.ht,h.tN,h.asg,h.body⟩
  | dead=>trivial
theorem AbR.keep {c:Cl} {B:AB} {X:Nat→Prop} (h:AbR C P μ w c B) (k:Keep w w' X) (hx:¬ X c.1):AbR C P μ w' c B:=by
  cases B with
  | cells T l=>obtain ⟨vs,h1,h2⟩:=h;exact ⟨vs,h1,h2.keep k hx⟩
  | row T sz l =>
    obtain ⟨vs,h1,h2⟩:=h
    refine ⟨vs,h1,?_⟩
    obtain ⟨cur,h3,h4⟩:=RowAt.cells h2
    exact .inr ⟨c.1,cur,rfl,(k.block _ (lt_of_some h3) hx).trans h3,h4⟩
  | map0=>obtain ⟨ck,h1⟩:=h;exact ⟨ck,(k.block _ (lt_of_some h1) hx).trans h1⟩
  | mapI _ l=>obtain ⟨es,ck,t,h1,h2⟩:=h;exact ⟨es,ck,t,(k.block _ (lt_of_some h1) hx).trans h1,h2⟩
  | map2 _ l=>obtain ⟨es,ck,t,h1,h2⟩:=h;exact ⟨es,ck,t,(k.block _ (lt_of_some h1) hx).trans h1,h2⟩
  | loop σA t asg body s=>exact ⟨h.at_.keep k hx,h.env,h.ht,h.tN,h.asg,h.body⟩
  | dead=>trivial
def img (μ:Mu) (fl:Nat) (c:Nat):Prop:=∃ p d,μ p=some d∧d.1=c∧fl ≤ p.nat
structure Ext (μ:Mu) (fl:Nat) (w:World) (μ':Mu) (w':World):Prop where
  mono:μ.Le μ'
  new:∀ p c,μ' p=some c→μ p=some c ∨ img μ fl c.1 ∨ w.heap.size ≤ c.1
  keep:Keep w w' (img μ fl)
theorem Ext.refl (μ:Mu) (fl:Nat) (w:World):Ext μ fl w μ w:=⟨Mu.Le.refl μ,fun _ _ h=>.inl h,Keep.refl w _⟩
theorem Ext.img {fl:Nat} {c:Nat} (E:Ext μ fl w μ' w') (hi:img μ' fl c):KX.img μ fl c ∨ w.heap.size ≤ c:=by
  obtain ⟨p,d,h1,rfl,h2⟩:=hi
  rcases E.new p _ h1 with h3 | h3 | h3
  · exact .inl ⟨p,d,h3,rfl,h2⟩
  · exact .inl h3
  · exact .inr h3
theorem Ext.trans {fl:Nat} (E:Ext μ fl w μ' w') (E':Ext μ' fl w' μ'' w''):Ext μ fl w μ'' w'':=by
  refine ⟨E.mono.trans E'.mono,fun p c hp=>?_,E.keep.step E'.keep fun i hi hm=>?_⟩
  · rcases E'.new p c hp with h1 | h1 | h1
    · exact E.new p c h1
    · exact .inr (E.img h1)
    · exact .inr (.inr (Nat.le_trans E.keep.size h1))
  · rcases E.img hm with h1 | h1
    · exact h1
    · omega
structure Sim (C:Chk) (P:Program) (μ:Mu) (h:AH) (w:World):Prop where
  nx:∀ p,h.nx.nat ≤ p.nat→μ p=none
  lt:∀ p c,μ p=some c→c.1 < w.heap.size
  inj:∀ p q a b c d,h.m.get p=some a→h.m.get q=some b→live a→live b→μ p=some c→μ q=some d→c.1=d.1→p=q
  at_:∀ p b,h.m.get p=some b→∃ c,μ p=some c∧AbR C P μ w c b
theorem Sim.keep (S:Sim C P μ h w) (k:Keep w w' Non):Sim C P μ h w' :=
  ⟨S.nx,fun p c hp=>Nat.lt_of_lt_of_le (S.lt p c hp) k.size,S.inj,fun p b hb=>let ⟨c,h1,h2⟩:=S.at_ p b hb;⟨c,h1,h2.keep k id⟩⟩
theorem Sim.floor (S:Sim C P μ h w) (f:Pos):Sim C P μ ⟨h.m,h.nx,f⟩ w:=⟨S.nx,S.lt,S.inj,S.at_⟩
theorem Sim.non (S:Sim C P μ h w) (E:Ext μ h.nx.nat w μ' w') (fl:Nat):Keep w w' Non∧Ext μ fl w μ' w':=by
  have hn:∀ c,¬ img μ h.nx.nat c:=fun c ⟨p,k,h1,_,h2⟩=>by rw [S.nx p h2] at h1;cases h1
  refine ⟨E.keep.weak fun i _ hi=>hn i hi,E.mono,fun p c hp=>?_,E.keep.weak fun i _ hi=>(hn i hi).elim⟩
  rcases E.new p c hp with h1 | h1 | h1
  · exact .inl h1
  · exact (hn _ h1).elim
  · exact .inr (.inr h1)
theorem put_some {h h':AH} {p:Pos} {B:AB} (hp:h.put p B=some h'):h.fl.nat ≤ p.nat∧h'=⟨h.m.set p B,h.nx,h.fl⟩:=by
  unfold AH.put at hp
  split at hp
  · cases hp
  · rename_i hf
    cases hp
    refine ⟨?_,rfl⟩
    rcases Nat.lt_or_ge p.nat h.fl.nat with hlt | hge
    · rw [(Pos.ltb_iff p h.fl false).2 (.inl hlt)] at hf;cases hf
    · exact hge
theorem Sim.put {p:Pos} {B B':AB} {c:Cl} (S:Sim C P μ h w) (hp:h.put p B'=some h') (hB:h.m.get p=some B) (hl:live B) (hc:μ p=some c) (K:Keep w w' (·=c.1)) (hB':AbR C P μ w' c B') :
    Sim C P μ h' w'∧Ext μ h.fl.nat w μ w'∧h'.fl=h.fl:=by
  obtain ⟨hf,rfl⟩:=put_some hp
  refine ⟨⟨S.nx,fun p c hp=>Nat.lt_of_lt_of_le (S.lt p c hp) K.size,?_,?_⟩,⟨Mu.Le.refl μ,fun _ _ h=>.inl h,K.weak fun i _ e=>⟨p,c,hc,e.symm,hf⟩⟩,rfl⟩
  · intro q r a b d e hq hr la lb hd he hde
    simp only [Tr.get_set] at hq hr
    split at hq <;> split at hr
    · rename_i h1 h2;rw [h1,h2]
    · rename_i h1 h2;exact (S.inj q r B b d e (h1 ▸ hB) hr hl lb hd he hde)
    · rename_i h1 h2;exact (S.inj q r a B d e hq (h2 ▸ hB) la hl hd he hde)
    · exact S.inj q r a b d e hq hr la lb hd he hde
  · intro q b hq
    simp only [Tr.get_set] at hq
    split at hq
    · rename_i h1;subst h1;cases hq;exact ⟨c,hc,hB'⟩
    · rename_i h1
      obtain ⟨d,h2,h3⟩:=S.at_ q b hq
      refine ⟨d,h2,?_⟩
      by_cases lb:live b
      · exact h3.keep K fun e=>h1 (S.inj q p b B d c hq hB lb hl h2 hc e)
      · cases b <;> first | trivial | exact (lb trivial).elim
def Mu.add (μ:Mu) (p:Pos) (c:Cl):Mu:=fun q=>if q=p then some c else μ q
theorem Mu.add_le {p:Pos} {c:Cl} (hn:μ p=none):μ.Le (μ.add p c):=by
  intro q d hq
  unfold Mu.add
  by_cases e:q=p
  · subst e;rw [hn] at hq;cases hq
  · rw [if_neg e];exact hq
theorem Mu.add_same (μ:Mu) (p:Pos) (c:Cl):μ.add p c p=some c:=by simp [Mu.add]
theorem Sim.push {c:Cl} {B:AB} (S:Sim C P μ h w) (K:Keep w w' Non) (hc:w.heap.size ≤ c.1) (hlt:c.1 < w'.heap.size) (hB:AbR C P (μ.add h.nx c) w' c B) :
    Sim C P (μ.add h.nx c) (h.push B) w'∧Ext μ h.fl.nat w (μ.add h.nx c) w'∧(h.push B).fl=h.fl∧(μ.add h.nx c) h.nx=some c:=by
  have hn:=S.nx h.nx (Nat.le_refl _)
  have hle:=Mu.add_le (c:=c) hn
  refine ⟨⟨?_,?_,?_,?_⟩,⟨hle,?_,K.weak fun _ _ h=>h.elim⟩,rfl,Mu.add_same _ _ _⟩
  · intro p hp
    have hp:h.nx.succ.nat ≤ p.nat:=hp
    rw [Pos.nat_succ] at hp
    unfold Mu.add
    rw [if_neg (fun e=>by subst e;omega)]
    exact S.nx p (by omega)
  · intro p d hd
    unfold Mu.add at hd
    split at hd
    · cases hd;exact hlt
    · exact Nat.lt_of_lt_of_le (S.lt p d hd) K.size
  · intro p q a b d e hp hq la lb hd he hde
    simp only [AH.push,Tr.get_set] at hp hq
    unfold Mu.add at hd he
    split at hd <;> split at he
    · rename_i h1 h2;rw [h1,h2]
    · cases hd;have:=S.lt _ _ he;omega
    · cases he;have:=S.lt _ _ hd;omega
    · rename_i h1 h2
      rw [if_neg h1] at hp
      rw [if_neg h2] at hq
      exact S.inj p q a b d e hp hq la lb hd he hde
  · intro p b hb
    simp only [AH.push,Tr.get_set] at hb
    split at hb
    · rename_i h1;subst h1;cases hb;exact ⟨c,Mu.add_same _ _ _,hB⟩
    · obtain ⟨d,h2,h3⟩:=S.at_ p b hb
      exact ⟨d,hle _ _ h2,(h3.mono hle).keep K id⟩
  · intro p d hd
    unfold Mu.add at hd
    split at hd
    · cases hd;exact .inr (.inr hc)
    · exact .inl hd
theorem Sim.move {p:Pos} {B B':AB} {c d:Cl} (S:Sim C P μ h w) (hp:h.put p .dead=some h') (hB:h.m.get p=some B) (hl:live B) (hc:μ p=some c) (K:Keep w w' (·=c.1)) (hd:d.1=c.1 ∨ w.heap.size ≤ d.1) (hlt:d.1 < w'.heap.size)
    (hB':AbR C P (μ.add h.nx d) w' d B'):Sim C P (μ.add h.nx d) (h'.push B') w'∧Ext μ h.fl.nat w (μ.add h.nx d) w'∧(h'.push B').fl=h.fl∧(μ.add h.nx d) h.nx=some d:=by
  obtain ⟨hf,rfl⟩:=put_some hp
  have hn:=S.nx h.nx (Nat.le_refl _)
  have hle:=Mu.add_le (c:=d) hn
  have hpn:p ≠ h.nx:=fun e=>by rw [e,hn] at hc;cases hc
  refine ⟨⟨?_,?_,?_,?_⟩,⟨hle,?_,K.weak fun i _ e=>⟨p,c,hc,e.symm,hf⟩⟩,rfl,Mu.add_same _ _ _⟩
  · intro q hq
    have hq:h.nx.succ.nat ≤ q.nat:=hq
    rw [Pos.nat_succ] at hq
    unfold Mu.add
    rw [if_neg (fun e=>by subst e;omega)]
    exact S.nx q (by omega)
  · intro q e he
    unfold Mu.add at he
    split at he
    · cases he;exact hlt
    · exact Nat.lt_of_lt_of_le (S.lt q e he) K.size
  · have key:∀ q b e,q ≠ h.nx→((h.m.set p .dead).set h.nx B').get q=some b→live b→(μ.add h.nx d) q=some e→e.1 ≠ d.1:=by
      intro q b e hq hb lb he hed
      simp only [Tr.get_set,if_neg hq] at hb
      unfold Mu.add at he
      rw [if_neg hq] at he
      split at hb
      · cases hb;exact lb
      · rename_i hqp
        rcases hd with h1 | h1
        · exact hqp (S.inj q p b B e c hb hB lb hl he hc (hed.trans h1))
        · have:=S.lt _ _ he;omega
    intro q r a b e f hq hr la lb he hf hef
    by_cases e1:q=h.nx <;> by_cases e2:r=h.nx
    · rw [e1,e2]
    · subst e1;rw [Mu.add_same] at he;cases he;exact absurd hef.symm (key r b f e2 hr lb hf)
    · subst e2;rw [Mu.add_same] at hf;cases hf;exact absurd hef (key q a e e1 hq la he)
    · simp only [AH.push,Tr.get_set,if_neg e1,if_neg e2] at hq hr
      unfold Mu.add at he hf
      rw [if_neg e1] at he
      rw [if_neg e2] at hf
      split at hq
      · cases hq;exact la.elim
      · split at hr
        · cases hr;exact lb.elim
        · exact S.inj q r a b e f hq hr la lb he hf hef
  · intro q b hb
    simp only [AH.push,Tr.get_set] at hb
    split at hb
    · rename_i h1;subst h1;cases hb;exact ⟨d,Mu.add_same _ _ _,hB'⟩
    · split at hb
      · rename_i h1 h2;subst h2;cases hb;exact ⟨c,hle _ _ hc,trivial⟩
      · rename_i h1 h2
        obtain ⟨e,h3,h4⟩:=S.at_ q b hb
        refine ⟨e,hle _ _ h3,?_⟩
        by_cases lb:live b
        · exact (h4.mono hle).keep K fun e'=>h2 (S.inj q p b B e c hb hB lb hl h3 hc e')
        · cases b <;> first | trivial | exact (lb trivial).elim
  · intro q e he
    unfold Mu.add at he
    split at he
    · cases he
      rcases hd with h1 | h1
      · exact .inr (.inl ⟨p,c,hc,h1.symm,hf⟩)
      · exact .inr (.inr h1)
    · exact .inl he
end Go.KX
namespace Go.KX
open Go.RowKit Go.KL
def aggD:TypeDesc→Bool
  | .struct _ | .array _ _=>true
  | _=>false
def undT (P:Program) (t:TypeId) (f:TypeDesc→Bool):Bool:=match P.underlying t with
  | some d=>f d
  | none=>false
def szT (P:Program) (t n:Nat):Bool:=match P.info? t with
  | some i=>Nat.beq i.size n
  | none=>false
def byT (P:Program) (t n:Nat):Bool:=match P.info? t with
  | some i=>Nat.beq i.bytes n
  | none=>false
noncomputable def zT (P:Program) (t:TypeId) (z:List AV):Bool:=match P.info? t with
  | some i=>match i.zero with
    | some v=>okcL z v.cells.toList
    | none=>false
  | none=>false
section
variable {C:Chk} {P:Program} {μ μ':Mu} {w w':World} {h h':AH} {σ:Env} {σA:Tr AV} {t e:TypeId} {o:Oper}
theorem undT_ok {f:TypeDesc→Bool} (hc:undT P t f=true):∃ d,P.underlying t=some d∧f d=true:=by
  unfold undT at hc
  split at hc
  · exact ⟨_,by assumption,hc⟩
  · cases hc
theorem run_und {d:TypeDesc} (hu:P.underlying t=some d) (w:World):(underlying t).run P w=.ok d w:=run_underlying hu w
theorem szT_ok {n:Nat} (hc:szT P t n=true) (w:World):(sizeOf t).run P w=.ok n w:=by
  unfold szT at hc
  split at hc
  · rename_i i hi
    rw [← Nat.eq_of_beq_eq_true hc]
    simp [sizeOf,typeInfo,hi]
  · cases hc
theorem szT_info {n:Nat} (hc:szT P t n=true):∃ i,P.info? t=some i∧i.size=n:=by
  unfold szT at hc
  split at hc
  · rename_i i hi;exact ⟨i,hi,Nat.eq_of_beq_eq_true hc⟩
  · cases hc
theorem byT_info {n:Nat} (hc:byT P t n=true):∃ i,P.info? t=some i∧i.bytes=n:=by
  unfold byT at hc
  split at hc
  · rename_i i hi;exact ⟨i,hi,Nat.eq_of_beq_eq_true hc⟩
  · cases hc
theorem zT_info {z:List AV} (hc:zT P t z=true):∃ i v,P.info? t=some i∧i.zero=some v∧∀ μ,RvL μ z v.cells.toList:=by
  unfold zT at hc
  split at hc
  · rename_i i hi
    split at hc
    · rename_i v hv;exact ⟨i,v,hi,hv,fun μ=>okcL_ok μ hc⟩
    · cases hc
  · cases hc
theorem run_zero {i:TypeInfo} {z:Value} (hi:P.info? t=some i) (hz:i.zero=some z) (w:World):(zeroValue t).run P w=.ok z w:=by
  simp [zeroValue,typeInfo,hi,hz]
theorem run_agg {d:TypeDesc} (hu:P.underlying t=some d) (w:World):(isAgg t).run P w=.ok (aggD d) w:=by
  simp only [isAgg,Sem.run_bind,run_und hu,Result.andThen_ok]
  cases d <;> rfl
def aggT (P:Program) (t:TypeId) (b:Bool):Bool:=undT P t fun d=>aggD d == b
theorem aggT_ok {b:Bool} (hc:aggT P t b=true) (w:World):(isAgg t).run P w=.ok b w:=by
  obtain ⟨d,h1,h2⟩:=undT_ok hc
  rw [run_agg h1,eq_of_beq h2]
def OkP (P:Program) (op:Op) (f:Tr AV→AH→Option (AV × AH)):Prop :=
  ∀ σA h v h',f σA h=some (v,h')→h'=h∧∀ μ σ,EnvR μ σA σ→∃ cv,Rv μ v cv∧∀ (o:Oper) (w:World),o.op=op→Runs P σ w o cv w
noncomputable def c_mv (x:AOd):Op→Bool
  | .move y | .assign y=>chkD x y
  | _=>false
theorem p_mv {x:AOd} {op:Op} (hc:c_mv x op=true):OkP P op (o_mv x):=by
  intro σA h v h' hr
  cases hr
  refine ⟨rfl,fun μ σ hE=>?_⟩
  unfold c_mv at hc
  split at hc
  · exact ⟨_,chkD_ok hc hE,fun o w ho=>Runs.mv ho rfl⟩
  · exact ⟨_,chkD_ok hc hE,fun o w ho=>Runs.as ho rfl⟩
  · cases hc
noncomputable def c_pick (c x y:AOd):Op→Bool
  | .pick c' x' y'=>chkD c c' && (chkD x x' && chkD y y')
  | _=>false
theorem p_pick {c x y:AOd} {op:Op} (hc:c_pick c x y op=true):OkP P op (o_pick c x y):=by
  intro σA h v h' hr
  unfold c_pick at hc
  split at hc
  · rename_i c' x' y'
    simp only [Bool.and_eq_true] at hc
    unfold o_pick at hr
    split at hr
    · rename_i hb;cases hr
      exact ⟨rfl,fun μ σ hE=>⟨_,chkD_ok hc.2.1 hE,fun o w ho=>Runs.pickT ho (by have:=chkD_ok hc.1 hE;rw [hb] at this;exact this) rfl⟩⟩
    · rename_i hb;cases hr
      exact ⟨rfl,fun μ σ hE=>⟨_,chkD_ok hc.2.2 hE,fun o w ho=>Runs.pickF ho (by have:=chkD_ok hc.1 hE;rw [hb] at this;exact this) rfl⟩⟩
    · cases hr
  · cases hc
noncomputable def c_nilc (x:AOd):Op→Bool
  | .nilCheck y=>chkD x y
  | _=>false
theorem p_nilc {x:AOd} {op:Op} (hc:c_nilc x op=true):OkP P op (o_nilc x):=by
  intro σA h v h' hr
  unfold c_nilc at hc
  split at hc
  · unfold o_nilc at hr
    split at hr
    · rename_i hb;cases hr
      refine ⟨rfl,fun μ σ hE=>?_⟩
      have:=chkD_ok hc hE;rw [hb] at this
      refine ⟨_,this,fun o w ho=>?_⟩
      obtain ⟨c,h1,h2⟩:=this
      rw [h2];exact Runs.nilp ho h2
    · rename_i hb;cases hr
      refine ⟨rfl,fun μ σ hE=>?_⟩
      have:=chkD_ok hc hE;rw [hb] at this
      refine ⟨_,this,fun o w ho=>?_⟩
      obtain ⟨fv,cv,_,_,h2⟩:=this
      rw [h2];exact Runs.nilf ho h2
    · rename_i hb;cases hr
      refine ⟨rfl,fun μ σ hE=>?_⟩
      have:=chkD_ok hc hE;rw [hb] at this
      refine ⟨_,this,fun o w ho=>?_⟩
      obtain ⟨c,h1,h2⟩:=this
      rw [h2];exact Runs.nily ho h2
    · cases hr
  · cases hc
theorem inK_wrap {k:IntKind} {n:Int} (hk:inK k n=true):k.wrap n=n:=by
  unfold inK at hk
  split at hk <;> (try simp only [Nat.blt_eq] at hk) <;> (try simp only [IntKind.wrap_i64,IntKind.wrap_u8,IntKind.wrap_u32,Go.IntKind.wrap_u64,Int.negSucc_eq,Int.ofNat_eq_natCast]) <;> first | omega | cases hk
theorem okV_some {x:Option AV} {v:AV} (hr:okV h x=some (v,h')):x=some v∧h'=h:=by
  cases x <;> cases hr;exact ⟨rfl,rfl⟩
theorem ifO_some {α:Type} {b:Bool} {x:Option α} {v:α} (hr:ifO b x=some v):b=true∧x=some v:=by
  cases b
  · cases hr
  · exact ⟨rfl,hr⟩
theorem arith_some {f:Int→Int→Int} {x y v:AV} (hr:arith f x y=some v):∃ k a b,x=.int k a∧y=.int k b∧v=.int k (f a b)∧k.wrap (f a b)=f a b:=by
  unfold arith at hr
  split at hr
  · rename_i k a k' b
    split at hr
    · rename_i hk
      split at hr
      · rename_i hi;cases hr;exact ⟨k,a,b,rfl,by rw [keq_eq hk],rfl,inK_wrap hi⟩
      · cases hr
    · cases hr
  · cases hr
theorem div_some {f:Int→Int→Int} {x y v:AV} (hr:div f x y=some v):∃ k a b,x=.int k a∧y=.int k b∧v=.int k (f a b)∧k.wrap (f a b)=f a b∧b ≠ 0:=by
  unfold div at hr
  split at hr
  · rename_i k a k' b
    split at hr
    · rename_i hk
      split at hr
      · cases hr
      · rename_i hz
        split at hr
        · rename_i hi;cases hr
          exact ⟨k,a,b,rfl,by rw [keq_eq hk],rfl,inK_wrap hi,fun e=>by rw [zeq_eq.2 e] at hz;cases hz⟩
        · cases hr
    · cases hr
  · cases hr
theorem cmpA_some {f:Int→Int→Bool} {x y v:AV} (hr:cmpA f x y=some v):∃ k a b,x=.int k a∧y=.int k b∧v=.bool (f a b):=by
  unfold cmpA at hr
  split at hr
  · rename_i k a k' b
    split at hr
    · rename_i hk;cases hr;exact ⟨k,a,b,rfl,by rw [keq_eq hk],rfl⟩
    · cases hr
  · cases hr
noncomputable def c_bin (b:BinOp) (x y:AOd):Op→Bool
  | .binOp b' _ x' y' _=>(b' == b) && (chkD x x' && chkD y y')
  | _=>false
theorem c_bin_ok {b:BinOp} {x y:AOd} {op:Op} (hc:c_bin b x y op=true):∃ t x' y' t',op=.binOp b t x' y' t'∧chkD x x'=true∧chkD y y'=true:=by
  unfold c_bin at hc
  split at hc
  · rename_i b' t x' y' t'
    simp only [Bool.and_eq_true,beq_iff_eq] at hc
    obtain ⟨rfl,h1,h2⟩:=hc
    exact ⟨t,x',y',t',rfl,h1,h2⟩
  · cases hc
theorem p_arith {b:BinOp} {f:Int→Int→Int} {x y:AOd} {op:Op} (hc:c_bin b x y op=true)
    (hrun:∀ (o:Oper) (σ:Env) (w:World) t x' y' t' k m n,o.op=.binOp b t x' y' t'→ev σ x'=.int k m→ev σ y'=.int k n→Runs P σ w o (.int k (k.wrap (f m n))) w) :
    OkP P op (fun σ h=>okV h (arith f (evA σ x) (evA σ y))):=by
  intro σA h v h' hr
  obtain ⟨t,x',y',t',rfl,h1,h2⟩:=c_bin_ok hc
  obtain ⟨hr2,rfl⟩:=okV_some hr
  obtain ⟨k,m,n,e1,e2,rfl,e3⟩:=arith_some hr2
  refine ⟨rfl,fun μ σ hE=>⟨_,rfl,fun o w ho=>?_⟩⟩
  have g1:=chkD_ok h1 hE;rw [e1] at g1
  have g2:=chkD_ok h2 hE;rw [e2] at g2
  have:=hrun o σ w t x' y' t' k m n ho g1 g2
  rwa [e3] at this
theorem p_add {x y:AOd} {op:Op} (hc:c_bin .add x y op=true):OkP P op (o_add x y) :=
  p_arith hc fun o σ w t x' y' t' k m n ho h1 h2=>⟨by rw [ho];rfl,by simp [execOp,ho,h1,h2,binOp,eqGuard,Op.intArith]⟩
theorem p_sub {x y:AOd} {op:Op} (hc:c_bin .sub x y op=true):OkP P op (o_sub x y) :=
  p_arith hc fun o σ w t x' y' t' k m n ho h1 h2=>⟨by rw [ho];rfl,by simp [execOp,ho,h1,h2,binOp,eqGuard,Op.intArith];rfl⟩
theorem p_mul {x y:AOd} {op:Op} (hc:c_bin .mul x y op=true):OkP P op (o_mul x y) :=
  p_arith hc fun o σ w t x' y' t' k m n ho h1 h2=>⟨by rw [ho];rfl,by simp [execOp,ho,h1,h2,binOp,eqGuard,Op.intArith]⟩
theorem p_div {b:BinOp} {f:Int→Int→Int} {x y:AOd} {op:Op} (hc:c_bin b x y op=true)
    (hrun:∀ (o:Oper) (σ:Env) (w:World) t x' y' t' k m n,o.op=.binOp b t x' y' t'→ev σ x'=.int k m→ev σ y'=.int k n→n ≠ 0→k.wrap (f m n)=f m n→Runs P σ w o (.int k (f m n)) w) :
    OkP P op (fun σ h=>okV h (div f (evA σ x) (evA σ y))):=by
  intro σA h v h' hr
  obtain ⟨t,x',y',t',rfl,h1,h2⟩:=c_bin_ok hc
  obtain ⟨hr2,rfl⟩:=okV_some hr
  obtain ⟨k,m,n,e1,e2,rfl,e3,e4⟩:=div_some hr2
  refine ⟨rfl,fun μ σ hE=>⟨_,rfl,fun o w ho=>?_⟩⟩
  have g1:=chkD_ok h1 hE;rw [e1] at g1
  have g2:=chkD_ok h2 hE;rw [e2] at g2
  exact hrun o σ w t x' y' t' k m n ho g1 g2 e4 e3
theorem p_quo {x y:AOd} {op:Op} (hc:c_bin .quo x y op=true):OkP P op (o_quo x y) :=
  p_div hc fun o σ w t x' y' t' k m n ho h1 h2 h3 h4=>⟨by rw [ho];rfl,by simp [execOp,ho,h1,h2,binOp,eqGuard,Op.intDiv,h3,h4]⟩
theorem p_rem {x y:AOd} {op:Op} (hc:c_bin .rem x y op=true):OkP P op (o_rem x y) :=
  p_div hc fun o σ w t x' y' t' k m n ho h1 h2 h3 h4=>⟨by rw [ho];rfl,by simp [execOp,ho,h1,h2,binOp,eqGuard,Op.intDiv,h3]⟩
theorem p_cmp {b:BinOp} {f:Int→Int→Bool} {x y:AOd} {op:Op} (hc:c_bin b x y op=true)
    (hrun:∀ (o:Oper) (σ:Env) (w:World) t x' y' t' k m n,o.op=.binOp b t x' y' t'→ev σ x'=.int k m→ev σ y'=.int k n→Runs P σ w o (.bool (f m n)) w) :
    OkP P op (fun σ h=>okV h (cmpA f (evA σ x) (evA σ y))):=by
  intro σA h v h' hr
  obtain ⟨t,x',y',t',rfl,h1,h2⟩:=c_bin_ok hc
  obtain ⟨hr2,rfl⟩:=okV_some hr
  obtain ⟨k,m,n,e1,e2,rfl⟩:=cmpA_some hr2
  refine ⟨rfl,fun μ σ hE=>⟨_,rfl,fun o w ho=>?_⟩⟩
  have g1:=chkD_ok h1 hE;rw [e1] at g1
  have g2:=chkD_ok h2 hE;rw [e2] at g2
  exact hrun o σ w t x' y' t' k m n ho g1 g2
theorem p_lss {x y:AOd} {op:Op} (hc:c_bin .lss x y op=true):OkP P op (o_lss x y) :=
  p_cmp hc fun o σ w t x' y' t' k m n ho h1 h2=>(Runs.lss ho h1 h2).to (by rw [zlt_dec])
theorem p_leq {x y:AOd} {op:Op} (hc:c_bin .leq x y op=true):OkP P op (o_leq x y) :=
  p_cmp hc fun o σ w t x' y' t' k m n ho h1 h2=>(Runs.leq ho h1 h2).to (by rw [zle_dec])
theorem p_gtr {x y:AOd} {op:Op} (hc:c_bin .gtr x y op=true):OkP P op (o_gtr x y) :=
  p_cmp hc fun o σ w t x' y' t' k m n ho h1 h2=>(Runs.gtr ho h1 h2).to (by rw [zlt_dec])
theorem p_geq {x y:AOd} {op:Op} (hc:c_bin .geq x y op=true):OkP P op (o_geq x y) :=
  p_cmp hc fun o σ w t x' y' t' k m n ho h1 h2=>(Runs.geq ho h1 h2).to (by rw [zle_dec])
theorem p_eql {x y:AOd} {op:Op} (hc:c_bin .eql x y op=true):OkP P op (o_eql x y) :=
  p_cmp hc fun o σ w t x' y' t' k m n ho h1 h2=>(Runs.eql ho h1 h2).to (by rw [zeq_dec])
theorem p_neq {x y:AOd} {op:Op} (hc:c_bin .neq x y op=true):OkP P op (o_neq x y) :=
  p_cmp hc fun o σ w t x' y' t' k m n ho h1 h2=>(Runs.neq ho h1 h2).to (by rw [zeq_dec];simp)
noncomputable def c_neg (x:AOd):Op→Bool
  | .unOp .neg _ y=>chkD x y
  | _=>false
theorem p_neg {x:AOd} {op:Op} (hc:c_neg x op=true):OkP P op (o_neg x):=by
  intro σA h v h' hr
  unfold c_neg at hc
  split at hc
  · obtain ⟨hr2,rfl⟩:=okV_some hr
    obtain ⟨k,m,n,e1,e2,rfl,e3⟩:=arith_some hr2
    rw [e2] at e1
    simp only at e1
    cases e1
    refine ⟨rfl,fun μ σ hE=>⟨_,rfl,fun o w ho=>?_⟩⟩
    have g2:=chkD_ok hc hE;rw [e2] at g2
    refine ⟨by rw [ho];rfl,?_⟩
    have:ev σ _=.int k n:=g2
    simp only [execOp,ho,this,Op.unary,Op.intArith,Sem.run_bind,Sem.run_pure,Result.andThen_ok]
    rw [show (0:Int) - n=Int.sub 0 n from rfl,e3]
  · cases hc
noncomputable def c_not (x:AOd):Op→Bool
  | .unOp .not _ y=>chkD x y
  | _=>false
theorem p_not {x:AOd} {op:Op} (hc:c_not x op=true):OkP P op (o_not x):=by
  intro σA h v h' hr
  unfold c_not at hc
  split at hc
  · unfold o_not at hr
    split at hr
    · rename_i hb;cases hr
      refine ⟨rfl,fun μ σ hE=>⟨_,rfl,fun o w ho=>?_⟩⟩
      have g:=chkD_ok hc hE;rw [hb] at g
      exact Runs.not ho g
    · cases hr
  · cases hc
def isInt:TypeDesc→Option IntKind
  | .int k=>some k
  | _=>none
noncomputable def c_cvt (k:IntKind) (x:AOd):Op→Bool
  | .convert s t y=>undT P s (fun d=>(isInt d).isSome) && (undT P t (fun d=>match isInt d with | some k'=>keq k k' | none=>false) && chkD x y)
  | _=>false
theorem p_cvt {k:IntKind} {x:AOd} {op:Op} (hc:c_cvt (P:=P) k x op=true):OkP P op (o_cvt k x):=by
  intro σA h v h' hr
  unfold c_cvt at hc
  split at hc
  · simp only [Bool.and_eq_true] at hc
    obtain ⟨c1,c2,c3⟩:=hc
    unfold o_cvt at hr
    split at hr
    · rename_i k0 n hb
      obtain ⟨hi,hr⟩:=ifO_some hr
      cases hr
      refine ⟨rfl,fun μ σ hE=>⟨_,rfl,fun o w ho=>?_⟩⟩
      have g:=chkD_ok c3 hE;rw [hb] at g
      obtain ⟨d,d1,d2⟩:=undT_ok c1
      obtain ⟨e,e1,e2⟩:=undT_ok c2
      cases d <;> first | (cases d2;done) | skip
      cases e <;> first | (cases e2;done) | skip
      have:=keq_eq e2
      subst this
      have g':ev σ _=.int k0 n:=g
      exact ⟨by rw [ho];rfl,by simp [execOp,ho,g',convert,run_und d1,run_und e1,Conv.intToInt,inK_wrap hi]⟩
    · cases hr
  · cases hc
noncomputable def c_mkf (f:Pos) (fi ca:List AOd):Op→Bool
  | .makeFunc (.func g) fi' ca'=>Nat.beq f.nat (g + 1) && (chkDs fi fi'.toList && chkDs ca ca'.toList)
  | _=>false
theorem p_mkf {f:Pos} {fi ca:List AOd} {op:Op} (hc:c_mkf f fi ca op=true):OkP P op (o_mkf f fi ca):=by
  intro σA h v h' hr
  cases hr
  unfold c_mkf at hc
  split at hc
  · simp only [Bool.and_eq_true] at hc
    obtain ⟨c1,c2,c3⟩:=hc
    refine ⟨rfl,fun μ σ hE=>⟨_,⟨_,_,chkDs_ok c2 hE,chkDs_ok c3 hE,rfl⟩,fun o w ho=>?_⟩⟩
    have e:=Nat.eq_of_beq_eq_true c1
    refine ⟨by rw [ho];rfl,?_⟩
    simp [execOp,ho,Instr.makeFunc,e,← Array.toList_map]
  · cases hc
noncomputable def c_ext (i:Nat) (x:AOd):Op→Bool
  | .extract y j=>Nat.beq i j && chkD x y
  | _=>false
theorem p_ext {i:Nat} {x:AOd} {op:Op} (hc:c_ext i x op=true):OkP P op (o_ext i x):=by
  intro σA h v h' hr
  unfold c_ext at hc
  split at hc
  · simp only [Bool.and_eq_true] at hc
    have e:=Nat.eq_of_beq_eq_true hc.1
    subst e
    unfold o_ext at hr
    split at hr
    · rename_i l hb
      obtain ⟨hr2,rfl⟩:=okV_some hr
      refine ⟨rfl,fun μ σ hE=>?_⟩
      have g:=chkD_ok hc.2 hE;rw [hb] at g
      obtain ⟨vs,g1,g2⟩:=g
      rw [nth_eq] at hr2
      obtain ⟨cv,g3,g4⟩:=rvL_get g1 hr2
      exact ⟨cv,g4,fun o w ho=>Runs.ext ho g2 (by simpa using g3)⟩
    · cases hr
  · cases hc
end
end Go.KX
namespace Go.KX
open Go.RowKit Go.KL
section
variable {C:Chk} {P:Program} {μ μ':Mu} {w w':World} {h h':AH} {σ:Env} {σA:Tr AV} {t e:TypeId} {o:Oper}
noncomputable def c_eqb (P:Program) (ne:Bool) (x y:AOd):Op→Bool
  | .binOp b t x' y' _=>(match ne with | true=>b == .neq | false=>b == .eql) && (undT P t (fun d=>match d with | .bool=>true | _=>false) && (chkD x x' && chkD y y'))
  | _=>false
theorem ne_xor (ne b:Bool):(ne != b)=(match ne with | true=>!b | false=>b):=by cases ne <;> cases b <;> rfl
theorem p_eqb {ne:Bool} {x y:AOd} {op:Op} (hc:c_eqb P ne x y op=true):OkP P op (o_eqb ne x y):=by
  intro σA h v h' hr
  unfold c_eqb at hc
  split at hc
  · simp only [Bool.and_eq_true] at hc
    obtain ⟨c0,c1,c2,c3⟩:=hc
    unfold o_eqb at hr
    split at hr
    · rename_i a b e1 e2
      cases hr
      refine ⟨rfl,fun μ σ hE=>⟨_,rfl,fun o w ho=>?_⟩⟩
      have g1:=chkD_ok c2 hE;rw [e1] at g1
      have g2:=chkD_ok c3 hE;rw [e2] at g2
      obtain ⟨d,d1,d2⟩:=undT_ok c1
      cases d <;> first | (cases d2;done) | skip
      cases ne
      · have:=eq_of_beq c0;subst this
        exact (Runs.eqB ho g1 g2 (run_und d1)).to (by rw [ne_xor])
      · have:=eq_of_beq c0;subst this
        exact (Runs.neB ho g1 g2 (run_und d1)).to (by rw [ne_xor])
    · cases hr
  · cases hc
def nilD (k:Nat) (d:TypeDesc):Bool:=match k,d with
  | 0,.pointer _=>true
  | 1,.slice _=>true
  | 2,.map _ _=>true
  | 3,.func _ _ _=>true
  | _,_=>false
theorem nilEq_run {k:Nat} {d:TypeDesc} {a b:AV} {r:Bool} {x y:Value} (hu:P.underlying t=some d) (hd:nilD k d=true) (hr:nilEq k a b=some r) (hx:Rv μ a x) (hy:Rv μ b y) (w:World):(Op.equal t x y).run P w=.ok r w:=by
  unfold Op.equal Op.maxDepth
  rw [show (10000:Nat)=9999 + 1 from rfl,Op.equalIn]
  unfold nilEq at hr
  split at hr <;> cases hr <;> simp only [Rv] at hx hy <;> (cases d <;> first | (cases hd;done) | skip) <;>
    (try obtain ⟨_,_,_,_,_,rfl⟩:=hx) <;> (try obtain ⟨_,_,_,_,rfl⟩:=hx) <;> (try obtain ⟨_,_,_,rfl⟩:=hx) <;> (try obtain ⟨_,_,rfl⟩:=hx) <;> (try subst hx) <;>
    (try obtain ⟨_,_,_,_,_,rfl⟩:=hy) <;> (try obtain ⟨_,_,_,_,rfl⟩:=hy) <;> (try obtain ⟨_,_,_,rfl⟩:=hy) <;> (try obtain ⟨_,_,rfl⟩:=hy) <;> (try subst hy) <;>
    simp only [Sem.run_bind,run_und hu,Result.andThen_ok,Sem.run_pure] <;> rfl
theorem not_agg_nil {k:Nat} {a b:AV} {r:Bool} {x y:Value} (hr:nilEq k a b=some r) (hx:Rv μ a x) (hy:Rv μ b y) (op:BinOp) (p q:Operand) (w:World):(eqGuard op t p q x y).run P w=.ok () w:=by
  unfold nilEq at hr
  split at hr <;> cases hr <;> simp only [Rv] at hx hy <;>
    (try obtain ⟨_,_,_,_,_,rfl⟩:=hx) <;> (try obtain ⟨_,_,_,_,rfl⟩:=hx) <;> (try obtain ⟨_,_,_,rfl⟩:=hx) <;> (try obtain ⟨_,_,rfl⟩:=hx) <;> (try subst hx) <;>
    (try obtain ⟨_,_,_,_,_,rfl⟩:=hy) <;> (try obtain ⟨_,_,_,_,rfl⟩:=hy) <;> (try obtain ⟨_,_,_,rfl⟩:=hy) <;> (try obtain ⟨_,_,rfl⟩:=hy) <;> (try subst hy) <;>
    simp only [eqGuard] <;> (cases op <;> rfl)
noncomputable def c_eqn (P:Program) (k:Nat) (ne:Bool) (x y:AOd):Op→Bool
  | .binOp b t x' y' _=>(match ne with | true=>b == .neq | false=>b == .eql) && (undT P t (nilD k) && (chkD x x' && chkD y y'))
  | _=>false
theorem p_eqn {k:Nat} {ne:Bool} {x y:AOd} {op:Op} (hc:c_eqn P k ne x y op=true):OkP P op (o_eqn k ne x y):=by
  intro σA h v h' hr
  unfold c_eqn at hc
  split at hc
  · rename_i b t x' y' t'
    simp only [Bool.and_eq_true] at hc
    obtain ⟨c0,c1,c2,c3⟩:=hc
    unfold o_eqn at hr
    split at hr
    · rename_i r e1
      cases hr
      refine ⟨rfl,fun μ σ hE=>⟨_,rfl,fun o w ho=>?_⟩⟩
      have g1:=chkD_ok c2 hE
      have g2:=chkD_ok c3 hE
      obtain ⟨d,d1,d2⟩:=undT_ok c1
      have g3:=nilEq_run d1 d2 e1 g1 g2
      have g4:=fun op=>not_agg_nil (P:=P) (t:=t) e1 g1 g2 op x' y'
      refine ⟨by rw [ho];rfl,?_⟩
      generalize hX:ev σ x'=X at g1 g3 g4
      generalize hY:ev σ y'=Y at g2 g3 g4
      have nint:(∀ k n,X ≠ .int k n)∧(∀ k n,X ≠ .float k n)∧(∀ k n m,X ≠ .complex k n m)∧(∀ s,X ≠ .string s):=by
        unfold nilEq at e1
        split at e1 <;> cases e1 <;> rename_i e2 e3 <;> rw [e2] at g1 <;> simp only [Rv] at g1 <;>
          (try obtain ⟨_,_,_,_,_,rfl⟩:=g1) <;> (try obtain ⟨_,_,_,_,rfl⟩:=g1) <;> (try obtain ⟨_,_,_,rfl⟩:=g1) <;> (try obtain ⟨_,_,rfl⟩:=g1) <;> (try subst g1) <;>
          exact ⟨by simp,by simp,by simp,by simp⟩
      obtain ⟨n1,n2,n3,n4⟩:=nint
      cases ne
      · have:=eq_of_beq c0;subst this
        simp only [execOp,ho,Sem.run_bind,hX,hY,g4 .eql w,Result.andThen_ok]
        have:(binOp .eql t X Y).run P w=.ok (.bool r) w:=by
          cases X <;> first | exact absurd rfl (n1 _ _) | exact absurd rfl (n2 _ _) | exact absurd rfl (n3 _ _ _) | exact absurd rfl (n4 _) | (simp only [binOp,Sem.run_bind,g3 w,Result.andThen_ok];rfl)
        rw [this]
        simp [ne_xor]
      · have:=eq_of_beq c0;subst this
        simp only [execOp,ho,Sem.run_bind,hX,hY,g4 .neq w,Result.andThen_ok]
        have:(binOp .neq t X Y).run P w=.ok (.bool (!r)) w:=by
          cases X <;> first | exact absurd rfl (n1 _ _) | exact absurd rfl (n2 _ _) | exact absurd rfl (n3 _ _ _) | exact absurd rfl (n4 _) | (simp only [binOp,Sem.run_bind,g3 w,Result.andThen_ok];rfl)
        rw [this]
        simp [ne_xor]
    · cases hr
  · cases hc
mutual
def Sh.depth:Sh→Nat
  | .int=>1
  | .bool=>1
  | .str fs=>depths fs + 1
def depths:List (Nat × Nat × Sh)→Nat
  | []=>0
  | (_,_,s) :: fs=>Nat.max s.depth (depths fs)
end
mutual
noncomputable def chkSh (P:Program):Sh→TypeId→Bool
  | .int,t=>undT P t fun d=>(isInt d).isSome
  | .bool,t=>undT P t fun d=>match d with | .bool=>true | _=>false
  | .str fs,t=>(!P.stoodInHeld t) && undT P t fun d=>match d with | .struct gs=>chkFs P fs gs.toList | _=>false
noncomputable def chkFs (P:Program):List (Nat × Nat × Sh)→List Field→Bool
  | [],[]=>true
  | (off, sz, s) :: fs, g :: gs => (g.name != "_") && (Nat.beq g.offset off && (szT P g.type sz && (chkSh P s g.type && chkFs P fs gs)))
  | _,_=>false
end
theorem chkSh_agg {s:Sh} (hc:chkSh P s t=true) (w:World):(isAgg t).run P w=.ok (match s with | .str _=>true | _=>false) w:=by
  cases s with
  | int =>
    obtain ⟨d,h1,h2⟩:=undT_ok hc
    rw [run_agg h1];cases d <;> first | rfl | cases h2
  | bool =>
    obtain ⟨d,h1,h2⟩:=undT_ok hc
    rw [run_agg h1];cases d <;> first | rfl | cases h2
  | str fs =>
    simp only [chkSh,Bool.and_eq_true] at hc
    obtain ⟨d,h1,h2⟩:=undT_ok hc.2
    rw [run_agg h1];cases d <;> first | rfl | cases h2
theorem partS_run {s:Sh} {l:List AV} {vs:List Value} {off sz:Nat} {a:AV} (hc:chkSh P s t=true) (hz:szT P t sz=true) (hp:partS s l off sz=some a) (hl:RvL μ l vs):∃ v,Rv μ a v∧∀ w,(part t vs.toArray off).run P w=.ok v w:=by
  have hag:=chkSh_agg hc
  unfold partS at hp
  split at hp
  · split at hp
    · rename_i r hs
      cases hp
      obtain ⟨h1,h2⟩:=rvL_sub hs hl
      exact ⟨_,⟨_,h1,rfl⟩,fun w=>run_part hag (szT_ok hz) rfl⟩
    · cases hp
  · rename_i hne
    rw [nth_eq] at hp
    obtain ⟨v,h1,h2⟩:=rvL_get hl hp
    refine ⟨v,h2,fun w=>run_part1 (fun w=>?_) h1⟩
    rw [hag w]
    cases s <;> first | rfl | exact absurd rfl (hne _)
mutual
theorem eqSh_run:∀ (s:Sh) (t:TypeId) (d:Nat) (a b:AV) (x y:Value) (r:Bool),chkSh P s t=true→s.depth ≤ d→eqSh s a b=some r→Rv μ a x→Rv μ b y→∀ w,(Op.equalIn d t x y).run P w=.ok r w
  | .int,t,d,a,b,x,y,r,hc,hd,hr,hx,hy,w=>by
    obtain ⟨d,rfl⟩:∃ e,d=e + 1:=⟨d - 1,by simp only [Sh.depth] at hd;omega⟩
    unfold eqSh at hr
    split at hr <;> first | (cases hr;done) | skip
    all_goals (try (rename_i h0;cases h0))
    split at hr <;> cases hr
    rename_i hk
    obtain ⟨dd,d1,d2⟩:=undT_ok hc
    cases dd <;> first | (cases d2;done) | skip
    simp only [Rv] at hx hy
    subst hx hy
    have:=keq_eq hk;subst this
    simp [Op.equalIn,run_und d1,zeq_dec,int_beq]
  | .bool,t,d,a,b,x,y,r,hc,hd,hr,hx,hy,w=>by
    obtain ⟨d,rfl⟩:∃ e,d=e + 1:=⟨d - 1,by simp only [Sh.depth] at hd;omega⟩
    unfold eqSh at hr
    split at hr <;> first | (cases hr;done) | skip
    all_goals (try (rename_i h0;cases h0))
    cases hr
    obtain ⟨dd,d1,d2⟩:=undT_ok hc
    cases dd <;> first | (cases d2;done) | skip
    simp only [Rv] at hx hy
    subst hx hy
    simp [Op.equalIn,run_und d1]
  | .str fs,t,d,a,b,x,y,r,hc,hd,hr,hx,hy,w=>by
    simp only [Sh.depth] at hd
    obtain ⟨d,rfl⟩:∃ e,d=e + 1:=⟨d - 1,by omega⟩
    unfold eqSh at hr
    split at hr <;> first | (cases hr;done) | skip
    all_goals (try (rename_i h0;cases h0))
    simp only [chkSh,Bool.and_eq_true,Bool.not_eq_true'] at hc
    obtain ⟨dd,d1,d2⟩:=undT_ok hc.2
    cases dd <;> first | (cases d2;done) | skip
    rename_i gs
    obtain ⟨xs,h1,rfl⟩:=hx
    obtain ⟨ys,h2,rfl⟩:=hy
    have hf:P.fieldsOf t=gs:=by unfold Program.fieldsOf;rw [d1]
    rw [run_equalIn_agg w d t _ _ (by rw [hf];exact d1) hc.1,hf]
    exact eqFs_run fs gs.toList d _ _ xs ys r d2 (by omega) hr h1 h2 w
theorem eqFs_run:∀ (fs:List (Nat × Nat × Sh)) (gs:List Field) (d:Nat) (l k:List AV) (xs ys:List Value) (r:Bool),chkFs P fs gs=true→depths fs ≤ d→eqFs fs l k=some r→RvL μ l xs→RvL μ k ys →
    ∀ w,(Op.eqFields d xs.toArray ys.toArray gs).run P w=.ok r w
  | [],[],d,l,k,xs,ys,r,hc,hd,hr,hx,hy,w=>by
    simp only [eqFs] at hr;cases hr;rfl
  | (off,sz,s) :: fs,g :: gs,d,l,k,xs,ys,r,hc,hd,hr,hx,hy,w=>by
    simp only [chkFs,Bool.and_eq_true] at hc
    obtain ⟨c1,c2,c3,c4,c5⟩:=hc
    have e:=Nat.eq_of_beq_eq_true c2
    subst e
    simp only [eqFs] at hr
    split at hr
    · rename_i a b ha hb
      obtain ⟨u,u1,u2⟩:=partS_run c4 c3 ha hx
      obtain ⟨v,v1,v2⟩:=partS_run c4 c3 hb hy
      have hne : g.name ≠ "_" := by simpa using c1
      have hd1:s.depth ≤ d:=Nat.le_trans (Nat.le_max_left _ _) hd
      have hd2:depths fs ≤ d:=Nat.le_trans (Nat.le_max_right _ _) hd
      cases hq:eqSh s a b with
      | none=>rw [hq] at hr;cases hr
      | some q =>
        have hE:=eqSh_run s g.type d a b u v q c4 hd1 hq u1 v1
        rw [hq] at hr
        cases q with
        | true =>
          simp only at hr
          have hF:=eqFs_run fs gs d l k xs ys r c5 hd2 hr hx hy
          simp [Op.eqFields,hne,u2,v2,hE,hF,Result.andThen]
        | false =>
          simp only [Option.some.injEq] at hr
          subst hr
          simp [Op.eqFields,hne,u2,v2,hE,Result.andThen]
    · cases hr
  | [],_ :: _,d,l,k,xs,ys,r,hc,hd,hr,hx,hy,w=>by simp [chkFs] at hc
  | _ :: _,[],d,l,k,xs,ys,r,hc,hd,hr,hx,hy,w=>by simp [chkFs] at hc
end
theorem eqSh_str {fs:List (Nat × Nat × Sh)} {r:Bool}:∀ {a b:AV},eqSh (.str fs) a b=some r→∃ l k,a=.agg l∧b=.agg k:=by
  intro a b h
  cases a <;> cases b <;> first | exact ⟨_,_,rfl,rfl⟩ | (simp [eqSh] at h;done)
noncomputable def c_eqs (P:Program) (ne:Bool) (s:Sh) (x y:AOd):Op→Bool
  | .binOp b t x' y' _=>(match ne with | true=>b == .neq | false=>b == .eql) && (Nat.ble s.depth 10000 && (chkSh P s t && ((match s with | .str _=>true | _=>false) && ((!P.eqGuardType P.depth t) && (chkD x x' && chkD y y')))))
  | _=>false
theorem p_eqs {ne:Bool} {s:Sh} {x y:AOd} {op:Op} (hc:c_eqs P ne s x y op=true):OkP P op (o_eqs ne s x y):=by
  intro σA h v h' hr
  unfold c_eqs at hc
  split at hc
  · rename_i b t x' y' t'
    simp only [Bool.and_eq_true,Bool.not_eq_true'] at hc
    obtain ⟨c0,c1,c2,c3,c4,c5,c6⟩:=hc
    unfold o_eqs at hr
    split at hr
    · rename_i r e1
      cases hr
      refine ⟨rfl,fun μ σ hE=>⟨_,rfl,fun o w ho=>?_⟩⟩
      have g1:=chkD_ok c5 hE
      have g2:=chkD_ok c6 hE
      have g3:∀ w,(Op.equal t (ev σ x') (ev σ y')).run P w=.ok r w:=eqSh_run s t 10000 _ _ _ _ r c2 (Nat.le_of_ble_eq_true c1) e1 g1 g2
      cases s <;> first | (cases c3;done) | skip
      obtain ⟨l,k,h1,h2⟩:=eqSh_str e1
      rw [h1] at g1;rw [h2] at g2
      obtain ⟨xs,_,g1⟩:=g1
      obtain ⟨ys,_,g2⟩:=g2
      rw [g1,g2] at g3
      refine ⟨by rw [ho];rfl,?_⟩
      cases ne
      · have:=eq_of_beq c0;subst this
        simp [execOp,ho,g1,g2,binOp,eqGuard,c4,g3,ne_xor]
      · have:=eq_of_beq c0;subst this
        simp [execOp,ho,g1,g2,binOp,eqGuard,c4,g3,ne_xor]
    · cases hr
  · cases hc
end
end Go.KX
namespace Go.KX
open Go.RowKit Go.KL
section
variable {C:Chk} {P:Program} {μ μ':Mu} {w w':World} {h h':AH} {σ:Env} {σA:Tr AV} {t e:TypeId} {o:Oper}
noncomputable def c_fad (P:Program) (off:Nat) (x:AOd):Op→Bool
  | .fieldAddr t y i=>undT P t (fun d=>match d with
      | .struct fs=>match fs[i]? with
        | some f=>Nat.beq f.offset off && (match P.info? f.type with | some j=>Nat.blt 0 j.size | none=>false)
        | none=>false
      | _=>false) && chkD x y
  | _=>false
theorem p_fad {off:Nat} {x:AOd} {op:Op} (hc:c_fad P off x op=true):OkP P op (o_fad off x):=by
  intro σA h v h' hr
  unfold c_fad at hc
  split at hc
  · rename_i t y i
    simp only [Bool.and_eq_true] at hc
    obtain ⟨c1,c2⟩:=hc
    unfold o_fad at hr
    split at hr
    · rename_i b oo hb
      cases hr
      refine ⟨rfl,fun μ σ hE=>?_⟩
      have g:=chkD_ok c2 hE;rw [hb] at g
      obtain ⟨c,g1,g2⟩:=g
      refine ⟨_,⟨c,g1,rfl⟩,fun o w ho=>?_⟩
      obtain ⟨d,d1,d2⟩:=undT_ok c1
      split at d2
      · rename_i fs
        split at d2
        · rename_i f hf
          simp only [Bool.and_eq_true] at d2
          have e:=Nat.eq_of_beq_eq_true d2.1
          subst e
          have d3:=d2.2
          split at d3
          · rename_i j hj
            have hpos:0 < j.size:=by simpa [Nat.blt_eq] using d3
            obtain ⟨n,hn⟩:∃ n,j.size=n + 1:=⟨j.size - 1,by omega⟩
            exact Runs.fa (n:=n) ho g2 (run_und d1) hf (fun w=>by rw [← hn];simp [sizeOf,typeInfo,hj])
          · cases d3
        · cases d2
      · cases d2
    · cases hr
  · cases hc
noncomputable def c_fld (P:Program) (off:Nat) (x:AOd):Op→Bool
  | .field t y i=>undT P t (fun d=>match d with
      | .struct fs=>match fs[i]? with
        | some f=>Nat.beq f.offset off && aggT P f.type false
        | none=>false
      | _=>false) && chkD x y
  | _=>false
noncomputable def c_fldA (P:Program) (off n:Nat) (x:AOd):Op→Bool
  | .field t y i=>undT P t (fun d=>match d with
      | .struct fs=>match fs[i]? with
        | some f=>Nat.beq f.offset off && (aggT P f.type true && szT P f.type n)
        | none=>false
      | _=>false) && chkD x y
  | _=>false
theorem p_fld {off:Nat} {x:AOd} {op:Op} (hc:c_fld P off x op=true):OkP P op (o_fld off x):=by
  intro σA h v h' hr
  unfold c_fld at hc
  split at hc
  · rename_i t y i
    simp only [Bool.and_eq_true] at hc
    obtain ⟨c1,c2⟩:=hc
    unfold o_fld at hr
    split at hr
    · rename_i l hb
      obtain ⟨hr2,rfl⟩:=okV_some hr
      refine ⟨rfl,fun μ σ hE=>?_⟩
      have g:=chkD_ok c2 hE;rw [hb] at g
      obtain ⟨vs,g1,g2⟩:=g
      rw [nth_eq] at hr2
      obtain ⟨cv,g3,g4⟩:=rvL_get g1 hr2
      refine ⟨cv,g4,fun o w ho=>?_⟩
      obtain ⟨d,d1,d2⟩:=undT_ok c1
      split at d2
      · split at d2
        · rename_i f hf
          simp only [Bool.and_eq_true] at d2
          have e:=Nat.eq_of_beq_eq_true d2.1
          subst e
          exact Runs.fld ho g2 (run_und d1) hf (run_part1 (aggT_ok d2.2) g3)
        · cases d2
      · cases d2
    · cases hr
  · cases hc
theorem optAgg_some {x:Option (List AV)} {v:AV} (hr:optAgg x=some v):∃ l,x=some l∧v=.agg l:=by
  cases x <;> cases hr;exact ⟨_,rfl,rfl⟩
theorem p_fldA {off n:Nat} {x:AOd} {op:Op} (hc:c_fldA P off n x op=true):OkP P op (o_fldA off n x):=by
  intro σA h v h' hr
  unfold c_fldA at hc
  split at hc
  · rename_i t y i
    simp only [Bool.and_eq_true] at hc
    obtain ⟨c1,c2⟩:=hc
    unfold o_fldA at hr
    split at hr
    · rename_i l hb
      obtain ⟨hr2,rfl⟩:=okV_some hr
      obtain ⟨r,hr3,rfl⟩:=optAgg_some hr2
      refine ⟨rfl,fun μ σ hE=>?_⟩
      have g:=chkD_ok c2 hE;rw [hb] at g
      obtain ⟨vs,g1,g2⟩:=g
      obtain ⟨g3,g4⟩:=rvL_sub hr3 g1
      refine ⟨_,⟨_,g3,rfl⟩,fun o w ho=>?_⟩
      obtain ⟨d,d1,d2⟩:=undT_ok c1
      split at d2
      · split at d2
        · rename_i f hf
          simp only [Bool.and_eq_true] at d2
          have e:=Nat.eq_of_beq_eq_true d2.1
          subst e
          exact Runs.fld ho g2 (run_und d1) hf (run_part (aggT_ok d2.2.1) (szT_ok d2.2.2) rfl)
        · cases d2
      · cases d2
    · cases hr
  · cases hc
theorem natOf_some {a:AV} {n:Nat} (hr:natOf a=some n):a=.int .i64 n:=by
  unfold natOf at hr
  split at hr
  · cases hr;rfl
  · cases hr
noncomputable def c_iad (P:Program) (sz:Nat) (x y:AOd):Op→Bool
  | .indexAddr t x' y'=>undT P t (fun d=>match d with
      | .slice e=>szT P e sz
      | _=>false) && (chkD x x' && chkD y y')
  | _=>false
theorem p_iad {sz:Nat} {x y:AOd} {op:Op} (hc:c_iad P sz x y op=true):OkP P op (o_iad sz x y):=by
  intro σA h v h' hr
  unfold c_iad at hc
  split at hc
  · rename_i t x' y'
    simp only [Bool.and_eq_true] at hc
    obtain ⟨c1,c2,c3⟩:=hc
    obtain ⟨d,d1,d2⟩:=undT_ok c1
    split at d2
    · rename_i e
      unfold o_iad at hr
      split at hr
      · rename_i b off n c i hb hi
        obtain ⟨hlt,hr⟩:=ifO_some hr
        cases hr
        have hlt:i < n:=by simpa [Nat.blt_eq] using hlt
        have hi:=natOf_some hi
        refine ⟨rfl,fun μ σ hE=>?_⟩
        have g:=chkD_ok c2 hE;rw [hb] at g
        have k:=chkD_ok c3 hE;rw [hi] at k
        obtain ⟨m,g1,g2,g3⟩:=g
        refine ⟨_,⟨m,g1,rfl⟩,fun o w ho=>?_⟩
        have:=Runs.ia (P:=P) (o:=o) (w:=w) (i:=(i:Int)) ho g3 k (run_und d1) (szT_ok d2) (by omega) (by omega)
        simpa using this
      · rename_i b eo co n i hb hi
        obtain ⟨hlt,hr⟩:=ifO_some hr
        cases hr
        have hlt:i < n:=by simpa [Nat.blt_eq] using hlt
        have hi:=natOf_some hi
        refine ⟨rfl,fun μ σ hE=>?_⟩
        have g:=chkD_ok c2 hE;rw [hb] at g
        have k:=chkD_ok c3 hE;rw [hi] at k
        obtain ⟨m,g1,g2,g3⟩:=g
        refine ⟨_,⟨m,g1,rfl⟩,fun o w ho=>?_⟩
        have:=Runs.ia (P:=P) (o:=o) (w:=w) (i:=(i:Int)) ho g3 k (run_und d1) (szT_ok d2) (by omega) (by omega)
        simpa using this
      · cases hr
    · cases d2
  · cases hc
noncomputable def c_iadA (P:Program) (sz n:Nat) (x y:AOd):Op→Bool
  | .indexAddr t x' y'=>undT P t (fun d=>match d with
      | .array m e=>Nat.beq m n && szT P e sz
      | _=>false) && (chkD x x' && chkD y y')
  | _=>false
theorem p_iadA {sz n:Nat} {x y:AOd} {op:Op} (hc:c_iadA P sz n x y op=true):OkP P op (o_iadA sz n x y):=by
  intro σA h v h' hr
  unfold c_iadA at hc
  split at hc
  · rename_i t x' y'
    simp only [Bool.and_eq_true] at hc
    obtain ⟨c1,c2,c3⟩:=hc
    obtain ⟨d,d1,d2⟩:=undT_ok c1
    split at d2
    · rename_i m e
      simp only [Bool.and_eq_true] at d2
      have em:=Nat.eq_of_beq_eq_true d2.1
      subst em
      unfold o_iadA at hr
      split at hr
      · rename_i b off i hb hi
        obtain ⟨hlt,hr⟩:=ifO_some hr
        cases hr
        have hlt:i < m:=by simpa [Nat.blt_eq] using hlt
        have hi:=natOf_some hi
        refine ⟨rfl,fun μ σ hE=>?_⟩
        have g:=chkD_ok c2 hE;rw [hb] at g
        have k:=chkD_ok c3 hE;rw [hi] at k
        obtain ⟨q,g1,g3⟩:=g
        refine ⟨_,⟨q,g1,rfl⟩,fun o w ho=>?_⟩
        have:=Runs.iaA (P:=P) (o:=o) (w:=w) (i:=(i:Int)) ho g3 k (run_und d1) (szT_ok d2.2) (by omega) (by omega)
        simpa using this
      · cases hr
    · cases d2
  · cases hc
noncomputable def c_ix (P:Program) (n:Nat) (x y:AOd):Op→Bool
  | .index t x' y'=>undT P t (fun d=>match d with
      | .array m e=>Nat.beq m n && (szT P e 1 && aggT P e false)
      | _=>false) && (chkD x x' && chkD y y')
  | _=>false
theorem p_ix {n:Nat} {x y:AOd} {op:Op} (hc:c_ix P n x y op=true):OkP P op (o_ix n x y):=by
  intro σA h v h' hr
  unfold c_ix at hc
  split at hc
  · rename_i t x' y'
    simp only [Bool.and_eq_true] at hc
    obtain ⟨c1,c2,c3⟩:=hc
    obtain ⟨d,d1,d2⟩:=undT_ok c1
    split at d2
    · rename_i m e
      simp only [Bool.and_eq_true] at d2
      have em:=Nat.eq_of_beq_eq_true d2.1
      subst em
      unfold o_ix at hr
      split at hr
      · rename_i l i hb hi
        obtain ⟨hlt,hr⟩:=ifO_some hr
        obtain ⟨hr2,rfl⟩:=okV_some hr
        have hlt:i < m:=by simpa [Nat.blt_eq] using hlt
        have hi:=natOf_some hi
        refine ⟨rfl,fun μ σ hE=>?_⟩
        have g:=chkD_ok c2 hE;rw [hb] at g
        have k:=chkD_ok c3 hE;rw [hi] at k
        obtain ⟨vs,g1,g2⟩:=g
        rw [nth_eq] at hr2
        obtain ⟨cv,g3,g4⟩:=rvL_get g1 hr2
        refine ⟨cv,g4,fun o w ho=>?_⟩
        exact Runs.ixA (P:=P) (o:=o) (w:=w) (i:=(i:Int)) ho g2 k (run_und d1) (szT_ok d2.2.1) (by omega) (by omega) (run_part1 (aggT_ok d2.2.2) (by simpa using g3))
      · cases hr
    · cases d2
  · cases hc
noncomputable def c_ixA (P:Program) (sz n:Nat) (x y:AOd):Op→Bool
  | .index t x' y'=>undT P t (fun d=>match d with
      | .array m e=>Nat.beq m n && (szT P e sz && aggT P e true)
      | _=>false) && (chkD x x' && chkD y y')
  | _=>false
theorem p_ixA {sz n:Nat} {x y:AOd} {op:Op} (hc:c_ixA P sz n x y op=true):OkP P op (o_ixA sz n x y):=by
  intro σA h v h' hr
  unfold c_ixA at hc
  split at hc
  · rename_i t x' y'
    simp only [Bool.and_eq_true] at hc
    obtain ⟨c1,c2,c3⟩:=hc
    obtain ⟨d,d1,d2⟩:=undT_ok c1
    split at d2
    · rename_i m e
      simp only [Bool.and_eq_true] at d2
      have em:=Nat.eq_of_beq_eq_true d2.1
      subst em
      unfold o_ixA at hr
      split at hr
      · rename_i l i hb hi
        obtain ⟨hlt,hr⟩:=ifO_some hr
        obtain ⟨hr2,rfl⟩:=okV_some hr
        obtain ⟨r,hr3,rfl⟩:=optAgg_some hr2
        have hlt:i < m:=by simpa [Nat.blt_eq] using hlt
        have hi:=natOf_some hi
        refine ⟨rfl,fun μ σ hE=>?_⟩
        have g:=chkD_ok c2 hE;rw [hb] at g
        have k:=chkD_ok c3 hE;rw [hi] at k
        obtain ⟨vs,g1,g2⟩:=g
        obtain ⟨g3,g4⟩:=rvL_sub hr3 g1
        refine ⟨_,⟨_,g3,rfl⟩,fun o w ho=>?_⟩
        exact Runs.ixA (P:=P) (o:=o) (w:=w) (i:=(i:Int)) ho g2 k (run_und d1) (szT_ok d2.2.1) (by omega) (by omega) (run_part (aggT_ok d2.2.2) (szT_ok d2.2.1) (by simp))
      · cases hr
    · cases d2
  · cases hc
noncomputable def chkO:Option AOd→Option Operand→Bool
  | none,none=>true
  | some x,some y=>chkD x y
  | _,_=>false
theorem bnd_ok {x:Option AOd} {y:Option Operand} {r:Option Nat} (hr:bnd σA x=some r) (hc:chkO x y=true) (hE:EnvR μ σA σ):(r=none∧y=none) ∨ ∃ n z,r=some n∧y=some z∧ev σ z=.int .i64 n:=by
  cases x with
  | none =>
    cases y with
    | none=>cases hr;exact .inl ⟨rfl,rfl⟩
    | some _=>cases hc
  | some x =>
    cases y with
    | none=>cases hc
    | some y =>
      simp only [bnd] at hr
      split at hr
      · rename_i n hn
        cases hr
        have:=chkD_ok (show chkD x y=true from hc) hE
        rw [natOf_some hn] at this
        exact .inr ⟨n,y,rfl,rfl,this⟩
      · cases hr
def vI (n:Nat):Value:=.int .i64 (n:Int)
theorem run_bound {P:Program} {n y:Nat} {code:BoundsCode} (hle:n ≤ y) (w:World):(Instr.sliceBound (vI n) y code).run P w=.ok n w:=by
  have h1:(n:Int) ≤ y:=by omega
  simp [Instr.sliceBound,vI,asIntOf,h1]
theorem run_bounds {P:Program} {s:Bool} {len cap:Nat} {lo hi mx:Option Nat} {l hh m:Nat} (hm:m=mx.getD cap) (hh':hh=hi.getD len) (hl:l=lo.getD 0) (h1:l ≤ hh) (h2:hh ≤ m) (h3:m ≤ cap) (hmh:mx.isSome=true→hi.isSome=true) (w:World) :
    (Instr.sliceBounds s len cap (lo.map vI) (hi.map vI) (mx.map vI)).run P w=.ok (l,hh,m) w:=by
  subst hm hh' hl
  unfold Instr.sliceBounds
  cases mx <;> cases hi <;> cases lo <;> simp only [Option.getD_none,Option.getD_some] at h1 h2 h3 <;> (try (simp at hmh;done)) <;> simp [run_bound h1,run_bound h2,run_bound h3]
theorem bnds_ok {x:Option AOd} {y:Option Operand} {r:Option Nat} (hr:bnd σA x=some r) (hc:chkO x y=true) (hE:EnvR μ σA σ):y.map (ev σ)=r.map vI:=by
  rcases bnd_ok hr hc hE with ⟨rfl,rfl⟩ | ⟨n,z,rfl,rfl,h1⟩
  · rfl
  · simp [h1,vI]
theorem add_off (b off n:Nat):(Addr.add ⟨b,off,none⟩ n)=⟨b,off + n,none⟩:=add_none b off n
theorem slcV_ok {P:Program} {sz:Nat} {a v:AV} {x:Value} {lo hi mx:Option Nat} (hr0:slcV sz a (orD lo 0) hi mx=some v) (hx:Rv μ a x) (hmh:mx.isSome=true→hi.isSome=true) :
    ∃ A len cap cv l hh m,x=.slice A len cap∧Rv μ v cv∧(∀ s w,(Instr.sliceBounds s len cap (lo.map vI) (hi.map vI) (mx.map vI)).run P w=.ok (l,hh,m) w) ∧
      cv=.slice (if m=l then A else A.map (·.add (l * sz))) (hh - l) (m - l):=by
  obtain ⟨l,hl,hr⟩:∃ l,lo.getD 0=l∧slcV sz a l hi mx=some v:=⟨_,rfl,by rw [← orD_eq];exact hr0⟩
  clear hr0
  unfold slcV at hr
  split at hr
  · obtain ⟨hb,hr⟩:=ifO_some hr
    cases hr
    simp only [Bool.and_eq_true] at hb
    obtain ⟨⟨b1,b2⟩,b3⟩:=hb
    have l0:=Nat.eq_of_beq_eq_true b1
    have hx:x=.slice none 0 0:=hx
    subst hx
    have h2:hi.getD 0=0:=by cases hi with | none=>rfl | some n=>exact Nat.eq_of_beq_eq_true b2
    have h3:mx.getD 0=0:=by cases mx with | none=>rfl | some n=>exact Nat.eq_of_beq_eq_true b3
    refine ⟨none,0,0,_,0,0,0,rfl,(rfl:Rv μ .snil _),fun s w=>run_bounds h3.symm h2.symm (by rw [hl,l0]) (Nat.le_refl _) (Nat.le_refl _) (Nat.le_refl _) hmh w,by simp⟩
  · rename_i b off n c
    obtain ⟨d,g1,g2,rfl⟩:=hx
    simp only [orD_eq] at hr
    obtain ⟨hb,hr⟩:=ifO_some hr
    cases hr
    simp only [Bool.and_eq_true,Nat.ble_eq] at hb
    obtain ⟨⟨b1,b2⟩,b3⟩:=hb
    refine ⟨_,n,c,_,l,hi.getD n,mx.getD c,rfl,⟨d,g1,by omega,rfl⟩,fun s w=>run_bounds rfl rfl hl.symm b1 b2 b3 hmh w,?_⟩
    by_cases e:mx.getD c=l
    · simp [e]
    · have:Nat.beq (mx.getD c) l=false:=by
        cases hq:Nat.beq (mx.getD c) l with
        | false=>rfl
        | true=>exact absurd (Nat.eq_of_beq_eq_true hq) e
      simp [e,this,add_off]
  · rename_i b eo co n
    obtain ⟨d,g1,g2,rfl⟩:=hx
    simp only [orD_eq] at hr
    split at hr
    · obtain ⟨hb,hr⟩:=ifO_some hr
      simp only [Bool.and_eq_true,Nat.ble_eq] at hb
      obtain ⟨b1,b2⟩:=hb
      have fin:∀ cv,cv=Value.slice (if d.2 - eo=l then some ⟨d.1,co,none⟩ else (some (⟨d.1,co,none⟩:Addr)).map (·.add (l * sz))) (hi.getD n - l) (d.2 - eo - l)→Rv μ v cv →
          ∃ A len cap cv l hh m,Value.slice (some ⟨d.1,co,none⟩) n (d.2 - eo)=.slice A len cap∧Rv μ v cv∧(∀ s w,(Instr.sliceBounds s len cap (lo.map vI) (hi.map vI) ((none:Option Nat).map vI)).run P w=.ok (l,hh,m) w) ∧
            cv=.slice (if m=l then A else A.map (·.add (l * sz))) (hh - l) (m - l):=fun cv e hv =>
        ⟨_,n,d.2 - eo,cv,l,hi.getD n,d.2 - eo,rfl,hv,fun s w=>run_bounds rfl rfl hl.symm b1 (by simp only [Option.getD_none];omega) (Nat.le_refl _) hmh w,e⟩
      split at hr
      · cases hr
        refine fin _ rfl ⟨d,g1,by omega,?_⟩
        simp [Addr.add]
      · rename_i l0
        split at hr
        · rename_i hlt
          cases hr
          have hlt:l < n:=by simpa [Nat.blt_eq] using hlt
          refine fin _ rfl ⟨d,g1,by omega,?_⟩
          rw [if_neg (by omega)]
          simp [add_off,Nat.sub_sub]
        · rename_i hlt
          cases hr
          have hlt:¬ l < n:=by
            intro hq
            have:Nat.blt l n=true:=by rw [Nat.blt_eq];exact hq
            rw [this] at hlt;cases hlt
          have e1:hi.getD n - l=0:=by omega
          refine fin _ rfl ?_
          rw [e1]
          by_cases e2:d.2 - eo=l
          · rw [if_pos e2];exact ⟨d,g1,co,by congr 1;omega⟩
          · rw [if_neg e2];exact ⟨d,g1,co + l * sz,by simp only [Option.map_some,add_off];congr 1;omega⟩
    · rename_i m
      obtain ⟨hb,hr⟩:=ifO_some hr
      cases hr
      simp only [Bool.and_eq_true,Nat.ble_eq] at hb
      obtain ⟨⟨b1,b2⟩,b3⟩:=hb
      refine ⟨_,n,d.2 - eo,_,l,hi.getD n,m,rfl,⟨d,g1,by omega,rfl⟩,fun s w=>run_bounds (mx:=some m) rfl rfl hl.symm b1 b2 (by simp only [Option.getD_some];omega) hmh w,?_⟩
      by_cases e:m=l
      · simp [e]
      · have:Nat.beq m l=false:=by
          cases hq:Nat.beq m l with
          | false=>rfl
          | true=>exact absurd (Nat.eq_of_beq_eq_true hq) e
        simp [e,this,add_off]
  · cases hr
noncomputable def c_slc (P:Program) (sz:Nat) (x:AOd) (lo hi mx:Option AOd):Op→Bool
  | .slice t y l m n=>undT P t (fun d=>match d with
      | .slice e=>szT P e sz
      | _=>false) && (chkD x y && (chkO lo l && (chkO hi m && (chkO mx n && (!mx.isSome || hi.isSome)))))
  | _=>false
theorem p_slc {sz:Nat} {x:AOd} {lo hi mx:Option AOd} {op:Op} (hc:c_slc P sz x lo hi mx op=true):OkP P op (o_slc sz x lo hi mx):=by
  intro σA h v h' hr
  unfold c_slc at hc
  split at hc
  · rename_i t y l m n
    simp only [Bool.and_eq_true] at hc
    obtain ⟨c1,c2,c3,c4,c5,c6⟩:=hc
    obtain ⟨d,d1,d2⟩:=undT_ok c1
    split at d2
    · rename_i e
      unfold o_slc at hr
      split at hr
      · rename_i rl rh rm h1 h2 h3
        obtain ⟨hr2,rfl⟩:=okV_some hr
        refine ⟨rfl,fun μ σ hE=>?_⟩
        have hmh:rm.isSome=true→rh.isSome=true:=by
          intro hs
          rcases bnd_ok h3 c5 hE with ⟨rfl,_⟩ | ⟨_,z,rfl,rfl,_⟩
          · cases hs
          · cases mx with
            | none=>simp [bnd] at h3
            | some _ =>
              cases hi with
              | none=>simp at c6
              | some _ =>
                rcases bnd_ok h2 c4 hE with ⟨rfl,e0⟩ | ⟨_,_,rfl,_⟩
                · subst e0;simp [chkO] at c4
                · rfl
        obtain ⟨A,len,cap,cv,ll,hh,mm,e1,e2,e3,e4⟩:=slcV_ok (P:=P) hr2 (chkD_ok c2 hE) hmh
        refine ⟨cv,e2,fun o w ho=>⟨by rw [ho];rfl,?_⟩⟩
        have b1:=bnds_ok h1 c3 hE
        have b2:=bnds_ok h2 c4 hE
        have b3:=bnds_ok h3 c5 hE
        simp [execOp,ho,Instr.sliceAt,Instr.slice,run_und d1,e1,b1,b2,b3,e3,szT_ok d2,e4]
      · cases hr
    · cases d2
  · cases hc
noncomputable def c_slcA (P:Program) (sz n:Nat) (x:AOd) (lo hi:Option AOd):Op→Bool
  | .slice t y l m none=>undT P t (fun d=>match d with
      | .array k e=>Nat.beq k n && szT P e sz
      | _=>false) && (chkD x y && (chkO lo l && chkO hi m))
  | _=>false
theorem p_slcA {sz n:Nat} {x:AOd} {lo hi:Option AOd} {op:Op} (hc:c_slcA P sz n x lo hi op=true):OkP P op (o_slcA sz n x lo hi):=by
  intro σA h v h' hr
  unfold c_slcA at hc
  split at hc
  · rename_i t y l m
    simp only [Bool.and_eq_true] at hc
    obtain ⟨c1,c2,c3,c4⟩:=hc
    obtain ⟨d,d1,d2⟩:=undT_ok c1
    split at d2
    · rename_i k e
      simp only [Bool.and_eq_true] at d2
      have ek:=Nat.eq_of_beq_eq_true d2.1
      subst ek
      unfold o_slcA at hr
      split at hr
      · rename_i rl rh b off h1 h2 hb
        obtain ⟨hr2,rfl⟩:=okV_some hr
        refine ⟨rfl,fun μ σ hE=>?_⟩
        have g:=chkD_ok c2 hE;rw [hb] at g
        obtain ⟨c,g1,g2⟩:=g
        obtain ⟨A,len,cap,cv,ll,hh,mm,e1,e2,e3,e4⟩:=slcV_ok (P:=P) (μ:=μ) (x:=.slice (some ⟨c.1,off,none⟩) k k) hr2 ⟨c,g1,Nat.le_refl _,rfl⟩ (by intro hs;cases hs)
        cases e1
        refine ⟨cv,e2,fun o w ho=>⟨by rw [ho];rfl,?_⟩⟩
        have b1:=bnds_ok h1 c3 hE
        have b2:=bnds_ok h2 c4 hE
        have e3':=e3 false
        simp only [Option.map_none] at e3'
        simp [execOp,ho,Instr.sliceAt,run_und d1,g2,Instr.sureAddr,b1,b2,e3',szT_ok d2.2,e4]
        split <;> simp
      · cases hr
    · cases d2
  · cases hc
end
end Go.KX
namespace Go.KX
open Go.RowKit Go.KL
section
variable {C:Chk} {P:Program} {μ μ':Mu} {w w':World} {h h':AH} {σ:Env} {σA:Tr AV} {t e:TypeId} {o:Oper}
noncomputable def chkPs (place:Nat→Option (Nat × Nat)):List (Nat × Nat × AOd)→List (Nat × Operand)→Bool
  | [],[]=>true
  | (off,n,x) :: ps,(i,y) :: qs=>(match place i with | some (o,s)=>Nat.beq o off && Nat.beq s n | none=>false) && (chkD x y && chkPs place ps qs)
  | _,_=>false
theorem fill_ok {place:Nat→Option (Nat × Nat)} (hE:EnvR μ σA σ):∀ {ps:List (Nat × Nat × AOd)} {qs:List (Nat × Operand)} {cs r:List AV} {CS:List Value},fillA σA cs ps=some r→chkPs place ps qs=true→RvL μ cs CS →
    ∃ R,lay place CS (qs.map fun (p:Nat × Operand)=>(p.1,ev σ p.2))=some R∧RvL μ r R∧R.length=CS.length
  | [],[],cs,r,CS,hr,_,hl=>by
    simp only [fillA] at hr;cases hr;exact ⟨CS,rfl,hl,rfl⟩
  | (off,n,x) :: ps,(i,y) :: qs,cs,r,CS,hr,hc,hl=>by
    simp only [chkPs,Bool.and_eq_true] at hc
    obtain ⟨c1,c2,c3⟩:=hc
    split at c1
    · rename_i o s hp
      simp only [Bool.and_eq_true] at c1
      have e1:=Nat.eq_of_beq_eq_true c1.1
      have e2:=Nat.eq_of_beq_eq_true c1.2
      subst e1 e2
      simp only [fillA] at hr
      split at hr
      · rename_i hn
        have hn:=Nat.eq_of_beq_eq_true hn
        split at hr
        · rename_i cs' ho
          obtain ⟨vs,v1,v2⟩:=rv_cells (chkD_ok c2 hE)
          obtain ⟨g1,g2⟩:=rvL_over ho hl v1
          have hlen:vs.length=s:=by rw [rvL_len v1,← len_eq,hn]
          obtain ⟨R,r1,r2,r3⟩:=fill_ok hE hr c3 g2
          refine ⟨R,?_,r2,by rw [r3,setN_length]⟩
          rw [List.map_cons,lay,hp]
          simp only [v2,List.size_toArray,hlen,beq_self_eq_true,Bool.true_and]
          rw [if_pos (by rw [Nat.ble_eq];omega)]
          exact r1
        · cases hr
      · cases hr
    · cases c1
  | [],_ :: _,cs,r,CS,hr,hc,hl=>by simp [chkPs] at hc
  | _ :: _,[],cs,r,CS,hr,hc,hl=>by simp [chkPs] at hc
def plL (P:Program):List Field→Option (List (Nat × Nat))
  | []=>some []
  | f :: fs=>match P.info? f.type,plL P fs with
    | some i,some l=>some ((f.offset,i.size) :: l)
    | _,_=>none
theorem plL_ok:∀ {fs:List Field} {pl:List (Nat × Nat)},plL P fs=some pl→Places P fs.toArray pl:=by
  intro fs pl hp w
  rw [List.mapM_toArray]
  have key:∀ (fs:List Field) (pl:List (Nat × Nat)),plL P fs=some pl→((fs.mapM fun f=>do pure (f.offset,← sizeOf f.type):Sem (List (Nat × Nat)))).run P w=.ok pl w:=by
    intro fs
    induction fs with
    | nil=>intro pl hp;cases hp;simp
    | cons f fs ih =>
      intro pl hp
      unfold plL at hp
      split at hp
      · rename_i i l h1 h2
        cases hp
        have hs:(sizeOf f.type).run P w=.ok i.size w:=by simp [sizeOf,typeInfo,h1]
        simp only [List.mapM_cons,Sem.run_bind,hs,Result.andThen_ok,Sem.run_pure,ih l h2]
      · cases hp
  have:=key fs pl hp
  simp only [Sem.run_map,this,Result.andThen_ok]
noncomputable def c_bld (P:Program) (z:List AV) (ps:List (Nat × Nat × AOd)):Op→Bool
  | .build t qs=>zT P t z && undT P t (fun d=>match d with
      | .struct fs=>match plL P fs.toList with
        | some pl=>chkPs (fun i=>pl[i]?) ps qs.toList
        | none=>false
      | .array _ e=>match P.info? e with
        | some j=>chkPs (fun i=>some (i * j.size,j.size)) ps qs.toList
        | none=>false
      | _=>false)
  | _=>false
theorem p_bld {z:List AV} {ps:List (Nat × Nat × AOd)} {op:Op} (hc:c_bld P z ps op=true):OkP P op (o_bld z ps):=by
  intro σA h v h' hr
  unfold c_bld at hc
  split at hc
  · rename_i t qs
    simp only [Bool.and_eq_true] at hc
    obtain ⟨c1,c2⟩:=hc
    obtain ⟨hr2,rfl⟩:=okV_some hr
    obtain ⟨r,hr3,rfl⟩:=optAgg_some hr2
    obtain ⟨i,zv,z1,z2,z3⟩:=zT_info c1
    obtain ⟨d,d1,d2⟩:=undT_ok c2
    refine ⟨rfl,fun μ σ hE=>?_⟩
    split at d2
    · rename_i fs
      split at d2
      · rename_i pl hpl
        obtain ⟨R,r1,r2,_⟩:=fill_ok hE hr3 d2 (z3 μ)
        refine ⟨_,⟨R,r2,rfl⟩,fun o w ho=>?_⟩
        exact Runs.build (P:=P) (ps:=qs.toList) (z:=zv.cells.toList) ho rfl (run_zero z1 z2) ⟨fs,run_und d1,plL_ok hpl⟩ (by simp) r1
      · cases d2
    · rename_i n e
      split at d2
      · rename_i j hj
        obtain ⟨R,r1,r2,_⟩:=fill_ok hE hr3 d2 (z3 μ)
        refine ⟨_,⟨R,r2,rfl⟩,fun o w ho=>?_⟩
        exact Runs.buildA (P:=P) (ps:=qs.toList) (z:=zv.cells.toList) ho rfl (run_zero z1 z2) (run_und d1) (fun w=>by simp [sizeOf,typeInfo,hj]) (by simp) r1
      · cases d2
    · cases d2
  · cases hc
noncomputable def c_len (P:Program) (b:Builtin) (x:AOd):Op→Bool
  | .call c=>match c.callee with
    | .builtin b'=>(b' == b) && (match c.args.toList,c.argTypes.toList with
      | [y],[t]=>undT P t (fun d=>match d with | .slice _=>true | _=>false) && chkD x y
      | _,_=>false)
    | _=>false
  | _=>false
theorem c_len_ok {b:Builtin} {x:AOd} {op:Op} (hc:c_len P b x op=true):∃ y t e,op=.call { callee:=.builtin b,args:=#[y],argTypes:=#[t] }∧P.underlying t=some (.slice e)∧chkD x y=true:=by
  unfold c_len at hc
  split at hc
  · rename_i c
    obtain ⟨ce,args,tys⟩:=c
    simp only at hc
    split at hc
    · rename_i b'
      simp only [Bool.and_eq_true,beq_iff_eq] at hc
      obtain ⟨rfl,h2⟩:=hc
      split at h2
      · rename_i y t h3 h4
        simp only [Bool.and_eq_true] at h2
        obtain ⟨d,d1,d2⟩:=undT_ok h2.1
        cases d <;> first | (cases d2;done) | skip
        refine ⟨y,t,_,?_,d1,h2.2⟩
        congr 2
        · exact Array.ext' (by simpa using h3)
        · exact Array.ext' (by simpa using h4)
      · cases h2
    · cases hc
  · cases hc
theorem p_len {x:AOd} {op:Op} (hc:c_len P .len x op=true):OkP P op (o_len x):=by
  intro σA h v h' hr
  obtain ⟨y,t,e,rfl,d1,c2⟩:=c_len_ok hc
  unfold o_len at hr
  split at hr <;> cases hr <;> rename_i hb
  · refine ⟨rfl,fun μ σ hE=>⟨_,rfl,fun o w ho=>?_⟩⟩
    have g:=chkD_ok c2 hE;rw [hb] at g
    exact Runs.len ho g (run_und d1)
  · refine ⟨rfl,fun μ σ hE=>⟨_,rfl,fun o w ho=>?_⟩⟩
    have g:=chkD_ok c2 hE;rw [hb] at g
    obtain ⟨c,_,_,g⟩:=g
    exact Runs.len ho g (run_und d1)
  · refine ⟨rfl,fun μ σ hE=>⟨_,rfl,fun o w ho=>?_⟩⟩
    have g:=chkD_ok c2 hE;rw [hb] at g
    obtain ⟨c,_,_,g⟩:=g
    exact Runs.len ho g (run_und d1)
  · refine ⟨rfl,fun μ σ hE=>⟨_,rfl,fun o w ho=>?_⟩⟩
    have g:=chkD_ok c2 hE;rw [hb] at g
    obtain ⟨c,_,q,g⟩:=g
    exact Runs.len ho g (run_und d1)
theorem Runs.cap {t e:TypeId} {x:Operand} {a:Option Addr} {n c:Nat} (ho:o.op=.call { callee:=.builtin .cap,args:=#[x],argTypes:=#[t] }) (hx:ev σ x=.slice a n c)
    (ht:∀ w,(underlying t).run P w=.ok (.slice e) w):Runs P σ w o (.int .i64 c) w :=
  ⟨by rw [ho];rfl,by simp [execOp,ho,resolve,invoke,builtin,Builtin.cap_,hx,ht,goInt]⟩
theorem p_cap {x:AOd} {op:Op} (hc:c_len P .cap x op=true):OkP P op (o_cap x):=by
  intro σA h v h' hr
  obtain ⟨y,t,e,rfl,d1,c2⟩:=c_len_ok hc
  unfold o_cap at hr
  split at hr <;> cases hr <;> rename_i hb
  · refine ⟨rfl,fun μ σ hE=>⟨_,rfl,fun o w ho=>?_⟩⟩
    have g:=chkD_ok c2 hE;rw [hb] at g
    exact Runs.cap ho g (run_und d1)
  · refine ⟨rfl,fun μ σ hE=>⟨_,rfl,fun o w ho=>?_⟩⟩
    have g:=chkD_ok c2 hE;rw [hb] at g
    obtain ⟨c,_,_,g⟩:=g
    exact Runs.cap ho g (run_und d1)
noncomputable def c_mm (b:Builtin) (x y:AOd):Op→Bool
  | .call c=>match c.callee with
    | .builtin b'=>(b' == b) && (match c.args.toList with
      | [x',y']=>chkD x x' && chkD y y'
      | _=>false)
    | _=>false
  | _=>false
theorem c_mm_ok {b:Builtin} {x y:AOd} {op:Op} (hc:c_mm b x y op=true):∃ x' y' tys,op=.call { callee:=.builtin b,args:=#[x',y'],argTypes:=tys }∧chkD x x'=true∧chkD y y'=true:=by
  unfold c_mm at hc
  split at hc
  · rename_i c
    obtain ⟨ce,args,tys⟩:=c
    simp only at hc
    split at hc
    · rename_i b'
      simp only [Bool.and_eq_true,beq_iff_eq] at hc
      obtain ⟨rfl,h2⟩:=hc
      split at h2
      · rename_i x' y' h3
        simp only [Bool.and_eq_true] at h2
        refine ⟨x',y',tys,?_,h2.1,h2.2⟩
        congr 2
        exact Array.ext' (by simpa using h3)
      · cases h2
    · cases hc
  · cases hc
theorem p_min {x y:AOd} {op:Op} (hc:c_mm .min x y op=true):OkP P op (o_min x y):=by
  intro σA h v h' hr
  obtain ⟨x',y',tys,rfl,c1,c2⟩:=c_mm_ok hc
  obtain ⟨hr2,rfl⟩:=okV_some hr
  split at hr2
  · rename_i a b e1 e2
    cases hr2
    refine ⟨rfl,fun μ σ hE=>⟨_,rfl,fun o w ho=>?_⟩⟩
    have g1:=chkD_ok c1 hE;rw [e1] at g1
    have g2:=chkD_ok c2 hE;rw [e2] at g2
    refine (Runs.min ho g1 g2).to ?_
    have:(match zlt b a with | true=>b | false=>a)=Min.min a b:=by
      rw [zlt_dec,Int.min_def]
      by_cases hq:b < a
      · simp [hq,Int.not_le.2 hq]
      · simp [hq,Int.not_lt.1 hq]
    exact congrArg (Value.int .i64) this.symm
  · cases hr2
theorem p_max {x y:AOd} {op:Op} (hc:c_mm .max x y op=true):OkP P op (o_max x y):=by
  intro σA h v h' hr
  obtain ⟨x',y',tys,rfl,c1,c2⟩:=c_mm_ok hc
  obtain ⟨hr2,rfl⟩:=okV_some hr
  split at hr2
  · rename_i a b e1 e2
    cases hr2
    refine ⟨rfl,fun μ σ hE=>⟨_,rfl,fun o w ho=>?_⟩⟩
    have g1:=chkD_ok c1 hE;rw [e1] at g1
    have g2:=chkD_ok c2 hE;rw [e2] at g2
    refine (Runs.max ho g1 g2).to ?_
    have:(match zlt a b with | true=>b | false=>a)=Max.max a b:=by
      rw [zlt_dec,Int.max_def]
      by_cases hq:a < b
      · simp [hq,Int.le_of_lt hq]
      · by_cases hq2:a ≤ b
        · have:a=b:=by omega
          simp [this]
        · simp [hq,hq2]
    exact congrArg (Value.int .i64) this.symm
  · cases hr2
def OkL (C:Chk) (P:Program) (op:Op) (f:Tr AV→AH→Option (AV × AH)):Prop :=
  ∀ σA h v h',f σA h=some (v,h')→h'=h∧∀ μ σ w,EnvR μ σA σ→Sim C P μ h w→∃ cv,Rv μ v cv∧∀ (o:Oper),o.op=op→RunsK P σ w o cv
theorem cellsAt_ok {b:Pos} {l:List AV} (hr:cellsAt h b=some l) (S:Sim C P μ h w):∃ c vs,μ b=some c∧RvL μ l vs∧∀ w',Keep w w' Non→∀ j v,vs[j]?=some v→w'.cell? ⟨c.1,j,none⟩=some v:=by
  unfold cellsAt at hr
  split at hr
  · rename_i B hB
    obtain ⟨c,h1,h2⟩:=S.at_ b B hB
    cases B <;> simp only [blkCells] at hr <;> first | (cases hr;done) | cases hr
    · obtain ⟨vs,h3,h4⟩:=h2
      exact ⟨c,vs,h1,h3,fun w' K j v hv=>(h4.non K).cell hv⟩
    · obtain ⟨vs,h3,h4⟩:=h2
      refine ⟨c,vs,h1,h3,fun w' K j v hv=>?_⟩
      obtain ⟨cur,g1,g2,g3,g4,g5⟩:=RowAt.cells h4
      have g1':=(K.block _ (lt_of_some g1) id).trans g1
      have:cur.toList[j]?=some v:=by
        rw [← g5,List.getElem?_take] at hv
        split at hv
        · exact hv
        · cases hv
      simp only [World.cell?,g1']
      simpa using this
  · cases hr
noncomputable def c_ld (P:Program) (x:AOd):Op→Bool
  | .load t y=>aggT P t false && chkD x y
  | _=>false
theorem l_ld {x:AOd} {op:Op} (hc:c_ld P x op=true):OkL C P op (o_ld x):=by
  intro σA h v h' hr
  unfold c_ld at hc
  split at hc
  · simp only [Bool.and_eq_true] at hc
    unfold o_ld at hr
    split at hr
    · rename_i b off hb
      split at hr
      · rename_i l hl
        obtain ⟨hr2,rfl⟩:=okV_some hr
        refine ⟨rfl,fun μ σ w hE S=>?_⟩
        obtain ⟨c,vs,h1,h2,h3⟩:=cellsAt_ok hl S
        have g:=chkD_ok hc.2 hE;rw [hb] at g
        obtain ⟨c',g1,g2⟩:=g
        rw [h1] at g1;cases g1
        rw [nth_eq] at hr2
        obtain ⟨cv,g3,g4⟩:=rvL_get h2 hr2
        exact ⟨cv,g4,fun o ho w' K=>Runs.ld ho g2 (aggT_ok hc.1) (h3 w' K _ _ g3)⟩
      · cases hr
    · cases hr
  · cases hc
noncomputable def c_ldA (P:Program) (n:Nat) (x:AOd):Op→Bool
  | .load t y=>(aggT P t true && szT P t n) && chkD x y
  | _=>false
theorem l_ldA {n:Nat} {x:AOd} {op:Op} (hc:c_ldA P n x op=true):OkL C P op (o_ldA n x):=by
  intro σA h v h' hr
  unfold c_ldA at hc
  split at hc
  · simp only [Bool.and_eq_true] at hc
    unfold o_ldA at hr
    split at hr
    · rename_i b off hb
      split at hr
      · rename_i l hl
        obtain ⟨hr2,rfl⟩:=okV_some hr
        obtain ⟨r,hr3,rfl⟩:=optAgg_some hr2
        refine ⟨rfl,fun μ σ w hE S=>?_⟩
        obtain ⟨c,vs,h1,h2,h3⟩:=cellsAt_ok hl S
        have g:=chkD_ok hc.2 hE;rw [hb] at g
        obtain ⟨c',g1,g2⟩:=g
        rw [h1] at g1;cases g1
        obtain ⟨g3,g4⟩:=rvL_sub hr3 h2
        refine ⟨_,⟨_,g3,rfl⟩,fun o ho w' K=>Runs.ldA ho g2 (aggT_ok hc.1.1) (szT_ok hc.1.2) (by simp;omega) fun j u hu=>?_⟩
        exact h3 w' K _ _ (sub_cells rfl j u hu)
      · cases hr
    · cases hr
  · cases hc
def OkE (C:Chk) (P:Program) (op:Op) (f:Tr AV→AH→Option (AV × AH)):Prop :=
  ∀ σA h v h',f σA h=some (v,h')→∀ μ σ w,EnvR μ σA σ→Sim C P μ h w→∀ (o:Oper),o.op=op→∃ μ' w' cv,Ext μ h.fl.nat w μ' w'∧Sim C P μ' h' w'∧Rv μ' v cv∧h'.fl=h.fl∧Runs P σ w o cv w'
def OkU (C:Chk) (P:Program) (op:Op) (f:Tr AV→AH→Option (AV × AH)):Prop :=
  ∀ σA h v h',f σA h=some (v,h')→∀ μ σ w,EnvR μ σA σ→Sim C P μ h w→∀ (o:Oper),o.op=op→∃ μ' w',Ext μ h.fl.nat w μ' w'∧Sim C P μ' h' w'∧v=u∧h'.fl=h.fl∧Does P σ w o w'
theorem OkP.toL {op:Op} {f:Tr AV→AH→Option (AV × AH)} (hp:OkP P op f):OkL C P op f:=by
  intro σA h v h' hr
  obtain ⟨h1,h2⟩:=hp σA h v h' hr
  exact ⟨h1,fun μ σ w hE _=>let ⟨cv,g1,g2⟩:=h2 μ σ hE;⟨cv,g1,fun o ho w' _=>g2 o w' ho⟩⟩
theorem OkL.toE {op:Op} {f:Tr AV→AH→Option (AV × AH)} (hp:OkL C P op f):OkE C P op f:=by
  intro σA h v h' hr μ σ w hE S o ho
  obtain ⟨rfl,h2⟩:=hp σA h v h' hr
  obtain ⟨cv,g1,g2⟩:=h2 μ σ w hE S
  exact ⟨μ,w,cv,Ext.refl μ _ w,S,g1,rfl,g2 o ho w (Keep.refl w _)⟩
theorem new_cells {T:TypeId} {z:List AV} {cs:List Value} (S:Sim C P μ h w) (hz:RvL μ z cs):∃ μ',Ext μ h.fl.nat w μ' (w.alloc (.cells cs.toArray T))∧Sim C P μ' (h.push (.cells T z)) (w.alloc (.cells cs.toArray T))∧(h.push (.cells T z)).fl=h.fl∧μ' h.nx=some ⟨w.heap.size,0,g0⟩:=by
  have hle:=Mu.add_le (c:=⟨w.heap.size,0,g0⟩) (S.nx h.nx (Nat.le_refl _))
  obtain ⟨h1,h2,h3,h4⟩:=S.push (w':=w.alloc (.cells cs.toArray T)) (c:=⟨w.heap.size,0,g0⟩) (B:=.cells T z) (alloc_keep w _) (Nat.le_refl _) (by rw [alloc_size];exact Nat.lt_succ_self _) ⟨cs,hz.mono hle,alloc_blk w cs T⟩
  exact ⟨_,h2,h1,h3,h4⟩
noncomputable def c_new (P:Program) (T:Nat) (z:List AV):Op→Bool
  | .alloc t=>Nat.beq T t && zT P t z
  | _=>false
theorem e_new {T:Nat} {z:List AV} {op:Op} (hc:c_new P T z op=true):OkE C P op (o_new T z):=by
  intro σA h v h' hr μ σ w hE S o ho
  cases hr
  unfold c_new at hc
  split at hc
  · simp only [Bool.and_eq_true] at hc
    have e:=Nat.eq_of_beq_eq_true hc.1
    subst e
    obtain ⟨i,zv,z1,z2,z3⟩:=zT_info hc.2
    obtain ⟨μ',h1,h2,h3,h4⟩:=new_cells (T:=T) S (z3 μ)
    refine ⟨μ',_,_,h1,h2,⟨_,h4,rfl⟩,h3,by rw [ho];rfl,?_⟩
    simp [execOp,ho,Instr.alloc,run_zero z1 z2,newVar,newRow,newObj,Sem.run]
  · cases hc
noncomputable def c_box (T:Nat) (x:AOd):Op→Bool
  | .box t y=>Nat.beq T t && chkD x y
  | _=>false
theorem e_box {T:Nat} {x:AOd} {op:Op} (hc:c_box T x op=true):OkE C P op (o_box T x):=by
  intro σA h v h' hr μ σ w hE S o ho
  cases hr
  unfold c_box at hc
  split at hc
  · simp only [Bool.and_eq_true] at hc
    have e:=Nat.eq_of_beq_eq_true hc.1
    subst e
    obtain ⟨vs,v1,v2⟩:=rv_cells (chkD_ok hc.2 hE)
    obtain ⟨μ',h1,h2,h3,h4⟩:=new_cells (T:=T) S v1
    refine ⟨μ',_,_,h1,h2,⟨_,h4,rfl⟩,h3,by rw [ho];rfl,?_⟩
    simp [execOp,ho,Instr.box,newVar,newRow,newObj,v2,Sem.run]
  · cases hc
theorem new_map (S:Sim C P μ h w):∃ μ',Ext μ h.fl.nat w μ' (w.alloc (.map #[] 0))∧Sim C P μ' (h.push .map0) (w.alloc (.map #[] 0))∧(h.push .map0).fl=h.fl∧μ' h.nx=some ⟨w.heap.size,0,g0⟩:=by
  obtain ⟨h1,h2,h3,h4⟩:=S.push (w':=w.alloc (.map #[] 0)) (c:=⟨w.heap.size,0,g0⟩) (B:=.map0) (alloc_keep w _) (Nat.le_refl _) (by rw [alloc_size];exact Nat.lt_succ_self _) ⟨0,heap_alloc_new w _⟩
  exact ⟨_,h2,h1,h3,h4⟩
def c_mkm:Op→Bool
  | .makeMap _ none=>true
  | _=>false
theorem e_mkm {op:Op} (hc:c_mkm op=true):OkE C P op o_mkm:=by
  intro σA h v h' hr μ σ w hE S o ho
  cases hr
  unfold c_mkm at hc
  split at hc
  · obtain ⟨μ',h1,h2,h3,h4⟩:=new_map S
    refine ⟨μ',_,_,h1,h2,⟨_,h4,rfl⟩,h3,by rw [ho];rfl,?_⟩
    simp [execOp,ho,Instr.makeMap,newObj,Sem.run,Result.andThen]
  · cases hc
theorem range_cells {zc:Array Value} {n:Nat}:∀ c,((Array.range (c * zc.size)).map (zc[· % zc.size]!)).toList=(List.replicate c zc.toList).flatten ∨ False:=by
  intro c
  left
  induction c with
  | zero=>simp
  | succ c ih =>
    rw [Array.toList_map,Array.toList_range] at ih ⊢
    rw [Nat.succ_mul,List.range_add,List.map_append,ih,List.replicate_succ',List.flatten_append]
    congr 1
    simp only [List.map_map,List.flatten_singleton]
    apply List.ext_getElem
    · simp
    · intro i h1 h2
      simp at h1
      simp [Nat.add_mul_mod_self_right,Nat.mod_eq_of_lt h1,Nat.add_comm (c * zc.size) i,h1]
noncomputable def c_mks (P:Program) (T sz by_:Nat) (z:List AV) (x y:AOd):Op→Bool
  | .makeSlice t x' y'=>undT P t (fun d=>match d with | .slice e=>Nat.beq e T | _=>false) && (szT P T sz && (byT P T by_ && (zT P T z && (Nat.beq (len z) sz && (chkD x x' && chkD y y')))))
  | _=>false
theorem e_mks {T sz by_:Nat} {z:List AV} {x y:AOd} {op:Op} (hc:c_mks P T sz by_ z x y op=true):OkE C P op (o_mks T sz by_ z x y):=by
  intro σA h v h' hr μ σ w hE S o ho
  unfold c_mks at hc
  split at hc
  · rename_i t x' y'
    simp only [Bool.and_eq_true] at hc
    obtain ⟨c1,c2,c3,c4,c5,c6,c7⟩:=hc
    obtain ⟨d,d1,d2⟩:=undT_ok c1
    split at d2 <;> first | (cases d2;done) | skip
    have e:=Nat.eq_of_beq_eq_true d2
    subst e
    rename_i e
    obtain ⟨i,i1,i2⟩:=szT_info c2
    obtain ⟨i',j1,j2⟩:=byT_info c3
    obtain ⟨i'',zv,k1,k2,k3⟩:=zT_info c4
    rw [i1] at j1 k1;cases j1;cases k1
    have hz:=Nat.eq_of_beq_eq_true c5
    unfold o_mks at hr
    split at hr
    · rename_i l c hl hcc
      obtain ⟨hb,hr⟩:=ifO_some hr
      cases hr
      simp only [Bool.and_eq_true,Nat.ble_eq] at hb
      obtain ⟨⟨⟨b1,b2⟩,b3⟩,b4⟩:=hb
      have hx:=chkD_ok c6 hE;rw [natOf_some hl] at hx
      have hy:=chkD_ok c7 hE;rw [natOf_some hcc] at hy
      have hx:ev σ x'=.int .i64 (l:Int):=hx
      have hy:ev σ y'=.int .i64 (c:Int):=hy
      have zlen:zv.cells.size=sz:=by rw [← hz,len_eq,← rvL_len (k3 μ)];simp
      have hrun:=run_makeSlice (P:=P) w t e i zv d1 i1 k2 .i64 .i64 (l:Int) (c:Int) (by omega) (by omega) (by rw [i2,Int.toNat_natCast];exact b2) (by rw [j2];have hb:=Int.ofNat_le.2 b3;rw [Int.natCast_mul] at hb;exact hb) (by omega)
      simp only [Int.toNat_natCast,i2] at hrun
      have hcells:(madeCells zv.cells (c * sz))=((List.replicate c zv.cells.toList).flatten).toArray:=by
        apply Array.ext'
        have:=range_cells (zc:=zv.cells) (n:=0) c
        simp only [or_false] at this
        rw [zlen] at this
        show ((Array.range (c * sz)).map (zv.cells[· % zv.cells.size]!)).toList=_
        rw [zlen,this]
      rw [hcells] at hrun
      obtain ⟨μ',h1,h2,h3,h4⟩:=new_cells (T:=e) S (rvL_rep (k3 μ) c)
      refine ⟨μ',_,_,h1,h2,⟨_,h4,b1,rfl⟩,h3,by rw [ho];rfl,?_⟩
      simp [execOp,ho,hx,hy,hrun,Result.andThen]
    · cases hr
  · cases hc
noncomputable def c_blds (P:Program) (T n:Nat) (z:List AV) (ps:List (Nat × Nat × AOd)):Op→Bool
  | .buildSlice t m qs=>Nat.beq m n && (undT P t (fun d=>match d with | .slice e=>Nat.beq e T | _=>false) && (match P.info? T with
      | some i=>Nat.ble (n * i.size) 16777216 && (chkPs (fun k=>some (k * i.size,i.size)) ps qs.toList && (match i.zero with
        | some v=>okcL z ((List.range (n * i.size)).map fun k=>v.cells[k % v.cells.size]!)
        | none=>false))
      | none=>false))
  | _=>false
theorem e_blds {T n:Nat} {z:List AV} {ps:List (Nat × Nat × AOd)} {op:Op} (hc:c_blds P T n z ps op=true):OkE C P op (o_blds T n z ps):=by
  intro σA h v h' hr μ σ w hE S o ho
  unfold c_blds at hc
  split at hc
  · rename_i t m qs
    simp only [Bool.and_eq_true] at hc
    obtain ⟨c1,c2,c3⟩:=hc
    have e:=Nat.eq_of_beq_eq_true c1
    subst e
    obtain ⟨d,d1,d2⟩:=undT_ok c2
    split at d2 <;> first | (cases d2;done) | skip
    have e:=Nat.eq_of_beq_eq_true d2
    subst e
    rename_i e
    split at c3
    · rename_i i hi
      simp only [Bool.and_eq_true,Nat.ble_eq] at c3
      obtain ⟨c3,c4,c5⟩:=c3
      split at c5
      · rename_i zv hz
        unfold o_blds at hr
        split at hr
        · rename_i r hr3
          cases hr
          obtain ⟨R,r1,r2,r3⟩:=fill_ok hE hr3 c4 (okcL_ok μ c5)
          have hf:=fill_of_lay _ _ _ _ r1
          obtain ⟨μ',h1,h2,h3,h4⟩:=new_cells (T:=e) S r2
          refine ⟨μ',_,_,h1,h2,⟨_,h4,Nat.le_refl _,rfl⟩,h3,by rw [ho];rfl,?_⟩
          have hs:∀ w,(sizeOf e).run P w=.ok i.size w:=fun w=>by simp [sizeOf,typeInfo,hi]
          have hn':¬ m * i.size > 2 ^ 24:=by omega
          have hq:(qs.map fun (p:Nat × Operand)=>(p.1,ev σ p.2)).toList=qs.toList.map fun (p:Nat × Operand)=>(p.1,ev σ p.2):=by simp
          by_cases h0:m * i.size=0
          · rw [h0] at hf
            simp only [List.range_zero,List.map_nil] at hf
            have hr0:(Array.range 0).map (fun x=>(#[]:Array Value)[x % (#[]:Array Value).size]!)=#[]:=by rw [show (Array.range 0)=#[] from rfl,Array.map_empty]
            have hn0:¬ (0:Nat) > 2 ^ 24:=by decide
            simp only [execOp,ho,Instr.buildSlice,Sem.run_bind,run_und d1,hs,Result.andThen_ok,h0,if_neg hn0,if_true,Sem.run_pure,hq,hr0,hf]
            simp [newRow,newObj,Sem.run,Result.andThen]
          · have hzs:(Array.range (m * i.size)).map (zv.cells[· % zv.cells.size]!)=((List.range (m * i.size)).map fun k=>zv.cells[k % zv.cells.size]!).toArray:=by rw [← List.toArray_range,List.map_toArray]
            simp only [execOp,ho,Instr.buildSlice,Sem.run_bind,run_und d1,hs,run_zero hi hz,Result.andThen_ok,if_neg hn',if_neg h0,Sem.run_pure,hq,hzs,hf]
            simp [newRow,newObj,Sem.run,Result.andThen]
        · cases hr
      · cases c5
    · cases c3
  · cases hc
end
end Go.KX
namespace Go.KX
open Go.RowKit Go.KL
section
variable {C:Chk} {P:Program} {μ μ':Mu} {w w':World} {h h':AH} {σ:Env} {σA:Tr AV} {t e:TypeId} {o:Oper}
theorem setAt_ok {b:Pos} {off:Nat} {vs:List AV} {VS:List Value} {c:Cl} (hr:setAt h b off vs=some h') (S:Sim C P μ h w) (hv:RvL μ vs VS) (h1:∀ v ∈ VS,one v=true) (hc:μ b=some c) :
    ∃ w',(storeCells ⟨c.1,off,none⟩ VS).run P w=.ok () w'∧Sim C P μ h' w'∧Ext μ h.fl.nat w μ w'∧h'.fl=h.fl:=by
  unfold setAt at hr
  split at hr
  · rename_i T l hB
    split at hr
    · rename_i l' hl
      obtain ⟨c',g1,vs0,g2,g3⟩:=S.at_ b _ hB
      rw [hc] at g1;cases g1
      obtain ⟨k1,k2⟩:=rvL_over hl g2 hv
      obtain ⟨w',q1,q2,q3,q4⟩:=run_storeCells (P:=P) off VS 0 vs0 w g3 k1 h1
      obtain ⟨s1,s2,s3⟩:=S.put hr hB trivial hc q3 (B':=.cells T l') ⟨_,k2,q2⟩
      exact ⟨w',q1,s1,s2,s3⟩
    · cases hr
  · rename_i T sz l hB
    split at hr
    · rename_i l' hl
      obtain ⟨c',g1,vs0,g2,g3⟩:=S.at_ b _ hB
      rw [hc] at g1;cases g1
      obtain ⟨k1,k2⟩:=rvL_over hl g2 hv
      obtain ⟨cur,r1,r2,r3,r4,r5⟩:=RowAt.cells g3
      have hB':Blk w c.1 T cur.toList:=by unfold Blk;rw [r1]
      have hcl:vs0.length ≤ cur.toList.length:=by rw [← r5];simp;omega
      obtain ⟨w',q1,q2,q3,q4⟩:=run_storeCells (P:=P) off VS 0 cur.toList w hB' (by omega) h1
      obtain ⟨s1,s2,s3⟩:=S.put hr hB trivial hc q3 (B':=.row T sz l') ⟨_,k2,.inr ⟨c.1,(setN cur.toList (off + 0) VS).toArray,rfl,q2,by rw [setN_length];exact r2,r3,by simp [setN_length,r4],by
        rw [setN_length,Nat.add_zero]
        show (setN cur.toList off VS).take vs0.length=_
        rw [setN_take _ _ _ _ k1,r5]⟩⟩
      exact ⟨w',q1,s1,s2,s3⟩
    · cases hr
  · cases hr
noncomputable def c_st (P:Program) (n:Nat) (x y:AOd):Op→Bool
  | .store t x' y'=>szT P t n && (chkD x x' && chkD y y')
  | _=>false
theorem u_st {n:Nat} {x y:AOd} {op:Op} (hc:c_st P n x y op=true):OkU C P op (o_st n x y):=by
  intro σA h v h' hr μ σ w hE S o ho
  unfold c_st at hc
  split at hc
  · rename_i t x' y'
    simp only [Bool.and_eq_true] at hc
    obtain ⟨c1,c2,c3⟩:=hc
    unfold o_st at hr
    split at hr
    · rename_i b off hb
      split at hr
      · rename_i hk
        simp only [Bool.and_eq_true] at hk
        split at hr
        · rename_i h1 hs
          cases hr
          have g:=chkD_ok c2 hE;rw [hb] at g
          obtain ⟨c,g1,g2⟩:=g
          obtain ⟨VS,v1,v2⟩:=rv_cells (chkD_ok c3 hE)
          obtain ⟨w',q1,q2,q3,q4⟩:=setAt_ok hs S v1 (rvL_ones v1 hk.2) g1
          have hn:=Nat.eq_of_beq_eq_true hk.1
          have hlen:VS.length=n:=by rw [rvL_len v1,← len_eq,hn]
          refine ⟨μ,w',q3,q2,rfl,q4,by rw [ho];rfl,?_⟩
          simp [execOp,ho,Instr.storeAt,g2,Instr.sureAddr,storeVar,v2,szT_ok c1,hlen,q1]
        · cases hr
      · cases hr
    · cases hr
  · cases hc
theorem slice_ok {sz m:Nat} {a:AV} {l:List AV} {y:Value} (hr:slice h sz a=some (m,l)) (S:Sim C P μ h w) (hy:Rv μ a y) :
    ∃ A c VS,y=.slice A m c∧RvL μ l VS∧VS.length=m * sz∧(m=0 ∨ ∃ ad,A=some ad∧∀ j u,VS[j]?=some u→w.cell? (ad.add j)=some u):=by
  have key:∀ (b:Pos) (off m:Nat) (c:Cl) (l0 r:List AV),μ b=some c→cellsAt h b=some l0→sub l0 off (m * sz)=some r→∃ VS,RvL μ r VS∧VS.length=m * sz∧∀ j u,VS[j]?=some u→w.cell? ((⟨c.1,off,none⟩:Addr).add j)=some u:=by
    intro b off m c l0 r hc hl hs
    obtain ⟨c',vs,h1,h2,h3⟩:=cellsAt_ok hl S
    rw [hc] at h1;cases h1
    obtain ⟨g1,g2⟩:=rvL_sub hs h2
    exact ⟨_,g1,by simp;omega,fun j u hu=>by rw [add_off];exact h3 w (Keep.refl w _) _ _ (sub_cells rfl j u hu)⟩
  unfold slice at hr
  split at hr
  · cases hr
    have hy:y=.slice none 0 0:=hy
    exact ⟨none,0,[],hy,rfl,by simp,.inl rfl⟩
  · cases hr
    obtain ⟨d,_,q,rfl⟩:=hy
    exact ⟨_,_,[],rfl,rfl,by simp,.inl rfl⟩
  · split at hr
    · rename_i l0 hl
      split at hr
      · rename_i r hs
        cases hr
        obtain ⟨d,h1,_,rfl⟩:=hy
        obtain ⟨VS,v1,v2,v3⟩:=key _ _ _ _ _ _ h1 hl hs
        exact ⟨_,_,VS,rfl,v1,v2,.inr ⟨_,rfl,v3⟩⟩
      · cases hr
    · cases hr
  · split at hr
    · rename_i l0 hl
      split at hr
      · rename_i r hs
        cases hr
        obtain ⟨d,h1,_,rfl⟩:=hy
        obtain ⟨VS,v1,v2,v3⟩:=key _ _ _ _ _ _ h1 hl hs
        exact ⟨_,_,VS,rfl,v1,v2,.inr ⟨_,rfl,v3⟩⟩
      · cases hr
    · cases hr
  · cases hr
theorem run_append_zero {A A2:Option Addr} {n c c2 ty:Nat} {inf:TypeInfo} (ht:P.underlying t=some (.slice e)) (hi:P.info? e=some inf) (hnc:n ≤ c):(Builtin.append_ #[t,t] ty #[.slice A n c,.slice A2 0 c2]).run P w=.ok (.slice A n c) w:=by
  have hs:∀ w,(sizeOf e).run P w=.ok inf.size w:=fun w=>by simp [sizeOf,typeInfo,hi]
  cases A <;> cases A2 <;> simp [Builtin.append_,run_und ht,hs,Builtin.lenOf,Builtin.firstCells,hnc,storeCells,loadCells,loadCellsFrom]
theorem new_row {T sz c:Nat} {l:List AV} {cs:List Value} {cur:Array Value} (S:Sim C P μ h w) (K:Keep w w' Non) (hl:RvL μ l cs) (hn:w'.heap[w.heap.size]?=some (.cells cur T (0,0))) (h1:cs.length ≤ c * sz) (h2:c ≤ maxLen) (h3:cur.size=c * sz) (h4:cur.toList.take cs.length=cs) :
    ∃ μ',Ext μ h.fl.nat w μ' w'∧Sim C P μ' (h.push (.row T sz l)) w'∧(h.push (.row T sz l)).fl=h.fl∧μ' h.nx=some ⟨w.heap.size,c,g0⟩:=by
  have hle:=Mu.add_le (c:=⟨w.heap.size,c,g0⟩) (S.nx h.nx (Nat.le_refl _))
  obtain ⟨q1,q2,q3,q4⟩:=S.push (w':=w') (c:=⟨w.heap.size,c,g0⟩) (B:=.row T sz l) K (Nat.le_refl _) (lt_of_some hn) ⟨cs,hl.mono hle,.inr ⟨_,cur,rfl,hn,h1,h2,h3,h4⟩⟩
  exact ⟨_,q2,q1,q3,q4⟩
noncomputable def c_app (P:Program) (T sz by_:Nat) (x y:AOd):Op→Bool
  | .call c=>match c.callee with
    | .builtin b=>(b == .append) && (match c.args.toList,c.argTypes.toList with
      | [x',y'],[t,t']=>Nat.beq t t' && (undT P t (fun d=>match d with | .slice e=>Nat.beq e T | _=>false) && (chkD x x' && (chkD y y' && (szT P T sz && (byT P T by_ && (match P.info? T with
        | some i=>match i.zero with | some v=>Nat.beq v.cells.size sz && (Nat.blt 0 sz && Nat.blt 0 by_) | none=>false
        | none=>false))))))
      | _,_=>false)
    | _=>false
  | _=>false
theorem c_app_ok {T sz by_:Nat} {x y:AOd} {op:Op} (hc:c_app P T sz by_ x y op=true) :
    ∃ x' y' t i z,op=.call { callee:=.builtin .append,args:=#[x',y'],argTypes:=#[t,t] }∧P.underlying t=some (.slice T)∧chkD x x'=true∧chkD y y'=true∧P.info? T=some i∧i.zero=some z∧i.size=sz∧i.bytes=by_∧z.cells.size=sz∧0 < sz∧0 < by_:=by
  unfold c_app at hc
  split at hc
  · rename_i c
    obtain ⟨ce,args,tys⟩:=c
    simp only at hc
    split at hc
    · rename_i b
      simp only [Bool.and_eq_true,beq_iff_eq] at hc
      obtain ⟨rfl,h2⟩:=hc
      split at h2
      · rename_i x' y' t t' h3 h4
        simp only [Bool.and_eq_true] at h2
        obtain ⟨a1,a2,a3,a4,a5,a6,a7⟩:=h2
        have e:=Nat.eq_of_beq_eq_true a1
        subst e
        obtain ⟨d,d1,d2⟩:=undT_ok a2
        split at d2 <;> first | (cases d2;done) | skip
        have e:=Nat.eq_of_beq_eq_true d2
        subst e
        obtain ⟨i,i1,i2⟩:=szT_info a5
        obtain ⟨j,j1,j2⟩:=byT_info a6
        rw [i1] at j1;cases j1
        rw [i1] at a7
        simp only at a7
        split at a7
        · rename_i z hz
          simp only [Bool.and_eq_true,Nat.blt_eq] at a7
          refine ⟨x',y',t,i,z,?_,d1,a3,a4,i1,hz,i2,j2,Nat.eq_of_beq_eq_true a7.1,a7.2.1,a7.2.2⟩
          congr 2
          · exact Array.ext' (by simpa using h3)
          · exact Array.ext' (by simpa using h4)
        · cases a7
      · cases h2
    · cases hc
  · cases hc
theorem one_eq (v:Value) (h1:one v=true):v.oneCell'=true:=by cases v <;> first | rfl | cases h1
theorem e_app {T sz by_:Nat} {x y:AOd} {op:Op} (hc:c_app P T sz by_ x y op=true):OkE C P op (o_app T sz by_ x y):=by
  intro σA h v h' hr μ σ w hE S o ho
  obtain ⟨x',y',t,i,z,rfl,ht,c1,c2,hi,hz,i2,j2,hzs,hsz,hby⟩:=c_app_ok hc
  unfold o_app at hr
  split at hr
  · rename_i m news hs
    obtain ⟨hones,hr'⟩:=ifO_some hr
    clear hr;have hr:=hr';clear hr'
    obtain ⟨A2,cc2,NS,e2,n1,n2,n3⟩:=slice_ok hs S (chkD_ok c2 hE)
    have hx:=chkD_ok c1 hE
    have h1:∀ u ∈ NS,u.oneCell'=true:=fun u hu=>one_eq u (rvL_ones n1 hones u hu)
    have fin:∀ {μ':Mu} {w':World} {cv:Value},Ext μ h.fl.nat w μ' w'→Sim C P μ' h' w'→Rv μ' v cv→h'.fl=h.fl→(Builtin.append_ #[t,t] o.type #[ev σ x',ev σ y']).run P w=.ok cv w' →
        ∃ μ' w' cv,Ext μ h.fl.nat w μ' w'∧Sim C P μ' h' w'∧Rv μ' v cv∧h'.fl=h.fl∧Runs P σ w o cv w':=fun a b c d f =>
      ⟨_,_,_,a,b,c,d,by rw [ho];rfl,by simp [execOp,ho,resolve,invoke,builtin,f]⟩
    unfold app at hr
    split at hr
    · have zero:∀ {A:Option Addr} {n c:Nat},ev σ x'=.slice A n c→n ≤ c→Rv μ v (.slice A n c)→h'=h→∃ μ' w' cv,Ext μ h.fl.nat w μ' w'∧Sim C P μ' h' w'∧Rv μ' v cv∧h'.fl=h.fl∧Runs P σ w o cv w':=by
        intro A n c hA hnc hv hh
        subst hh
        exact fin (Ext.refl μ _ w) S hv rfl (by rw [hA,e2];exact run_append_zero ht hi hnc)
      split at hr <;> cases hr <;> rename_i hb <;> rw [hb] at hx
      · have g:ev σ x'=.slice none 0 0:=hx
        exact zero g (Nat.le_refl _) rfl rfl
      · obtain ⟨d,g1,g2,g3⟩:=hx
        exact zero g3 g2 ⟨d,g1,g2,rfl⟩ rfl
      · obtain ⟨d,g1,g2,g3⟩:=hx
        exact zero g3 (by omega) ⟨d,g1,g2,rfl⟩ rfl
    · rename_i m
      obtain ⟨ad,rfl,hcell⟩:∃ ad,A2=some ad∧∀ j u,NS[j]?=some u→w.cell? (ad.add j)=some u:=by
        rcases n3 with h0 | h0
        · cases h0
        · exact h0
      have maxb:(140737488355328:Nat) ≤ maxLen:=by decide
      have lenb:∀ n:Nat,n * by_ ≤ 140737488355328→n ≤ 140737488355328:=fun n hn=>Nat.le_trans (Nat.le_mul_of_pos_right _ hby) hn
      split at hr
      · rename_i hb
        rw [hb] at hx
        have hx:ev σ x'=.slice none 0 0:=hx
        obtain ⟨hble,hr'⟩:=ifO_some hr
        clear hr;have hr:=hr';clear hr'
        cases hr
        have hble:=Nat.le_of_ble_eq_true hble
        obtain ⟨A',c',w',r1,r2,r3,r4⟩:=run_append_row (P:=P) (w:=w) (A:=none) (c:=0) (n:=0) (cs:=[]) (ty:=o.type) (c2:=cc2) ht hi hz i2 hzs hsz (.inl ⟨rfl,rfl,rfl⟩) (by simp) n2 (.inr ⟨ad,rfl,hcell⟩) h1 (by rw [j2,Nat.zero_add];exact hble) (by omega)
        rcases r2 with ⟨_,_,q⟩ | ⟨b,cur,rfl,q1,q2,q3,q4,q5⟩
        · exfalso
          have:([] ++ NS).length=0:=by rw [q];rfl
          rw [List.nil_append,n2] at this
          have:=Nat.mul_pos (Nat.succ_pos m) hsz
          omega
        · have hb:w.heap.size ≤ b:=by
            rcases r4 b rfl with q | q
            · cases q
            · exact q
          have K:Keep w w' Non:=r3.weak fun i _ q=>by cases q
          rw [List.nil_append] at q2 q5
          have hle:=Mu.add_le (c:=⟨b,c',g0⟩) (S.nx h.nx (Nat.le_refl _))
          obtain ⟨s1,s2,s3,s4⟩:=S.push (w':=w') (c:=⟨b,c',g0⟩) (B:=.row T sz news) K hb (lt_of_some q1) ⟨NS,n1.mono hle,.inr ⟨_,cur,rfl,q1,q2,q3,q4,q5⟩⟩
          refine fin s2 s1 ⟨_,s4,?_,?_⟩ s3 (by rw [hx,e2];exact r1)
          · rw [n2] at q2
            have:=Nat.le_of_mul_le_mul_right q2 hsz
            simpa using this
          · simp
      · rename_i b off n c hb
        rw [hb] at hx
        obtain ⟨d,g1,g2,g3⟩:=hx
        split at hr
        · rename_i hle
          have hle:=Nat.le_of_ble_eq_true hle
          split at hr
          · rename_i h1' hset
            cases hr
            obtain ⟨w',q1,q2,q3,q4⟩:=setAt_ok hset S n1 (rvL_ones n1 hones) g1
            refine fin q3 q2 ⟨d,g1,hle,rfl⟩ q4 ?_
            rw [g3,e2]
            have hf:=run_firstCells_some (P:=P) w i.size (m + 1) ad (m + 1) cc2 NS (by rw [i2];exact n2) hcell
            rw [i2] at hf
            simp [Builtin.append_,run_und ht,sizeOf,typeInfo,hi,Builtin.lenOf,hle,hf,add_off,i2,q1]
          · cases hr
        · rename_i hlt
          obtain ⟨hble,hr'⟩:=ifO_some hr
          clear hr;have hr:=hr';clear hr'
          have hble:=Nat.le_of_ble_eq_true hble
          split at hr
          · rename_i nn olds hold
            cases hr
            have hgt:c < n + (m + 1):=by
              rcases Nat.lt_or_ge c (n + (m + 1)) with q | q
              · exact q
              · have q':Nat.ble (n + (m + 1)) c=true:=by rw [Nat.ble_eq];exact q
                rw [q'] at hlt;cases hlt
            obtain ⟨A1,cc1,OS,k1,k2,k3,k4⟩:=slice_ok hold S (show Rv μ (.sl b off n c) _ from ⟨d,g1,g2,rfl⟩)
            cases k1
            have hlen:=lenb _ hble
            have olds':∀ j v,OS[j]?=some v→w.cell? ((⟨d.1,off,none⟩:Addr).add j)=some v:=by
              rcases k4 with q | ⟨ad',q1,q2⟩
              · intro j v hv
                have hnil:OS=[]:=List.eq_nil_of_length_eq_zero (by rw [k3,q];simp)
                rw [hnil] at hv
                simp at hv
              · cases q1;exact q2
            have hr:=run_append_grow (P:=P) w t o.type T i z ht hi hz ⟨d.1,off,none⟩ n c OS (by rw [i2];exact k3) olds' ad (m + 1) cc2 NS (by rw [i2];exact n2) hcell hgt (by omega) (growslice_fits hgt (by rw [j2];exact hble))
            have hge:=grownCap_ge w (n + (m + 1)) c T
            have hcm:grownCap w (n + (m + 1)) c T ≤ maxLen:=grownCap_le_maxLen w (n + (m + 1)) c T (by omega)
            have hlen2:(OS ++ NS).length=(n + (m + 1)) * sz:=by rw [List.length_append,k3,n2,Nat.add_mul]
            obtain ⟨μ',s1,s2,s3,s4⟩:=new_row (T:=T) (sz:=sz) (c:=grownCap w (n + (m + 1)) c T) (w':=w.drew.alloc (.cells (OS.toArray ++ NS.toArray ++ Builtin.zeroCells z.cells (grownCap w (n + (m + 1)) c T - (n + (m + 1)))) T)) (cur:=OS.toArray ++ NS.toArray ++ Builtin.zeroCells z.cells (grownCap w (n + (m + 1)) c T - (n + (m + 1)))) S
              ((Keep.drew w).non (alloc_keep w.drew _)) (rvL_app k2 n1) (heap_alloc_new w.drew _) (by rw [hlen2];exact Nat.mul_le_mul_right _ hge) hcm
              (by
                simp only [Array.size_append,List.size_toArray,size_zeroCells,hzs,k3,n2,← Nat.add_mul]
                congr 1
                omega)
              (by simp only [Array.toList_append,List.append_assoc];rw [← List.append_assoc];exact List.take_left)
            refine fin s1 s2 ⟨_,s4,?_,?_⟩ s3 (by rw [g3,e2];exact hr)
            · simpa using hge
            · simp
          · cases hr
      · rename_i b eo co n hb
        rw [hb] at hx
        obtain ⟨d,g1,g2,g3⟩:=hx
        split at hr
        · rename_i T' sz' l hB
          split at hr
          · rename_i hin
            simp only [Bool.and_eq_true] at hin
            obtain ⟨p1,p2,p3,p4⟩:=hin
            have p1:=Nat.le_of_ble_eq_true p1
            have p2:=Nat.eq_of_beq_eq_true p2
            have p3:=Nat.eq_of_beq_eq_true p3
            have p4:=Nat.eq_of_beq_eq_true p4
            subst p2 p3 p4
            split at hr
            · rename_i h1' hset
              cases hr
              obtain ⟨d',k1,OS,k2,k3⟩:=S.at_ b _ hB
              rw [g1] at k1;cases k1
              obtain ⟨cur,r1,r2,_⟩:=RowAt.cells k3
              have hle:n + (m + 1) ≤ d.2:=by
                rw [len_eq,← rvL_len k2] at p1
                exact Nat.le_of_mul_le_mul_right (Nat.le_trans p1 r2) hsz
              obtain ⟨w',q1,q2,q3,q4⟩:=setAt_ok hset S n1 (rvL_ones n1 hones) g1
              refine fin q3 q2 ⟨d,g1,by omega,rfl⟩ q4 ?_
              rw [g3,e2]
              have hf:=run_firstCells_some (P:=P) w i.size (m + 1) ad (m + 1) cc2 NS (by rw [i2];exact n2) hcell
              rw [i2] at hf
              simp [Builtin.append_,run_und ht,sizeOf,typeInfo,hi,Builtin.lenOf,hle,hf,add_off,i2,q1]
            · cases hr
          obtain ⟨hcond,hr'⟩:=ifO_some hr
          clear hr;have hr:=hr';clear hr'
          simp only [Bool.and_eq_true] at hcond
          obtain ⟨⟨⟨⟨⟨q1,q2⟩,q3⟩,q4⟩,q5⟩,q6⟩:=hcond
          have q1:=Nat.eq_of_beq_eq_true q1
          have q2:=Nat.eq_of_beq_eq_true q2
          have q3:=Nat.eq_of_beq_eq_true q3
          have q4:=Nat.eq_of_beq_eq_true q4
          have q5:=Nat.eq_of_beq_eq_true q5
          have hble:=Nat.le_of_ble_eq_true q6
          subst q1 q2 q3 q4
          split at hr
          · rename_i h1' hput
            cases hr
            obtain ⟨d',k1,OS,k2,k3⟩:=S.at_ b _ hB
            rw [g1] at k1;cases k1
            have hol:OS.length=n * sz:=by rw [rvL_len k2,← len_eq,← q5]
            obtain ⟨A',c',w',r1,r2,r3,r4⟩:=run_append_row (P:=P) (w:=w) (A:=some ⟨d.1,0,none⟩) (c:=d.2) (n:=n) (cs:=OS) (ty:=o.type) (c2:=cc2) ht hi hz i2 hzs hsz k3 hol n2 (.inr ⟨ad,rfl,hcell⟩) h1 (by rw [j2];exact hble) (by omega)
            rcases r2 with ⟨_,_,q⟩ | ⟨b',cur,rfl,p1,p2,p3,p4,p5⟩
            · exfalso
              have:(OS ++ NS).length=0:=by rw [q];rfl
              rw [List.length_append,n2] at this
              have:=Nat.mul_pos (Nat.succ_pos m) hsz
              omega
            · have hb':b'=d.1 ∨ w.heap.size ≤ b':=by
                rcases r4 b' rfl with q | q
                · cases q;exact .inl rfl
                · exact .inr q
              have K:Keep w w' (·=d.1):=r3.weak fun i _ q=>by cases q;rfl
              have hle:=Mu.add_le (c:=⟨b',c',g0⟩) (S.nx h.nx (Nat.le_refl _))
              have hnx:h.nx=h.nx:=rfl
              obtain ⟨s1,s2,s3,s4⟩:=S.move (w':=w') (d:=⟨b',c',g0⟩) (B':=.row T sz (l ++ news)) hput hB trivial g1 K hb' (lt_of_some p1) ⟨OS ++ NS,(rvL_app k2 n1).mono hle,.inr ⟨_,cur,rfl,p1,p2,p3,p4,p5⟩⟩
              refine fin s2 s1 ⟨_,s4,?_,?_⟩ s3 (by rw [g3,e2];simpa using r1)
              · rw [List.length_append,hol,n2,← Nat.add_mul] at p2
                have:=Nat.le_of_mul_le_mul_right p2 hsz
                simpa using this
              · simp
          · cases hr
        · cases hr
      · cases hr
  · cases hr
noncomputable def c_cpy (P:Program) (sz:Nat) (x y:AOd):Op→Bool
  | .call c=>match c.callee with
    | .builtin b=>(b == .copy) && (match c.args.toList,c.argTypes.toList with
      | [x',y'],t :: _=>undT P t (fun d=>match d with | .slice e=>szT P e sz | _=>false) && (chkD x x' && chkD y y')
      | _,_=>false)
    | _=>false
  | _=>false
theorem e_cpy {sz:Nat} {x y:AOd} {op:Op} (hc:c_cpy P sz x y op=true):OkE C P op (o_cpy sz x y):=by
  intro σA h v h' hr μ σ w hE S o ho
  unfold c_cpy at hc
  split at hc
  · rename_i c
    obtain ⟨ce,args,tys⟩:=c
    simp only at hc
    split at hc
    · rename_i b
      simp only [Bool.and_eq_true,beq_iff_eq] at hc
      obtain ⟨rfl,h2⟩:=hc
      split at h2
      · rename_i x' y' t ts h3 h4
        simp only [Bool.and_eq_true] at h2
        obtain ⟨a1,a2,a3⟩:=h2
        obtain ⟨d,d1,d2⟩:=undT_ok a1
        split at d2 <;> first | (cases d2;done) | skip
        rename_i e
        have ea:args=#[x',y']:=Array.ext' (by simpa using h3)
        have et:tys[0]?=some t:=by rw [← Array.getElem?_toList,h4];rfl
        unfold o_cpy at hr
        split at hr
        · rename_i b off n cc m news hx hs
          split at hr
          · rename_i vs hsub
            obtain ⟨hones,hr'⟩:=ifO_some hr
            clear hr;have hr:=hr';clear hr'
            split at hr
            · rename_i h1' hset
              cases hr
              have g:=chkD_ok a2 hE;rw [hx] at g
              obtain ⟨c0,g1,_,g3⟩:=g
              obtain ⟨A2,cc2,NS,e2,n1,n2,n3⟩:=slice_ok hs S (chkD_ok a3 hE)
              generalize hk:(if Nat.ble m n=true then m else n)=k at hsub ⊢
              have hmin:Nat.min m n=k:=by
                rw [← hk]
                by_cases q:m ≤ n
                · rw [if_pos (by rw [Nat.ble_eq];exact q)];exact Nat.min_eq_left q
                · rw [if_neg (by rw [Nat.ble_eq];exact q)];exact Nat.min_eq_right (by omega)
              obtain ⟨k1,k2⟩:=rvL_sub hsub n1
              rw [List.drop_zero] at k1
              obtain ⟨w',q1,q2,q3,q4⟩:=setAt_ok hset S k1 (rvL_ones k1 hones) g1
              refine ⟨μ,w',_,q3,q2,rfl,q4,by rw [ho];rfl,?_⟩
              have hf:∀ (w1:World),w1=w→(Builtin.firstCells sz k (.slice A2 m cc2)).run P w1=.ok (NS.take (k * sz)).toArray w1:=by
                intro w1 hw1
                subst hw1
                cases A2 with
                | none =>
                  have hm:m=0:=by
                    rcases n3 with q | ⟨_,q,_⟩
                    · exact q
                    · cases q
                  have hN:NS=[]:=List.eq_nil_of_length_eq_zero (by rw [n2,hm];simp)
                  subst hN
                  simp [Builtin.firstCells]
                | some ad =>
                  have hcell:∀ j u,(NS.take (k * sz))[j]?=some u→w1.cell? (ad.add j)=some u:=by
                    intro j u hu
                    rw [List.getElem?_take] at hu
                    split at hu
                    · rcases n3 with q | ⟨ad',q,q'⟩
                      · have hN:NS=[]:=List.eq_nil_of_length_eq_zero (by rw [n2,q];simp)
                        subst hN;simp at hu
                      · cases q;exact q' j u hu
                    · cases hu
                  exact run_firstCells_some (P:=P) w1 sz k ad m cc2 (NS.take (k * sz)) (by rw [List.length_take];omega) hcell
              have hs2:=szT_ok d2
              simp [execOp,ho,ea,et,resolve,invoke,builtin,Builtin.copy_,run_und d1,g3,e2,Builtin.lenOf,hmin,hs2,hf w rfl,q1,goInt,Result.andThen]
            · cases hr
          · cases hr
        · cases hr
      · cases h2
    · cases hc
  · cases hc
noncomputable def c_clr (P:Program) (z:List AV) (x:AOd):Op→Bool
  | .call c=>match c.callee with
    | .builtin b=>(b == .clear) && (match c.args.toList,c.argTypes.toList with
      | [x'],[t]=>undT P t (fun d=>match d with | .slice e=>zT P e z | _=>false) && chkD x x'
      | _,_=>false)
    | _=>false
  | _=>false
theorem zeroCells_list {zc:Array Value} (c:Nat):(Builtin.zeroCells zc c).toList=(List.replicate c zc.toList).flatten:=by
  have:=range_cells (zc:=zc) (n:=0) c
  simp only [or_false] at this
  exact this
noncomputable def c_apz (P:Program) (T sz by_:Nat) (z:List AV) (x y:AOd):Op→Bool
  | .call c=>match c.callee with
    | .builtin b=>(b == .append) && (match c.args.toList,c.argTypes.toList with
      | [x',y'],[t,t']=>undT P t (fun d=>match d with | .slice e=>Nat.beq e T | _=>false) && (undT P t' (fun d=>match d with | .int _=>true | _=>false) && (chkD x x' && (chkD y y' && (szT P T sz && (byT P T by_ && (zT P T z && (Nat.beq (len z) sz && (Nat.blt 0 sz && Nat.blt 0 by_))))))))
      | _,_=>false)
    | _=>false
  | _=>false
theorem e_apz {T sz by_:Nat} {z:List AV} {x y:AOd} {op:Op} (hc:c_apz P T sz by_ z x y op=true):OkE C P op (o_apz T sz by_ z x y):=by
  intro σA h v h' hr μ σ w hE S o ho
  unfold c_apz at hc
  split at hc <;> first | (cases hc;done) | skip
  rename_i c
  obtain ⟨ce,args,tys⟩:=c
  simp only at hc
  split at hc <;> first | (cases hc;done) | skip
  rename_i b
  simp only [Bool.and_eq_true,beq_iff_eq] at hc
  obtain ⟨rfl,h2⟩:=hc
  split at h2 <;> first | (cases h2;done) | skip
  rename_i x' y' t t' h3 h4
  simp only [Bool.and_eq_true] at h2
  obtain ⟨a1,a2,a3,a4,a5,a6,a7,a8,a9,a10⟩:=h2
  have hargs:args=#[x',y']:=Array.ext' (by simpa using h3)
  have htys:tys=#[t,t']:=Array.ext' (by simpa using h4)
  subst hargs htys
  obtain ⟨d,d1,d2⟩:=undT_ok a1
  split at d2 <;> first | (cases d2;done) | skip
  have e:=Nat.eq_of_beq_eq_true d2
  subst e
  rename_i e
  obtain ⟨dn,n1,n2⟩:=undT_ok a2
  split at n2 <;> first | (cases n2;done) | skip
  rename_i kn
  obtain ⟨i,i1,i2⟩:=szT_info a5
  obtain ⟨i',j1,j2⟩:=byT_info a6
  obtain ⟨i'',zv,k1,k2,k3⟩:=zT_info a7
  rw [i1] at j1 k1;cases j1;cases k1
  have hz:=Nat.eq_of_beq_eq_true a8
  have hsz:0 < sz:=by simpa [Nat.blt_eq] using a9
  have hx:=chkD_ok a3 hE
  have hy:=chkD_ok a4 hE
  have fin:∀ {μ':Mu} {w':World} {cv:Value},Ext μ h.fl.nat w μ' w'→Sim C P μ' h' w'→Rv μ' v cv→h'.fl=h.fl→(Builtin.append_ #[t,t'] o.type #[ev σ x',ev σ y']).run P w=.ok cv w' →
      ∃ μ' w' cv,Ext μ h.fl.nat w μ' w'∧Sim C P μ' h' w'∧Rv μ' v cv∧h'.fl=h.fl∧Runs P σ w o cv w':=fun a b c d f =>
    ⟨_,_,_,a,b,c,d,by rw [ho];rfl,by simp [execOp,ho,resolve,invoke,builtin,f]⟩
  have zlen:zv.cells.size=sz:=by rw [← hz,len_eq,← rvL_len (k3 μ)];simp
  unfold o_apz at hr
  split at hr
  · rename_i nn hxs hn
    rw [hxs] at hx
    rw [natOf_some hn] at hy
    have hx:ev σ x'=.slice none 0 0:=hx
    have hy:ev σ y'=.int .i64 (nn:Int):=hy
    cases nn with
    | zero =>
      cases hr
      refine fin (Ext.refl μ _ w) S rfl rfl ?_
      rw [hx,hy]
      simp [Builtin.append_,run_underlying d1,run_underlying n1,sizeOf,typeInfo,i1,asInt,asIntOf,IntKind.wrap_i64]
    | succ m =>
      obtain ⟨hble,hr⟩:=ifO_some hr
      have hble:=Nat.le_of_ble_eq_true hble
      cases hr
      have hby:0 < by_:=by simpa [Nat.blt_eq] using a10
      have hnb:m + 1 ≤ 140737488355328:=Nat.le_trans (Nat.le_mul_of_pos_right _ hby) hble
      have hrun:=Go.Lib.run_append_nil_zeros (P:=P) w t t' o.type e i zv .i64 kn d1 n1 i1 k2 (m + 1) (by omega) (by rw [i2];exact hsz) (by omega) (by rw [j2];omega)
      have hge:=grownCap_ge w (m + 1) 0 e
      have maxb:(140737488355328:Nat) ≤ maxLen:=by decide
      have hcm:grownCap w (m + 1) 0 e ≤ maxLen:=grownCap_le_maxLen w (m + 1) 0 e (by omega)
      have hcs:((List.replicate (m + 1) zv.cells.toList).flatten).length=(m + 1) * sz:=by rw [← zeroCells_list];simp [size_zeroCells,zlen]
      obtain ⟨μ',s1,s2,s3,s4⟩:=new_row (T:=e) (sz:=sz) (c:=grownCap w (m + 1) 0 e) (w':=w.drew.alloc (.cells (Builtin.zeroCells zv.cells (m + 1) ++ Builtin.zeroCells zv.cells (grownCap w (m + 1) 0 e - (m + 1))) e)) (cur:=Builtin.zeroCells zv.cells (m + 1) ++ Builtin.zeroCells zv.cells (grownCap w (m + 1) 0 e - (m + 1))) S
        ((Keep.drew w).non (alloc_keep w.drew _)) (rvL_rep (k3 μ) (m + 1)) (heap_alloc_new w.drew _) (by rw [hcs];exact Nat.mul_le_mul_right _ hge) hcm
        (by
          simp only [Array.size_append,size_zeroCells,zlen,← Nat.add_mul]
          congr 1
          omega)
        (by
          rw [Array.toList_append,zeroCells_list]
          exact List.take_left)
      refine fin s1 s2 ⟨_,s4,?_,?_⟩ s3 (by rw [hx,hy];exact hrun)
      · simpa using hge
      · simp
  · cases hr
theorem e_clr {z:List AV} {x:AOd} {op:Op} (hc:c_clr P z x op=true):OkE C P op (o_clr z x):=by
  intro σA h v h' hr μ σ w hE S o ho
  unfold c_clr at hc
  split at hc
  · rename_i c
    obtain ⟨ce,args,tys⟩:=c
    simp only at hc
    split at hc
    · rename_i b
      simp only [Bool.and_eq_true,beq_iff_eq] at hc
      obtain ⟨rfl,h2⟩:=hc
      split at h2
      · rename_i x' t h3 h4
        simp only [Bool.and_eq_true] at h2
        obtain ⟨a1,a2⟩:=h2
        obtain ⟨d,d1,d2⟩:=undT_ok a1
        split at d2 <;> first | (cases d2;done) | skip
        rename_i e
        have ea:args=#[x']:=Array.ext' (by simpa using h3)
        have et:tys=#[t]:=Array.ext' (by simpa using h4)
        subst ea et
        have hx:=chkD_ok a2 hE
        obtain ⟨i,zv,z1,z2,z3⟩:=zT_info d2
        have zero:∀ {A:Option Addr} {c:Nat},ev σ x'=.slice A 0 c→v=u→h'=h→∃ μ' w' cv,Ext μ h.fl.nat w μ' w'∧Sim C P μ' h' w'∧Rv μ' v cv∧h'.fl=h.fl∧Runs P σ w o cv w':=by
          intro A c hA hv hh
          subst hv hh
          refine ⟨μ,w,undef,Ext.refl μ _ w,S,rv_u μ,rfl,by rw [ho];rfl,?_⟩
          cases A <;> simp [execOp,ho,resolve,invoke,builtin,Builtin.clear_,hA,run_und d1,undef]
        have full:∀ {b:Pos} {c:Cl} {off n cap:Nat},μ b=some c→ev σ x'=.slice (some ⟨c.1,off,none⟩) n cap→clr h z b off n=some (v,h')→∃ μ' w' cv,Ext μ h.fl.nat w μ' w'∧Sim C P μ' h' w'∧Rv μ' v cv∧h'.fl=h.fl∧Runs P σ w o cv w':=by
          intro b c off n cap hb hA hr
          unfold clr at hr
          split at hr
          · cases hr;exact zero hA rfl rfl
          · rename_i n
            obtain ⟨hones,hr'⟩:=ifO_some hr
            split at hr'
            · rename_i h1' hset
              cases hr'
              have k1:=rvL_rep (z3 μ) (n + 1)
              have k2:∀ v ∈ (List.replicate (n + 1) zv.cells.toList).flatten,one v=true:=by
                intro v hv
                simp only [List.mem_flatten,List.mem_replicate] at hv
                obtain ⟨l,⟨_,rfl⟩,hv⟩:=hv
                exact rvL_ones (z3 μ) hones v hv
              obtain ⟨w',q1,q2,q3,q4⟩:=setAt_ok hset S k1 k2 hb
              refine ⟨μ,w',undef,q3,q2,rv_u μ,q4,by rw [ho];rfl,?_⟩
              rw [← zeroCells_list] at q1
              simp [execOp,ho,resolve,invoke,builtin,Builtin.clear_,hA,run_und d1,run_zero z1 z2,q1,undef,Result.andThen]
            · cases hr'
        unfold o_clr at hr
        split at hr
        · rename_i hb;rw [hb] at hx;obtain ⟨c,g1,_,g3⟩:=hx;exact full g1 g3 hr
        · rename_i hb;rw [hb] at hx;obtain ⟨c,g1,_,g3⟩:=hx;exact full g1 g3 hr
        · rename_i hb;rw [hb] at hx;cases hr;obtain ⟨c,g1,q,g3⟩:=hx;exact zero g3 rfl rfl
        · rename_i hb;rw [hb] at hx;cases hr;have hx:ev σ x'=.slice none 0 0:=hx;exact zero hx rfl rfl
        · cases hr
      · cases h2
    · cases hc
  · cases hc
end
end Go.KX
namespace Go.KX
open Go.RowKit Go.KL
section
variable {C:Chk} {P:Program} {μ μ':Mu} {w w':World} {h h':AH} {σ:Env} {σA:Tr AV} {t e:TypeId} {o:Oper} {K:Type} [DecidableEq K]
noncomputable def keyT (P:Program) (two:Bool) (k:IntKind) (kt:TypeId):Bool:=match two with
  | false=>undT P kt fun d=>match isInt d with | some k'=>keq k k' | none=>false
  | true=>(!P.stoodInHeld kt) && undT P kt fun d=>match d with
    | .struct fs=>match fs.toList with
      | [f, g] => Nat.beq f.type g.type && (Nat.beq f.offset 0 && (Nat.beq g.offset 1 && ((f.name != "_") && ((g.name != "_") && undT P f.type fun d => match isInt d with | some k' => keq k k' | none => false))))
      | _=>false
    | _=>false
theorem keyI {k:IntKind} {kt:TypeId} (hc:keyT P false k kt=true):KeyR P kt (fun n:Int=>Value.int k n):=by
  obtain ⟨d,d1,d2⟩:=undT_ok hc
  cases d <;> first | (cases d2;done) | skip
  have:=keq_eq d2
  subst this
  exact KeyR.ofInt d1
theorem key2 {k:IntKind} {kt:TypeId} (hc:keyT P true k kt=true):KeyR P kt (mk2 k):=by
  simp only [keyT,Bool.and_eq_true,Bool.not_eq_true'] at hc
  obtain ⟨c0,c1⟩:=hc
  obtain ⟨d,d1,d2⟩:=undT_ok c1
  split at d2
  · rename_i fs
    split at d2
    · rename_i f g hfs
      simp only [Bool.and_eq_true] at d2
      obtain ⟨a1,a2,a3,a4,a5,a6⟩:=d2
      obtain ⟨di,i1,i2⟩:=undT_ok a6
      cases di <;> first | (cases i2;done) | skip
      have ek:=keq_eq i2
      subst ek
      have efs:fs=#[f,g]:=Array.ext' (by simpa using hfs)
      subst efs
      have T:Two P kt f.type f g k:=⟨d1,rfl,Nat.eq_of_beq_eq_true a2,by simpa using a4,(Nat.eq_of_beq_eq_true a1).symm,Nat.eq_of_beq_eq_true a3,by simpa using a5,i1,fun w=>run_agg i1 w,c0⟩
      exact T.keyR (mk2 k) (·.1) (·.2) (fun _=>rfl) fun x y h1 h2=>Prod.ext h1 h2
    · cases d2
  · cases d2
theorem mrI {l:List (Int × AV)} {tt:List (Int × Value)} (hm:MR μ l tt) (n:Int):(getMI l n=none∧mget tt n=none) ∨ ∃ a v,getMI l n=some a∧mget tt n=some v∧Rv μ a v:=by
  induction l generalizing tt with
  | nil=>cases tt with
    | nil=>exact .inl ⟨rfl,rfl⟩
    | cons q tt=>have:=hm.1;simp at this
  | cons p l ih =>
    cases tt with
    | nil=>have:=hm.1;simp at this
    | cons q tt =>
      obtain ⟨a,x⟩:=p
      obtain ⟨b,v⟩:=q
      obtain ⟨h1,h2⟩:=hm
      simp only [List.map_cons,List.cons.injEq] at h1
      obtain ⟨v',ws,g1,g2,g3⟩:=h2
      simp only [List.map_cons,List.cons.injEq] at g3
      obtain ⟨rfl,rfl⟩:=g3
      obtain ⟨rfl,h1⟩:=h1
      simp only [getMI,mget]
      by_cases e:n=a
      · right;exact ⟨x,v,by simp [zeq_dec,e],by simp [e],g1⟩
      · have:=ih (tt:=tt) ⟨h1,g2⟩
        simpa [zeq_dec,e] using this
theorem mrI_put {l:List (Int × AV)} {tt:List (Int × Value)} (hm:MR μ l tt) (n:Int) {a:AV} {v:Value} (hv:Rv μ a v):MR μ (putMI l n a) (mput tt n v):=by
  induction l generalizing tt with
  | nil=>cases tt with
    | nil=>exact ⟨rfl,rvL_cons hv rvL_nil⟩
    | cons q tt=>have:=hm.1;simp at this
  | cons p l ih =>
    cases tt with
    | nil=>have:=hm.1;simp at this
    | cons q tt =>
      obtain ⟨b,x⟩:=p
      obtain ⟨b',v0⟩:=q
      obtain ⟨h1,h2⟩:=hm
      simp only [List.map_cons,List.cons.injEq] at h1
      obtain ⟨v',ws,g1,g2,g3⟩:=h2
      simp only [List.map_cons,List.cons.injEq] at g3
      obtain ⟨rfl,rfl⟩:=g3
      obtain ⟨rfl,h1⟩:=h1
      simp only [putMI,mput,zeq_dec]
      by_cases e:n=b
      · simp only [e,decide_true,if_true]
        exact ⟨by simp [h1],rvL_cons hv g2⟩
      · have:=ih (tt:=tt) ⟨h1,g2⟩
        simp only [e,decide_false,if_false]
        exact ⟨by simp [this.1],rvL_cons g1 this.2⟩
theorem mrI_del {l:List (Int × AV)} {tt:List (Int × Value)} (hm:MR μ l tt) (n:Int):MR μ (delMI l n) (mdel tt n):=by
  induction l generalizing tt with
  | nil=>cases tt with
    | nil=>exact ⟨rfl,rfl⟩
    | cons q tt=>have:=hm.1;simp at this
  | cons p l ih =>
    cases tt with
    | nil=>have:=hm.1;simp at this
    | cons q tt =>
      obtain ⟨b,x⟩:=p
      obtain ⟨b',v0⟩:=q
      obtain ⟨h1,h2⟩:=hm
      simp only [List.map_cons,List.cons.injEq] at h1
      obtain ⟨v',ws,g1,g2,g3⟩:=h2
      simp only [List.map_cons,List.cons.injEq] at g3
      obtain ⟨rfl,rfl⟩:=g3
      obtain ⟨rfl,h1⟩:=h1
      simp only [delMI,mdel,zeq_dec]
      by_cases e:n=b
      · simp only [e,decide_true,if_true]
        exact ⟨h1,g2⟩
      · have:=ih (tt:=tt) ⟨h1,g2⟩
        simp only [e,decide_false,if_false]
        exact ⟨by simp [this.1],rvL_cons g1 this.2⟩
theorem z2 (x y a b:Int):(zeq x a && zeq y b)=decide ((x,y)=(a,b)):=by
  rw [zeq_dec,zeq_dec]
  by_cases h1:x=a <;> by_cases h2:y=b <;> simp [h1,h2]
theorem mr2 {l:List ((Int × Int) × AV)} {tt:List ((Int × Int) × Value)} (hm:MR μ l tt) (x y:Int):(getM2 l x y=none∧mget tt (x,y)=none) ∨ ∃ a v,getM2 l x y=some a∧mget tt (x,y)=some v∧Rv μ a v:=by
  induction l generalizing tt with
  | nil=>cases tt with
    | nil=>exact .inl ⟨rfl,rfl⟩
    | cons q tt=>have:=hm.1;simp at this
  | cons p l ih =>
    cases tt with
    | nil=>have:=hm.1;simp at this
    | cons q tt =>
      obtain ⟨⟨a,b⟩,x0⟩:=p
      obtain ⟨b',v⟩:=q
      obtain ⟨h1,h2⟩:=hm
      simp only [List.map_cons,List.cons.injEq] at h1
      obtain ⟨v',ws,g1,g2,g3⟩:=h2
      simp only [List.map_cons,List.cons.injEq] at g3
      obtain ⟨rfl,rfl⟩:=g3
      obtain ⟨rfl,h1⟩:=h1
      simp only [getM2,mget,z2]
      by_cases e:(x,y)=(a,b)
      · right;exact ⟨x0,v,by simp only [e,decide_true],by simp only [e,if_true],g1⟩
      · have:=ih (tt:=tt) ⟨h1,g2⟩
        simp only [e,decide_false,if_false]
        exact this
theorem mr2_put {l:List ((Int × Int) × AV)} {tt:List ((Int × Int) × Value)} (hm:MR μ l tt) (x y:Int) {a:AV} {v:Value} (hv:Rv μ a v):MR μ (putM2 l x y a) (mput tt (x,y) v):=by
  induction l generalizing tt with
  | nil=>cases tt with
    | nil=>exact ⟨rfl,rvL_cons hv rvL_nil⟩
    | cons q tt=>have:=hm.1;simp at this
  | cons p l ih =>
    cases tt with
    | nil=>have:=hm.1;simp at this
    | cons q tt =>
      obtain ⟨⟨b1,b2⟩,x0⟩:=p
      obtain ⟨b',v0⟩:=q
      obtain ⟨h1,h2⟩:=hm
      simp only [List.map_cons,List.cons.injEq] at h1
      obtain ⟨v',ws,g1,g2,g3⟩:=h2
      simp only [List.map_cons,List.cons.injEq] at g3
      obtain ⟨rfl,rfl⟩:=g3
      obtain ⟨rfl,h1⟩:=h1
      simp only [putM2,mput,z2]
      by_cases e:(x,y)=(b1,b2)
      · simp only [e,decide_true,if_true]
        exact ⟨by simp [h1],rvL_cons hv g2⟩
      · have:=ih (tt:=tt) ⟨h1,g2⟩
        simp only [e,decide_false,if_false]
        exact ⟨by simp [this.1],rvL_cons g1 this.2⟩
theorem mr2_del {l:List ((Int × Int) × AV)} {tt:List ((Int × Int) × Value)} (hm:MR μ l tt) (x y:Int):MR μ (delM2 l x y) (mdel tt (x,y)):=by
  induction l generalizing tt with
  | nil=>cases tt with
    | nil=>exact ⟨rfl,rfl⟩
    | cons q tt=>have:=hm.1;simp at this
  | cons p l ih =>
    cases tt with
    | nil=>have:=hm.1;simp at this
    | cons q tt =>
      obtain ⟨⟨b1,b2⟩,x0⟩:=p
      obtain ⟨b',v0⟩:=q
      obtain ⟨h1,h2⟩:=hm
      simp only [List.map_cons,List.cons.injEq] at h1
      obtain ⟨v',ws,g1,g2,g3⟩:=h2
      simp only [List.map_cons,List.cons.injEq] at g3
      obtain ⟨rfl,rfl⟩:=g3
      obtain ⟨rfl,h1⟩:=h1
      simp only [delM2,mdel,z2]
      by_cases e:(x,y)=(b1,b2)
      · simp only [e,decide_true,if_true]
        exact ⟨h1,g2⟩
      · have:=ih (tt:=tt) ⟨h1,g2⟩
        simp only [e,decide_false,if_false]
        exact ⟨by simp [this.1],rvL_cons g1 this.2⟩
theorem run_lk {mt kt et:TypeId} {m ck:Nat} {es:Array MapEntry} {mk:K→Value} {tt:List (K × Value)} {a:K} {z:Value} {ok:Bool} (hm:w.heap[m]?=some (.map es ck)) (hu:P.underlying mt=some (.map kt et)) (R:KeyR P kt mk) (hz:∀ w,(zeroValue et).run P w=.ok z w) (hh:MpR es mk id tt) :
    (Instr.lookup mt (.map (some m)) (mk a) ok).run P w=.ok (if ok then .tuple #[mgetD tt a z,.bool (mhas tt a)] else mgetD tt a z) w:=by
  have hf:=R.find id es.toList tt a w hh
  have hg:=locate_mget tt a 0
  unfold mgetD mhas
  simp [Instr.lookup,run_underlying hu,MapKept.run_getObj_map hm,R.chk,hf,Result.andThen,← hg]
  cases e:locate tt a 0 <;> simp [hz,Result.andThen]
theorem run_put {mt kt et:TypeId} {m ck:Nat} {es:Array MapEntry} {mk:K→Value} {tt:List (K × Value)} {a:K} {v:Value} (hm:w.heap[m]?=some (.map es ck)) (hu:P.underlying mt=some (.map kt et)) (R:KeyR P kt mk) (hh:MpR es mk id tt) :
    ∃ es' ck',MpR es' mk id (mput tt a v)∧(Instr.mapUpdate mt (.map (some m)) (mk a) v).run P w=.ok () (w.putObj m (.map es' ck')):=by
  have hf:=R.find id es.toList tt a w hh
  cases e:locate tt a 0 with
  | none =>
    obtain ⟨e1,_⟩:=locate_none e v
    refine ⟨es.push { key:=mk a,val:=v,born:=ck },ck + 1,?_,?_⟩
    · unfold MpR at hh ⊢;rw [e1];simp [hh]
    · simp [Instr.mapUpdate,run_underlying hu,MapKept.run_getObj_map hm,R.chk,hf,e,Result.andThen,MapKept.run_setObj_map _ hm]
      rfl
  | some p =>
    obtain ⟨q,u⟩:=p
    obtain ⟨_,h2,h3,_⟩:=locate_some e v
    rw [Nat.sub_zero] at h2 h3
    have hq:q < tt.length:=(List.getElem?_eq_some_iff.1 h2).1
    have hl:es.size=tt.length:=by have:=congrArg List.length hh;simpa using this
    have hkq:((es[q]?).map (·.key)).getD (mk a)=mk a:=by
      have h4:(es.toList.map (fun e=>(e.key,e.val)))[q]?=some (mk a,u):=by rw [hh,List.getElem?_map,h2];rfl
      rw [List.getElem?_map] at h4
      cases h5:es.toList[q]? with
      | none=>rw [h5] at h4;cases h4
      | some e =>
        rw [h5] at h4
        simp only [Option.map_some,Option.some.injEq,Prod.mk.injEq] at h4
        have h6:es[q]?=some e:=by simpa using h5
        rw [h6];simp [h4.1]
    refine ⟨es.modify q fun e=>{ e with key:=mk a,val:=v },ck,?_,?_⟩
    · unfold MpR at hh ⊢
      rw [h3]
      apply List.ext_getElem?
      intro n
      have hn:=congrArg (·[n]?) hh
      simp only [List.getElem?_map] at hn ⊢
      rw [List.getElem?_set]
      simp only [Array.toList_modify,List.getElem?_modify]
      by_cases hqn:q=n
      · subst hqn
        have h5:es.toList[q]?=some (es.toList[q]'(by simpa [hl] using hq)):=List.getElem?_eq_getElem _
        simp [h5,hq]
      · simp only [hqn,if_false]
        simpa [hqn] using hn
    · simp [Instr.mapUpdate,run_underlying hu,MapKept.run_getObj_map hm,R.chk,hf,e,Result.andThen,MapKept.run_setObj_map _ hm,Instr.keyThatStays,hkq,R.same]
      rfl
theorem run_del {mt kt et ty:TypeId} {tys:Array TypeId} {m ck:Nat} {es:Array MapEntry} {mk:K→Value} {tt:List (K × Value)} {a:K} (hty:tys[0]?=some mt) (hm:w.heap[m]?=some (.map es ck)) (hu:P.underlying mt=some (.map kt et)) (R:KeyR P kt mk) (hh:MpR es mk id tt) :
    ∃ es' ck',MpR es' mk id (mdel tt a)∧(Builtin.delete_ tys ty #[.map (some m),mk a]).run P w=.ok (.tuple #[]) (w.putObj m (.map es' ck')):=by
  have hf:=R.find id es.toList tt a w hh
  cases e:locate tt a 0 with
  | none =>
    obtain ⟨_,e1⟩:=locate_none e (.bool true)
    refine ⟨es,ck,by rw [e1];exact hh,?_⟩
    simp [Builtin.delete_,hty,run_underlying hu,MapKept.run_getObj_map hm,R.chk,hf,e,Result.andThen,MapKept.run_setObj_map _ hm]
    rfl
  | some p =>
    obtain ⟨q,u⟩:=p
    obtain ⟨_,h2,_,h3⟩:=locate_some e (.bool true)
    rw [Nat.sub_zero] at h2 h3
    refine ⟨es.eraseIdxIfInBounds q,ck,?_,?_⟩
    · unfold MpR at hh ⊢
      rw [h3,← eraseIdx_mapq,← hh,eraseIdx_mapq]
      simp
    · simp [Builtin.delete_,hty,run_underlying hu,MapKept.run_getObj_map hm,R.chk,hf,e,Result.andThen,MapKept.run_setObj_map _ hm]
      rfl
def MapOK (C:Chk) (P:Program) (μ:Mu) (w:World) (c:Cl) (two:Bool) (k:IntKind) (kt:TypeId) (B:AB) (y:AV) (Y:Value):Prop :=
    ∃ (K:Type) (_:DecidableEq K) (mk:K→Value) (a:K) (es:Array MapEntry) (ck:Nat) (tt:List (K × Value)),Y=mk a∧w.heap[c.1]?=some (.map es ck)∧KeyR P kt mk∧MpR es mk id tt ∧
      (∀ q,lookA two k B y=some q→(q=none∧mget tt a=none) ∨ ∃ x v,q=some x∧mget tt a=some v∧Rv μ x v) ∧
      (∀ x v B',putA two k B y x=some B'→Rv μ x v→live B'∧∀ w' es' ck',w'.heap[c.1]?=some (.map es' ck')→MpR es' mk id (mput tt a v)→AbR C P μ w' c B') ∧
      (∀ B',delA two k B y=some B'→live B'∧∀ w' es' ck',w'.heap[c.1]?=some (.map es' ck')→MpR es' mk id (mdel tt a)→AbR C P μ w' c B')
theorem map_ok {two:Bool} {k:IntKind} {kt:TypeId} {B:AB} {y:AV} {Y:Value} {c:Cl} (hk:keyT P two k kt=true) (hB:AbR C P μ w c B) (hY:Rv μ y Y) (hr:(lookA two k B y).isSome=true ∨ (∃ v,(putA two k B y v).isSome=true) ∨ (delA two k B y).isSome=true) :
    MapOK C P μ w c two k kt B y Y∧live B:=by
  have caseI:two=false→∀ (n:Int) (es:Array MapEntry) (ck:Nat) (tt:List (Int × Value)) (l:List (Int × AV)),y=.int k n→w.heap[c.1]?=some (.map es ck)→MpR es (fun n:Int=>Value.int k n) id tt→MR μ l tt →
      (∀ q,lookA two k B y=some q→q=getMI l n)→(∀ x B',putA two k B y x=some B'→B'=.mapI k (putMI l n x))→(∀ B',delA two k B y=some B'→B'=.mapI k (delMI l n) ∨ (B'=.map0∧l=[]))→MapOK C P μ w c two k kt B y Y:=by
    intro h2 n es ck tt l hy hm hp hM q1 q2 q3
    subst h2 hy
    have hY:Y=.int k n:=hY
    refine ⟨Int,inferInstance,fun n=>Value.int k n,n,es,ck,tt,hY,hm,keyI hk,hp,?_,?_,?_⟩
    · intro q hq
      rw [q1 q hq]
      exact mrI hM n
    · intro x v B' hB' hv
      have:=q2 x B' hB'
      subst this
      exact ⟨trivial,fun w' es' ck' g1 g2=>⟨es',ck',_,g1,g2,mrI_put hM n hv⟩⟩
    · intro B' hB'
      rcases q3 B' hB' with rfl | ⟨rfl,rfl⟩
      · exact ⟨trivial,fun w' es' ck' g1 g2=>⟨es',ck',_,g1,g2,mrI_del hM n⟩⟩
      · refine ⟨trivial,fun w' es' ck' g1 g2=>⟨ck',?_⟩⟩
        cases tt with
        | cons p tt=>have:=hM.1;simp at this
        | nil =>
          have:es'=#[]:=by
            unfold MpR at g2
            simp only [mdel,List.map_nil,List.map_eq_nil_iff] at g2
            exact Array.ext' (by simpa using g2)
          rw [this] at g1;exact g1
  have case2:two=true→∀ (n m:Int) (es:Array MapEntry) (ck:Nat) (tt:List ((Int × Int) × Value)) (l:List ((Int × Int) × AV)),y=.agg [.int k n,.int k m]→w.heap[c.1]?=some (.map es ck)→MpR es (mk2 k) id tt→MR μ l tt →
      (∀ q,lookA two k B y=some q→q=getM2 l n m)→(∀ x B',putA two k B y x=some B'→B'=.map2 k (putM2 l n m x))→(∀ B',delA two k B y=some B'→B'=.map2 k (delM2 l n m) ∨ (B'=.map0∧l=[]))→MapOK C P μ w c two k kt B y Y:=by
    intro h2 n m es ck tt l hy hm hp hM q1 q2 q3
    subst h2 hy
    have hY:Y=mk2 k (n,m):=by
      obtain ⟨vs,g1,rfl⟩:=hY
      obtain ⟨v1,ws,g2,g3,rfl⟩:=g1
      obtain ⟨v2,ws2,g4,g5,rfl⟩:=g3
      cases g5
      have g2:v1=.int k n:=g2
      have g4:v2=.int k m:=g4
      subst g2 g4
      rfl
    refine ⟨Int × Int,inferInstance,mk2 k,(n,m),es,ck,tt,hY,hm,key2 hk,hp,?_,?_,?_⟩
    · intro q hq
      rw [q1 q hq]
      exact mr2 hM n m
    · intro x v B' hB' hv
      have:=q2 x B' hB'
      subst this
      exact ⟨trivial,fun w' es' ck' g1 g2=>⟨es',ck',_,g1,g2,mr2_put hM n m hv⟩⟩
    · intro B' hB'
      rcases q3 B' hB' with rfl | ⟨rfl,rfl⟩
      · exact ⟨trivial,fun w' es' ck' g1 g2=>⟨es',ck',_,g1,g2,mr2_del hM n m⟩⟩
      · refine ⟨trivial,fun w' es' ck' g1 g2=>⟨ck',?_⟩⟩
        cases tt with
        | cons p tt=>have:=hM.1;simp at this
        | nil =>
          have:es'=#[]:=by
            unfold MpR at g2
            simp only [mdel,List.map_nil,List.map_eq_nil_iff] at g2
            exact Array.ext' (by simpa using g2)
          rw [this] at g1;exact g1
  have shape:(∃ n,two=false∧y=.int k n∧(B=.map0 ∨ ∃ l,B=.mapI k l)) ∨ (∃ n m,two=true∧y=.agg [.int k n,.int k m]∧(B=.map0 ∨ ∃ l,B=.map2 k l)):=by
    have fI:∀ {k':IntKind} {b:Bool} {α:Type} {x:Option α},(ifO b x).isSome=true→b=true:=fun {k' b α x} hq=>by cases b <;> first | rfl | cases hq
    rcases hr with hr | ⟨v,hr⟩ | hr
    · unfold lookA at hr
      split at hr <;> first | (cases hr;done) | skip
      · have:=keq_eq (fI (k':=k) hr);subst this;exact .inl ⟨_,rfl,rfl,.inl rfl⟩
      · have:=fI (k':=k) hr;simp only [Bool.and_eq_true] at this
        have e1:=keq_eq this.1;have e2:=keq_eq this.2;subst e1 e2;exact .inr ⟨_,_,rfl,rfl,.inl rfl⟩
      · have:=fI (k':=k) hr;simp only [Bool.and_eq_true] at this
        have e1:=keq_eq this.1;have e2:=keq_eq this.2;subst e1 e2;exact .inl ⟨_,rfl,rfl,.inr ⟨_,rfl⟩⟩
      · have:=fI (k':=k) hr;simp only [Bool.and_eq_true] at this
        have e1:=keq_eq this.1;have e2:=keq_eq this.2.1;have e3:=keq_eq this.2.2;subst e1 e2 e3;exact .inr ⟨_,_,rfl,rfl,.inr ⟨_,rfl⟩⟩
    · unfold putA at hr
      split at hr <;> first | (cases hr;done) | skip
      · have:=keq_eq (fI (k':=k) hr);subst this;exact .inl ⟨_,rfl,rfl,.inl rfl⟩
      · have:=fI (k':=k) hr;simp only [Bool.and_eq_true] at this
        have e1:=keq_eq this.1;have e2:=keq_eq this.2;subst e1 e2;exact .inr ⟨_,_,rfl,rfl,.inl rfl⟩
      · have:=fI (k':=k) hr;simp only [Bool.and_eq_true] at this
        have e1:=keq_eq this.1;have e2:=keq_eq this.2;subst e1 e2;exact .inl ⟨_,rfl,rfl,.inr ⟨_,rfl⟩⟩
      · have:=fI (k':=k) hr;simp only [Bool.and_eq_true] at this
        have e1:=keq_eq this.1;have e2:=keq_eq this.2.1;have e3:=keq_eq this.2.2;subst e1 e2 e3;exact .inr ⟨_,_,rfl,rfl,.inr ⟨_,rfl⟩⟩
    · unfold delA at hr
      split at hr <;> first | (cases hr;done) | skip
      · have:=keq_eq (fI (k':=k) hr);subst this;exact .inl ⟨_,rfl,rfl,.inl rfl⟩
      · have:=fI (k':=k) hr;simp only [Bool.and_eq_true] at this
        have e1:=keq_eq this.1;have e2:=keq_eq this.2;subst e1 e2;exact .inr ⟨_,_,rfl,rfl,.inl rfl⟩
      · have:=fI (k':=k) hr;simp only [Bool.and_eq_true] at this
        have e1:=keq_eq this.1;have e2:=keq_eq this.2;subst e1 e2;exact .inl ⟨_,rfl,rfl,.inr ⟨_,rfl⟩⟩
      · have:=fI (k':=k) hr;simp only [Bool.and_eq_true] at this
        have e1:=keq_eq this.1;have e2:=keq_eq this.2.1;have e3:=keq_eq this.2.2;subst e1 e2 e3;exact .inr ⟨_,_,rfl,rfl,.inr ⟨_,rfl⟩⟩
  have iS:∀ {b:Bool} {α:Type} {x:Option α} {v:α},ifO b x=some v→x=some v:=fun hq=>(ifO_some hq).2
  rcases shape with ⟨n,rfl,rfl,rfl | ⟨l,rfl⟩⟩ | ⟨n,m,rfl,rfl,rfl | ⟨l,rfl⟩⟩
  · obtain ⟨ck,hm⟩:=hB
    refine ⟨?_,trivial⟩
    exact caseI rfl n #[] ck [] [] rfl hm rfl ⟨rfl,rfl⟩ (fun q hq=>by simp only [lookA] at hq;cases iS hq;rfl) (fun x B' hq=>by simp only [putA] at hq;cases iS hq;rfl) (fun B' hq=>by simp only [delA] at hq;cases iS hq;exact .inr ⟨rfl,rfl⟩)
  · obtain ⟨es,ck,tt,hm,hp,hM⟩:=hB
    refine ⟨?_,trivial⟩
    exact caseI rfl n es ck tt l rfl hm hp hM (fun q hq=>by simp only [lookA] at hq;cases iS hq;rfl) (fun x B' hq=>by simp only [putA] at hq;cases iS hq;rfl) (fun B' hq=>by simp only [delA] at hq;cases iS hq;exact .inl rfl)
  · obtain ⟨ck,hm⟩:=hB
    refine ⟨?_,trivial⟩
    exact case2 rfl n m #[] ck [] [] rfl hm rfl ⟨rfl,rfl⟩ (fun q hq=>by simp only [lookA] at hq;cases iS hq;rfl) (fun x B' hq=>by simp only [putA] at hq;cases iS hq;rfl) (fun B' hq=>by simp only [delA] at hq;cases iS hq;exact .inr ⟨rfl,rfl⟩)
  · obtain ⟨es,ck,tt,hm,hp,hM⟩:=hB
    refine ⟨?_,trivial⟩
    exact case2 rfl n m es ck tt l rfl hm hp hM (fun q hq=>by simp only [lookA] at hq;cases iS hq;rfl) (fun x B' hq=>by simp only [putA] at hq;cases iS hq;rfl) (fun B' hq=>by simp only [delA] at hq;cases iS hq;exact .inl rfl)
noncomputable def c_lk (P:Program) (two:Bool) (k:IntKind) (ok:Bool) (z:AV) (x y:AOd):Op→Bool
  | .lookup t x' y' ok'=>undT P t (fun d=>match d with
      | .map kt et=>keyT P two k kt && (match P.info? et with
        | some i=>match i.zero with | some v=>okc z v | none=>false
        | none=>false)
      | _=>false) && ((ok == ok') && (chkD x x' && chkD y y'))
  | _=>false
def lkV (ok:Bool) (z:AV) (q:Option AV):AV:=match ok with
  | true=>.tup [q.getD z,.bool q.isSome]
  | false=>q.getD z
theorem l_lk {two:Bool} {k:IntKind} {ok:Bool} {z:AV} {x y:AOd} {op:Op} (hc:c_lk P two k ok z x y op=true):OkL C P op (o_lk two k ok z x y):=by
  intro σA h v h' hr
  unfold c_lk at hc
  split at hc
  · rename_i t x' y' ok'
    simp only [Bool.and_eq_true,beq_iff_eq] at hc
    obtain ⟨c1,rfl,c2,c3⟩:=hc
    obtain ⟨d,d1,d2⟩:=undT_ok c1
    split at d2 <;> first | (cases d2;done) | skip
    rename_i kt et
    simp only [Bool.and_eq_true] at d2
    obtain ⟨k1,k2⟩:=d2
    split at k2 <;> first | (cases k2;done) | skip
    rename_i i hi
    split at k2 <;> first | (cases k2;done) | skip
    rename_i zv hz
    unfold o_lk at hr
    split at hr <;> first | (cases hr;done) | skip
    rename_i b hx
    split at hr <;> first | (cases hr;done) | skip
    rename_i B hB
    have key:∀ q,lookA two k B (evA σA y)=some q→h'=h→v=lkV ok z q→h'=h∧∀ μ σ w,EnvR μ σA σ→Sim C P μ h w→∃ cv,Rv μ v cv∧∀ (o:Oper),o.op=.lookup t x' y' ok→RunsK P σ w o cv:=by
      intro q hq hh hv
      subst hh hv
      refine ⟨rfl,fun μ σ w hE S=>?_⟩
      have g:=chkD_ok c2 hE;rw [hx] at g
      obtain ⟨c,g1,g2⟩:=g
      obtain ⟨c',g3,g4⟩:=S.at_ b B hB
      rw [g1] at g3;cases g3
      obtain ⟨⟨K,_,mk,a,es,ck,tt,e1,e2,e3,e4,e5,_,_⟩,hl⟩:=map_ok k1 g4 (chkD_ok c3 hE) (.inl (by rw [hq];rfl))
      have hrun:∀ w',Keep w w' Non→∀ (o:Oper),o.op=.lookup t x' y' ok→Runs P σ w' o (if ok then .tuple #[mgetD tt a zv,.bool (mhas tt a)] else mgetD tt a zv) w':=by
        intro w' K o ho
        have hm:=(K.block _ (lt_of_some e2) id).trans e2
        have:=run_lk (P:=P) (ok:=ok) hm d1 e3 (run_zero hi hz) e4 (a:=a)
        exact ⟨by rw [ho];rfl,by simp [execOp,ho,g2,e1,this,Result.andThen]⟩
      refine ⟨_,?_,fun o ho w' K=>hrun w' K o ho⟩
      have hval:Rv μ (q.getD z) (mgetD tt a zv)∧q.isSome=mhas tt a:=by
        rcases e5 q hq with ⟨rfl,q2⟩ | ⟨x,v,rfl,q2,q3⟩
        · unfold mgetD mhas;rw [q2];exact ⟨okc_ok μ k2,rfl⟩
        · unfold mgetD mhas;rw [q2];exact ⟨q3,rfl⟩
      cases ok
      · exact hval.1
      · exact ⟨_,rvL_cons hval.1 (rvL_cons (v:=.bool (mhas tt a)) (by rw [← hval.2];rfl) rvL_nil),rfl⟩
    split at hr
    · rename_i q hq
      cases hr
      exact key _ hq rfl (by cases ok <;> rfl)
    · rename_i hq
      cases hr
      exact key _ hq rfl (by cases ok <;> rfl)
    · cases hr
  · cases hc
noncomputable def c_mput (P:Program) (two:Bool) (k:IntKind) (x y z:AOd):Op→Bool
  | .mapUpdate t x' y' z' | .insert t x' y' z'=>undT P t (fun d=>match d with
      | .map kt et=>keyT P two k kt
      | _=>false) && (chkD x x' && (chkD y y' && chkD z z'))
  | _=>false
theorem c_mput_ok {two:Bool} {k:IntKind} {x y z:AOd} {op:Op} (hc:c_mput P two k x y z op=true):∃ t kt et x' y' z',(op=.mapUpdate t x' y' z' ∨ op=.insert t x' y' z')∧P.underlying t=some (.map kt et)∧keyT P two k kt=true∧chkD x x'=true∧chkD y y'=true∧chkD z z'=true:=by
  have key:∀ {t:TypeId} {x' y' z':Operand},(undT P t (fun d=>match d with | .map kt et=>keyT P two k kt | _=>false) && (chkD x x' && (chkD y y' && chkD z z')))=true→∃ kt et,P.underlying t=some (.map kt et)∧keyT P two k kt=true∧chkD x x'=true∧chkD y y'=true∧chkD z z'=true:=by
    intro t x' y' z' hq
    simp only [Bool.and_eq_true] at hq
    obtain ⟨d,d1,d2⟩:=undT_ok hq.1
    split at d2 <;> first | (cases d2;done) | skip
    exact ⟨_,_,d1,d2,hq.2⟩
  unfold c_mput at hc
  split at hc
  · obtain ⟨kt,et,g⟩:=key hc;exact ⟨_,kt,et,_,_,_,.inl rfl,g⟩
  · obtain ⟨kt,et,g⟩:=key hc;exact ⟨_,kt,et,_,_,_,.inr rfl,g⟩
  · cases hc
theorem u_mput {two:Bool} {k:IntKind} {x y z:AOd} {op:Op} (hc:c_mput P two k x y z op=true):OkU C P op (o_mput two k x y z):=by
  intro σA h v h' hr μ σ w hE S o ho
  obtain ⟨t,kt,et,x',y',z',hop,d1,k1,c1,c2,c3⟩:=c_mput_ok hc
  unfold o_mput at hr
  split at hr <;> first | (cases hr;done) | skip
  rename_i b hx
  split at hr <;> first | (cases hr;done) | skip
  rename_i B hB
  split at hr <;> first | (cases hr;done) | skip
  rename_i B' hp
  split at hr <;> first | (cases hr;done) | skip
  rename_i h1' hput
  cases hr
  have g:=chkD_ok c1 hE;rw [hx] at g
  obtain ⟨c,g1,g2⟩:=g
  obtain ⟨c',g3,g4⟩:=S.at_ b B hB
  rw [g1] at g3;cases g3
  obtain ⟨⟨K,_,mk,a,es,ck,tt,e1,e2,e3,e4,_,e6,_⟩,hl⟩:=map_ok k1 g4 (chkD_ok c2 hE) (.inr (.inl ⟨_,by rw [hp];rfl⟩))
  obtain ⟨es',ck',r1,r2⟩:=run_put (P:=P) (v:=ev σ z') e2 d1 e3 e4 (a:=a)
  obtain ⟨l1,l2⟩:=e6 _ (ev σ z') B' hp (chkD_ok c3 hE)
  obtain ⟨s1,s2,s3⟩:=S.put hput hB hl g1 (putObj_keep w c.1 (.map es' ck')) (l2 _ es' ck' (heap_putObj _ (lt_of_some e2)) r1)
  refine ⟨μ,_,s2,s1,rfl,s3,by rw [ho];rcases hop with e | e <;> (rw [e];rfl),?_⟩
  rcases hop with e | e <;> rw [e] at ho <;> simp [execOp,ho,g2,e1,r2,Result.andThen]
noncomputable def c_mdel (P:Program) (two:Bool) (k:IntKind) (x y:AOd):Op→Bool
  | .call c=>match c.callee with
    | .builtin b=>(b == .delete) && (match c.args.toList,c.argTypes.toList with
      | [x',y'],t :: _=>undT P t (fun d=>match d with | .map kt _=>keyT P two k kt | _=>false) && (chkD x x' && chkD y y')
      | _,_=>false)
    | _=>false
  | _=>false
theorem e_mdel {two:Bool} {k:IntKind} {x y:AOd} {op:Op} (hc:c_mdel P two k x y op=true):OkE C P op (o_mdel two k x y):=by
  intro σA h v h' hr μ σ w hE S o ho
  unfold c_mdel at hc
  split at hc <;> first | (cases hc;done) | skip
  rename_i c
  obtain ⟨ce,args,tys⟩:=c
  simp only at hc
  split at hc <;> first | (cases hc;done) | skip
  rename_i b
  simp only [Bool.and_eq_true,beq_iff_eq] at hc
  obtain ⟨rfl,h2⟩:=hc
  split at h2 <;> first | (cases h2;done) | skip
  rename_i x' y' t ts h3 h4
  simp only [Bool.and_eq_true] at h2
  obtain ⟨a1,a2,a3⟩:=h2
  obtain ⟨d,d1,d2⟩:=undT_ok a1
  split at d2 <;> first | (cases d2;done) | skip
  rename_i kt et
  have ea:args=#[x',y']:=Array.ext' (by simpa using h3)
  have et':tys[0]?=some t:=by rw [← Array.getElem?_toList,h4];rfl
  unfold o_mdel at hr
  split at hr <;> first | (cases hr;done) | skip
  rename_i b hx
  split at hr <;> first | (cases hr;done) | skip
  rename_i B hB
  split at hr <;> first | (cases hr;done) | skip
  rename_i B' hp
  split at hr <;> first | (cases hr;done) | skip
  rename_i h1' hput
  cases hr
  have g:=chkD_ok a2 hE;rw [hx] at g
  obtain ⟨c,g1,g2⟩:=g
  obtain ⟨c',g3,g4⟩:=S.at_ b B hB
  rw [g1] at g3;cases g3
  obtain ⟨⟨K,_,mk,a,es,ck,tt,e1,e2,e3,e4,_,_,e7⟩,hl⟩:=map_ok d2 g4 (chkD_ok a3 hE) (.inr (.inr (by rw [hp];rfl)))
  obtain ⟨es',ck',r1,r2⟩:=run_del (P:=P) (ty:=o.type) et' e2 d1 e3 e4 (a:=a)
  obtain ⟨l1,l2⟩:=e7 B' hp
  obtain ⟨s1,s2,s3⟩:=S.put hput hB hl g1 (putObj_keep w c.1 (.map es' ck')) (l2 _ es' ck' (heap_putObj _ (lt_of_some e2)) r1)
  refine ⟨μ,_,_,s2,s1,rv_u μ,s3,by rw [ho];rfl,?_⟩
  simp [execOp,ho,ea,resolve,invoke,builtin,g2,e1,r2,undef,Result.andThen]
noncomputable def c_lenM (P:Program) (x:AOd):Op→Bool
  | .call c=>match c.callee with
    | .builtin b=>(b == .len) && (match c.args.toList,c.argTypes.toList with
      | [x'],[t]=>undT P t (fun d=>match d with | .map _ _=>true | _=>false) && chkD x x'
      | _,_=>false)
    | _=>false
  | _=>false
theorem l_lenM {x:AOd} {op:Op} (hc:c_lenM P x op=true):OkL C P op (o_lenM x):=by
  intro σA h v h' hr
  unfold c_lenM at hc
  split at hc <;> first | (cases hc;done) | skip
  rename_i c
  obtain ⟨ce,args,tys⟩:=c
  simp only at hc
  split at hc <;> first | (cases hc;done) | skip
  rename_i b
  simp only [Bool.and_eq_true,beq_iff_eq] at hc
  obtain ⟨rfl,h2⟩:=hc
  split at h2 <;> first | (cases h2;done) | skip
  rename_i x' t h3 h4
  simp only [Bool.and_eq_true] at h2
  obtain ⟨a1,a2⟩:=h2
  obtain ⟨d,d1,d2⟩:=undT_ok a1
  split at d2 <;> first | (cases d2;done) | skip
  rename_i kt et
  have ea:args=#[x']:=Array.ext' (by simpa using h3)
  have et':tys=#[t]:=Array.ext' (by simpa using h4)
  subst ea et'
  unfold o_lenM at hr
  split at hr
  · rename_i hx
    cases hr
    refine ⟨rfl,fun μ σ w hE S=>⟨_,rfl,fun o ho w' K=>?_⟩⟩
    have g:=chkD_ok a2 hE;rw [hx] at g
    have g:ev σ x'=.map none:=g
    exact ⟨by rw [ho];rfl,by simp [execOp,ho,resolve,invoke,builtin,Builtin.len_,g,run_underlying d1,goInt,Result.andThen]⟩
  · rename_i b hx
    split at hr <;> first | (cases hr;done) | skip
    rename_i B hB
    split at hr <;> first | (cases hr;done) | skip
    rename_i n hn
    cases hr
    refine ⟨rfl,fun μ σ w hE S=>⟨_,rfl,fun o ho w' K=>?_⟩⟩
    have g:=chkD_ok a2 hE;rw [hx] at g
    obtain ⟨c,g1,g2⟩:=g
    obtain ⟨c',g3,g4⟩:=S.at_ b B hB
    rw [g1] at g3;cases g3
    have hmap:∃ es ck,w.heap[c.1]?=some (.map es ck)∧es.size=n:=by
      unfold lenB at hn
      split at hn <;> first | (cases hn;done) | skip
      · cases hn;obtain ⟨ck,q⟩:=g4;exact ⟨_,ck,q,rfl⟩
      · cases hn
        obtain ⟨es,ck,tt,q1,q2,q3⟩:=g4
        refine ⟨es,ck,q1,?_⟩
        have e1:=congrArg List.length q2
        have e2:=congrArg List.length q3.1
        simp at e1 e2
        rw [len_eq];omega
      · cases hn
        obtain ⟨es,ck,tt,q1,q2,q3⟩:=g4
        refine ⟨es,ck,q1,?_⟩
        have e1:=congrArg List.length q2
        have e2:=congrArg List.length q3.1
        simp at e1 e2
        rw [len_eq];omega
    obtain ⟨es,ck,q1,q2⟩:=hmap
    have hm:=(K.block _ (lt_of_some q1) id).trans q1
    refine ⟨by rw [ho];rfl,?_⟩
    simp [execOp,ho,resolve,invoke,builtin,Builtin.len_,g2,run_underlying d1,MapKept.run_getObj_map hm,goInt,Result.andThen,q2]
  · cases hr
end
end Go.KX
namespace Go.KX
open Go.RowKit Go.KL
def kdA:AOp→Nat
  | .mv _ | .pick _ _ _ | .nilc _ | .add _ _ | .sub _ _ | .mul _ _ | .quo _ _ | .rem _ _ | .lss _ _ | .leq _ _ | .gtr _ _ | .geq _ _ | .eql _ _ | .neq _ _ | .eqb _ _ _ | .eqn _ _ _ _ | .eqs _ _ _ _
  | .bad | .and _ _ | .shr _ _ | .ixs _ _ | .neg _ | .not _ | .cvt _ _ | .mkf _ _ _ | .slc _ _ _ _ _ | .slcA _ _ _ _ _ | .fad _ _ | .fld _ _ | .fldA _ _ _ | .iad _ _ _ | .iadA _ _ _ _ | .ix _ _ _ | .ixA _ _ _ _ | .ext _ _ | .bld _ _ | .len _ | .cap _ | .min _ _ | .max _ _=>3
  | .ld _ | .ldA _ _ | .lk _ _ _ _ _ _ | .lenM _=>1
  | .st _ _ _ | .mput _ _ _ _ _=>4
  | .call _ _=>5
  | _=>0
noncomputable def c_call (x:AOd) (l:List AOd):Op→Bool
  | .call c=>match c.callee with
    | .value f=>chkD x f && chkDs l c.args.toList
    | _=>false
  | _=>false
noncomputable def strB:List UInt8→List Nat→Bool
  | [],[]=>true
  | a :: l,b :: k=>Nat.beq a.toNat b && strB l k
  | _,_=>false
theorem strB_ok:∀ {l:List UInt8} {k:List Nat},strB l k=true→l.map UInt8.toNat=k
  | [],[],_=>rfl
  | a :: l,b :: k,h=>by
    simp only [strB,Bool.and_eq_true] at h
    rw [List.map_cons,Nat.eq_of_beq_eq_true h.1,strB_ok h.2]
  | [],_ :: _,h=>by simp [strB] at h
  | _ :: _,[],h=>by simp [strB] at h
noncomputable def c_ixs (P:Program) (l:List Nat) (y:AOd):Op→Bool
  | .index t (.const (.string s)) y'=>undT P t (fun d=>match d with | .string=>true | _=>false) && (strB s.data.toList l && chkD y y')
  | _=>false
noncomputable def chkOp (P:Program) (a:AOp) (op:Op):Bool:=match a with
  | .mv x=>c_mv x op
  | .pick c x y=>c_pick c x y op
  | .new T z=>c_new P T z op
  | .box T x=>c_box T x op
  | .ld x=>c_ld P x op
  | .ldA n x=>c_ldA P n x op
  | .st n x y=>c_st P n x y op
  | .nilc x=>c_nilc x op
  | .add x y=>c_bin .add x y op
  | .sub x y=>c_bin .sub x y op
  | .mul x y=>c_bin .mul x y op
  | .quo x y=>c_bin .quo x y op
  | .rem x y=>c_bin .rem x y op
  | .lss x y=>c_bin .lss x y op
  | .leq x y=>c_bin .leq x y op
  | .gtr x y=>c_bin .gtr x y op
  | .geq x y=>c_bin .geq x y op
  | .eql x y=>c_bin .eql x y op
  | .neq x y=>c_bin .neq x y op
  | .eqb ne x y=>c_eqb P ne x y op
  | .eqn k ne x y=>c_eqn P k ne x y op
  | .eqs ne s x y=>c_eqs P ne s x y op
  | .neg x=>c_neg x op
  | .not x=>c_not x op
  | .cvt k x=>c_cvt (P:=P) k x op
  | .mkf f fi ca=>c_mkf f fi ca op
  | .mkm=>c_mkm op
  | .mks T sz by_ z x y=>c_mks P T sz by_ z x y op
  | .slc sz x lo hi mx=>c_slc P sz x lo hi mx op
  | .slcA sz n x lo hi=>c_slcA P sz n x lo hi op
  | .fad off x=>c_fad P off x op
  | .fld off x=>c_fld P off x op
  | .fldA off n x=>c_fldA P off n x op
  | .iad sz x y=>c_iad P sz x y op
  | .iadA sz n x y=>c_iadA P sz n x y op
  | .ix n x y=>c_ix P n x y op
  | .ixA sz n x y=>c_ixA P sz n x y op
  | .lk two k ok z x y=>c_lk P two k ok z x y op
  | .mput two k x y z=>c_mput P two k x y z op
  | .mdel two k x y=>c_mdel P two k x y op
  | .ext i x=>c_ext i x op
  | .bld z ps=>c_bld P z ps op
  | .blds T n z ps=>c_blds P T n z ps op
  | .len x=>c_len P .len x op
  | .lenM x=>c_lenM P x op
  | .cap x=>c_len P .cap x op
  | .app T sz by_ x y=>c_app P T sz by_ x y op
  | .cpy sz x y=>c_cpy P sz x y op
  | .clr z x=>c_clr P z x op
  | .min x y=>c_mm .min x y op
  | .max x y=>c_mm .max x y op
  | .call x l=>c_call x l op
  | .bad=>true
  | .and x y=>c_bin .and x y op
  | .shr x y=>c_bin .shr x y op
  | .ixs l y=>c_ixs P l y op
  | .apz T sz by_ z x y=>c_apz P T sz by_ z x y op
section
variable {C:Chk} {P:Program} {tb:Tr AF} {ex exY:Run}
theorem p_bad {op:Op}:OkP P op (o_bad):=by
  intro σA h v h' hr
  cases hr
theorem p_and {x y:AOd} {op:Op} (hc:c_bin .and x y op=true):OkP P op (o_and x y):=by
  intro σA h v h' hr
  obtain ⟨t,x',y',t',rfl,h1,h2⟩:=c_bin_ok hc
  obtain ⟨hr2,rfl⟩:=okV_some hr
  split at hr2
  · rename_i k a k' b ha hb
    split at hr2
    · rename_i hk
      cases hr2
      have hk:=keq_eq hk
      subst hk
      refine ⟨rfl,fun μ σ hE=>⟨_,rfl,fun o w ho=>?_⟩⟩
      have g1:=chkD_ok h1 hE;rw [ha] at g1
      have g2:=chkD_ok h2 hE;rw [hb] at g2
      have g1:ev σ x'=.int k a:=g1
      have g2:ev σ y'=.int k b:=g2
      exact ⟨by rw [ho];rfl,by simp [execOp,ho,g1,g2,binOp,eqGuard,Op.intBits,andI]⟩
    · cases hr2
  · cases hr2
theorem p_shr {x y:AOd} {op:Op} (hc:c_bin .shr x y op=true):OkP P op (o_shr x y):=by
  intro σA h v h' hr
  obtain ⟨t,x',y',t',rfl,h1,h2⟩:=c_bin_ok hc
  obtain ⟨hr2,rfl⟩:=okV_some hr
  split at hr2
  · rename_i k a k' b ha hb
    cases hr2
    refine ⟨rfl,fun μ σ hE=>⟨_,rfl,fun o w ho=>?_⟩⟩
    have g1:=chkD_ok h1 hE;rw [ha] at g1
    have g2:=chkD_ok h2 hE;rw [hb] at g2
    have g1:ev σ x'=.int k a:=g1
    have g2:ev σ y'=.int k' (Int.ofNat b):=g2
    have hn:¬ (Int.ofNat b) < 0:=by simp
    exact ⟨by rw [ho];rfl,by simp [execOp,ho,g1,g2,binOp,eqGuard,Op.shift];intro hb0;omega⟩
  · cases hr2
theorem p_ixs {l:List Nat} {y:AOd} {op:Op} (hc:c_ixs P l y op=true):OkP P op (o_ixs l y):=by
  intro σA h v h' hr
  unfold c_ixs at hc
  split at hc <;> first | (cases hc;done) | skip
  rename_i t s y'
  simp only [Bool.and_eq_true] at hc
  obtain ⟨c1,c2,c3⟩:=hc
  obtain ⟨d,d1,d2⟩:=undT_ok c1
  split at d2 <;> first | (cases d2;done) | skip
  have hl:=strB_ok c2
  unfold o_ixs at hr
  split at hr
  · rename_i k i hy
    obtain ⟨hr2,rfl⟩:=okV_some hr
    split at hr2
    · rename_i b hb
      cases hr2
      rw [nth_eq,← hl,List.getElem?_map] at hb
      have hi:i < s.data.toList.length:=by
        rcases Nat.lt_or_ge i s.data.toList.length with q | q
        · exact q
        · rw [List.getElem?_eq_none q] at hb;cases hb
      have hi2:i < s.size:=by simpa using hi
      rw [List.getElem?_eq_getElem hi] at hb
      have hb:(s.data.toList[i]).toNat=b:=by simpa using hb
      refine ⟨rfl,fun μ σ hE=>⟨_,rfl,fun o w ho=>?_⟩⟩
      have g:=chkD_ok c3 hE;rw [hy] at g
      have g:ev σ y'=.int k (Int.ofNat i):=g
      have hx:ev σ (.const (.string s))=.string s:=rfl
      have hrun:=run_index_string (P:=P) w t s k (Int.ofNat i) d1
      rw [dif_pos ⟨by simp,by simpa using hi2⟩] at hrun
      have hbb:(s[(Int.ofNat i).toNat]'(by simpa using hi2)).toNat=b:=by rw [← hb];rfl
      rw [hbb] at hrun
      simp only [Int.ofNat_eq_natCast] at hrun
      exact ⟨by rw [ho];rfl,by simp only [execOp,ho,hx,g];simp [hrun]⟩
    · cases hr2
  · cases hr
theorem okP_of {a:AOp} {op:Op} (hk:kdA a=3) (hc:chkOp P a op=true):OkP P op (opY a tb ex exY):=by
  cases a <;> first
    | (simp [kdA] at hk;done)
    | exact p_bad | exact p_and hc | exact p_shr hc | exact p_ixs hc | exact p_mv hc | exact p_pick hc | exact p_nilc hc | exact p_add hc | exact p_sub hc | exact p_mul hc | exact p_quo hc | exact p_rem hc
    | exact p_lss hc | exact p_leq hc | exact p_gtr hc | exact p_geq hc | exact p_eql hc | exact p_neq hc | exact p_eqb hc | exact p_eqn hc | exact p_eqs hc
    | exact p_neg hc | exact p_not hc | exact p_cvt hc | exact p_mkf hc | exact p_slc hc | exact p_slcA hc | exact p_fad hc | exact p_fld hc | exact p_fldA hc
    | exact p_iad hc | exact p_iadA hc | exact p_ix hc | exact p_ixA hc | exact p_ext hc | exact p_bld hc | exact p_len hc | exact p_cap hc | exact p_min hc | exact p_max hc
theorem okL_of {a:AOp} {op:Op} (hk:kdA a=1 ∨ kdA a=3) (hc:chkOp P a op=true):OkL C P op (opY a tb ex exY):=by
  rcases hk with hk | hk
  · cases a <;> first
      | (simp [kdA] at hk;done)
      | exact l_ld hc | exact l_ldA hc | exact l_lk hc | exact l_lenM hc
  · exact (okP_of hk hc).toL
theorem okE_of {a:AOp} {op:Op} (hk:kdA a=0 ∨ kdA a=1 ∨ kdA a=3) (hc:chkOp P a op=true):OkE C P op (opY a tb ex exY):=by
  rcases hk with hk | hk
  · cases a <;> first
      | (simp [kdA] at hk;done)
      | exact e_new hc | exact e_box hc | exact e_mkm hc | exact e_mks hc | exact e_mdel hc | exact e_blds hc | exact e_app hc | exact e_apz hc | exact e_cpy hc | exact e_clr hc
  · exact (okL_of hk hc).toE
theorem okU_of {a:AOp} {op:Op} (hk:kdA a=4) (hc:chkOp P a op=true):OkU C P op (opY a tb ex exY):=by
  cases a <;> first
    | (simp [kdA] at hk;done)
    | exact u_st hc | exact u_mput hc
def CallOK (C:Chk) (P:Program) (tb:Tr AF) (ex:Run):Prop:=∀ f args h v h',callW tb ex f args h=some (v,h') →
  (∀ (a:Array Value) (w:World),(callFunc (f.nat - 1) a).run P w=.ok (.enter (f.nat - 1) a) w) ∧
  ∀ μ w vs,Sim C P μ h w→RvL μ args vs→Gv P (f.nat - 1) vs w fun cv w'=>∃ μ',Ext μ h.fl.nat w μ' w'∧Sim C P μ' h' w'∧Rv μ' v cv∧h'.fl=h.fl
def YieldOK (C:Chk) (P:Program) (ex:Run):Prop:=∀ b args h v h',yieldW ex b args h=some (v,h') →
  ∀ μ w x c,Sim C P μ h w→RvL μ args x→μ b=some c→Yd P c.1 x w fun t w'=>∃ μ',Ext μ h.fl.nat w μ' w'∧Sim C P μ' h' w'∧v=.bool t∧h'.fl=h.fl
noncomputable def chkAO (P:Program) (N:Nat) (l:List Oper) (a:AO):Bool:=match l[a.ix]? with
  | none=>false
  | some o=>chkOp P a.op o.op && ((match a.dst,o.dst with
      | none,none=>true
      | some p,some d=>Nat.beq p.nat (d + 1) && Nat.blt d N
      | _,_=>false) && ((match a.grd,o.guard with
      | none,none=>true
      | some (p,b),some (j,b')=>(b == b') && (match (l[j]?).bind (·.dst) with | some d=>Nat.beq p.nat (d + 1) | none=>false)
      | _,_=>false) && ((match a.kd with
      | 3=>Nat.beq (kdA a.op) 3
      | 1=>Nat.beq (kdA a.op) 1 || Nat.beq (kdA a.op) 3
      | _=>true) && ((!Nat.beq (kdA a.op) 4 || o.dst.isNone) && !Nat.beq a.kd 1005))))
structure AOK (P:Program) (N:Nat) (l:List Oper) (a:AO) (o:Oper):Prop where
  get:l[a.ix]?=some o
  op:chkOp P a.op o.op=true
  dst:(a.dst=none∧o.dst=none) ∨ ∃ p d,a.dst=some p∧o.dst=some d∧d=p.nat - 1∧d < N
  grd:(a.grd=none∧o.guard=none) ∨ ∃ p b j d,a.grd=some (p,b)∧o.guard=some (j,b)∧(l[j]?).bind (·.dst)=some d∧d=p.nat - 1
  k3:a.kd=3→kdA a.op=3
  k1:a.kd=1→kdA a.op=1 ∨ kdA a.op=3
  un:kdA a.op=4→o.dst=none
  k5:a.kd ≠ 1005
theorem chkAO_ok {N:Nat} {l:List Oper} {a:AO} (hc:chkAO P N l a=true):∃ o,AOK P N l a o:=by
  unfold chkAO at hc
  split at hc
  · cases hc
  · rename_i o ho
    simp only [Bool.and_eq_true] at hc
    obtain ⟨c1,c2,c3,c4,c5,c6⟩:=hc
    refine ⟨o,ho,c1,?_,?_,?_,?_,?_,?_⟩
    · split at c2
      · rename_i h1 h2;exact .inl ⟨h1,h2⟩
      · rename_i p d h1 h2
        simp only [Bool.and_eq_true,Nat.blt_eq] at c2
        have:=Nat.eq_of_beq_eq_true c2.1
        exact .inr ⟨p,d,h1,h2,by rw [this];rfl,c2.2⟩
      · cases c2
    · split at c3
      · rename_i h1 h2;exact .inl ⟨h1,h2⟩
      · rename_i p b j b' h1 h2
        simp only [Bool.and_eq_true,beq_iff_eq] at c3
        obtain ⟨rfl,c3⟩:=c3
        split at c3
        · rename_i d hd
          have:=Nat.eq_of_beq_eq_true c3
          exact .inr ⟨p,b,j,d,h1,h2,hd,by rw [this];rfl⟩
        · cases c3
      · cases c3
    · intro hk;rw [hk] at c4;exact Nat.eq_of_beq_eq_true c4
    · intro hk;rw [hk] at c4
      simp only [Bool.or_eq_true] at c4
      exact c4.imp Nat.eq_of_beq_eq_true Nat.eq_of_beq_eq_true
    · intro hk;rw [hk] at c5
      simpa using c5
    · intro hk;rw [hk] at c6
      simp at c6
theorem want_ok {N:Nat} {l:List Oper} {a:AO} {o:Oper} {μ:Mu} {σA:Tr AV} {σ:Env} (A:AOK P N l a o) (hE:EnvR μ σA σ):wanted l σ o=wantA σA a.grd:=by
  unfold wanted
  rcases A.grd with ⟨h1,h2⟩ | ⟨p,b,j,d,h1,h2,h3,h4⟩
  · rw [h1,h2];rfl
  · rw [h1,h2]
    simp only [h3]
    show _=isB b (evA σA (.t p))
    have g:=hE p
    rw [← h4] at g
    unfold isB
    cases hv:evA σA (.t p) <;> rw [hv] at g <;> simp only [Rv] at g <;>
      first | (rw [g];done) | (obtain ⟨_,_,_,_,_,g⟩:=g;rw [g];done) | (obtain ⟨_,_,_,_,g⟩:=g;rw [g];done) | (obtain ⟨_,_,_,g⟩:=g;rw [g];done) | (obtain ⟨_,_,g⟩:=g;rw [g];done) | (obtain ⟨_,g⟩:=g;rw [g];done) | rw [g]
theorem put_ok {N:Nat} {l:List Oper} {a:AO} {o:Oper} {μ:Mu} {σA:Tr AV} {σ:Env} {v:AV} {cv:Value} (A:AOK P N l a o) (hE:EnvR μ σA σ) (hv:Rv μ v cv):EnvR μ (putD a.dst σA v) (put' σ o cv):=by
  rcases A.dst with ⟨h1,h2⟩ | ⟨p,d,h1,h2,h3,_⟩
  · rw [h1];unfold put';rw [h2];exact hE
  · rw [h1];unfold put';rw [h2];subst h3;exact hE.put hv
theorem dst_lt {N:Nat} {l:List Oper} {a:AO} {o:Oper} (A:AOK P N l a o):∀ d,o.dst=some d→d < N:=by
  intro d hd
  rcases A.dst with ⟨_,h2⟩ | ⟨p,d',_,h2,_,h4⟩
  · rw [h2] at hd;cases hd
  · rw [h2] at hd;cases hd;exact h4
theorem stepY (HC:CallOK C P tb ex) (HY:YieldOK C P exY) {N:Nat} {l:List Oper} {a:AO} {o:Oper} {μ:Mu} {σA:Tr AV} {σ:Env} {h h':AH} {v:AV} {w:World} (A:AOK P N l a o) (hw:wanted l σ o=true) (hr:opY a.op tb ex exY σA h=some (v,h')) (hE:EnvR μ σA σ) (S:Sim C P μ h w) :
    Step1 P l o σ w fun cv w'=>∃ μ',Ext μ h.fl.nat w μ' w'∧Sim C P μ' h' w'∧EnvR μ' (putD a.dst σA v) (put' σ o cv)∧h'.fl=h.fl:=by
  have hop:=A.op
  by_cases k4:kdA a.op=4
  · obtain ⟨μ',w',h1,h2,rfl,h4,h5⟩:=okU_of (C:=C) k4 hop σA h v h' hr μ σ w hE S o rfl
    exact .inl ⟨hw,.inl ⟨A.un k4,w',h5,μ',h1,h2,put_ok A (hE.mono h1.mono) (rv_u μ'),h4⟩⟩
  · by_cases k5:kdA a.op=5
    · cases hq:a.op <;> rw [hq] at k5 <;> first | (simp [kdA] at k5;done) | skip
      rename_i x args
      rw [hq] at hop hr
      have hop:c_call x args o.op=true:=hop
      unfold c_call at hop
      split at hop <;> first | (cases hop;done) | skip
      rename_i c hoc
      obtain ⟨ce,cargs,tys⟩:=c
      simp only at hop
      split at hop <;> first | (cases hop;done) | skip
      rename_i f
      simp only [Bool.and_eq_true] at hop
      have hx:=chkD_ok hop.1 hE
      have ha:=chkDs_ok hop.2 hE
      have hr:o_call x args tb ex exY σA h=some (v,h'):=hr
      unfold o_call at hr
      split at hr
      · rename_i g fi ca hg
        rw [hg] at hx
        obtain ⟨fv,cv,g1,g2,g3⟩:=hx
        obtain ⟨hcall,hgv⟩:=HC _ _ _ _ _ hr
        have G:=hgv μ w _ S (rvL_app g1 (rvL_app ha g2))
        refine .inl ⟨hw,.inr (.inr (.inl ⟨_,_,_,Enters.mk (l:=cargs.toList) hoc g3 hcall rfl (by rw [List.append_assoc]),G,?_⟩))⟩
        rintro cv' w' ⟨μ',h1,h2,h3,h4⟩
        exact ⟨μ',h1,h2,put_ok A (hE.mono h1.mono) h3,h4⟩
      · rename_i b hb
        rw [hb] at hx
        obtain ⟨c,g1,g2⟩:=hx
        have hy:=HY _ _ _ _ _ hr
        have Y:=hy μ w _ c S ha g1
        have R:=Yd.rounds (σ:=σ) hoc g2 rfl Y
        refine .inl ⟨hw,.inr (.inr (.inr (R.mono ?_)))⟩
        rintro cv w' ⟨t,rfl,μ',h1,h2,rfl,h4⟩
        exact ⟨μ',h1,h2,put_ok A (hE.mono h1.mono) rfl,h4⟩
      · cases hr
    · have hk:kdA a.op=0 ∨ kdA a.op=1 ∨ kdA a.op=3:=by
        cases hq:a.op <;> rw [hq] at k4 k5 <;> simp [kdA] at k4 k5 ⊢
      obtain ⟨μ',w',cv,h1,h2,h3,h4,h5⟩:=okE_of (C:=C) hk hop σA h v h' hr μ σ w hE S o rfl
      exact .inl ⟨hw,.inr (.inl ⟨cv,w',h5,μ',h1,h2,put_ok A (hE.mono h1.mono) h3,h4⟩)⟩
theorem stepK (HC:CallOK C P tb ex) (HY:YieldOK C P exY) {N:Nat} {l:List Oper} {a:AO} {o:Oper} {μ:Mu} {σA:Tr AV} {σ:Env} {h h':AH} {v:AV} {w:World} (A:AOK P N l a o) (hw:wanted l σ o=true) (hr:opK a.kd a.op tb ex exY σA h=some (v,h')) (hE:EnvR μ σA σ) (S:Sim C P μ h w) :
    Step1 P l o σ w fun cv w'=>(a.kd=2→Keep w w' Non)∧∃ μ',Ext μ h.fl.nat w μ' w'∧Sim C P μ' h' w'∧EnvR μ' (putD a.dst σA v) (put' σ o cv)∧h'.fl=h.fl:=by
  by_cases k2:a.kd=2
  · have hr:opK2 a.op tb ex exY σA h=some (v,h'):=by rw [k2] at hr;exact hr
    unfold opK2 at hr
    split at hr
    · rename_i v0 h0 hq
      cases hr
      refine (stepY HC HY A hw hq hE (S.floor h.nx)).mono ?_
      rintro cv w' ⟨μ',h1,h2,h3,h4⟩
      obtain ⟨g1,g2⟩:=S.non h1 h.fl.nat
      exact ⟨fun _=>g1,μ',g2,h2.floor h.fl,h3,rfl⟩
    · cases hr
  · have hr:opY a.op tb ex exY σA h=some (v,h'):=by
      have hb:Nat.beq a.kd 2=false:=by
        cases hb:Nat.beq a.kd 2 with
        | false=>rfl
        | true=>exact absurd (Nat.eq_of_beq_eq_true hb) k2
      have:opK a.kd a.op=opY a.op:=by unfold opK;rw [hb]
      rw [this] at hr;exact hr
    exact (stepY HC HY A hw hr hE S).mono fun cv w' hq=>⟨fun e=>absurd e k2,hq⟩
def flK (k:Nat):Bool:=Nat.beq k 1 || Nat.beq k 3
def schOf:List AO→Sch
  | []=>.nil
  | a :: os=>match flK a.kd with
    | true=>.fl a.ix (schOf os)
    | false=>.fx a.ix (schOf os) .stop
theorem ops_ok (HC:CallOK C P tb ex) (HY:YieldOK C P exY) {N:Nat} {l:List Oper} {ks:List Nat} {Q:Post} {D:List Deferred}:∀ (os:List AO) (σA:Tr AV) (h:AH) (σA':Tr AV) (h':AH),runOps tb ex exY os σA h=some (σA',h') →
    (∀ a ∈ os,chkAO P N l a=true∧kOf ks a.ix=a.kd)→∀ (μ:Mu) (σ:Env) (w:World),Sim C P μ h w→EnvR μ σA σ →
    (∀ μ' w' σ',Ext μ h.fl.nat w μ' w'→Sim C P μ' h' w'→EnvR μ' σA' σ'→h'.fl=h.fl→Q D .normal σ' w')→OKS N P l Q D ks (schOf os) σ w
  | [],σA,h,σA',h',hr,_,μ,σ,w,S,hE,hQ=>by
    rw [runOps_nil] at hr;cases hr
    exact hQ μ w σ (Ext.refl μ _ w) S hE rfl
  | a :: os,σA,h,σA',h',hr,hc,μ,σ,w,S,hE,hQ=>by
    obtain ⟨hc1,hk⟩:=hc a (by simp)
    obtain ⟨o,A⟩:=chkAO_ok hc1
    have hc2:∀ b ∈ os,chkAO P N l b=true∧kOf ks b.ix=b.kd:=fun b hb=>hc b (by simp [hb])
    rw [runOps_cons] at hr
    have hw:=want_ok A hE
    cases hwa:wantA σA a.grd with
    | false =>
      rw [hwa] at hr hw
      simp only at hr
      have IH:=ops_ok HC HY os _ h σA' h' hr hc2 μ (put' σ o undef) w S (put_ok A hE (rv_u μ)) hQ
      unfold schOf
      split
      · exact ⟨o,A.get,dst_lt A,.inr ⟨hw,IH⟩⟩
      · exact ⟨⟨o,A.get,dst_lt A,.inr ⟨hw,KeepD.refl l ks _ w,IH⟩⟩,trivial⟩
    | true =>
      rw [hwa] at hr hw
      simp only at hr
      split at hr
      · rename_i r hop
        obtain ⟨v,h1⟩:=r
        simp only at hr
        unfold schOf
        split
        · rename_i hfl
          have hk13:a.kd=1 ∨ a.kd=3:=by
            unfold flK at hfl
            simp only [Bool.or_eq_true] at hfl
            exact hfl.imp Nat.eq_of_beq_eq_true Nat.eq_of_beq_eq_true
          have hop:opY a.op tb ex exY σA h=some (v,h1):=by
            rcases hk13 with e | e <;> (rw [e] at hop;exact hop)
          have hL:kdA a.op=1 ∨ kdA a.op=3:=by
            rcases hk13 with e | e
            · exact A.k1 e
            · exact .inr (A.k3 e)
          obtain ⟨rfl,hh⟩:=okL_of (C:=C) hL A.op σA h v h1 hop
          obtain ⟨cv,g1,g2⟩:=hh μ σ w hE S
          refine ⟨o,A.get,dst_lt A,.inl ⟨hw,?_⟩⟩
          by_cases k3:a.kd=3
          · obtain ⟨_,hp⟩:=okP_of (tb:=tb) (ex:=ex) (exY:=exY) (A.k3 k3) A.op σA h1 v h1 hop
            obtain ⟨cv,g1,g2⟩:=hp μ σ hE
            exact ⟨cv,fun w' _=>g2 o w' rfl,⟨fun _ w'=>g2 o w' rfl,fun _ w' _=>g2 o w' rfl⟩,ops_ok HC HY os _ h1 σA' h' hr hc2 μ _ w S (put_ok A hE g1) hQ⟩
          · exact ⟨cv,g2 o rfl,⟨fun e=>absurd (hk ▸ e) k3,fun e=>by rw [hk] at e;rcases hk13 with q | q <;> omega⟩,ops_ok HC HY os _ h1 σA' h' hr hc2 μ _ w S (put_ok A hE g1) hQ⟩
        · refine ⟨⟨o,A.get,dst_lt A,(stepK HC HY A hw hop hE S).mono ?_⟩,trivial⟩
          rintro cv w1 ⟨q0,μ1,q1,q2,q3,q4⟩
          refine ⟨⟨fun e=>q0 (hk ▸ e),fun e=>absurd (hk ▸ e) A.k5⟩,ops_ok HC HY os _ h1 σA' h' hr hc2 μ1 _ w1 q2 q3 fun μ' w' σ' r1 r2 r3 r4=>?_⟩
          rw [q4] at r1 r4
          exact hQ μ' w' σ' (q1.trans r1) r2 r3 r4
      · cases hr
end
end Go.KX
namespace Go.KX
open Go.RowKit Go.KL
section
variable {C:Chk} {P:Program} {tb:Tr AF} {ex exY:Run}
def OkA (C:Chk) (P:Program) (op:Op) (f:Tr AV→AH→Option (AV × AH)):Prop :=
  ∀ σA h v h',f σA h=some (v,h')→∃ (B:AB) (vf:Pos→AV),h'=h.push B∧v=vf h.nx∧(∀ h2:AH,f σA h2=some (vf h2.nx,h2.push B))∧live B∧∀ μ σ,EnvR μ σA σ→∀ o:Oper,o.op=op →
    ∃ (ob:Obj) (val:Nat→Value),(∀ w:World,Runs P σ w o (val w.heap.size) (w.alloc ob)) ∧
      (∀ μ' (w:World) b,μ.Le μ'→w.heap[b]?=some ob→AbR C P μ' w ⟨b,0,g0⟩ B)∧∀ μ' p b,μ' p=some ⟨b,0,g0⟩→Rv μ' (vf p) (val b)
theorem if_pos_ifO {α:Type} {b:Bool} {x:Option α} (h:b=true):ifO b x=x:=by subst h;rfl
theorem a_new {T:Nat} {z:List AV} {op:Op} (hc:c_new P T z op=true):OkA C P op (o_new T z):=by
  intro σA h v h' hr
  cases hr
  unfold c_new at hc
  split at hc
  · simp only [Bool.and_eq_true] at hc
    have e:=Nat.eq_of_beq_eq_true hc.1
    subst e
    obtain ⟨i,zv,z1,z2,z3⟩:=zT_info hc.2
    refine ⟨.cells T z,fun p=>.ptr p 0,rfl,rfl,fun h2=>rfl,trivial,fun μ σ hE o ho=>?_⟩
    refine ⟨_,fun b=>.pointer (some ⟨b,0,none⟩),fun w=>⟨by rw [ho];rfl,?_⟩,fun μ' w b hm hb=>⟨_,z3 μ',hb⟩,fun μ' p b hp=>⟨_,hp,rfl⟩⟩
    simp [execOp,ho,Instr.alloc,run_zero z1 z2,newVar,newRow,newObj,Sem.run]
  · cases hc
theorem a_box {T:Nat} {x:AOd} {op:Op} (hc:c_box T x op=true):OkA C P op (o_box T x):=by
  intro σA h v h' hr
  cases hr
  unfold c_box at hc
  split at hc
  · simp only [Bool.and_eq_true] at hc
    have e:=Nat.eq_of_beq_eq_true hc.1
    subst e
    refine ⟨.cells T _,fun p=>.ptr p 0,rfl,rfl,fun h2=>rfl,trivial,fun μ σ hE o ho=>?_⟩
    obtain ⟨vs,v1,v2⟩:=rv_cells (chkD_ok hc.2 hE)
    refine ⟨.cells vs.toArray T,fun b=>.pointer (some ⟨b,0,none⟩),fun w=>⟨by rw [ho];rfl,?_⟩,fun μ' w b hm hb=>⟨vs,v1.mono hm,hb⟩,fun μ' p b hp=>⟨_,hp,rfl⟩⟩
    simp [execOp,ho,Instr.box,newVar,newRow,newObj,v2,Sem.run]
  · cases hc
theorem a_mkm {op:Op} (hc:c_mkm op=true):OkA C P op o_mkm:=by
  intro σA h v h' hr
  cases hr
  unfold c_mkm at hc
  split at hc
  · refine ⟨.map0,fun p=>.map p,rfl,rfl,fun h2=>rfl,trivial,fun μ σ hE o ho=>?_⟩
    refine ⟨.map #[] 0,fun b=>.map (some b),fun w=>⟨by rw [ho];rfl,?_⟩,fun μ' w b hm hb=>⟨0,hb⟩,fun μ' p b hp=>⟨_,hp,rfl⟩⟩
    simp [execOp,ho,Instr.makeMap,newObj,Sem.run,Result.andThen]
  · cases hc
theorem a_mks {T sz by_:Nat} {z:List AV} {x y:AOd} {op:Op} (hc:c_mks P T sz by_ z x y op=true):OkA C P op (o_mks T sz by_ z x y):=by
  intro σA h v h' hr
  unfold c_mks at hc
  split at hc
  · rename_i t x' y'
    simp only [Bool.and_eq_true] at hc
    obtain ⟨c1,c2,c3,c4,c5,c6,c7⟩:=hc
    obtain ⟨d,d1,d2⟩:=undT_ok c1
    split at d2 <;> first | (cases d2;done) | skip
    have e:=Nat.eq_of_beq_eq_true d2
    subst e
    rename_i e
    obtain ⟨i,i1,i2⟩:=szT_info c2
    obtain ⟨i',j1,j2⟩:=byT_info c3
    obtain ⟨i'',zv,k1,k2,k3⟩:=zT_info c4
    rw [i1] at j1 k1;cases j1;cases k1
    have hz:=Nat.eq_of_beq_eq_true c5
    unfold o_mks at hr
    split at hr
    · rename_i l c hl hcc
      obtain ⟨hb,hr⟩:=ifO_some hr
      cases hr
      simp only [Bool.and_eq_true,Nat.ble_eq] at hb
      obtain ⟨⟨⟨b1,b2⟩,b3⟩,b4⟩:=hb
      refine ⟨.cells e (rep c z),fun p=>.sl p 0 l c,rfl,rfl,fun h2=>(by simp only [o_mks,hl,hcc];exact if_pos_ifO (by simp [b1,b2,b3,b4])),trivial,fun μ σ hE o ho=>?_⟩
      have hx:=chkD_ok c6 hE;rw [natOf_some hl] at hx
      have hy:=chkD_ok c7 hE;rw [natOf_some hcc] at hy
      have hx:ev σ x'=.int .i64 (l:Int):=hx
      have hy:ev σ y'=.int .i64 (c:Int):=hy
      have zlen:zv.cells.size=sz:=by rw [← hz,len_eq,← rvL_len (k3 μ)];simp
      have hcells:(madeCells zv.cells (c * sz))=((List.replicate c zv.cells.toList).flatten).toArray:=by
        apply Array.ext'
        have:=range_cells (zc:=zv.cells) (n:=0) c
        simp only [or_false] at this
        rw [zlen] at this
        show ((Array.range (c * sz)).map (zv.cells[· % zv.cells.size]!)).toList=_
        rw [zlen,this]
      refine ⟨.cells ((List.replicate c zv.cells.toList).flatten).toArray e,fun b=>.slice (some ⟨b,0,none⟩) l c,fun w=>⟨by rw [ho];rfl,?_⟩,fun μ' w b hm hb=>⟨_,rvL_rep (k3 μ') c,hb⟩,fun μ' p b hp=>⟨_,hp,b1,rfl⟩⟩
      have hrun:=run_makeSlice (P:=P) w t e i zv d1 i1 k2 .i64 .i64 (l:Int) (c:Int) (by omega) (by omega) (by rw [i2,Int.toNat_natCast];exact b2) (by rw [j2];have hb:=Int.ofNat_le.2 b3;rw [Int.natCast_mul] at hb;exact hb) (by omega)
      simp only [Int.toNat_natCast,i2] at hrun
      rw [hcells] at hrun
      simp [execOp,ho,hx,hy,hrun,Result.andThen]
    · cases hr
  · cases hc
theorem a_blds {T n:Nat} {z:List AV} {ps:List (Nat × Nat × AOd)} {op:Op} (hc:c_blds P T n z ps op=true):OkA C P op (o_blds T n z ps):=by
  intro σA h v h' hr
  unfold c_blds at hc
  split at hc
  · rename_i t m qs
    simp only [Bool.and_eq_true] at hc
    obtain ⟨c1,c2,c3⟩:=hc
    have e:=Nat.eq_of_beq_eq_true c1
    subst e
    obtain ⟨d,d1,d2⟩:=undT_ok c2
    split at d2 <;> first | (cases d2;done) | skip
    have e:=Nat.eq_of_beq_eq_true d2
    subst e
    rename_i e
    split at c3
    · rename_i i hi
      simp only [Bool.and_eq_true,Nat.ble_eq] at c3
      obtain ⟨c3,c4,c5⟩:=c3
      split at c5
      · rename_i zv hz
        unfold o_blds at hr
        split at hr
        · rename_i r hr3
          cases hr
          refine ⟨.cells e r,fun p=>.sl p 0 m m,rfl,rfl,fun h2=>by simp only [o_blds,hr3],trivial,fun μ σ hE o ho=>?_⟩
          obtain ⟨R,r1,r2,r3⟩:=fill_ok hE hr3 c4 (okcL_ok μ c5)
          have hf:=fill_of_lay _ _ _ _ r1
          refine ⟨.cells R.toArray e,fun b=>.slice (some ⟨b,0,none⟩) m m,fun w=>⟨by rw [ho];rfl,?_⟩,fun μ' w b hm hb=>⟨_,r2.mono hm,hb⟩,fun μ' p b hp=>⟨_,hp,Nat.le_refl _,rfl⟩⟩
          have hs:∀ w,(sizeOf e).run P w=.ok i.size w:=fun w=>by simp [sizeOf,typeInfo,hi]
          have hn':¬ m * i.size > 2 ^ 24:=by omega
          have hq:(qs.map fun (p:Nat × Operand)=>(p.1,ev σ p.2)).toList=qs.toList.map fun (p:Nat × Operand)=>(p.1,ev σ p.2):=by simp
          by_cases h0:m * i.size=0
          · rw [h0] at hf
            simp only [List.range_zero,List.map_nil] at hf
            have hr0:(Array.range 0).map (fun x=>(#[]:Array Value)[x % (#[]:Array Value).size]!)=#[]:=by rw [show (Array.range 0)=#[] from rfl,Array.map_empty]
            have hn0:¬ (0:Nat) > 2 ^ 24:=by decide
            simp only [execOp,ho,Instr.buildSlice,Sem.run_bind,run_und d1,hs,Result.andThen_ok,h0,if_neg hn0,if_true,Sem.run_pure,hq,hr0,hf]
            simp [newRow,newObj,Sem.run,Result.andThen]
          · have hzs:(Array.range (m * i.size)).map (zv.cells[· % zv.cells.size]!)=((List.range (m * i.size)).map fun k=>zv.cells[k % zv.cells.size]!).toArray:=by rw [← List.toArray_range,List.map_toArray]
            simp only [execOp,ho,Instr.buildSlice,Sem.run_bind,run_und d1,hs,run_zero hi hz,Result.andThen_ok,if_neg hn',if_neg h0,Sem.run_pure,hq,hzs,hf]
            simp [newRow,newObj,Sem.run,Result.andThen]
        · cases hr
      · cases c5
    · cases c3
  · cases hc
def opsA:AOp→List AOd
  | .mv x=>[x]
  | .pick c x y=>[c] ++ [x] ++ [y]
  | .new _ _=>[]
  | .box _ x=>[x]
  | .ld x=>[x]
  | .ldA _ x=>[x]
  | .st _ x y=>[x] ++ [y]
  | .nilc x=>[x]
  | .add x y=>[x] ++ [y]
  | .sub x y=>[x] ++ [y]
  | .mul x y=>[x] ++ [y]
  | .quo x y=>[x] ++ [y]
  | .rem x y=>[x] ++ [y]
  | .lss x y=>[x] ++ [y]
  | .leq x y=>[x] ++ [y]
  | .gtr x y=>[x] ++ [y]
  | .geq x y=>[x] ++ [y]
  | .eql x y=>[x] ++ [y]
  | .neq x y=>[x] ++ [y]
  | .eqb _ x y=>[x] ++ [y]
  | .eqn _ _ x y=>[x] ++ [y]
  | .eqs _ _ x y=>[x] ++ [y]
  | .neg x=>[x]
  | .not x=>[x]
  | .cvt _ x=>[x]
  | .mkf _ fi ca=>fi ++ ca
  | .mkm =>[]
  | .mks _ _ _ _ x y=>[x] ++ [y]
  | .slc _ x lo hi mx=>[x] ++ lo.toList ++ hi.toList ++ mx.toList
  | .slcA _ _ x lo hi=>[x] ++ lo.toList ++ hi.toList
  | .fad _ x=>[x]
  | .fld _ x=>[x]
  | .fldA _ _ x=>[x]
  | .iad _ x y=>[x] ++ [y]
  | .iadA _ _ x y=>[x] ++ [y]
  | .ix _ x y=>[x] ++ [y]
  | .ixA _ _ x y=>[x] ++ [y]
  | .lk _ _ _ _ x y=>[x] ++ [y]
  | .mput _ _ x y z=>[x] ++ [y] ++ [z]
  | .mdel _ _ x y=>[x] ++ [y]
  | .ext _ x=>[x]
  | .bld _ ps=>(ps.map fun q=>q.2.2)
  | .blds _ _ _ ps=>(ps.map fun q=>q.2.2)
  | .len x=>[x]
  | .lenM x=>[x]
  | .cap x=>[x]
  | .app _ _ _ x y=>[x] ++ [y]
  | .cpy _ x y=>[x] ++ [y]
  | .clr _ x=>[x]
  | .min x y=>[x] ++ [y]
  | .max x y=>[x] ++ [y]
  | .and x y=>[x] ++ [y]
  | .shr x y=>[x] ++ [y]
  | .ixs _ y=>[y]
  | .apz _ _ _ _ x y=>[x] ++ [y]
  | .call x l=>[x] ++ l
  | .bad=>[]
theorem evs_congr {σ1 σ2:Tr AV}:∀ {l:List AOd},(∀ x ∈ l,evA σ1 x=evA σ2 x)→evs σ1 l=evs σ2 l
  | [],_=>rfl
  | x :: l,h=>by
    show evA σ1 x :: evs σ1 l=evA σ2 x :: evs σ2 l
    rw [h x (by simp),evs_congr fun y hy=>h y (by simp [hy])]
theorem fillA_congr {σ1 σ2:Tr AV}:∀ {ps:List (Nat × Nat × AOd)} {cs:List AV},(∀ q ∈ ps,evA σ1 q.2.2=evA σ2 q.2.2)→fillA σ1 cs ps=fillA σ2 cs ps
  | [],cs,_=>rfl
  | (off,n,x) :: ps,cs,h=>by
    have e:evA σ1 x=evA σ2 x:=h (off,n,x) (by simp)
    simp only [fillA,e]
    cases Nat.beq (len (evA σ2 x).cells) n with
    | false=>rfl
    | true =>
      cases over cs off (evA σ2 x).cells with
      | none=>rfl
      | some cs'=>exact fillA_congr fun q hq=>h q (by simp [hq])
theorem bnd_congr {σ1 σ2:Tr AV} {o:Option AOd} (h:∀ x ∈ o.toList,evA σ1 x=evA σ2 x):bnd σ1 o=bnd σ2 o:=by
  cases o with
  | none=>rfl
  | some x =>
    have e:=h x (by simp)
    simp only [bnd,e]
theorem opY_congr {σ1 σ2:Tr AV} (op:AOp) (h:∀ x ∈ opsA op,evA σ1 x=evA σ2 x) (hh:AH):opY op tb ex exY σ1 hh=opY op tb ex exY σ2 hh:=by
  cases op with
  | bld z ps=>exact (show o_bld z ps σ1 hh=o_bld z ps σ2 hh by simp only [o_bld];rw [fillA_congr fun q hq=>h q.2.2 (List.mem_map.2 ⟨q,hq,rfl⟩)])
  | blds T n z ps=>exact (show o_blds T n z ps σ1 hh=o_blds T n z ps σ2 hh by simp only [o_blds];rw [fillA_congr fun q hq=>h q.2.2 (List.mem_map.2 ⟨q,hq,rfl⟩)])
  | mkf f fi ca=>exact (show o_mkf f fi ca σ1 hh=o_mkf f fi ca σ2 hh by simp only [o_mkf];rw [evs_congr fun x hx=>h x (List.mem_append_left _ hx),evs_congr fun x hx=>h x (List.mem_append_right _ hx)])
  | call x l=>exact (show o_call x l tb ex exY σ1 hh=o_call x l tb ex exY σ2 hh by simp only [o_call];rw [h x (List.mem_append_left _ (by simp)),evs_congr fun y hy=>h y (List.mem_append_right _ hy)])
  | slc sz x lo hi mx=>exact (show o_slc sz x lo hi mx σ1 hh=o_slc sz x lo hi mx σ2 hh by
      simp only [o_slc]
      rw [h x (by simp [opsA]),bnd_congr fun y hy=>h y (by simp only [opsA,List.mem_append];exact .inl (.inl (.inr hy))),bnd_congr fun y hy=>h y (by simp only [opsA,List.mem_append];exact .inl (.inr hy)),bnd_congr fun y hy=>h y (by simp only [opsA,List.mem_append];exact .inr hy)])
  | slcA sz n x lo hi=>exact (show o_slcA sz n x lo hi σ1 hh=o_slcA sz n x lo hi σ2 hh by
      simp only [o_slcA]
      rw [h x (by simp [opsA]),bnd_congr fun y hy=>h y (by simp only [opsA,List.mem_append];exact .inl (.inr hy)),bnd_congr fun y hy=>h y (by simp only [opsA,List.mem_append];exact .inr hy)])
  | mv a_x=>exact (show o_mv a_x σ1 hh=o_mv a_x σ2 hh by simp only [o_mv,h a_x (by simp [opsA])])
  | pick a_c a_x a_y=>exact (show o_pick a_c a_x a_y σ1 hh=o_pick a_c a_x a_y σ2 hh by simp only [o_pick,h a_c (by simp [opsA]),h a_x (by simp [opsA]),h a_y (by simp [opsA])])
  | new a_T a_z=>rfl
  | box a_T a_x=>exact (show o_box a_T a_x σ1 hh=o_box a_T a_x σ2 hh by simp only [o_box,h a_x (by simp [opsA])])
  | ld a_x=>exact (show o_ld a_x σ1 hh=o_ld a_x σ2 hh by simp only [o_ld,h a_x (by simp [opsA])])
  | ldA a_n a_x=>exact (show o_ldA a_n a_x σ1 hh=o_ldA a_n a_x σ2 hh by simp only [o_ldA,h a_x (by simp [opsA])])
  | st a_n a_x a_y=>exact (show o_st a_n a_x a_y σ1 hh=o_st a_n a_x a_y σ2 hh by simp only [o_st,h a_x (by simp [opsA]),h a_y (by simp [opsA])])
  | nilc a_x=>exact (show o_nilc a_x σ1 hh=o_nilc a_x σ2 hh by simp only [o_nilc,h a_x (by simp [opsA])])
  | add a_x a_y=>exact (show o_add a_x a_y σ1 hh=o_add a_x a_y σ2 hh by simp only [o_add,h a_x (by simp [opsA]),h a_y (by simp [opsA])])
  | sub a_x a_y=>exact (show o_sub a_x a_y σ1 hh=o_sub a_x a_y σ2 hh by simp only [o_sub,h a_x (by simp [opsA]),h a_y (by simp [opsA])])
  | mul a_x a_y=>exact (show o_mul a_x a_y σ1 hh=o_mul a_x a_y σ2 hh by simp only [o_mul,h a_x (by simp [opsA]),h a_y (by simp [opsA])])
  | quo a_x a_y=>exact (show o_quo a_x a_y σ1 hh=o_quo a_x a_y σ2 hh by simp only [o_quo,h a_x (by simp [opsA]),h a_y (by simp [opsA])])
  | rem a_x a_y=>exact (show o_rem a_x a_y σ1 hh=o_rem a_x a_y σ2 hh by simp only [o_rem,h a_x (by simp [opsA]),h a_y (by simp [opsA])])
  | lss a_x a_y=>exact (show o_lss a_x a_y σ1 hh=o_lss a_x a_y σ2 hh by simp only [o_lss,h a_x (by simp [opsA]),h a_y (by simp [opsA])])
  | leq a_x a_y=>exact (show o_leq a_x a_y σ1 hh=o_leq a_x a_y σ2 hh by simp only [o_leq,h a_x (by simp [opsA]),h a_y (by simp [opsA])])
  | gtr a_x a_y=>exact (show o_gtr a_x a_y σ1 hh=o_gtr a_x a_y σ2 hh by simp only [o_gtr,h a_x (by simp [opsA]),h a_y (by simp [opsA])])
  | geq a_x a_y=>exact (show o_geq a_x a_y σ1 hh=o_geq a_x a_y σ2 hh by simp only [o_geq,h a_x (by simp [opsA]),h a_y (by simp [opsA])])
  | eql a_x a_y=>exact (show o_eql a_x a_y σ1 hh=o_eql a_x a_y σ2 hh by simp only [o_eql,h a_x (by simp [opsA]),h a_y (by simp [opsA])])
  | neq a_x a_y=>exact (show o_neq a_x a_y σ1 hh=o_neq a_x a_y σ2 hh by simp only [o_neq,h a_x (by simp [opsA]),h a_y (by simp [opsA])])
  | eqb a_ne a_x a_y=>exact (show o_eqb a_ne a_x a_y σ1 hh=o_eqb a_ne a_x a_y σ2 hh by simp only [o_eqb,h a_x (by simp [opsA]),h a_y (by simp [opsA])])
  | eqn a_k a_ne a_x a_y=>exact (show o_eqn a_k a_ne a_x a_y σ1 hh=o_eqn a_k a_ne a_x a_y σ2 hh by simp only [o_eqn,h a_x (by simp [opsA]),h a_y (by simp [opsA])])
  | eqs a_ne a_s a_x a_y=>exact (show o_eqs a_ne a_s a_x a_y σ1 hh=o_eqs a_ne a_s a_x a_y σ2 hh by simp only [o_eqs,h a_x (by simp [opsA]),h a_y (by simp [opsA])])
  | neg a_x=>exact (show o_neg a_x σ1 hh=o_neg a_x σ2 hh by simp only [o_neg,h a_x (by simp [opsA])])
  | not a_x=>exact (show o_not a_x σ1 hh=o_not a_x σ2 hh by simp only [o_not,h a_x (by simp [opsA])])
  | cvt a_k a_x=>exact (show o_cvt a_k a_x σ1 hh=o_cvt a_k a_x σ2 hh by simp only [o_cvt,h a_x (by simp [opsA])])
  | mkm =>rfl
  | mks a_T a_sz a_bytes a_z a_x a_y=>exact (show o_mks a_T a_sz a_bytes a_z a_x a_y σ1 hh=o_mks a_T a_sz a_bytes a_z a_x a_y σ2 hh by simp only [o_mks,h a_x (by simp [opsA]),h a_y (by simp [opsA])])
  | fad a_off a_x=>exact (show o_fad a_off a_x σ1 hh=o_fad a_off a_x σ2 hh by simp only [o_fad,h a_x (by simp [opsA])])
  | fld a_off a_x=>exact (show o_fld a_off a_x σ1 hh=o_fld a_off a_x σ2 hh by simp only [o_fld,h a_x (by simp [opsA])])
  | fldA a_off a_n a_x=>exact (show o_fldA a_off a_n a_x σ1 hh=o_fldA a_off a_n a_x σ2 hh by simp only [o_fldA,h a_x (by simp [opsA])])
  | iad a_sz a_x a_y=>exact (show o_iad a_sz a_x a_y σ1 hh=o_iad a_sz a_x a_y σ2 hh by simp only [o_iad,h a_x (by simp [opsA]),h a_y (by simp [opsA])])
  | iadA a_sz a_n a_x a_y=>exact (show o_iadA a_sz a_n a_x a_y σ1 hh=o_iadA a_sz a_n a_x a_y σ2 hh by simp only [o_iadA,h a_x (by simp [opsA]),h a_y (by simp [opsA])])
  | ix a_n a_x a_y=>exact (show o_ix a_n a_x a_y σ1 hh=o_ix a_n a_x a_y σ2 hh by simp only [o_ix,h a_x (by simp [opsA]),h a_y (by simp [opsA])])
  | ixA a_sz a_n a_x a_y=>exact (show o_ixA a_sz a_n a_x a_y σ1 hh=o_ixA a_sz a_n a_x a_y σ2 hh by simp only [o_ixA,h a_x (by simp [opsA]),h a_y (by simp [opsA])])
  | lk a_two a_k a_ok a_z a_x a_y=>exact (show o_lk a_two a_k a_ok a_z a_x a_y σ1 hh=o_lk a_two a_k a_ok a_z a_x a_y σ2 hh by simp only [o_lk,h a_x (by simp [opsA]),h a_y (by simp [opsA])])
  | mput a_two a_k a_x a_y a_z=>exact (show o_mput a_two a_k a_x a_y a_z σ1 hh=o_mput a_two a_k a_x a_y a_z σ2 hh by simp only [o_mput,h a_x (by simp [opsA]),h a_y (by simp [opsA]),h a_z (by simp [opsA])])
  | mdel a_two a_k a_x a_y=>exact (show o_mdel a_two a_k a_x a_y σ1 hh=o_mdel a_two a_k a_x a_y σ2 hh by simp only [o_mdel,h a_x (by simp [opsA]),h a_y (by simp [opsA])])
  | ext a_i a_x=>exact (show o_ext a_i a_x σ1 hh=o_ext a_i a_x σ2 hh by simp only [o_ext,h a_x (by simp [opsA])])
  | len a_x=>exact (show o_len a_x σ1 hh=o_len a_x σ2 hh by simp only [o_len,h a_x (by simp [opsA])])
  | lenM a_x=>exact (show o_lenM a_x σ1 hh=o_lenM a_x σ2 hh by simp only [o_lenM,h a_x (by simp [opsA])])
  | cap a_x=>exact (show o_cap a_x σ1 hh=o_cap a_x σ2 hh by simp only [o_cap,h a_x (by simp [opsA])])
  | app a_T a_sz a_bytes a_x a_y=>exact (show o_app a_T a_sz a_bytes a_x a_y σ1 hh=o_app a_T a_sz a_bytes a_x a_y σ2 hh by simp only [o_app,h a_x (by simp [opsA]),h a_y (by simp [opsA])])
  | cpy a_sz a_x a_y=>exact (show o_cpy a_sz a_x a_y σ1 hh=o_cpy a_sz a_x a_y σ2 hh by simp only [o_cpy,h a_x (by simp [opsA]),h a_y (by simp [opsA])])
  | clr a_z a_x=>exact (show o_clr a_z a_x σ1 hh=o_clr a_z a_x σ2 hh by simp only [o_clr,h a_x (by simp [opsA])])
  | min a_x a_y=>exact (show o_min a_x a_y σ1 hh=o_min a_x a_y σ2 hh by simp only [o_min,h a_x (by simp [opsA]),h a_y (by simp [opsA])])
  | max a_x a_y=>exact (show o_max a_x a_y σ1 hh=o_max a_x a_y σ2 hh by simp only [o_max,h a_x (by simp [opsA]),h a_y (by simp [opsA])])
  | bad=>rfl
  | and a_x a_y=>exact (show o_and a_x a_y σ1 hh=o_and a_x a_y σ2 hh by simp only [o_and,h a_x (by simp [opsA]),h a_y (by simp [opsA])])
  | ixs a_l a_y=>exact (show o_ixs a_l a_y σ1 hh=o_ixs a_l a_y σ2 hh by simp only [o_ixs,h a_y (by simp [opsA])])
  | apz a_T a_sz a_b a_z a_x a_y=>exact (show o_apz a_T a_sz a_b a_z a_x a_y σ1 hh=o_apz a_T a_sz a_b a_z a_x a_y σ2 hh by simp only [o_apz,h a_x (by simp [opsA]),h a_y (by simp [opsA])])
  | shr a_x a_y=>exact (show o_shr a_x a_y σ1 hh=o_shr a_x a_y σ2 hh by simp only [o_shr,h a_x (by simp [opsA]),h a_y (by simp [opsA])])
variable {r:Option Nat} {N:Nat} {Q:Post} {D:List Deferred} {l:List Oper}
theorem CK.anyRel {id:Nat} {σ:Env} {w:World} (hm:P.follows .mixedOrders=true) (hpr:∀ i,i < l.length→∀ j ∈ prI l i,j < i) (J:(Nat→Bool)→Env→World→Prop)
    (h0:J (fun _=>false) σ { w with drawn:=w.drawn + 1 })
    (step:∀ S i σ w,i < l.length→S i=false→(∀ j ∈ prI l i,S j=true)→(∀ k,k < l.length→S k=true→∀ j ∈ prI l k,S j=true)→(∀ k,S k=true→k < l.length)→J S σ w →
      ∃ o,l[i]?=some o∧(∀ d,o.dst=some d→d < N)∧Step1 P l o σ w fun v w'=>J (fun k=>k == i || S k) (put' σ o v) w')
    (fin:∀ S σ w,(∀ i,i < l.length→S i=true)→J S σ w→Q D .normal σ w):CK r N P (.region id l.toArray true) Q D σ w:=by
  intro a ha
  refine wpIn_region_any hm ?_
  have prog:∀ (listed:Array Bool),listed.size=l.length→Region.ready .any l.toArray listed=[]→∀ i,i < l.length→listed.getD i false=true:=by
    intro listed hsz hnil i
    induction i using Nat.strongRecOn with
    | _ i ih =>
      intro hi
      cases hb:listed.getD i false with
      | true=>rfl
      | false =>
        have:i ∈ Region.ready .any l.toArray listed:=(ready_spec hsz).2 ⟨hi,hb,fun j hj=>ih j (hpr i hi j hj) (Nat.lt_trans (hpr i hi j hj) hi)⟩
        rw [hnil] at this;cases this
  have core:∀ (fuel:Nat) (listed:Array Bool) (σ:Env) (a:Act) (w:World),listed.size=l.length→Rep N D a σ→(∀ k,k < l.length→listed.getD k false=true→∀ j ∈ prI l k,listed.getD j false=true) →
      J (fun i=>listed.getD i false) σ w→(listed.toList.filter (! ·)).length ≤ fuel→wpAnyIn (WF r) 0 P .any l.toArray (liftQ N Q) fuel listed a w:=by
    intro fuel
    induction fuel with
    | zero =>
      intro listed σ a w hsz hr hdc hJ hf
      have hall:∀ i,i < l.length→listed.getD i false=true:=by
        intro i hi
        cases hb:listed.getD i false with
        | true=>rfl
        | false=>have:=count_set listed i (by omega) hb;omega
      refine ⟨?_,σ,D,hr,fin _ σ w hall hJ⟩
      cases hr:Region.ready .any l.toArray listed with
      | nil=>rfl
      | cons x xs =>
        have hx:x ∈ Region.ready .any l.toArray listed:=by rw [hr];simp
        obtain ⟨h1,h2,_⟩:=(ready_spec hsz).1 hx
        rw [hall x h1] at h2;cases h2
    | succ fuel ih =>
      intro listed σ a w hsz hr hdc hJ hf
      refine ⟨fun hnil=>⟨σ,D,hr,fin _ σ w (prog listed hsz hnil) hJ⟩,fun i hi=>?_⟩
      obtain ⟨hlt,hun,hpi⟩:=(ready_spec hsz).1 hi
      have hsz':(listed.setIfInBounds i true).size=l.length:=by simpa using hsz
      have hf':((listed.setIfInBounds i true).toList.filter (! ·)).length ≤ fuel:=by have:=count_set listed i (by omega) hun;omega
      have hS:∀ k,listed.getD k false=true→k < l.length:=by
        intro k hk
        rcases Nat.lt_or_ge k l.length with h | h
        · exact h
        · rw [Array.getD_eq_getD_getElem?,Array.getElem?_eq_none (by omega)] at hk;cases hk
      obtain ⟨o,ho,hN,hst⟩:=step _ i σ w hlt hun hpi hdc hS hJ
      refine wpOpIn_of ho hr hN hst ?_
      intro v w' a' hr' hJ'
      refine ih _ (KL.put' σ o v) a' w' hsz' hr' ?_ ?_ hf'
      · intro k hk hkl j hj
        rw [getD_set (by omega)] at hkl ⊢
        rcases hkl with rfl | hkl
        · exact .inr (hpi j hj)
        · exact .inr (hdc k hk hkl j hj)
      · have e:(fun k=>(listed.setIfInBounds i true).getD k false)=fun k=>k == i || listed.getD k false:=by
          funext k
          rw [Bool.eq_iff_iff,getD_set (by omega),Bool.or_eq_true,beq_iff_eq]
        rw [e]
        exact hJ'
  have rep:∀ k,(Array.replicate l.toArray.size false).getD k false=false:=by
    intro k
    rw [Array.getD_eq_getD_getElem?,Array.getElem?_replicate]
    split <;> rfl
  refine core l.toArray.size (Array.replicate l.toArray.size false) σ a _ (by simp) ha ?_ ?_ ?_
  · intro k hk hkl
    rw [rep k] at hkl
    cases hkl
  · have e:(fun i=>(Array.replicate l.toArray.size false).getD i false)=fun _=>false:=by
      funext i
      rw [Array.getD_eq_getD_getElem?,Array.getElem?_replicate]
      split <;> rfl
    rw [e]
    exact h0
  · exact Nat.le_trans (List.length_filter_le _ _) (by simp)
end
end Go.KX
