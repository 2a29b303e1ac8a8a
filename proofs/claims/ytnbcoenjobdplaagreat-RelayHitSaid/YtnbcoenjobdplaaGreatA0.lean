import Derived.WalkKit
import Derived.TacticsIn
import Derived.OrdersIn
import Derived.RangeFuncIn
import Derived.RangeFuncLeaves
import Derived.LoopNIn
import Derived.Maps.AppendAt
import Derived.MapKept
import Derived.Laws.StructEq
import Derived.WideKeyRuns
import Derived.RangeFuncRecord
import Derived.Laws.MakeOwn
import Derived.ProofKit
import Derived.Deep.SlicePairs
import Derived.JoinedOf
set_option linter.all false
open List renaming mem_of_getElem?->hH,getElem?_eq_some_iff->nA,getElem?_eq_getElem->nD,getElem?_append_left->nG,getElem?_append_right->nH,getElem?_of_mem->nI,mem_cons->nK,getElem?_take->nM,getElem?_drop->nN,contains_eq_mem->nR,getElem?_map->nS,all_eq_true->nU,getElem?_cons_zero->nX,mem_append->nZ,getElem?_toArray->nf,mem_singleton->nh,range->ni,map->nj,mem_append_left->nk,rec->no,flatMap_cons->nr,getElem?_eq_none->nu,mem_append_right->nv,pairwise_append->nw,mem_range->kC,map_toArray->kG,mem_map->kJ,length_append->kO,map_cons->kP,nodup_append->kR,ext_getElem?->kS,flatten_cons->kU,drop_eq_getElem_cons->kV,length_cons->kY,mem_of_mem_eraseIdx->kZ,mem_filter->kg,nodup_cons->kh,mem_of_mem_drop->kl,mem_of_mem_take->km,flatMap_append->ko,length_flatMap->kq,set_cons_succ->ku,size_toArray->kx,getElem?_set->ky,mapM_toArray->kz,length->aC
open Nat renaming blt->nB,beq->nE,le_refl->nO,ble->nQ,lt_or_ge->nT,blt_eq->nV,le_trans->na,lt_of_lt_of_le->ng,add_mul->nl,eq_zero_or_pos->np,le_of_mul_le_mul_right->ny,le_of_ble_eq_true->kH,zero_add->kK,mul_le_mul_right->kL,rec->kM,zero_mul->kc,le_mul_of_pos_right->ke,zero_le->kj,mul_pos->kk,lt_trans->kr,le_succ->aA,not_lt->aE
open Array renaming getD_eq_getD_getElem?->nJ,getElem?_eq_none->nq,all_eq_true_iff_forall_mem->kE,getElem?_eq_getElem->kW,getElem?_replicate->kX,replicate->kf
open Option.some renaming injEq->nL,inj->aG
open Bool renaming and_eq_true->nP,not_eq_true'->nY,rec->nb,or_eq_true->nz,false_eq_true->kB
open Option renaming rec->nW,map_some->kA,getD_some->kD,bind_some->aD
open Prod.mk renaming injEq->kQ
open List.cons renaming injEq->ki
open Go.Value renaming int->kv,slice->aB,bool->aF
namespace Go.KL
open Go.RowKit
abbrev Env:=Nat->Value
def upd (σ:Env) (d:Nat) (v:Value):Env:=fun t=>bif nE t d then v else σ t
def ev (σ:Env):Operand->Value
 | .tmp t=>σ t
 | .const v=>v
 | .global g=>.pointer (some ⟨g,0,none⟩)
 | .func f=>.func (.func f) #[] #[]
def WF (r:Option Nat):Fence:={ fn:=fun _=>True,depth:=none,alive:=false,round:=r }
structure Rep (N:Nat) (D:List Deferred) (a:Act) (σ:Env):Prop where
 size:a.tmps.size=N
 defers:a.defers=D
 get:∀ t,a.tmps.getD t undef=σ t
theorem wBg (σ:Env) (d:Nat) (v:Value):upd σ d v d=v:=by simp [upd]
theorem wBe (σ:Env) {d t:Nat} (v:Value) (h:t ≠ d):upd σ d v t=σ t:=by
 unfold upd
 have:nE t d=false:=by
  cases hb:nE t d
  ·rfl
  ·exact absurd (Nat.eq_of_beq_eq_true hb) h
 simp [this]
theorem Rep.eval {N:Nat} {D:List Deferred} {a:Act} {σ:Env} (h:Rep N D a σ):a.eval=ev σ:=by
 funext x
 cases x with
 | tmp t=>exact h.get t
 | const v=>rfl
 | global g=>rfl
 | func f=>rfl
theorem Rep.put {N:Nat} {D:List Deferred} {a:Act} {σ:Env} (h:Rep N D a σ) {d:Nat} (hd:d < N) (v:Value):Rep N D (a.put (some d) v) (upd σ d v):=by
 refine ⟨by simp [Act.put,h.size],h.defers,fun t=>?_⟩
 by_cases e:t=d
 ·subst e
  rw [wBg]
  simp [Act.put,nJ,h.size,hd]
 ·rw [wBe _ _ e,<- h.get t]
  simp only [Act.put,nJ]
  rw [Array.getElem?_setIfInBounds_ne (fun e'=>e e'.symm)]
abbrev wCd:=List Deferred->Exit->Env->World->Prop
def wHB (N:Nat) (Q:wCd) (e:Exit) (a:Act) (w:World):Prop:=∃ σ D,Rep N D a σ/\Q D e σ w
def OK (r:Option Nat) (N:Nat) (P:Program) (ops:List Oper) (Q:wCd) (l:List Oper) (D:List Deferred) (σ:Env) (w:World):Prop :=
 ∀ a,Rep N D a σ->wpListIn (WF r) 0 P ops.toArray (wHB N Q) l a w
def CK (r:Option Nat) (N:Nat) (P:Program) (c:Code) (Q:wCd) (D:List Deferred) (σ:Env) (w:World):Prop :=
 ∀ a,Rep N D a σ->Code.wpIn (WF r) 0 P c (wHB N Q) a w
def wET (K:List Deferred->Env->World->Prop) (Q:wCd):wCd:=fun D e σ w =>
 match e with
 | .normal=>K D σ w
 | e=>Q D e σ w
def wGi (id:Nat) (Q:wCd):wCd:=fun D e σ w =>
 match e with
 | .exit i=>if i=id then Q D .normal σ w else Q D (.exit i) σ w
 | e=>Q D e σ w
section rules
variable {r:Option Nat} {N:Nat} {P:Program} {Q:wCd} {D:List Deferred} {σ:Env} {w:World}
theorem CK.mono {c:Code} {Q':wCd} (h:CK r N P c Q D σ w) (hq:∀ D e σ w,Q D e σ w->Q' D e σ w):CK r N P c Q' D σ w :=
 fun a ha=>wpIn_mono (h a ha) fun _ _ _ ⟨σ,D,hr,q⟩=>⟨σ,D,hr,hq _ _ _ _ q⟩
theorem CK.seq {x y:Code} (h:CK r N P x (wET (fun D σ w=>CK r N P y Q D σ w) Q) D σ w):CK r N P (.seq x y) Q D σ w:=by
 intro a ha
 refine wpIn_seq (wpIn_mono (h a ha) ?_)
 rintro e a w ⟨σ,D,hr,q⟩
 cases e with
 | normal=>exact q a hr
 | _=>exact ⟨σ,D,hr,q⟩
theorem CK.cut {x y:Code} (M:Env->World->Prop) (h1:CK r N P x (wET (fun D' σ w=>D'=D/\M σ w) Q) D σ w)
  (h2:∀ σ w,M σ w->CK r N P y Q D σ w):CK r N P (.seq x y) Q D σ w:=by
 refine CK.seq (h1.mono ?_)
 intro D' e σ w q
 cases e with
 | normal=>obtain ⟨rfl,hm⟩:=q;exact h2 _ _ hm
 | _=>exact q
theorem CK.skip (h:Q D .normal σ w):CK r N P .skip Q D σ w:=fun _ ha=>wpIn_skip ⟨σ,D,ha,h⟩
theorem CK.label {l:Nat} (h:Q D .normal σ w):CK r N P (.label l) Q D σ w:=fun _ ha=>wpIn_label ⟨σ,D,ha,h⟩
theorem CK.exit {id:Nat} (h:Q D (.exit id) σ w):CK r N P (.exit id) Q D σ w:=fun _ ha=>wpIn_exit ⟨σ,D,ha,h⟩
theorem CK.ret (h:Q D .ret σ w):CK r N P .ret Q D σ w:=fun _ ha=>wpIn_ret ⟨σ,D,ha,h⟩
theorem CK.block {id:Nat} {c:Code} (h:CK r N P c (wGi id Q) D σ w):CK r N P (.block id c) Q D σ w:=by
 intro a ha
 refine wpIn_block (wpIn_mono (h a ha) ?_)
 rintro e a w ⟨σ,D,hr,q⟩
 cases e with
 | exit i =>
  simp only [wGi] at q
  simp only [Exit.inBlock]
  split
  ·rename_i h;rw [if_pos h] at q;exact ⟨σ,D,hr,q⟩
  ·rename_i h;rw [if_neg h] at q;exact ⟨σ,D,hr,q⟩
 | _=>exact ⟨σ,D,hr,q⟩
theorem CK.condT {c:Operand} {x y:Code} (hc:ev σ c=.bool true) (h:CK r N P x Q D σ w):CK r N P (.cond c x y) Q D σ w :=
 fun a ha=>wpIn_cond_true (by rw [ha.eval];exact hc) (h a ha)
theorem CK.condF {c:Operand} {x y:Code} (hc:ev σ c=.bool false) (h:CK r N P y Q D σ w):CK r N P (.cond c x y) Q D σ w :=
 fun a ha=>wpIn_cond_false (by rw [ha.eval];exact hc) (h a ha)
theorem CK.loopM {c:Code} (I:Nat->Env->World->Prop) {m:Nat} (h0:I m σ w)
  (h:∀ m σ w,I m σ w->CK r N P c (wET (fun D' σ' w'=>D'=D/\∃ m',m' < m/\I m' σ' w') Q) D σ w):CK r N P (.loop c) Q D σ w:=by
 have key:∀ M m σ w,m < M->I m σ w->∀ a,Rep N D a σ->Code.roundsIn (WF r) 0 P c (wHB N Q) M a w:=by
  intro M
  induction M with
  | zero=>intro m _ _ hm;omega
  | succ M ih =>
   intro m σ w hm hI a ha
   rw [roundsIn_succ]
   refine wpIn_mono (h m σ w hI a ha) ?_
   rintro e a' w' ⟨σ',D',hr,q⟩
   cases e with
   | normal =>
    obtain ⟨rfl,m',hlt,hI'⟩:=q
    exact ih m' σ' w' (by omega) hI' a' hr
   | _=>exact ⟨σ',D',hr,q⟩
 exact fun a ha=>wpIn_loop_rounds (m + 1) (key (m + 1) m σ w (by omega) h0 a ha)
theorem wHC {K:List Deferred->Env->World->Prop} (h:K D σ w):wET K Q D .normal σ w:=h
theorem wKq {K:List Deferred->Env->World->Prop} {i:Nat} (h:Q D (.exit i) σ w):wET K Q D (.exit i) σ w:=h
theorem wKr {K:List Deferred->Env->World->Prop} (h:Q D .ret σ w):wET K Q D .ret σ w:=h
theorem wJU {i:Nat} (h:Q D .normal σ w):wGi i Q D .normal σ w:=h
theorem wHD {i:Nat} (h:Q D .normal σ w):wGi i Q D (.exit i) σ w:=by show (if i=i then _ else _);rw [if_pos rfl];exact h
theorem wMy {i j:Nat} (h:Q D (.exit j) σ w) (hne:nE j i=false:=by rfl):wGi i Q D (.exit j) σ w:=by
 have:j ≠ i:=fun e=>by subst e;rw [Nat.beq_refl] at hne;cases hne
 show (if j=i then _ else _);rw [if_neg this];exact h
theorem wJV {i:Nat} (h:Q D .ret σ w):wGi i Q D .ret σ w:=h
theorem CK.region {id:Nat} {l:List Oper} (h:OK r N P l Q l D σ w):CK r N P (.region id l.toArray false) Q D σ w :=
 fun a ha=>wpIn_region_lit (h a ha)
theorem OK.nil {ops:List Oper} (h:Q D .normal σ w):OK r N P ops Q [] D σ w:=fun _ ha=>wpListIn_nil ⟨σ,D,ha,h⟩
theorem CK.fresh {c:Code} {σ:Env} (h:∀ σ',(∀ t,σ' t=σ t)->CK r N P c Q D σ' w):CK r N P c Q D σ w:=h σ fun _=>rfl
end rules
def wanted (ops:List Oper) (σ:Env) (o:Oper):Bool :=
 match o.guard with
 | none=>true
 | some (j,b)=>match (ops[j]?).bind (·.dst) with
  | some d=>match σ d with
   | .bool b'=>b' == b
   | _=>false
  | none=>false
def wEU:Op->Bool
 | .defer _=>false
 | _=>true
theorem wCe {N:Nat} {D:List Deferred} {a:Act} {σ:Env} (h:Rep N D a σ) (ops:List Oper) (o:Oper) (hw:wanted ops σ o=true) :
  Region.wanted o (yielded ops.toArray a.tmps)=true:=by
 unfold wanted at hw
 unfold Region.wanted
 cases hg:o.guard with
 | none=>rfl
 | some g =>
  obtain ⟨j,b⟩:=g
  simp only [hg] at hw ⊢
  unfold yielded
  simp only [nf]
  cases hd:(ops[j]?).bind (·.dst) with
  | none=>simp [hd] at hw
  | some d =>
   simp only [hd] at hw
   have hg':=h.get d
   rw [nJ] at hg'
   simp only [aD]
   cases ht:a.tmps[d]? with
   | none =>
    rw [ht] at hg'
    simp only [Option.getD_none] at hg'
    rw [<- hg'] at hw
    simp [undef] at hw
   | some v =>
    rw [ht] at hg'
    simp only [kD] at hg'
    subst hg'
    cases hv:σ d <;> simp_all
theorem wDz {N:Nat} {D:List Deferred} {a:Act} {σ:Env} (h:Rep N D a σ) (ops:List Oper) (o:Oper) (hw:wanted ops σ o=false) :
  Region.wanted o (yielded ops.toArray a.tmps)=false:=by
 unfold wanted at hw
 unfold Region.wanted
 cases hg:o.guard with
 | none=>simp [hg] at hw
 | some g =>
  obtain ⟨j,b⟩:=g
  simp only [hg] at hw ⊢
  unfold yielded
  simp only [nf]
  cases hd:(ops[j]?).bind (·.dst) with
  | none=>simp
  | some d =>
   simp only [hd] at hw
   have hg':=h.get d
   rw [nJ] at hg'
   simp only [aD]
   cases ht:a.tmps[d]? with
   | none=>simp
   | some v =>
    rw [ht] at hg'
    simp only [kD] at hg'
    subst hg'
    cases hv:σ d <;> simp_all
section ops
variable {r:Option Nat} {N:Nat} {P:Program} {ops:List Oper} {Q:wCd} {D:List Deferred} {σ:Env} {w w':World} {rest:List Oper} {o:Oper} {d:Nat}
def Runs (P:Program) (σ:Env) (w:World) (o:Oper) (v:Value) (w':World):Prop :=
 wEU o.op=true/\(execOp (ev σ) o).run P w=.ok (.value v) w'
def Does (P:Program) (σ:Env) (w:World) (o:Oper) (w':World):Prop :=
 wEU o.op=true/\(execOp (ev σ) o).run P w=.ok .skip w'
theorem semAt_eq (r:Option Nat) (ρ:Operand->Value) (o:Oper) (h:wEU o.op=true):o.semAt r ρ=execOp ρ o :=
 Oper.semAt_eq r ρ o fun c e=>by rw [e] at h;cases h
theorem OK.val {v:Value} (hw:wanted ops σ o=true) (hd:o.dst=some d) (hdN:nB d N=true) (hr:Runs P σ w o v w')
  (k:OK r N P ops Q rest D (upd σ d v) w'):OK r N P ops Q (o :: rest) D σ w:=by
 intro a ha
 have hdN':d < N:=by simpa [nV] using hdN
 simp only [wpListIn,wCe ha ops o hw,if_true]
 refine ⟨fun _ _=>trivial,?_⟩
 rw [semAt_eq _ _ _ hr.1,ha.eval,hr.2]
 simp only [Oper.uponIn,hd]
 exact k _ (ha.put hdN' v)
theorem OK.unit (hw:wanted ops σ o=true) (hd:o.dst=none) (hr:Does P σ w o w')
  (k:OK r N P ops Q rest D σ w'):OK r N P ops Q (o :: rest) D σ w:=by
 intro a ha
 simp only [wpListIn,wCe ha ops o hw,if_true]
 refine ⟨fun _ _=>trivial,?_⟩
 rw [semAt_eq _ _ _ hr.1,ha.eval,hr.2]
 simp only [Oper.uponIn,hd,Act.put]
 exact k _ ha
theorem OK.valn {v:Value} (hw:wanted ops σ o=true) (hd:o.dst=none) (hr:Runs P σ w o v w')
  (k:OK r N P ops Q rest D σ w'):OK r N P ops Q (o :: rest) D σ w:=by
 intro a ha
 simp only [wpListIn,wCe ha ops o hw,if_true]
 refine ⟨fun _ _=>trivial,?_⟩
 rw [semAt_eq _ _ _ hr.1,ha.eval,hr.2]
 simp only [Oper.uponIn,hd,Act.put]
 exact k _ ha
theorem OK.pass (hw:wanted ops σ o=false) (hd:o.dst=some d) (hdN:nB d N=true)
  (k:OK r N P ops Q rest D (upd σ d undef) w):OK r N P ops Q (o :: rest) D σ w:=by
 intro a ha
 have hdN':d < N:=by simpa [nV] using hdN
 simp only [wpListIn,wDz ha ops o hw,kB,if_false]
 refine ⟨fun _ _=>trivial,?_⟩
 rw [hd]
 exact k _ (ha.put hdN' _)
theorem OK.passn (hw:wanted ops σ o=false) (hd:o.dst=none)
  (k:OK r N P ops Q rest D σ w):OK r N P ops Q (o :: rest) D σ w:=by
 intro a ha
 simp only [wpListIn,wDz ha ops o hw,kB,if_false]
 refine ⟨fun _ _=>trivial,?_⟩
 rw [hd]
 exact k _ ha
def Gv (P:Program) (f:FuncId) (args:List Value) (w:World) (R:Value->World->Prop):Prop :=
 Calls P f args.toArray w fun e w'=>∃ v,e=.returned v/\R v w'
theorem Calls.mono' {f:FuncId} {args:Array Value} {R R':Ending->World->Prop} (h:Calls P f args w R) (hr:∀ e w',R e w'->R' e w'):Calls P f args w R' :=
 fun cs=>let ⟨e,w',fr,a,b⟩:=h cs;⟨e,w',fr,hr _ _ a,b⟩
theorem Gv.mono {f:FuncId} {args:List Value} {R R':Value->World->Prop} (h:Gv P f args w R) (hr:∀ v w',R v w'->R' v w'):Gv P f args w R' :=
 Calls.mono' h fun _ _ ⟨v,e,hR⟩=>⟨v,e,hr _ _ hR⟩
theorem wHE {F:Fence} {n:Nat} {l:Nat} {f:FuncId} {args:Array Value} {R:Ending->World->Prop} (h:CallsIn F n P f args w R):CallsIn (F.inRound l) n P f args w R:=h
theorem Gv.callsIn {f:FuncId} {args:List Value} {R:Value->World->Prop} (h:Gv P f args w R) (r:Option Nat) :
  CallsIn (WF r) 0 P f args.toArray w fun e w'=>∃ v,e=.returned v/\R v w':=by
 have h':CallsIn Fence.wide 0 P f args.toArray w fun e w'=>∃ v,e=.returned v/\R v w':=callsIn_wide.2 h
 cases r with
 | none=>exact h'
 | some l=>exact wHE (l:=l) h'
theorem wNm:nj (ev σ) []=[]:=rfl
theorem wKs {x:Operand} {l:List Operand} {v:Value} {vs:List Value} (h:ev σ x=v) (ht:nj (ev σ) l=vs):nj (ev σ) (x :: l)=v :: vs:=by
 rw [kP,h,ht]
def Enters (P:Program) (σ:Env) (w:World) (o:Oper) (f:FuncId) (args:List Value):Prop :=
 wEU o.op=true/\(execOp (ev σ) o).run P w=.ok (.enter f args.toArray) w
theorem Enters.mk {x:Operand} {l:List Operand} {ty:Array TypeId} {f:FuncId} {fl cl vs args:List Value}
  (ho:o.op=.call { callee:=.value x,args:=l.toArray,argTypes:=ty }) (hx:ev σ x=.func (.func f) fl.toArray cl.toArray)
  (hcall:∀ (args:Array Value) (w:World),(callFunc f args).run P w=.ok (.enter f args) w)
  (hl:nj (ev σ) l=vs) (ha:fl ++ vs ++ cl=args):Enters P σ w o f args:=by
 refine ⟨by rw [ho];rfl,?_⟩
 subst ha hl
 simp [execOp,ho,resolve,hx,Deferred.ofValue,invoke,hcall]
theorem OK.call {f:FuncId} {args:List Value} {R:Value->World->Prop} (hw:wanted ops σ o=true) (hd:o.dst=some d) (hdN:nB d N=true)
  (he:Enters P σ w o f args) (hf:Gv P f args w R)
  (k:∀ v w',R v w'->OK r N P ops Q rest D (upd σ d v) w'):OK r N P ops Q (o :: rest) D σ w:=by
 intro a ha
 have hdN':d < N:=by simpa [nV] using hdN
 simp only [wpListIn,wCe ha ops o hw,if_true]
 refine ⟨fun _ _=>trivial,?_⟩
 rw [semAt_eq _ _ _ he.1,ha.eval,he.2]
 simp only [Oper.uponIn,hd]
 refine ⟨fun h=>(by cases h),?_⟩
 refine CallsIn.mono (hf.callsIn r) ?_
 rintro e w' ⟨v,rfl,hR⟩
 exact k v w' hR _ (ha.put hdN' v)
theorem OK.calln {f:FuncId} {args:List Value} {R:Value->World->Prop} (hw:wanted ops σ o=true) (hd:o.dst=none)
  (he:Enters P σ w o f args) (hf:Gv P f args w R)
  (k:∀ v w',R v w'->OK r N P ops Q rest D σ w'):OK r N P ops Q (o :: rest) D σ w:=by
 intro a ha
 simp only [wpListIn,wCe ha ops o hw,if_true]
 refine ⟨fun _ _=>trivial,?_⟩
 rw [semAt_eq _ _ _ he.1,ha.eval,he.2]
 simp only [Oper.uponIn,hd]
 refine ⟨fun h=>(by cases h),?_⟩
 refine CallsIn.mono (hf.callsIn r) ?_
 rintro e w' ⟨v,rfl,hR⟩
 exact k v w' hR _ ha
end ops
def wFG (σ:Env):ResultVar->Sem Value
 | .tmp t=>pure (σ t)
 | .cell a t=>do loadVar t (<- asAddr (σ a))
def wCK (rs:Array ResultVar) (σ:Env):Sem Value:=do
 let vs <- rs.mapM (wFG σ)
 pure (if h:vs.size=1 then vs[0] else .tuple vs)
theorem wEV {N:Nat} {D:List Deferred} {a:Act} {σ:Env} (h:Rep N D a σ) (fn:Func):results fn a.tmps=wCK fn.results σ:=by
 unfold results wCK
 congr 1
 congr 1
 funext x
 cases x with
 | tmp t=>simp only [h.get,wFG]
 | cell a t=>simp only [h.get,wFG]
def retQ (P:Program) (rs:Array ResultVar) (R:Value->World->Prop):wCd:=fun D e σ w =>
 match e with
 | .normal | .ret=>D=[]/\∃ v,(wCK rs σ).run P w=.ok v w/\R v w
 | _=>False
def wNn (args:List Value):Env:=fun t=>(args[t]?).getD undef
theorem wJW (args:List Value) (N:Nat) (h:args.length <= N) :
  Rep N [] { tmps:=args.toArray ++ kf (N - args.toArray.size) undef,defers:=[] } (wNn args):=by
 refine ⟨by simp;omega,rfl,fun t=>?_⟩
 simp only [nJ,wNn]
 rw [Array.getElem?_append]
 split
 ·simp
 ·rename_i hge
  simp only [kx,aE] at hge
  rw [nu hge,kX]
  split <;> rfl
theorem Gv.of {P:Program} {f:FuncId} {fn:Func} {c:Code} {args:List Value} {w:World} {R:Value->World->Prop} {N:Nat} {rs:Array ResultVar}
  (hf:P.funcs[f]?=some fn) (hb:fn.body=some c) (hN:fn.ntmps=N) (hrs:fn.results=rs) (hle:nQ args.length N=true)
  (h:CK none N P c (retQ P rs R) [] (wNn args) w):Gv P f args w R:=by
 refine callsIn_wide.1 (callsIn_of_wp hf hb trivial ?_ (n:=0))
 subst hN hrs
 refine wpIn_mono (h _ (wJW args _ (kH hle))) ?_
 rintro e a w ⟨σ,D,hr,q⟩
 cases e with
 | normal=>obtain ⟨rfl,v,hv,hR⟩:=q;exact ⟨hr.defers,v,by rw [wEV hr];exact hv,v,rfl,hR⟩
 | ret=>obtain ⟨rfl,v,hv,hR⟩:=q;exact ⟨hr.defers,v,by rw [wEV hr];exact hv,v,rfl,hR⟩
 | _=>exact q.elim
theorem res0 {P:Program} {σ:Env} {w:World}:(wCK #[] σ).run P w=.ok (.tuple #[]) w:=by simp [wCK]
theorem res1 {P:Program} {σ:Env} {w:World} {t:Nat} {v:Value} (h:σ t=v):(wCK #[.tmp t] σ).run P w=.ok v w:=by subst h;simp [wCK,wFG]
theorem res2 {P:Program} {σ:Env} {w:World} {t u:Nat} {x y:Value} (h:σ t=x) (h2:σ u=y):(wCK #[.tmp t,.tmp u] σ).run P w=.ok (.tuple #[x,y]) w:=by subst h h2;simp [wCK,wFG]
end Go.KL
namespace Go.KL
open Go.RowKit
structure TapeLe (w w':World):Prop where
 eq:w'.tape=w.tape
 le:w.drawn <= w'.drawn
theorem TapeLe.trans {a b c:World} (k:TapeLe b c) (h:TapeLe a b):TapeLe a c:=⟨k.eq.trans h.eq,na h.le k.le⟩
theorem TapeLe.refl (w:World):TapeLe w w:=⟨rfl,nO _⟩
structure Keep (w w':World) (X:Nat->Prop):Prop where
 os:w'.os=w.os
 tape:TapeLe w w'
 output:w'.output=w.output
 size:w.heap.size <= w'.heap.size
 block:∀ k,k < w.heap.size->¬ X k->w'.heap[k]?=w.heap[k]?
abbrev Non:Nat->Prop:=fun _=>False
theorem Keep.refl (w:World) (X:Nat->Prop):Keep w w X:=⟨rfl,TapeLe.refl w,rfl,nO _,fun _ _ _=>rfl⟩
theorem Keep.step {a b c:World} {X Y:Nat->Prop} (h:Keep a b X) (k:Keep b c Y) (hs:∀ i,i < a.heap.size->Y i->X i):Keep a c X :=
 ⟨k.os.trans h.os,k.tape.trans h.tape,k.output.trans h.output,na h.size k.size,fun i hi hx =>
  (k.block i (ng hi h.size) (fun hy=>hx (hs i hi hy))).trans (h.block i hi hx)⟩
theorem Keep.non {a b c:World} {X:Nat->Prop} (h:Keep a b X) (k:Keep b c Non):Keep a c X:=h.step k fun _ _ h=>h.elim
theorem Keep.weak {a b:World} {X Y:Nat->Prop} (h:Keep a b Y) (hs:∀ i,i < a.heap.size->Y i->X i):Keep a b X :=
 ⟨h.os,h.tape,h.output,h.size,fun i hi hx=>h.block i hi fun hy=>hx (hs i hi hy)⟩
theorem Keep.below {a b:World} (h:Keep a b Non):Below a.heap.size a b:=⟨h.os,h.tape.eq,h.output,h.size,fun k hk=>h.block k hk id⟩
theorem Keep.drew (w:World):Keep w { w with drawn:=w.drawn + 1 } Non:=⟨rfl,⟨rfl,aA _⟩,rfl,nO _,fun _ _ _=>rfl⟩
def Blk (w:World) (b:Nat) (T:TypeId) (l:List Value):Prop:=w.heap[b]?=some (.cells l.toArray T (0,0))
theorem Blk.lt {w:World} {b:Nat} {T:TypeId} {l:List Value} (h:Blk w b T l):b < w.heap.size:=by
 rcases nT b w.heap.size with hlt | hge
 ·exact hlt
 ·unfold Blk at h;rw [nq hge] at h;cases h
theorem Blk.keep {w w':World} {b:Nat} {T:TypeId} {l:List Value} {X:Nat->Prop} (h:Blk w b T l) (k:Keep w w' X) (hx:¬ X b):Blk w' b T l:=(k.block b h.lt hx).trans h
theorem Blk.non {w w':World} {b:Nat} {T:TypeId} {l:List Value} (h:Blk w b T l) (k:Keep w w' Non):Blk w' b T l:=h.keep k id
theorem Blk.cell {w:World} {b off:Nat} {T:TypeId} {l:List Value} {v:Value} (h:Blk w b T l) (hv:l[off]?=some v):w.cell? ⟨b,off,none⟩=some v:=by
 unfold Blk at h
 simp [World.cell?,h,hv]
theorem Blk.frozen {w:World} {b off:Nat} {T:TypeId} {l:List Value} (h:Blk w b T l):w.frozen? ⟨b,off,none⟩=false:=by
 unfold Blk at h
 simp [World.frozen?,h]
theorem wAn (w:World) (o:Obj):Keep w (w.alloc o) Non:=⟨rfl,⟨rfl,nO _⟩,rfl,by simp,fun k hk _=>Below.heap_alloc w o k hk⟩
theorem wDH (w:World) (l:List Value) (T:TypeId):Blk (w.alloc (.cells l.toArray T)) w.heap.size T l:=by
 unfold Blk
 show (w.heap.push _)[w.heap.size]?=_
 simp
theorem wGj (w:World) (o:Obj):(w.alloc o).heap.size=w.heap.size + 1:=by simp
theorem wHk (w:World) (b off:Nat) (v:Value):Keep w (w.setCell ⟨b,off,none⟩ v) (·=b) :=
 ⟨rfl,⟨rfl,nO _⟩,rfl,by simp [World.setCell],fun k _ hx=>Below.heap_setCell w _ v k hx⟩
theorem wIV {w:World} {b:Nat} {T:TypeId} {l:List Value} (h:Blk w b T l) (off:Nat) (v:Value):Blk (w.setCell ⟨b,off,none⟩ v) b T (l.set off v):=by
 unfold Blk at h ⊢
 simp [World.setCell,Array.getElem?_modify,h]
theorem wHl (w:World) (a:Addr) (v:Value):(w.setCell a v).heap.size=w.heap.size:=by simp [World.setCell]
def wES:List Value->Nat->List Value->List Value
 | l,_,[]=>l
 | l,off,v :: vs=>wES (l.set off v) (off + 1) vs
theorem wCE (l:List Value) (off:Nat) (vs:List Value):(wES l off vs).length=l.length:=by
 induction vs generalizing l off with
 | nil=>rfl
 | cons v vs ih=>simp [wES,ih]
def one (v:Value):Bool :=
 match v with
 | .agg _ | .tuple _=>false
 | _=>true
theorem wKI {P:Program} {w:World} {b off:Nat} {T:TypeId} {l:List Value} {v:Value} (h:Blk w b T l) (hlt:off < l.length) (h1:one v=true) :
  (store ⟨b,off,none⟩ v).run P w=.ok () (w.setCell ⟨b,off,none⟩ v):=by
 have hc:w.cell? ⟨b,off,none⟩=some (l[off]'hlt):=h.cell (nD hlt)
 have hf:=h.frozen (off:=off)
 cases v <;> simp [store,Sem.run,hc,hf,one] at h1 ⊢
theorem wCZ {P:Program} {b:Nat} {T:TypeId} (off:Nat) (vs:List Value):∀ (i:Nat) (l:List Value) (w:World),Blk w b T l->off + i + vs.length <= l.length->(∀ v ∈ vs,one v=true) ->
  ∃ w',(storeCells ⟨b,off,none⟩ vs i).run P w=.ok () w'/\Blk w' b T (wES l (off + i) vs)/\Keep w w' (·=b)/\w'.heap.size=w.heap.size:=by
 induction vs with
 | nil=>intro i l w h _ _;exact ⟨w,by simp [storeCells],h,Keep.refl _ _,rfl⟩
 | cons v vs ih =>
  intro i l w h hle h1
  have hlt:off + i < l.length:=by simp at hle;omega
  have hs:=wKI (P:=P) h hlt (h1 v (by simp))
  obtain ⟨w',h2,h3,h4,h5⟩:=ih (i + 1) (l.set (off + i) v) _ (wIV h (off + i) v) (by simp at hle ⊢;omega) (fun u hu=>h1 u (by simp [hu]))
  refine ⟨w',?_,h3,(wHk w b (off + i) v).step h4 (fun _ _ h=>h),by rw [h5,wHl]⟩
  have ha:Addr.add ⟨b,off,none⟩ i=⟨b,off + i,none⟩:=by unfold Addr.add;split <;> simp_all
  simp only [storeCells,Sem.run_bind,ha,hs,Result.andThen_ok]
  exact h2
section
variable {r:Option Nat} {N:Nat} {P:Program} {ops:List Oper} {Q:wCd} {D:List Deferred} {σ:Env} {w w':World} {rest:List Oper} {o:Oper} {d:Nat}
theorem Runs.mv {x:Operand} {v:Value} (ho:o.op=.move x) (hx:ev σ x=v):Runs P σ w o v w:=⟨by rw [ho];rfl,by simp [execOp,ho,hx]⟩
theorem Runs.as {x:Operand} {v:Value} (ho:o.op=.assign x) (hx:ev σ x=v):Runs P σ w o v w:=⟨by rw [ho];rfl,by simp [execOp,ho,hx]⟩
theorem Runs.pickT {c x y:Operand} {v:Value} (ho:o.op=.pick c x y) (hc:ev σ c=.bool true) (hx:ev σ x=v):Runs P σ w o v w:=⟨by rw [ho];rfl,by simp [execOp,ho,hc,hx,asBool]⟩
theorem Runs.pickF {c x y:Operand} {v:Value} (ho:o.op=.pick c x y) (hc:ev σ c=.bool false) (hx:ev σ y=v):Runs P σ w o v w:=⟨by rw [ho];rfl,by simp [execOp,ho,hc,hx,asBool]⟩
theorem Runs.ext {x:Operand} {i:Nat} {vs:Array Value} {v:Value} (ho:o.op=.extract x i) (hx:ev σ x=.tuple vs) (hv:vs[i]?=some v):Runs P σ w o v w :=
 ⟨by rw [ho];rfl,by simp [execOp,ho,Instr.extract,hx,hv]⟩
theorem Runs.nilp {x:Operand} {a:Addr} (ho:o.op=.nilCheck x) (hx:ev σ x=.pointer (some a)):Runs P σ w o (.pointer (some a)) w :=
 ⟨by rw [ho];rfl,by simp [execOp,ho,hx]⟩
theorem Runs.nilf {x:Operand} {f:FuncId} {a b:Array Value} (ho:o.op=.nilCheck x) (hx:ev σ x=.func (.func f) a b):Runs P σ w o (.func (.func f) a b) w :=
 ⟨by rw [ho];rfl,by simp [execOp,ho,hx]⟩
theorem Runs.nily {x:Operand} {f:Nat} {a b:Array Value} (ho:o.op=.nilCheck x) (hx:ev σ x=.func (.yield f) a b):Runs P σ w o (.func (.yield f) a b) w :=
 ⟨by rw [ho];rfl,by simp [execOp,ho,hx]⟩
theorem Runs.mkf {fn:Go.Fn} {fl cl:List Operand} {fv cv:List Value} (ho:o.op=.makeFunc fn fl.toArray cl.toArray) (hf:nj (ev σ) fl=fv) (hc:nj (ev σ) cl=cv):Runs P σ w o (.func fn fv.toArray cv.toArray) w :=
 ⟨by rw [ho];rfl,by subst hf hc;simp [execOp,ho,Instr.makeFunc]⟩
theorem wDL (b off n:Nat):Addr.add ⟨b,off,none⟩ n=⟨b,off + n,none⟩:=by unfold Addr.add;split <;> simp_all
theorem Runs.ld {t:TypeId} {x:Operand} {a:Addr} {v:Value} (ho:o.op=.load t x) (hx:ev σ x=.pointer (some a)) (hag:∀ w,(isAgg t).run P w=.ok false w) (hc:w.cell? a=some v):Runs P σ w o v w :=
 ⟨by rw [ho];rfl,by simp [execOp,ho,Instr.loadAt,hx,Instr.sureAddr,loadVar,hag,load,Sem.run,hc]⟩
theorem wEo {P:Program} {w:World} {b off:Nat} (vs:List Value):∀ (i:Nat) (acc:Array Value),(∀ j v,vs[j]?=some v->w.cell? ⟨b,off + i + j,none⟩=some v) ->
  (loadCellsFrom ⟨b,off,none⟩ i vs.length acc).run P w=.ok (acc ++ vs.toArray) w:=by
 induction vs with
 | nil=>intro i acc _;simp [loadCellsFrom]
 | cons v vs ih =>
  intro i acc h
  have h0:=h 0 v rfl
  simp only [Nat.add_zero] at h0
  have:=ih (i + 1) (acc.push v) (fun j u hu=>by have:=h (j + 1) u (by simpa using hu);rw [show off + (i + 1) + j=off + i + (j + 1) from by omega];exact this)
  simp only [kY,loadCellsFrom,Sem.run_bind,wDL]
  simp only [load,Sem.run,h0,Result.andThen_ok]
  rw [this]
  simp
theorem run_loadCells {P:Program} {w:World} {b off n:Nat} (vs:List Value) (hn:vs.length=n) (h:∀ j v,vs[j]?=some v->w.cell? ⟨b,off + j,none⟩=some v) :
  (loadCells ⟨b,off,none⟩ n).run P w=.ok vs.toArray w:=by
 subst hn
 have:=wEo (P:=P) (w:=w) (b:=b) (off:=off) vs 0 #[] (by simpa using h)
 simpa [loadCells] using this
theorem Runs.ldA {t:TypeId} {x:Operand} {b off n:Nat} {vs:List Value} (ho:o.op=.load t x) (hx:ev σ x=.pointer (some ⟨b,off,none⟩)) (hag:∀ w,(isAgg t).run P w=.ok true w)
  (hsz:∀ w,(sizeOf t).run P w=.ok n w) (hn:vs.length=n) (h:∀ j v,vs[j]?=some v->w.cell? ⟨b,off + j,none⟩=some v):Runs P σ w o (.agg vs.toArray) w :=
 ⟨by rw [ho];rfl,by simp [execOp,ho,Instr.loadAt,hx,Instr.sureAddr,loadVar,hag,hsz,run_loadCells vs hn h]⟩
theorem Blk.cells {w:World} {b off n:Nat} {T:TypeId} {l vs:List Value} (h:Blk w b T l) (hv:(l.drop off).take n=vs):∀ j v,vs[j]?=some v->w.cell? ⟨b,off + j,none⟩=some v:=by
 intro j v hj
 subst hv
 refine h.cell ?_
 rw [nM] at hj
 split at hj
 ·rwa [nN] at hj
 ·cases hj
theorem Runs.ldB {t T:TypeId} {x:Operand} {b off:Nat} {l:List Value} {v:Value} (ho:o.op=.load t x) (hx:ev σ x=.pointer (some ⟨b,off,none⟩)) (hag:∀ w,(isAgg t).run P w=.ok false w)
  (hB:Blk w b T l) (hv:l[off]?=some v):Runs P σ w o v w:=Runs.ld ho hx hag (hB.cell hv)
theorem Runs.ldBA {t T:TypeId} {x:Operand} {b off n:Nat} {l vs:List Value} (ho:o.op=.load t x) (hx:ev σ x=.pointer (some ⟨b,off,none⟩)) (hag:∀ w,(isAgg t).run P w=.ok true w)
  (hsz:∀ w,(sizeOf t).run P w=.ok n w) (hB:Blk w b T l) (hv:(l.drop off).take n=vs) (hn:vs.length=n):Runs P σ w o (.agg vs.toArray) w :=
 Runs.ldA ho hx hag hsz hn (hB.cells hv)
theorem Runs.fa {s:TypeId} {x:Operand} {i b off n:Nat} {fs:Array Field} {fl:Field} (ho:o.op=.fieldAddr s x i) (hx:ev σ x=.pointer (some ⟨b,off,none⟩))
  (hs:∀ w,(underlying s).run P w=.ok (.struct fs) w) (hf:fs[i]?=some fl) (hsz:∀ w,(sizeOf fl.type).run P w=.ok (n + 1) w):Runs P σ w o (.pointer (some ⟨b,off + fl.offset,none⟩)) w :=
 ⟨by rw [ho];rfl,by simp [execOp,ho,Instr.fieldAt,hs,hf,hx,Instr.sureAddr,fieldPlace,hsz,wDL]⟩
theorem Runs.ia {t e:TypeId} {x y:Operand} {b off len cap sz:Nat} {i:Int} (ho:o.op=.indexAddr t x y) (hx:ev σ x=.slice (some ⟨b,off,none⟩) len cap) (hy:ev σ y=.int .i64 i)
  (ht:∀ w,(underlying t).run P w=.ok (.slice e) w) (hsz:∀ w,(sizeOf e).run P w=.ok sz w) (h0:0 <= i) (h1:i < len):Runs P σ w o (.pointer (some ⟨b,off + i.toNat * sz,none⟩)) w :=
 ⟨by rw [ho];rfl,by simp [execOp,ho,Instr.indexAt,hx,hy,asIntOf,ht,hsz,h0,h1,wDL]⟩
theorem Runs.iaA {t e:TypeId} {x y:Operand} {b off len sz:Nat} {i:Int} (ho:o.op=.indexAddr t x y) (hx:ev σ x=.pointer (some ⟨b,off,none⟩)) (hy:ev σ y=.int .i64 i)
  (ht:∀ w,(underlying t).run P w=.ok (.array len e) w) (hsz:∀ w,(sizeOf e).run P w=.ok sz w) (h0:0 <= i) (h1:i < len):Runs P σ w o (.pointer (some ⟨b,off + i.toNat * sz,none⟩)) w :=
 ⟨by rw [ho];rfl,by simp [execOp,ho,Instr.indexAt,Instr.sureAddr,hx,hy,asIntOf,ht,hsz,h0,h1,wDL]⟩
theorem wHF {P:Program} {w:World} {e n off:Nat} {cs vs:List Value} (hag:∀ w,(isAgg e).run P w=.ok true w) (hsz:∀ w,(sizeOf e).run P w=.ok n w) (hv:(cs.drop off).take n=vs) :
  (part e cs.toArray off).run P w=.ok (.agg vs.toArray) w:=by
 subst hv
 simp [part,hag,hsz,List.extract_eq_take_drop]
theorem wFf {P:Program} {w:World} {e off:Nat} {cs:List Value} {v:Value} (hag:∀ w,(isAgg e).run P w=.ok false w) (hv:cs[off]?=some v) :
  (part e cs.toArray off).run P w=.ok v w:=by
 simp [part,hag,hv]
theorem Runs.ixA {t e:TypeId} {x y:Operand} {len sz:Nat} {i:Int} {cs:List Value} {v:Value} (ho:o.op=.index t x y) (hx:ev σ x=.agg cs.toArray) (hy:ev σ y=.int .i64 i)
  (ht:∀ w,(underlying t).run P w=.ok (.array len e) w) (hsz:∀ w,(sizeOf e).run P w=.ok sz w) (h0:0 <= i) (h1:i < len) (hp:(part e cs.toArray (i.toNat * sz)).run P w=.ok v w):Runs P σ w o v w :=
 ⟨by rw [ho];rfl,by simp [execOp,ho,Instr.index,hx,hy,asIntOf,ht,hsz,h0,h1,hp]⟩
theorem Runs.fld {s:TypeId} {x:Operand} {i:Nat} {fs:Array Field} {fl:Field} {cs:List Value} {v:Value} (ho:o.op=.field s x i) (hx:ev σ x=.agg cs.toArray)
  (hs:∀ w,(underlying s).run P w=.ok (.struct fs) w) (hf:fs[i]?=some fl) (hp:(part fl.type cs.toArray fl.offset).run P w=.ok v w):Runs P σ w o v w :=
 ⟨by rw [ho];rfl,by simp [execOp,ho,Instr.field,hs,hf,hx,asAgg,hp]⟩
theorem Runs.not {t:TypeId} {x:Operand} {b:Bool} (ho:o.op=.unOp .not t x) (hx:ev σ x=.bool b):Runs P σ w o (.bool !b) w :=
 ⟨by rw [ho];rfl,by simp [execOp,ho,hx,Op.unary]⟩
theorem Runs.lss {t u:TypeId} {k:IntKind} {x y:Operand} {m n:Int} (ho:o.op=.binOp .lss t x y u) (hx:ev σ x=.int k m) (hy:ev σ y=.int k n):Runs P σ w o (.bool (decide (m < n))) w :=
 ⟨by rw [ho];rfl,by simp [execOp,ho,hx,hy,binOp,eqGuard,Op.intCmp]⟩
theorem Runs.leq {t u:TypeId} {k:IntKind} {x y:Operand} {m n:Int} (ho:o.op=.binOp .leq t x y u) (hx:ev σ x=.int k m) (hy:ev σ y=.int k n):Runs P σ w o (.bool (decide (m <= n))) w :=
 ⟨by rw [ho];rfl,by simp [execOp,ho,hx,hy,binOp,eqGuard,Op.intCmp]⟩
theorem Runs.gtr {t u:TypeId} {k:IntKind} {x y:Operand} {m n:Int} (ho:o.op=.binOp .gtr t x y u) (hx:ev σ x=.int k m) (hy:ev σ y=.int k n):Runs P σ w o (.bool (decide (n < m))) w :=
 ⟨by rw [ho];rfl,by simp [execOp,ho,hx,hy,binOp,eqGuard,Op.intCmp]⟩
theorem Runs.geq {t u:TypeId} {k:IntKind} {x y:Operand} {m n:Int} (ho:o.op=.binOp .geq t x y u) (hx:ev σ x=.int k m) (hy:ev σ y=.int k n):Runs P σ w o (.bool (decide (n <= m))) w :=
 ⟨by rw [ho];rfl,by simp [execOp,ho,hx,hy,binOp,eqGuard,Op.intCmp]⟩
theorem wIW (m n:Int):(m == n)=decide (m=n):=by by_cases h:m=n <;> simp [h]
theorem Runs.eql {t u:TypeId} {k:IntKind} {x y:Operand} {m n:Int} (ho:o.op=.binOp .eql t x y u) (hx:ev σ x=.int k m) (hy:ev σ y=.int k n):Runs P σ w o (.bool (decide (m=n))) w :=
 ⟨by rw [ho];rfl,by simp [execOp,ho,hx,hy,binOp,eqGuard,Op.intCmp,wIW]⟩
theorem Runs.neq {t u:TypeId} {k:IntKind} {x y:Operand} {m n:Int} (ho:o.op=.binOp .neq t x y u) (hx:ev σ x=.int k m) (hy:ev σ y=.int k n):Runs P σ w o (.bool (decide (m ≠ n))) w :=
 ⟨by rw [ho];rfl,by simp [execOp,ho,hx,hy,binOp,eqGuard,Op.intCmp,bne,wIW]⟩
theorem Runs.to {v v':Value} (h:Runs P σ w o v w') (e:v=v'):Runs P σ w o v' w':=e ▸ h
theorem wGb {p:Prop} [Decidable p] (h:p):aF (decide p)=.bool true:=by simp [h]
theorem wPy {p:Prop} [Decidable p] (h:¬ p):aF (decide p)=.bool false:=by simp [h]
theorem Runs.len {t e:TypeId} {x:Operand} {a:Option Addr} {n c:Nat} (ho:o.op=.call { callee:=.builtin .len,args:=#[x],argTypes:=#[t] }) (hx:ev σ x=.slice a n c)
  (ht:∀ w,(underlying t).run P w=.ok (.slice e) w):Runs P σ w o (.int .i64 n) w :=
 ⟨by rw [ho];rfl,by simp [execOp,ho,resolve,invoke,builtin,Builtin.len_,hx,ht,goInt]⟩
end
end Go.KL
namespace Go.KL
open Go.RowKit
def wKJ (o:Oper):List Nat:=(o.after.toList.filter (Region.binds .any)).map (·.on)
def Rounds (P:Program) (σ:Env) (w:World) (o:Oper) (R:Value->World->Prop):Prop :=
 wEU o.op=true/\∃ l f tmps asg body,(execOp (ev σ) o).run P w=.ok (.round l f tmps asg body) w/\RoundIn (WF none) 0 P l f tmps asg body w fun e w'=>∃ v,e=.returned v/\R v w'
theorem Rounds.mono {P:Program} {σ:Env} {w:World} {o:Oper} {R R':Value->World->Prop} (h:Rounds P σ w o R) (hR:∀ v w',R v w'->R' v w'):Rounds P σ w o R':=by
 obtain ⟨h1,l,f,t,a,b,h2,h3⟩:=h
 exact ⟨h1,l,f,t,a,b,h2,h3.mono fun e w' ⟨v,e1,e2⟩=>⟨v,e1,hR _ _ e2⟩⟩
theorem wEA {P:Program} {l:Nat} {f:FuncId} {tmps:Array Value} {asg body:Code} {w:World} {R:Ending->World->Prop} (h:RoundIn (WF none) 0 P l f tmps asg body w R) (r:Option Nat):RoundIn (WF r) 0 P l f tmps asg body w R:=h
theorem OK.round {r:Option Nat} {N:Nat} {P:Program} {ops:List Oper} {Q:wCd} {D:List Deferred} {σ:Env} {w:World} {rest:List Oper} {o:Oper} {d:Nat} {R:Value->World->Prop}
  (hw:wanted ops σ o=true) (hd:o.dst=some d) (hdN:nB d N=true) (hr:Rounds P σ w o R) (k:∀ v w',R v w'->OK r N P ops Q rest D (upd σ d v) w'):OK r N P ops Q (o :: rest) D σ w:=by
 intro a ha
 have hdN':d < N:=by simpa [nV] using hdN
 obtain ⟨h1,l,f,t,as,b,h2,h3⟩:=hr
 simp only [wpListIn,wCe ha ops o hw,if_true]
 refine ⟨fun _ _=>trivial,?_⟩
 rw [semAt_eq _ _ _ h1,ha.eval,h2]
 simp only [Oper.uponIn,hd]
 refine ⟨fun h=>(by cases h),?_⟩
 refine RoundIn.mono (wEA h3 r) ?_
 rintro e w' ⟨v,rfl,hR⟩
 exact k v w' hR _ (ha.put hdN' _)
theorem OK.roundn {r:Option Nat} {N:Nat} {P:Program} {ops:List Oper} {Q:wCd} {D:List Deferred} {σ:Env} {w:World} {rest:List Oper} {o:Oper} {R:Value->World->Prop}
  (hw:wanted ops σ o=true) (hd:o.dst=none) (hr:Rounds P σ w o R) (k:∀ v w',R v w'->OK r N P ops Q rest D σ w'):OK r N P ops Q (o :: rest) D σ w:=by
 intro a ha
 obtain ⟨h1,l,f,t,as,b,h2,h3⟩:=hr
 simp only [wpListIn,wCe ha ops o hw,if_true]
 refine ⟨fun _ _=>trivial,?_⟩
 rw [semAt_eq _ _ _ h1,ha.eval,h2]
 simp only [Oper.uponIn,hd]
 refine ⟨fun h=>(by cases h),?_⟩
 refine RoundIn.mono (wEA h3 r) ?_
 rintro e w' ⟨v,rfl,hR⟩
 exact k v w' hR _ ha
def Step1 (P:Program) (ops:List Oper) (o:Oper) (σ:Env) (w:World) (R:Value->World->Prop):Prop :=
 (wanted ops σ o=true/\((o.dst=none/\∃ w',Does P σ w o w'/\R undef w') \/ (∃ v w',Runs P σ w o v w'/\R v w') \/ (∃ f args R',Enters P σ w o f args/\Gv P f args w R'/\∀ v w',R' v w'->R v w') \/ Rounds P σ w o R)) \/
 (wanted ops σ o=false/\R undef w)
theorem Keep.trans' {a b c:World} {X:Nat->Prop} (h:Keep a b X) (k:Keep b c X):Keep a c X:=h.step k fun _ _ h=>h
def put' (σ:Env) (o:Oper) (v:Value):Env :=
 match o.dst with
 | some d=>upd σ d v
 | none=>σ
def wEp (P:Program) (σ:Env) (w:World) (o:Oper) (v:Value):Prop:=∀ w',Keep w w' Non->Runs P σ w' o v w'
inductive Sch
 | nil
 | stop
 | fl (i:Nat) (s:Sch)
 | fx (i:Nat) (s alt:Sch)
def kOf (ks:List Nat) (i:Nat):Nat:=ks.getD i 0
def wNo (ks:List Nat) (i:Nat):Bool:=kOf ks i == 1 || kOf ks i == 3 || kOf ks i == 1004
def InL (T:List Nat) (b:Nat):Prop:=b ∈ T
def OutL (T:List Nat) (b:Nat):Prop:=b ∉ T
def chg (l:List Oper) (ks:List Nat):Nat->Prop:=bif nE (kOf ks (l.length - 1)) 1006 then OutL (ks.drop l.length) else InL (ks.drop l.length)
def wPz (k:Nat):Bool:=nE k 3 || nE k 1004
def wFO (k:Nat):Bool:=nE k 2 || nE k 1005
def KeepD (l:List Oper) (ks:List Nat) (i:Nat) (w w':World):Prop:=(kOf ks i=2->Keep w w' Non)/\(kOf ks i=1005->Keep w w' (chg l ks))
theorem KeepD.of {l:List Oper} {ks:List Nat} {i:Nat} {w w':World} (h:wFO (kOf ks i)=false \/ Keep w w' Non):KeepD l ks i w w':=by
 refine ⟨fun e=>?_,fun e=>?_⟩
 ·rcases h with h | h
  ·rw [e] at h;cases h
  ·exact h
 ·rcases h with h | h
  ·rw [e] at h;cases h
  ·exact h.weak fun _ _ hx=>hx.elim
theorem KeepD.refl (l:List Oper) (ks:List Nat) (i:Nat) (w:World):KeepD l ks i w w:=.of (.inr (Keep.refl w _))
def Fl (P:Program) (l:List Oper) (k:Nat) (T:Nat->Prop) (o:Oper) (σ:Env) (w:World) (K:Env->Prop):Prop :=
 (wanted l σ o=true/\∃ v,(wEp P σ w o v)/\((k=3->∀ w',Runs P σ w' o v w')/\(k=1004->∀ w',Keep w w' T->Runs P σ w' o v w'))/\K (put' σ o v)) \/ (wanted l σ o=false/\K (put' σ o undef))
def OKS (N:Nat) (P:Program) (l:List Oper) (Q:wCd) (D:List Deferred) (ks:List Nat):Sch->Env->World->Prop
 | .nil,σ,w=>Q D .normal σ w
 | .stop,_,_=>True
 | .fl i s,σ,w=>∃ o,l[i]?=some o/\(∀ d,o.dst=some d->d < N)/\Fl P l (kOf ks i) (chg l ks) o σ w fun σ'=>OKS N P l Q D ks s σ' w
 | .fx i s alt,σ,w=>(∃ o,l[i]?=some o/\(∀ d,o.dst=some d->d < N)/\Step1 P l o σ w fun v w'=>KeepD l ks i w w'/\OKS N P l Q D ks s (put' σ o v) w')/\OKS N P l Q D ks alt σ w
section
variable {r:Option Nat} {N:Nat} {P:Program} {Q:wCd} {D:List Deferred} {l:List Oper} {ks:List Nat}
theorem Step1.mono {ops:List Oper} {o:Oper} {σ:Env} {w:World} {R R':Value->World->Prop} (h:Step1 P ops o σ w R) (hR:∀ v w',R v w'->R' v w'):Step1 P ops o σ w R':=by
 rcases h with ⟨h1,⟨h2,w',h3,h4⟩ | ⟨v,w',h3,h4⟩ | ⟨f,args,Q,h3,h4,h5⟩ | hy⟩ | ⟨h1,h2⟩
 ·exact .inl ⟨h1,.inl ⟨h2,w',h3,hR _ _ h4⟩⟩
 ·exact .inl ⟨h1,.inr (.inl ⟨v,w',h3,hR _ _ h4⟩)⟩
 ·exact .inl ⟨h1,.inr (.inr (.inl ⟨f,args,Q,h3,h4,fun v w' h=>hR _ _ (h5 v w' h)⟩))⟩
 ·exact .inl ⟨h1,.inr (.inr (.inr (hy.mono hR)))⟩
 ·exact .inr ⟨h1,hR _ _ h2⟩
theorem OK.step1 {o:Oper} {rest:List Oper} {σ:Env} {w:World} {R:Value->World->Prop} (hdN:∀ d,o.dst=some d->d < N) (h:Step1 P l o σ w R)
  (k:∀ v w',R v w'->OK r N P l Q rest D (put' σ o v) w'):OK r N P l Q (o :: rest) D σ w:=by
 unfold put' at k
 cases hd:o.dst with
 | none =>
  rw [hd] at k
  rcases h with ⟨h1,⟨_,w',h3,h4⟩ | ⟨v,w',h3,h4⟩ | ⟨f,args,Q,h3,h4,h5⟩ | hy⟩ | ⟨h1,h2⟩
  ·exact OK.unit h1 hd h3 (k _ _ h4)
  ·exact OK.valn h1 hd h3 (k _ _ h4)
  ·exact OK.calln h1 hd h3 h4 fun v w' hR=>k _ _ (h5 _ _ hR)
  ·exact OK.roundn h1 hd hy fun v w' hR=>k _ _ hR
  ·exact OK.passn h1 hd (k _ _ h2)
 | some d =>
  rw [hd] at k
  have hb:nB d N=true:=by rw [nV];exact hdN d hd
  rcases h with ⟨h1,⟨h2,w',h3,h4⟩ | ⟨v,w',h3,h4⟩ | ⟨f,args,Q,h3,h4,h5⟩ | hy⟩ | ⟨h1,h2⟩
  ·rw [hd] at h2;cases h2
  ·exact OK.val h1 hd hb h3 (k _ _ h4)
  ·exact OK.call h1 hd hb h3 h4 fun v w' hR=>k _ _ (h5 _ _ hR)
  ·exact OK.round h1 hd hb hy fun v w' hR=>k _ _ hR
  ·exact OK.pass h1 hd hb (k _ _ h2)
theorem Fl.step1 {k:Nat} {T:Nat->Prop} {o:Oper} {σ:Env} {w:World} {K:Env->Prop} (h:Fl P l k T o σ w K):Step1 P l o σ w fun v w'=>w'=w/\K (put' σ o v):=by
 rcases h with ⟨h1,v,h2,_,h3⟩ | ⟨h1,h2⟩
 ·exact .inl ⟨h1,.inr (.inl ⟨v,w,h2 w (Keep.refl w _),rfl,h3⟩)⟩
 ·exact .inr ⟨h1,rfl,h2⟩
def inOrder:Nat->Sch->Nat->Bool
 | p,.nil,n=>p == n
 | _,.stop,_=>false
 | p,.fl i s,n=>i == p && inOrder (p + 1) s n
 | p,.fx i s _,n=>i == p && inOrder (p + 1) s n
theorem OKS.inOrder (s:Sch):∀ (p:Nat) (σ:Env) (w:World),inOrder p s l.length=true->OKS N P l Q D ks s σ w->OK r N P l Q (l.drop p) D σ w:=by
 induction s with
 | nil =>
  intro p σ w hs h
  simp only [KL.inOrder,beq_iff_eq] at hs
  subst hs
  rw [List.drop_length];exact OK.nil h
 | stop=>intro p σ w hs h;cases hs
 | fl i s ih =>
  intro p σ w hs h
  simp only [KL.inOrder,nP,beq_iff_eq] at hs
  obtain ⟨rfl,hs⟩:=hs
  obtain ⟨o,ho,hN,hf⟩:=h
  obtain ⟨hlt,e⟩:=nA.1 ho
  rw [kV hlt,e]
  exact OK.step1 hN hf.step1 fun v w' ⟨e,hk⟩=>e ▸ ih (i + 1) _ _ hs hk
 | fx i s alt ih _ =>
  intro p σ w hs h
  simp only [KL.inOrder,nP,beq_iff_eq] at hs
  obtain ⟨rfl,hs⟩:=hs
  obtain ⟨⟨o,ho,hN,hf⟩,_⟩:=h
  obtain ⟨hlt,e⟩:=nA.1 ho
  rw [kV hlt,e]
  exact OK.step1 hN hf fun v w' ⟨_,hk⟩=>ih (i + 1) _ _ hs hk
theorem CK.reg {id:Nat} {σ:Env} {w:World} (s:Sch) (hs:inOrder 0 s l.length=true) (h:OKS N P l Q D ks s σ w):CK r N P (.region id l.toArray false) Q D σ w :=
 CK.region (by have:=OKS.inOrder (r:=r) s 0 σ w hs h;simpa using this)
def wDe (l:List Oper) (o:Oper):List Nat :=
  (o.op.operands.toList.filterMap fun | .tmp t=>some t | _=>none) ++
  (match o.guard with
   | some (g,_)=>((l[g]?).bind (·.dst)).toList
   | none=>[])
def wBU (o:Oper):Bool:=match o.op with | .select ..=>true | _=>false
def apt (l:List Oper) (x y:Oper):Bool :=
  !wBU x && !wBU y &&
  (match x.dst with
   | some d=>!(wDe l y).contains d && y.dst != some d
   | none=>true) &&
  (match y.dst with
   | some d=>!(wDe l x).contains d
   | none=>true)
structure Apt (l:List Oper) (x y:Oper):Prop where
 sx:wBU x=false
 sy:wBU y=false
 xy:∀ d,x.dst=some d->d ∉ wDe l y
 ne:∀ d,x.dst=some d->y.dst ≠ some d
 yx:∀ d,y.dst=some d->d ∉ wDe l x
theorem wMz {x y:Oper} (h:apt l x y=true):Apt l x y:=by
 unfold apt at h
 simp only [nP,nY] at h
 obtain ⟨⟨⟨h1,h2⟩,h3⟩,h4⟩:=h
 refine ⟨h1,h2,fun d hd=>?_,fun d hd=>?_,fun d hd=>?_⟩
 ·rw [hd] at h3;simp only [nP,nY,nR,decide_eq_false_iff_not] at h3;exact h3.1
 ·rw [hd] at h3;simp only [nP,bne_iff_ne] at h3;exact h3.2
 ·rw [hd] at h4;simp only [nY,nR,decide_eq_false_iff_not] at h4;exact h4
theorem wKt {o:Oper} (h:wBU o=false):∀ cs b,o.op ≠ .select cs b:=by
 intro cs b e;unfold wBU at h;rw [e] at h;cases h
theorem wFg {σ:Env} {o:Oper} {v:Value} {t:Nat} (h:∀ d,o.dst=some d->d ≠ t):put' σ o v t=σ t:=by
 unfold put'
 cases hd:o.dst with
 | none=>rfl
 | some d=>exact wBe _ _ (Ne.symm (h d hd))
theorem wOL {σ:Env} {x o:Oper} {v:Value} (h:∀ d,x.dst=some d->d ∉ wDe l o):∀ y ∈ o.op.operands,ev (put' σ x v) y=ev σ y:=by
 intro y hy
 cases y with
 | tmp t =>
  refine wFg fun d hd e=>h d hd ?_
  subst e
  exact nk _ (List.mem_filterMap.2 ⟨.tmp d,by simpa using hy,rfl⟩)
 | _=>rfl
theorem wCF {σ:Env} {x o:Oper} {v:Value} (h:∀ d,x.dst=some d->d ∉ wDe l o):wanted l (put' σ x v) o=wanted l σ o:=by
 unfold wanted
 cases hg:o.guard with
 | none=>rfl
 | some g =>
  obtain ⟨j,b⟩:=g
  simp only
  cases hd:(l[j]?).bind (·.dst) with
  | none=>rfl
  | some t =>
   simp only
   rw [wFg fun d hx e=>h d hx ?_]
   subst e
   unfold wDe
   rw [hg]
   simp only [hd]
   simp
theorem wFW {σ:Env} {x o:Oper} {v:Value} (hs:wBU o=false) (h:∀ d,x.dst=some d->d ∉ wDe l o):execOp (ev (put' σ x v)) o=execOp (ev σ) o :=
 execOp_congr o (wKt hs) (wOL h)
theorem Runs.put' {σ:Env} {x o:Oper} {u v:Value} {w w':World} (hs:wBU o=false) (h:∀ d,x.dst=some d->d ∉ wDe l o):Runs P (put' σ x u) w o v w' ↔ Runs P σ w o v w':=by
 unfold Runs;rw [wFW hs h]
theorem Does.put' {σ:Env} {x o:Oper} {u:Value} {w w':World} (hs:wBU o=false) (h:∀ d,x.dst=some d->d ∉ wDe l o):Does P (put' σ x u) w o w' ↔ Does P σ w o w':=by
 unfold Does;rw [wFW hs h]
theorem Enters.put' {σ:Env} {x o:Oper} {u:Value} {w:World} {f:FuncId} {args:List Value} (hs:wBU o=false) (h:∀ d,x.dst=some d->d ∉ wDe l o):Enters P (put' σ x u) w o f args ↔ Enters P σ w o f args:=by
 unfold Enters;rw [wFW hs h]
theorem Rounds.put' {σ:Env} {x o:Oper} {u:Value} {w:World} {R:Value->World->Prop} (hs:wBU o=false) (h:∀ d,x.dst=some d->d ∉ wDe l o):Rounds P (put' σ x u) w o R ↔ Rounds P σ w o R:=by
 unfold Rounds;rw [wFW hs h]
theorem Step1.put' {σ:Env} {x o:Oper} {u:Value} {w:World} {R:Value->World->Prop} (hs:wBU o=false) (h:∀ d,x.dst=some d->d ∉ wDe l o):Step1 P l o (put' σ x u) w R->Step1 P l o σ w R:=by
 unfold Step1
 rw [wCF h]
 simp only [Runs.put' hs h,Does.put' hs h,Enters.put' hs h,Rounds.put' hs h]
 exact id
theorem wFh {σ:Env} {x y:Oper} (u v:Value) (h:∀ d,x.dst=some d->y.dst ≠ some d):KL.put' (KL.put' σ x u) y v=KL.put' (KL.put' σ y v) x u:=by
 unfold KL.put'
 cases hx:x.dst with
 | none=>rfl
 | some d =>
  cases hy:y.dst with
  | none=>rfl
  | some e =>
   have hne:d ≠ e:=fun he=>h d hx (by rw [hy,he])
   show upd (upd σ d u) e v=upd (upd σ e v) d u
   funext t
   by_cases h1:t=d
   ·subst h1;rw [wBe _ _ hne,wBg,wBg]
   ·rw [wBe (upd σ e v) _ h1]
    by_cases h2:t=e
    ·subst h2;rw [wBg,wBg]
    ·rw [wBe _ _ h2,wBe _ _ h2,wBe _ _ h1]
def Over (k:Nat) (T:Nat->Prop) (w w':World):Prop:=k=3 \/ Keep w w' Non \/ (k=1004/\Keep w w' T)
theorem OKS.swapF {i j:Nat} {s:Sch} {σ:Env} {w:World} (hap:∀ x y,l[i]?=some x->l[j]?=some y->Apt l x y)
  (h:OKS N P l Q D ks (.fl i (.fl j s)) σ w):OKS N P l Q D ks (.fl j (.fl i s)) σ w:=by
 obtain ⟨x,hx,hxN,hf⟩:=h
 have key:∀ u,(OKS N P l Q D ks (.fl j s) (put' σ x u) w)->∃ y,l[j]?=some y/\(∀ d,y.dst=some d->d < N)/\Fl P l (kOf ks j) (chg l ks) y σ w (fun σ'=>∃ v,σ'=put' σ y v/\OKS N P l Q D ks s (put' σ' x u) w):=by
  rintro u ⟨y,hy,hyN,hg⟩
  have A:=hap x y hx hy
  refine ⟨y,hy,hyN,?_⟩
  rcases hg with ⟨h1,v,h2,h3,h4⟩ | ⟨h1,h2⟩
  ·exact .inl ⟨by rwa [wCF A.xy] at h1,v,fun w2 k2=>(Runs.put' A.sy A.xy).1 (h2 w2 k2),⟨fun e w2=>(Runs.put' A.sy A.xy).1 (h3.1 e w2),fun e w2 k2=>(Runs.put' A.sy A.xy).1 (h3.2 e w2 k2)⟩,v,rfl,by rw [<- wFh u v A.ne];exact h4⟩
  ·exact .inr ⟨by rwa [wCF A.xy] at h1,undef,rfl,by rw [<- wFh u undef A.ne];exact h2⟩
 rcases hf with ⟨h1,u,h2,h3,h4⟩ | ⟨h1,h4⟩
 ·obtain ⟨y,hy,hyN,hg⟩:=key u h4
  have A:=hap x y hx hy
  refine ⟨y,hy,hyN,?_⟩
  have go:∀ v,OKS N P l Q D ks s (put' (put' σ y v) x u) w->OKS N P l Q D ks (.fl i s) (put' σ y v) w:=fun v hv =>
   ⟨x,hx,hxN,.inl ⟨by rw [wCF A.yx];exact h1,u,fun w2 k2=>(Runs.put' A.sx A.yx).2 (h2 w2 k2),⟨fun e w2=>(Runs.put' A.sx A.yx).2 (h3.1 e w2),fun e w2 k2=>(Runs.put' A.sx A.yx).2 (h3.2 e w2 k2)⟩,hv⟩⟩
  rcases hg with ⟨g1,v,g2,g3,v',e,g4⟩ | ⟨g1,v',e,g2⟩
  ·exact .inl ⟨g1,v,g2,g3,go v g4⟩
  ·exact .inr ⟨g1,go undef g2⟩
 ·obtain ⟨y,hy,hyN,hg⟩:=key undef h4
  have A:=hap x y hx hy
  refine ⟨y,hy,hyN,?_⟩
  have go:∀ v,OKS N P l Q D ks s (put' (put' σ y v) x undef) w->OKS N P l Q D ks (.fl i s) (put' σ y v) w:=fun v hv =>
   ⟨x,hx,hxN,.inr ⟨by rw [wCF A.yx];exact h1,hv⟩⟩
  rcases hg with ⟨g1,v,g2,g3,v',e,g4⟩ | ⟨g1,v',e,g2⟩
  ·exact .inl ⟨g1,v,g2,g3,go v g4⟩
  ·exact .inr ⟨g1,go undef g2⟩
theorem OKS.swapX {i j:Nat} {s:Sch} {σ:Env} {w:World} (hap:∀ x y,l[i]?=some x->l[j]?=some y->Apt l x y) (hk:kOf ks j=2 \/ kOf ks i=3 \/ (kOf ks i=1004/\kOf ks j=1005))
  (h:OKS N P l Q D ks (.fl i (.fx j s .stop)) σ w):OKS N P l Q D ks (.fx j (.fl i s) .stop) σ w:=by
 obtain ⟨x,hx,hxN,hf⟩:=h
 have key:∀ u,(OKS N P l Q D ks (.fx j s .stop) (put' σ x u) w)->∃ y,l[j]?=some y/\Apt l x y/\(∀ d,y.dst=some d->d < N)/\Step1 P l y σ w fun v w'=>KeepD l ks j w w'/\OKS N P l Q D ks s (put' (put' σ x u) y v) w':=by
  rintro u ⟨⟨y,hy,hyN,hg⟩,_⟩
  have A:=hap x y hx hy
  exact ⟨y,hy,A,hyN,Step1.put' A.sy A.xy hg⟩
 have fin:∀ u y,l[j]?=some y->Apt l x y->(∀ d,y.dst=some d->d < N)->(Step1 P l y σ w fun v w'=>KeepD l ks j w w'/\OKS N P l Q D ks s (put' (put' σ x u) y v) w') ->
   (∀ v w',Over (kOf ks i) (chg l ks) w w'->OKS N P l Q D ks s (put' (put' σ y v) x u) w'->OKS N P l Q D ks (.fl i s) (put' σ y v) w')->OKS N P l Q D ks (.fx j (.fl i s) .stop) σ w:=by
  intro u y hy A hyN hg hx2
  refine ⟨⟨y,hy,hyN,hg.mono fun v w' ⟨hk',hO⟩=>⟨hk',hx2 v w' ?_ (by rw [<- wFh u v A.ne];exact hO)⟩⟩,trivial⟩
  rcases hk with e | e | ⟨e,e2⟩
  ·exact .inr (.inl (hk'.1 e))
  ·exact .inl e
  ·exact .inr (.inr ⟨e,hk'.2 e2⟩)
 rcases hf with ⟨h1,u,h2,h3,h4⟩ | ⟨h1,h4⟩
 ·obtain ⟨y,hy,A,hyN,hg⟩:=key u h4
  refine fin u y hy A hyN hg fun v w' hw hO=>⟨x,hx,hxN,.inl ⟨by rw [wCF A.yx];exact h1,u,fun w2 k2=>(Runs.put' A.sx A.yx).2 ?_,⟨fun e w2=>(Runs.put' A.sx A.yx).2 (h3.1 e w2),fun e w2 k2=>(Runs.put' A.sx A.yx).2 ?_⟩,hO⟩⟩
  ·rcases hw with e | hw | ⟨e,hw⟩
   ·exact h3.1 e w2
   ·exact h2 w2 (hw.non k2)
   ·exact h3.2 e w2 (hw.non k2)
  ·rcases hw with e' | hw | ⟨_,hw⟩
   ·exact h3.1 e' w2
   ·exact h3.2 e w2 (Keep.trans' (hw.weak fun _ _ hx=>hx.elim) k2)
   ·exact h3.2 e w2 (Keep.trans' hw k2)
 ·obtain ⟨y,hy,A,hyN,hg⟩:=key undef h4
  exact fin undef y hy A hyN hg fun v w' hw hO=>⟨x,hx,hxN,.inr ⟨by rw [wCF A.yx];exact h1,hO⟩⟩
def apI (l:List Oper) (i j:Nat):Bool:=match l[i]?,l[j]? with | some x,some y=>apt l x y | _,_=>false
def prI (l:List Oper) (i:Nat):List Nat:=match l[i]? with | some o=>wKJ o | none=>[]
def wGc (l:List Oper):Nat->Nat->Nat->Bool
 | 0,_,_=>false
 | n + 1,x,i=>(prI l i).contains x || (prI l i).any fun p=>wGc l n x p
def wQA (l:List Oper) (ks F X:List Nat) (y:Nat):Bool:=(prI l y).any fun p=>if wNo ks p then !F.contains p else !X.contains p
def wKK:Sch->List Nat
 | .fx i _ a=>i :: wKK a
 | _=>[]
def wHi (l:List Oper) (ks:List Nat):Bool->List Nat->List Nat->Sch->Bool
 | false,F,X,.nil=>(ni l.length).all fun y=>F.contains y || X.contains y
 | true,_,_,.nil=>false
 | m,_,_,.stop=>m
 | true,_,_,.fl _ _=>false
 | false,F,X,.fl i s=>wNo ks i && nB i l.length && !F.contains i && F.all (fun x=>apI l x i || wGc l 12 x i) && wHi l ks false (F ++ [i]) X s
 | m,F,X,.fx i s a=>(m || (ni l.length).all fun y=>F.contains y || X.contains y || (wKK (.fx i s a)).contains y || wQA l ks F X y) &&
   !wNo ks i && nB i l.length && !X.contains i && F.all (fun x=>(apI l x i && (kOf ks i == 2 || (kOf ks x == 3 || (kOf ks x == 1004 && kOf ks i == 1005)))) || wGc l 12 x i) && wHi l ks false F (i :: X) s && wHi l ks true F X a
def wKu (l:List Oper) (ks:List Nat) (s:Sch):Bool:=(ni l.length).all (fun i=>(prI l i).all (nB · i)) && wHi l ks false [] [] s
def fls (s:Sch) (pend:List Nat):Sch:=pend.foldr Sch.fl s
theorem wJX {i j:Nat} (h:apI l i j=true):∀ x y,l[i]?=some x->l[j]?=some y->Apt l x y:=by
 intro x y hx hy
 unfold apI at h
 rw [hx,hy] at h
 exact wMz h
theorem OKS.flMono {i:Nat} {s t:Sch} {σ:Env} {w:World} (hst:∀ σ,OKS N P l Q D ks s σ w->OKS N P l Q D ks t σ w) (h:OKS N P l Q D ks (.fl i s) σ w):OKS N P l Q D ks (.fl i t) σ w:=by
 obtain ⟨o,ho,hN,h1 | h1⟩:=h
 ·obtain ⟨h1,v,h2,h3,h4⟩:=h1
  exact ⟨o,ho,hN,.inl ⟨h1,v,h2,h3,hst _ h4⟩⟩
 ·exact ⟨o,ho,hN,.inr ⟨h1.1,hst _ h1.2⟩⟩
theorem OKS.flsMono {s t:Sch} {w:World} (hst:∀ σ,OKS N P l Q D ks s σ w->OKS N P l Q D ks t σ w):∀ (pend:List Nat) (σ:Env),OKS N P l Q D ks (fls s pend) σ w->OKS N P l Q D ks (fls t pend) σ w
 | [],σ,h=>hst σ h
 | _ :: pend,_,h=>OKS.flMono (fun σ=>OKS.flsMono hst pend σ) h
theorem OKS.frontF {i:Nat} {s:Sch} {w:World} {ys:List Nat}:∀ (xs:List Nat) (σ:Env),(∀ x ∈ xs,apI l x i=true)->OKS N P l Q D ks (fls s (xs ++ i :: ys)) σ w->OKS N P l Q D ks (.fl i (fls s (xs ++ ys))) σ w
 | [],_,_,h=>h
 | x :: xs,_,ha,h=>OKS.swapF (wJX (ha x (by simp))) (OKS.flMono (fun σ hσ=>OKS.frontF xs σ (fun y hy=>ha y (by simp [hy])) hσ) h)
theorem OKS.frontX {i:Nat} {s:Sch} {w:World}:∀ (xs:List Nat) (σ:Env),(∀ x ∈ xs,apI l x i=true/\(kOf ks i=2 \/ kOf ks x=3 \/ (kOf ks x=1004/\kOf ks i=1005)))->OKS N P l Q D ks (fls (.fx i s .stop) xs) σ w->OKS N P l Q D ks (.fx i (fls s xs) .stop) σ w
 | [],_,_,h=>h
 | x :: xs,_,ha,h=>OKS.swapX (wJX (ha x (by simp)).1) (ha x (by simp)).2 (OKS.flMono (fun σ hσ=>OKS.frontX xs σ (fun y hy=>ha y (by simp [hy])) hσ) h)
structure wNp (l:List Oper) (ks F X:List Nat) (i:Nat):Prop where
 fl:wNo ks i=false
 lt:i < l.length
 nx:i ∉ X
 pr:∀ x ∈ F,(apI l x i=true/\(kOf ks i=2 \/ kOf ks x=3 \/ (kOf ks x=1004/\kOf ks i=1005))) \/ wGc l 12 x i=true
theorem wIX {m:Bool} {F X:List Nat} {i:Nat} {s a:Sch} (h:wHi l ks m F X (.fx i s a)=true) :
  wNp l ks F X i/\wHi l ks false F (i :: X) s=true/\wHi l ks true F X a=true/\(m=false->∀ y,y < l.length->y ∈ F \/ y ∈ X \/ y ∈ wKK (.fx i s a) \/ wQA l ks F X y=true):=by
 have h:((m || (ni l.length).all fun y=>F.contains y || X.contains y || (wKK (.fx i s a)).contains y || wQA l ks F X y) &&
   !wNo ks i && nB i l.length && !X.contains i && F.all (fun x=>(apI l x i && (kOf ks i == 2 || (kOf ks x == 3 || (kOf ks x == 1004 && kOf ks i == 1005)))) || wGc l 12 x i) && wHi l ks false F (i :: X) s && wHi l ks true F X a)=true:=by
  cases m <;> exact h
 simp only [nP,nY,nU,nz,beq_iff_eq,nR,decide_eq_true_eq,decide_eq_false_iff_not,nV] at h
 obtain ⟨⟨⟨⟨⟨⟨h1,h2⟩,h3⟩,h4⟩,h5⟩,h6⟩,h7⟩:=h
 refine ⟨⟨h2,h3,h4,h5⟩,h6,h7,fun e y hy=>?_⟩
 subst e
 rcases h1 with h1 | h1
 ·cases h1
 ·rcases h1 y (kC.2 hy) with ((h | h) | h) | h
  ·exact .inl h
  ·exact .inr (.inl h)
  ·exact .inr (.inr (.inl h))
  ·exact .inr (.inr (.inr h))
theorem wOM {F X:List Nat} {i:Nat} {s:Sch} (h:wHi l ks false F X (.fl i s)=true) :
  wNo ks i=true/\i < l.length/\i ∉ F/\(∀ x ∈ F,apI l x i=true \/ wGc l 12 x i=true)/\wHi l ks false (F ++ [i]) X s=true:=by
 simp only [wHi,nP,nY,nU,nz,nR,decide_eq_false_iff_not,nV] at h
 obtain ⟨⟨⟨⟨h1,h2⟩,h3⟩,h4⟩,h5⟩:=h
 exact ⟨h1,h2,h3,h4,h5⟩
theorem wHm {F X:List Nat} {i:Nat}:∀ (c:Sch),wHi l ks true F X c=true->i ∈ wKK c ->
  ∃ s,wNp l ks F X i/\wHi l ks false F (i :: X) s=true/\∀ σ w,OKS N P l Q D ks c σ w->OKS N P l Q D ks (.fx i s .stop) σ w
 | .nil,h,_=>by cases h
 | .stop,_,hi=>by cases hi
 | .fl _ _,h,_=>by cases h
 | .fx j s a,h,hi=>by
  obtain ⟨g1,g2,g3,_⟩:=wIX h
  rcases nK.1 hi with e | hi
  ·subst e;exact ⟨s,g1,g2,fun σ w hO=>⟨hO.1,trivial⟩⟩
  ·obtain ⟨s',a1,a2,a3⟩:=wHm a g3 hi
   exact ⟨s',a1,a2,fun σ w hO=>a3 σ w hO.2⟩
structure Inv (l:List Oper) (ks:List Nat) (listed:Array Bool) (F X pend:List Nat) (s:Sch):Prop where
 g:wHi l ks false F X s=true
 on:∀ i,i < l.length->(listed.getD i false=true ↔ (i ∈ F/\i ∉ pend) \/ i ∈ X)
 sub:∀ x ∈ pend,x ∈ F/\x < l.length
 nd:pend.Nodup
 pw:pend.Pairwise fun x y=>apI l x y=true \/ wGc l 12 x y=true
 dc:∀ i,i < l.length->listed.getD i false=true->∀ j ∈ prI l i,listed.getD j false=true
 fF:∀ x ∈ F,wNo ks x=true
 fX:∀ x ∈ X,wNo ks x=false
def wON:Sch->Bool
 | .fl _ _=>false
 | _=>true
theorem wKv {listed:Array Bool} {X:List Nat} {σ:Env} {w:World}:∀ (s:Sch) (F pend:List Nat),Inv l ks listed F X pend s->OKS N P l Q D ks (fls s pend) σ w ->
  ∃ F' pend' s',wON s'=true/\Inv l ks listed F' X pend' s'/\OKS N P l Q D ks (fls s' pend') σ w
 | .nil,F,pend,h,hO=>⟨F,pend,.nil,rfl,h,hO⟩
 | .stop,F,pend,h,hO=>⟨F,pend,.stop,rfl,h,hO⟩
 | .fx i s a,F,pend,h,hO=>⟨F,pend,.fx i s a,rfl,h,hO⟩
 | .fl i s,F,pend,h,hO=>by
  obtain ⟨g1,g2,g3,g4,g5⟩:=wOM h.g
  refine wKv s (F ++ [i]) (pend ++ [i]) ⟨g5,fun j hj=>?_,fun x hx=>?_,?_,?_,h.dc,fun x hx=>?_,h.fX⟩ (by simpa [fls] using hO)
  ·rw [h.on j hj]
   simp only [nZ,nh]
   constructor
   ·rintro (⟨h1,h2⟩ | h1)
    ·exact .inl ⟨.inl h1,fun hc=>hc.elim h2 fun e=>g3 (e ▸ h1)⟩
    ·exact .inr h1
   ·rintro (⟨h1 | h1,h2⟩ | h1)
    ·exact .inl ⟨h1,fun hc=>h2 (.inl hc)⟩
    ·exact absurd (.inr h1) h2
    ·exact .inr h1
  ·simp only [nZ,nh] at hx ⊢
   rcases hx with hx | rfl
   ·exact ⟨.inl (h.sub x hx).1,(h.sub x hx).2⟩
   ·exact ⟨.inr rfl,g2⟩
  ·rw [kR]
   refine ⟨h.nd,by simp,fun x hx y hy e=>?_⟩
   simp only [nh] at hy
   subst hy;subst e
   exact g3 (h.sub _ hx).1
  ·rw [nw]
   refine ⟨h.pw,by simp,fun x hx y hy=>?_⟩
   simp only [nh] at hy
   subst hy
   exact g4 x (h.sub x hx).1
  ·simp only [nZ,nh] at hx
   rcases hx with hx | rfl
   ·exact h.fF x hx
   ·exact g1
theorem Rep.put' {a:Act} {σ:Env} (h:Rep N D a σ) {o:Oper} (hd:∀ d,o.dst=some d->d < N) (v:Value):Rep N D (a.put o.dst v) (KL.put' σ o v):=by
 unfold KL.put'
 cases ho:o.dst with
 | none=>exact h
 | some d=>exact h.put (hd d ho) v
theorem wFi {i:Nat} {o:Oper} {Q:Exit->Act->World->Prop} {K:Act->World->Prop} {a:Act} {w:World} {σ:Env} (hi:l[i]?=some o) (ha:Rep N D a σ) {R:Value->World->Prop} (hd:∀ d,o.dst=some d->d < N)
  (h:Step1 P l o σ w R) (hK:∀ v w' a',Rep N D a' (KL.put' σ o v)->R v w'->K a' w'):wpOpIn (WF r) 0 P l.toArray Q i K a w:=by
 unfold wpOpIn
 simp only [nf,hi]
 rcases h with ⟨hw,h⟩ | ⟨hw,hR⟩
 ·simp only [wCe ha l o hw,if_true]
  refine ⟨fun _ _=>trivial,?_⟩
  rcases h with ⟨hdn,w',hr,hR⟩ | ⟨v,w',hr,hR⟩ | ⟨f,args,R',he,hg,hR⟩ | ⟨y1,l',f,t,as,b,y2,y3⟩
  ·rw [semAt_eq _ _ _ hr.1,ha.eval,hr.2]
   simp only [Oper.uponIn]
   exact hK undef w' _ (ha.put' hd undef) hR
  ·rw [semAt_eq _ _ _ hr.1,ha.eval,hr.2]
   simp only [Oper.uponIn]
   exact hK v w' _ (ha.put' hd v) hR
  ·rw [semAt_eq _ _ _ he.1,ha.eval,he.2]
   simp only [Oper.uponIn]
   refine ⟨fun h=>(by cases h),?_⟩
   refine CallsIn.mono (hg.callsIn r) ?_
   rintro e w' ⟨v,rfl,hv⟩
   exact hK v w' _ (ha.put' hd v) (hR v w' hv)
  ·rw [semAt_eq _ _ _ y1,ha.eval,y2]
   simp only [Oper.uponIn]
   refine ⟨fun h=>(by cases h),?_⟩
   refine RoundIn.mono (wEA y3 r) ?_
   rintro e w' ⟨v,rfl,hv⟩
   exact hK v w' _ (ha.put' hd v) hv
 ·simp only [wDz ha l o hw,kB,if_false]
  refine ⟨fun _ _=>trivial,?_⟩
  exact hK _ w _ (ha.put' hd _) hR
theorem wGk {listed:Array Bool} (hpr:∀ i,i < l.length->∀ j ∈ prI l i,j < i) (hdc:∀ i,i < l.length->listed.getD i false=true->∀ j ∈ prI l i,listed.getD j false=true) :
  ∀ (n x i:Nat),i < l.length->wGc l n x i=true->(∀ j ∈ prI l i,listed.getD j false=true)->listed.getD x false=true
 | 0,_,_,_,h,_=>by cases h
 | n + 1,x,i,hi,h,hp=>by
  simp only [wGc,nz,nR,decide_eq_true_eq,List.any_eq_true] at h
  rcases h with h | ⟨p,hp1,hp2⟩
  ·exact hp x h
  ·have hplt:=kr (hpr i hi p hp1) hi
   exact wGk hpr hdc n x p hplt hp2 (hdc p hplt (hp p hp1))
theorem wCn {listed:Array Bool} (hsz:listed.size=l.length) {i:Nat}:i ∈ Region.ready .any l.toArray listed ↔ i < l.length/\listed.getD i false=false/\∀ j ∈ prI l i,listed.getD j false=true:=by
 unfold Region.ready prI wKJ
 simp only [kg,kC,kx,nP,nY]
 have gd:i < l.length->listed.getD i true=listed.getD i false:=by
  intro h2
  simp only [nJ]
  rw [kW (by omega)]
  rfl
 constructor
 ·rintro ⟨hlt,h1,h2⟩
  have hi:l[i]?=some (l[i]'hlt):=nD hlt
  refine ⟨hlt,(gd hlt) ▸ h1,?_⟩
  rw [hi]
  simp only [nf,hi,kA,kD,kE] at h2
  intro j hj
  simp only [kJ,kg] at hj
  obtain ⟨e,⟨he,hb⟩,rfl⟩:=hj
  have:=h2 e (by simpa using he)
  simpa [hb] using this
 ·rintro ⟨hlt,h1,h2⟩
  have hi:l[i]?=some (l[i]'hlt):=nD hlt
  refine ⟨hlt,(gd hlt).trans h1,?_⟩
  rw [hi] at h2
  simp only [nf,hi,kA,kD,kE]
  intro e he
  cases hb:Region.binds .any e with
  | false=>rfl
  | true =>
   have:=h2 e.on (by simp only [kJ,kg];exact ⟨e,⟨by simpa using he,hb⟩,rfl⟩)
   simp [this]
theorem wEW {listed:Array Bool} {i j:Nat} (h:i < listed.size):(listed.setIfInBounds i true).getD j false=true ↔ (j=i \/ listed.getD j false=true):=by
 simp only [nJ,Array.getElem?_setIfInBounds]
 by_cases e:i=j
 ·subst e;simp [h]
 ·simp [e,Ne.symm e]
theorem wEX (listed:Array Bool) (i:Nat) (hi:i < listed.size) (hl:listed.getD i false=false):((listed.setIfInBounds i true).toList.filter (! ·)).length < (listed.toList.filter (! ·)).length:=by
 have hi':i < listed.toList.length:=by simpa using hi
 have hl':listed.toList[i]=false:=by
  simp only [nJ] at hl
  rw [kW hi] at hl
  simpa using hl
 rw [Array.toList_setIfInBounds]
 generalize listed.toList=L at *
 clear hl hi
 induction L generalizing i with
 | nil=>simp at hi'
 | cons b L ih =>
  cases i with
  | zero=>simp only [List.getElem_cons_zero] at hl';subst hl';simp
  | succ i =>
   have:=ih i (by simpa using hi') (by simpa using hl')
   simp only [ku,List.filter_cons]
   split <;> simp <;> exact this
theorem CK.anyOrd {id:Nat} {σ:Env} {w:World} (hm:P.follows .mixedOrders=true) (ks:List Nat) (s:Sch) (hc:wKu l ks s=true)
  (h:OKS N P l Q D ks s σ { w with drawn:=w.drawn + 1 }):CK r N P (.region id l.toArray true) Q D σ w:=by
 unfold wKu at hc
 simp only [nP,nU,kC,nV] at hc
 obtain ⟨hpr,hg⟩:=hc
 intro a ha
 refine wpIn_region_any hm ?_
 have fin:∀ (listed:Array Bool) (σ:Env) (a:Act) (w:World) (F X pend:List Nat) (s:Sch),listed.size=l.length->(∀ i,i < l.length->listed.getD i false=true)->Rep N D a σ->wON s=true->Inv l ks listed F X pend s ->
   OKS N P l Q D ks (fls s pend) σ w->wHB N Q .normal a w:=by
  intro listed σ a w F X pend s hsz hall hr hn hI hO
  have hp:pend=[]:=by
   cases pend with
   | nil=>rfl
   | cons x pend =>
    have hx:=hI.sub x (by simp)
    rcases (hI.on x hx.2).1 (hall x hx.2) with h | h
    ·exact absurd (by simp) h.2
    ·have h1:=hI.fX x h;rw [hI.fF x hx.1] at h1;cases h1
  subst hp
  cases s with
  | nil=>exact ⟨σ,D,hr,hO⟩
  | stop=>have:=hI.g;cases this
  | fl i s=>cases hn
  | fx i s a =>
   obtain ⟨g1,_⟩:=wIX hI.g
   rcases (hI.on i g1.lt).1 (hall i g1.lt) with h | h
   ·have h1:=hI.fF i h.1;rw [g1.fl] at h1;cases h1
   ·exact absurd h g1.nx
 have core:∀ (fuel:Nat) (listed:Array Bool) (σ:Env) (a:Act) (w:World) (F X pend:List Nat) (s:Sch),listed.size=l.length->Rep N D a σ->wON s=true->Inv l ks listed F X pend s ->
   OKS N P l Q D ks (fls s pend) σ w->(listed.toList.filter (! ·)).length <= fuel->wpAnyIn (WF r) 0 P .any l.toArray (wHB N Q) fuel listed a w:=by
  intro fuel
  have prog:∀ (listed:Array Bool),listed.size=l.length->Region.ready .any l.toArray listed=[]->∀ i,i < l.length->listed.getD i false=true:=by
   intro listed hsz hnil i
   induction i using Nat.strongRecOn with
   | _ i ih =>
    intro hi
    cases hb:listed.getD i false with
    | true=>rfl
    | false =>
     have:i ∈ Region.ready .any l.toArray listed:=(wCn hsz).2 ⟨hi,hb,fun j hj=>ih j (hpr i hi j hj) (kr (hpr i hi j hj) hi)⟩
     rw [hnil] at this;cases this
  induction fuel with
  | zero =>
   intro listed σ a w F X pend s hsz hr hn hI hO hf
   have hall:∀ i,i < l.length->listed.getD i false=true:=by
    intro i hi
    cases hb:listed.getD i false with
    | true=>rfl
    | false=>have:=wEX listed i (by omega) hb;omega
   refine ⟨?_,fin listed σ a w F X pend s hsz hall hr hn hI hO⟩
   cases hr:Region.ready .any l.toArray listed with
   | nil=>rfl
   | cons x xs =>
    have hx:x ∈ Region.ready .any l.toArray listed:=by rw [hr];simp
    obtain ⟨h1,h2,_⟩:=(wCn hsz).1 hx
    rw [hall x h1] at h2;cases h2
  | succ fuel ih =>
   intro listed σ a w F X pend s hsz hr hn hI hO hf
   refine ⟨fun hnil=>fin listed σ a w F X pend s hsz (prog listed hsz hnil) hr hn hI hO,fun i hi=>?_⟩
   obtain ⟨hlt,hun,hpi⟩:=(wCn hsz).1 hi
   have hsz':(listed.setIfInBounds i true).size=l.length:=by simpa using hsz
   have hf':((listed.setIfInBounds i true).toList.filter (! ·)).length <= fuel:=by have:=wEX listed i (by omega) hun;omega
   have hnot:¬ ((i ∈ F/\i ∉ pend) \/ i ∈ X):=fun hc=>by rw [(hI.on i hlt).2 hc] at hun;cases hun
   have hlate:¬ wQA l ks F X i=true:=by
    intro hL
    unfold wQA at hL
    rw [List.any_eq_true] at hL
    obtain ⟨p,hp,hq⟩:=hL
    have hlp:=hpi p hp
    have hplt:p < l.length:=kr (hpr i hlt p hp) hlt
    have:=(hI.on p hplt).1 hlp
    split at hq
    ·rename_i hfl
     simp only [nY,nR,decide_eq_false_iff_not] at hq
     rcases this with h | h
     ·exact hq h.1
     ·have:=hI.fX p h;rw [hfl] at this;cases this
    ·rename_i hfl
     simp only [nY,nR,decide_eq_false_iff_not] at hq
     rcases this with h | h
     ·exact hfl (hI.fF p h.1)
     ·exact hq h
   have hpend:∀ x ∈ pend,wGc l 12 x i ≠ true:=by
    intro x hx hxi
    have h1:=wGk hpr hI.dc 12 x i hlt hxi hpi
    have hs:=hI.sub x hx
    rcases (hI.on x hs.2).1 h1 with h | h
    ·exact h.2 hx
    ·have:=hI.fX x h;rw [hI.fF x hs.1] at this;cases this
   have dc':∀ k,k < l.length->(listed.setIfInBounds i true).getD k false=true->∀ j ∈ prI l k,(listed.setIfInBounds i true).getD j false=true:=by
    intro k hk hkl j hj
    rw [wEW (by omega)] at hkl ⊢
    rcases hkl with rfl | hkl
    ·exact .inr (hpi j hj)
    ·exact .inr (hI.dc k hk hkl j hj)
   by_cases hF:i ∈ F
   ·have hip:i ∈ pend:=by
     refine Classical.byContradiction fun hc=>hnot (.inl ⟨hF,hc⟩)
    obtain ⟨xs,ys,rfl⟩:=List.append_of_mem hip
    have hap:∀ x ∈ xs,apI l x i=true:=by
     intro x hx
     rcases (nw.1 hI.pw).2.2 x hx i (by simp) with h | h
     ·exact h
     ·exact absurd h (hpend x (by simp [hx]))
    have hO':=OKS.frontF xs σ hap hO
    obtain ⟨o,ho,hN,hfl⟩:=hO'
    refine wFi ho hr hN hfl.step1 ?_
    rintro v w' a' hr' ⟨rfl,hO2⟩
    have hnd:=hI.nd
    rw [kR] at hnd
    have hixs:i ∉ xs:=fun hc=>hnd.2.2 i hc i (by simp) rfl
    have hiys:i ∉ ys:=(kh.1 hnd.2.1).1
    refine ih _ (KL.put' σ o v) a' w' F X (xs ++ ys) s hsz' hr' hn ⟨hI.g,fun j hj=>?_,fun x hx=>hI.sub x ?_,?_,?_,dc',hI.fF,hI.fX⟩ hO2 hf'
    ·rw [wEW (by omega),hI.on j hj]
     simp only [nZ,nK]
     constructor
     ·rintro (rfl | ⟨h1,h2⟩ | h1)
      ·exact .inl ⟨hF,fun hc=>hc.elim hixs hiys⟩
      ·exact .inl ⟨h1,fun hc=>h2 (hc.imp (fun h=>h) .inr)⟩
      ·exact .inr h1
     ·rintro (⟨h1,h2⟩ | h1)
      ·by_cases e:j=i
       ·exact .inl e
       ·exact .inr (.inl ⟨h1,fun hc=>hc.elim (fun h=>h2 (.inl h)) fun h=>h.elim e fun h=>h2 (.inr h)⟩)
      ·exact .inr (.inr h1)
    ·simp only [nZ,nK] at hx ⊢;exact hx.imp (fun h=>h) .inr
    ·rw [kR]
     exact ⟨hnd.1,(kh.1 hnd.2.1).2,fun x hx y hy=>hnd.2.2 x hx y (by simp [hy])⟩
    ·have hpw:=nw.1 hI.pw
     rw [nw]
     exact ⟨hpw.1,(List.pairwise_cons.1 hpw.2.1).2,fun x hx y hy=>hpw.2.2 x hx y (by simp [hy])⟩
   ·cases s with
    | nil =>
     have hg:=hI.g
     simp only [wHi,nU,kC,nz,nR,decide_eq_true_eq] at hg
     rcases hg i hlt with h | h
     ·exact absurd h hF
     ·exact absurd (.inr h) hnot
    | stop=>have:=hI.g;cases this
    | fl i s=>cases hn
    | fx j s alt =>
     obtain ⟨_,_,_,gn⟩:=wIX hI.g
     have hh:i ∈ wKK (.fx j s alt):=by
      rcases gn rfl i hlt with h | h | h | h
      ·exact absurd h hF
      ·exact absurd (.inr h) hnot
      ·exact h
      ·exact absurd h hlate
     have hgt:wHi l ks true F X (.fx j s alt)=true:=by
      have hg:=hI.g
      simp only [wHi,nP,nz,Bool.true_or,kB,false_or,true_and] at hg ⊢
      exact ⟨⟨⟨⟨⟨hg.1.1.1.1.1.2,hg.1.1.1.1.2⟩,hg.1.1.1.2⟩,hg.1.1.2⟩,hg.1.2⟩,hg.2⟩
     obtain ⟨si,hd,hgi,hw⟩:=wHm (N:=N) (P:=P) (Q:=Q) (D:=D) _ hgt hh
     have hO1:=OKS.flsMono (fun σ=>hw σ w) pend σ hO
     have hO2:=OKS.frontX pend σ (fun x hx=>by
      rcases hd.pr x (hI.sub x hx).1 with h | h
      ·exact h
      ·exact absurd h (hpend x hx)) hO1
     obtain ⟨⟨o,ho,hN,hst⟩,_⟩:=hO2
     refine wFi ho hr hN hst ?_
     rintro v w' a' hr' ⟨_,hO3⟩
     have hinv:Inv l ks (listed.setIfInBounds i true) F (i :: X) pend si:=by
      refine ⟨hgi,fun j hj=>?_,hI.sub,hI.nd,hI.pw,dc',hI.fF,fun x hx=>?_⟩
      ·rw [wEW (by omega),hI.on j hj]
       simp only [nK]
       constructor
       ·rintro (rfl | h1 | h1)
        ·exact .inr (.inl rfl)
        ·exact .inl h1
        ·exact .inr (.inr h1)
       ·rintro (h1 | rfl | h1)
        ·exact .inr (.inl h1)
        ·exact .inl rfl
        ·exact .inr (.inr h1)
      ·rcases nK.1 hx with rfl | hx
       ·exact hd.fl
       ·exact hI.fX x hx
     obtain ⟨F',pend',s',hn',hI',hO'⟩:=wKv si F pend hinv hO3
     exact ih _ _ a' w' F' (i :: X) pend' s' hsz' hr' hn' hI' hO' hf'
 have rep:∀ (n j:Nat),(kf n false).getD j false=false:=by
  intro n j
  simp only [nJ,kX];split <;> rfl
 obtain ⟨F',pend',s',hn',hI',hO'⟩:=wKv (N:=N) (P:=P) (Q:=Q) (D:=D) (listed:=kf l.length false) (X:=[]) (σ:=σ) (w:={ w with drawn:=w.drawn + 1 }) s [] []
  ⟨hg,fun i hi=>by rw [rep];simp,by simp,by simp,by simp,fun i hi h=>(by rw [rep] at h;cases h),by simp,by simp⟩ h
 exact core _ _ σ a _ F' [] pend' s' (by simp) ha hn' hI' hO' (by simp)
end
end Go.KL
namespace Go.KL
open Go.RowKit
abbrev PHeap:=Nat->Option Obj
inductive Res
 | blk (b:Nat) (T:TypeId) (cs:List Value)
 | row (A:Option Addr) (c:Nat) (T:TypeId) (sz:Nat) (cs:List Value)
 | obj (b:Nat) (o:Obj)
 | abs (fp:Nat->Prop) (P:World->Prop)
def Res.has:Res->Nat->Prop
 | .blk b _ _,x=>b=x
 | .row A _ _ _ _,x=>A.map (·.block)=some x
 | .obj b _,x=>b=x
 | .abs fp _,x=>fp x
def RowAt (w:World) (A:Option Addr) (c:Nat) (T:TypeId) (sz:Nat) (cs:List Value):Prop :=
 (A=none/\c=0/\cs=[]) \/ ∃ b cur,A=some ⟨b,0,none⟩/\w.heap[b]?=some (.cells cur T (0,0))/\cs.length <= c * sz/\c <= maxLen/\cur.size=c * sz/\cur.toList.take cs.length=cs
def Res.At (w:World):Res->Prop
 | .blk b T cs=>w.heap[b]?=some (.cells cs.toArray T (0,0))
 | .row A c T sz cs=>RowAt w A c T sz cs
 | .obj b o=>w.heap[b]?=some o
 | .abs fp P=>P w/\(∀ b,fp b->b < w.heap.size)/\∀ w2:World,(∀ b,fp b->w2.heap[b]?=w.heap[b]?)->P w2
structure Base where
 w:World
 own:List Res
 U:PHeap
def Base.mine (B:Base) (b:Nat):Prop:=B.w.heap.size <= b \/ ∃ r ∈ B.own,r.has b
structure St (B:Base) (U:PHeap) (L:List Res) (w:World):Prop where
 os:w.os=B.w.os
 tape:TapeLe B.w w
 output:w.output=B.w.output
 size:B.w.heap.size <= w.heap.size
 old:∀ b,b < B.w.heap.size->¬ B.mine b->w.heap[b]?=B.w.heap[b]?
 fro:∀ b o,U b=some o->w.heap[b]?=some o
 le:∀ b o,B.U b=some o->U b=some o
 src:∀ b o,U b=some o->B.U b=some o \/ B.mine b
 at_:∀ r ∈ L,r.At w
 own:∀ r ∈ L,∀ b,r.has b->U b=none/\B.mine b
 dj:∀ (i j:Nat) (r s:Res) (b:Nat),L[i]?=some r->L[j]?=some s->r.has b->s.has b->i=j
theorem wAQ {w:World} {b:Nat} {o:Obj} (h:w.heap[b]?=some o):b < w.heap.size:=by
 rcases nT b w.heap.size with hlt | hge
 ·exact hlt
 ·rw [nq hge] at h;cases h
theorem Res.At.lt {w:World} {r:Res} (h:r.At w) {b:Nat} (hb:r.has b):b < w.heap.size:=by
 cases r with
 | blk b' T cs=>cases hb;exact wAQ h
 | obj b' o=>cases hb;exact wAQ h
 | abs fp P=>exact h.2.1 b hb
 | row A c T sz cs =>
  rcases h with ⟨rfl,_⟩ | ⟨b',cur,rfl,h1,_⟩
  ·cases hb
  ·cases hb;exact wAQ h1
theorem Res.At.keep {w w':World} {X:Nat->Prop} {r:Res} (h:r.At w) (k:Keep w w' X) (hx:∀ b,r.has b->¬ X b):r.At w':=by
 have hl:=fun b hb=>h.lt (b:=b) hb
 cases r with
 | blk b' T cs=>exact (k.block _ (hl _ rfl) (hx _ rfl)).trans h
 | obj b' o=>exact (k.block _ (hl _ rfl) (hx _ rfl)).trans h
 | abs fp P =>
  have e:∀ b,fp b->w'.heap[b]?=w.heap[b]?:=fun b hb=>k.block b (h.2.1 b hb) (hx b hb)
  exact ⟨h.2.2 w' e,fun b hb=>ng (h.2.1 b hb) k.size,fun w2 h2=>h.2.2 w2 fun b hb=>(h2 b hb).trans (e b hb)⟩
 | row A c T sz cs =>
  rcases h with h | ⟨b',cur,rfl,h1,h2⟩
  ·exact .inl h
  ·exact .inr ⟨b',cur,rfl,(k.block _ (hl _ rfl) (hx _ rfl)).trans h1,h2⟩
section
variable {B:Base} {U U':PHeap} {L:List Res} {w w':World}
theorem St.grow (h:St B U L w) (k:Keep w w' Non):St B U L w' :=
  ⟨k.os.trans h.os,k.tape.trans h.tape,k.output.trans h.output,na h.size k.size,fun b hb hm=>(k.block b (ng hb h.size) id).trans (h.old b hb hm),
   fun b o hb=>(k.block b (wAQ (h.fro b o hb)) id).trans (h.fro b o hb),h.le,h.src,fun r hr=>(h.at_ r hr).keep k fun _ _ h=>h,h.own,h.dj⟩
theorem St.drew (h:St B U L w):St B U L { w with drawn:=w.drawn + 1 }:=h.grow (Keep.drew w)
theorem St.new (h:St B U L w) (k:Keep w w' Non) {r:Res} (hr:r.At w') {b:Nat} (_:r.has b) (hn:w.heap.size <= b) (ho:∀ c,r.has c->c=b:=by intro c hc;cases hc;rfl):St B U (r :: L) w':=by
 have h':=h.grow k
 have hU:U b=none:=by
  cases e:U b with
  | none=>rfl
  | some o=>have:=wAQ (h.fro b o e);omega
 refine ⟨h'.os,h'.tape,h'.output,h'.size,h'.old,h'.fro,h'.le,h'.src,?_,?_,?_⟩
 ·intro s hs
  rcases nK.1 hs with rfl | hs
  ·exact hr
  ·exact h'.at_ s hs
 ·intro s hs c hc
  rcases nK.1 hs with rfl | hs
  ·obtain rfl:=ho c hc
   exact ⟨hU,.inl (na h.size hn)⟩
  ·exact h'.own s hs c hc
 ·intro i j s t c hi hj hs ht
  have old:∀ (i:Nat) (s:Res),L[i]?=some s->s.has c->c < w.heap.size:=fun i s hi hs=>(h.at_ s (hH hi)).lt hs
  cases i with
  | zero =>
   simp only [nX,nL] at hi;subst hi
   obtain rfl:=ho c hs
   cases j with
   | zero=>rfl
   | succ j=>have:=old j t (by simpa using hj) ht;omega
  | succ i =>
   have h1:=old i s (by simpa using hi) hs
   cases j with
   | zero =>
    simp only [nX,nL] at hj;subst hj
    obtain rfl:=ho c ht;omega
   | succ j=>rw [h.dj i j s t c (by simpa using hi) (by simpa using hj) hs ht]
theorem St.addNone (h:St B U L w) {r:Res} (hr:r.At w) (hb:∀ b,¬ r.has b:=by intro b h;cases h):St B U (r :: L) w:=by
 refine ⟨h.os,h.tape,h.output,h.size,h.old,h.fro,h.le,h.src,?_,?_,?_⟩
 ·intro s hs
  rcases nK.1 hs with rfl | hs
  ·exact hr
  ·exact h.at_ s hs
 ·intro s hs c hc
  rcases nK.1 hs with rfl | hs
  ·exact absurd hc (hb c)
  ·exact h.own s hs c hc
 ·intro i j s t c hi hj hs ht
  cases i with
  | zero=>simp only [nX,nL] at hi;subst hi;exact absurd hs (hb c)
  | succ i =>
   cases j with
   | zero=>simp only [nX,nL] at hj;subst hj;exact absurd ht (hb c)
   | succ j=>rw [h.dj i j s t c (by simpa using hi) (by simpa using hj) hs ht]
theorem St.nilrow (h:St B U L w) (T:TypeId) (sz:Nat):St B U (.row none 0 T sz [] :: L) w:=h.addNone (.inl ⟨rfl,rfl,rfl⟩)
theorem St.set (h:St B U L w) {k:Nat} {r r':Res} (hk:L[k]?=some r) (K:Keep w w' fun b=>r.has b) (hr:r'.At w') (hb:∀ b,r'.has b->r.has b \/ w.heap.size <= b):St B U (L.set k r') w':=by
 have hkl:k < L.length:=(nA.1 hk).1
 have hrm:=hH hk
 have mine:∀ b,r.has b->U b=none/\B.mine b:=fun b hb=>h.own r hrm b hb
 have get:∀ (i:Nat) (s:Res),(L.set k r')[i]?=some s->(i=k/\s=r') \/ (i ≠ k/\L[i]?=some s):=by
  intro i s hi
  rw [ky] at hi
  by_cases e:k=i
  ·subst e;rw [if_pos rfl,if_pos hkl] at hi;cases hi;exact .inl ⟨rfl,rfl⟩
  ·rw [if_neg e] at hi;exact .inr ⟨fun h=>e h.symm,hi⟩
 have oth:∀ (i:Nat) (s:Res) (b:Nat),i ≠ k->L[i]?=some s->s.has b->¬ r.has b:=fun i s b hne hi hs hrb=>hne (h.dj i k s r b hi hk hs hrb)
 have hw:∀ b,r'.has b->U b=none/\B.mine b:=by
  intro b hb'
  rcases hb b hb' with h1 | h1
  ·exact mine b h1
  ·refine ⟨?_,.inl (na h.size h1)⟩
   cases e:U b with
   | none=>rfl
   | some o=>have:=wAQ (h.fro b o e);omega
 refine ⟨K.os.trans h.os,K.tape.trans h.tape,K.output.trans h.output,na h.size K.size,?_,?_,h.le,h.src,?_,?_,?_⟩
 ·intro b hb hm
  exact (K.block b (ng hb h.size) fun hrb=>hm (mine b hrb).2).trans (h.old b hb hm)
 ·intro b o hb
  exact (K.block b (wAQ (h.fro b o hb)) fun hrb=>by have:=(mine b hrb).1;rw [hb] at this;cases this).trans (h.fro b o hb)
 ·intro s hs
  obtain ⟨i,hi⟩:=nI hs
  rcases get i s hi with ⟨_,rfl⟩ | ⟨hne,hi⟩
  ·exact hr
  ·exact (h.at_ s (hH hi)).keep K fun b hs=>oth i s b hne hi hs
 ·intro s hs b hb'
  obtain ⟨i,hi⟩:=nI hs
  rcases get i s hi with ⟨_,rfl⟩ | ⟨hne,hi⟩
  ·exact hw b hb'
  ·exact h.own s (hH hi) b hb'
 ·intro i j s t b hi hj hs ht
  have ltn:∀ (i:Nat) (s:Res),L[i]?=some s->s.has b->b < w.heap.size:=fun i s hi hs=>(h.at_ s (hH hi)).lt hs
  rcases get i s hi with ⟨e1,e2⟩ | ⟨hne,hi'⟩
  ·subst e1 e2
   rcases get j t hj with ⟨e1,e2⟩ | ⟨hne,hj'⟩
   ·exact e1.symm
   ·rcases hb b hs with h1 | h1
    ·exact absurd h1 (oth j t b hne hj' ht)
    ·have:=ltn j t hj' ht;omega
  ·rcases get j t hj with ⟨e1,e2⟩ | ⟨hne',hj'⟩
   ·subst e1 e2
    rcases hb b ht with h1 | h1
    ·exact absurd h1 (oth i s b hne hi' hs)
    ·have:=ltn i s hi' hs;omega
   ·exact h.dj i j s t b hi' hj' hs ht
theorem wFj {α:Type} {L:List α} {k i:Nat} {s:α} (hi:(L.eraseIdx k)[i]?=some s):L[if i < k then i else i + 1]?=some s:=by
 rw [List.getElem?_eraseIdx] at hi
 split
 ·rename_i h;rw [if_pos h] at hi;exact hi
 ·rename_i h;rw [if_neg h] at hi;exact hi
theorem St.drop (h:St B U L w) (k:Nat):St B U (L.eraseIdx k) w:=by
 refine ⟨h.os,h.tape,h.output,h.size,h.old,h.fro,h.le,h.src,fun r hr=>h.at_ r (kZ hr),fun r hr=>h.own r (kZ hr),?_⟩
 intro i j r s b hi hj hr hs
 have:=h.dj _ _ r s b (wFj hi) (wFj hj) hr hs
 split at this <;> split at this <;> omega
structure Sl (U:PHeap) (sz:Nat) (A:Option Addr) (c n:Nat) (cs:List Value):Prop where
 len:cs.length=n * sz
 cap:n <= c
 mem:n=0 \/ ∃ b off arr T fr,A=some ⟨b,off,none⟩/\U b=some (.cells arr T fr)/\(arr.toList.drop off).take (n * sz)=cs
def PHeap.Le (U U':PHeap):Prop:=∀ b o,U b=some o->U' b=some o
theorem Sl.le {sz c n:Nat} {A:Option Addr} {cs:List Value} (h:Sl U sz A c n cs) (hl:PHeap.Le U U'):Sl U' sz A c n cs :=
 ⟨h.len,h.cap,h.mem.imp id fun ⟨b,off,arr,T,fr,h1,h2,h3⟩=>⟨b,off,arr,T,fr,h1,hl _ _ h2,h3⟩⟩
theorem PHeap.Le.refl (U:PHeap):PHeap.Le U U:=fun _ _ h=>h
theorem PHeap.Le.trans {U1 U2 U3:PHeap} (h:PHeap.Le U1 U2) (h':PHeap.Le U2 U3):PHeap.Le U1 U3:=fun b o hb=>h' b o (h b o hb)
theorem Sl.nil (U:PHeap) (sz:Nat) (A:Option Addr) (c:Nat):Sl U sz A c 0 []:=⟨by simp,kj _,.inl rfl⟩
theorem St.freezeB (h:St B U L w) {k b:Nat} (hk:∃ r,L[k]?=some r/\r.has b):∃ U',PHeap.Le U U'/\U' b=w.heap[b]?/\St B U' (L.eraseIdx k) w:=by
 obtain ⟨r,hk,hb⟩:=hk
 have hr:=hH hk
 have hn:=h.own r hr b hb
 refine ⟨fun x=>if x=b then w.heap[b]? else U x,fun x o hx=>?_,by simp,?_⟩
 ·by_cases e:x=b
  ·subst e;rw [hn.1] at hx;cases hx
  ·simp [e,hx]
 ·have hd:=h.drop k
  refine ⟨h.os,h.tape,h.output,h.size,h.old,?_,?_,?_,hd.at_,?_,hd.dj⟩
  ·intro x o hx
   split at hx
   ·rename_i e;subst e;exact hx
   ·exact h.fro x o hx
  ·intro x o hx
   have:=h.le x o hx
   by_cases e:x=b
   ·subst e;rw [hn.1] at this;cases this
   ·simp [e,this]
  ·intro x o hx
   split at hx
   ·rename_i e;subst e;exact .inr hn.2
   ·exact h.src x o hx
  ·intro s hs c hc
   have hs':=hd.own s hs c hc
   refine ⟨?_,hs'.2⟩
   obtain ⟨i,hi⟩:=nI hs
   have hne:c ≠ b:=by
    rintro rfl
    have:=h.dj _ _ s r c (wFj hi) hk hc hb
    split at this <;> omega
   simp [hne,hs'.1]
theorem St.freeze (h:St B U L w) {k b:Nat} {T:TypeId} {cs:List Value} (hk:L[k]?=some (.blk b T cs)) :
  ∃ U',PHeap.Le U U'/\U' b=some (.cells cs.toArray T (0,0))/\St B U' (L.eraseIdx k) w:=by
 obtain ⟨U',h1,h2,h3⟩:=h.freezeB ⟨_,hk,rfl⟩
 have:=h.at_ _ (hH hk)
 exact ⟨U',h1,h2.trans this,h3⟩
theorem St.freezeR (h:St B U L w) {k c n T sz:Nat} {A:Option Addr} {cs:List Value} (hk:L[k]?=some (.row A c T sz cs)) (hn:cs.length=n * sz) (hz:0 < sz) :
  ∃ U',PHeap.Le U U'/\Sl U' sz A c n cs/\St B U' (L.eraseIdx k) w:=by
 have hr:=h.at_ _ (hH hk)
 rcases hr with ⟨rfl,rfl,rfl⟩ | ⟨b,cur,rfl,h1,h2,h3,h4,h5⟩
 ·have:n=0:=by
   simp only [List.length_nil] at hn
   rcases np n with e | e
   ·exact e
   ·have:=kk e hz;omega
  subst this
  exact ⟨U,PHeap.Le.refl U,Sl.nil _ _ _ _,h.drop k⟩
 ·obtain ⟨U',g1,g2,g3⟩:=h.freezeB ⟨_,hk,rfl⟩
  refine ⟨U',g1,⟨hn,?_,.inr ⟨b,0,cur,T,(0,0),rfl,g2.trans h1,?_⟩⟩,g3⟩
  ·rw [hn] at h2;exact ny h2 hz
  ·rw [<- hn];simpa using h5
theorem St.blkAt (h:St B U L w) {k b:Nat} {T:TypeId} {cs:List Value} (hk:L[k]?=some (.blk b T cs)):Blk w b T cs:=h.at_ _ (hH hk)
theorem St.enter (h:St B U L w) (own:List Res) (hs:∃ f:Nat->Nat,(∀ i r,own[i]?=some r->L[f i]?=some r)/\∀ i j,i < own.length->j < own.length->f i=f j->i=j):St ⟨w,own,U⟩ U own w:=by
 obtain ⟨f,hf,hi⟩:=hs
 have mem:∀ r ∈ own,r ∈ L:=fun r hr=>by
  obtain ⟨i,hi⟩:=nI hr
  exact hH (hf i r hi)
 refine ⟨rfl,TapeLe.refl w,rfl,nO _,fun _ _ _=>rfl,h.fro,fun _ _ h=>h,fun _ _ h=>.inl h,fun r hr=>h.at_ r (mem r hr),fun r hr b hb=>⟨(h.own r (mem r hr) b hb).1,.inr ⟨r,hr,hb⟩⟩,?_⟩
 intro i j r s b hi' hj hr hs
 have h1:=(nA.1 hi').1
 have h2:=(nA.1 hj).1
 exact hi i j h1 h2 (h.dj _ _ r s b (hf i r hi') (hf j s hj) hr hs)
theorem St.enterH (h:St B U L w) (n:Nat):St ⟨w,L.take n,U⟩ U (L.take n) w:=by
 refine h.enter _ ⟨id,fun i r hi=>?_,fun _ _ _ _ e=>e⟩
 rw [nM] at hi
 split at hi
 ·exact hi
 ·cases hi
theorem St.enterT (h:St B U L w) (n:Nat):St ⟨w,L.drop n,U⟩ U (L.drop n) w:=by
 refine h.enter _ ⟨fun i=>n + i,fun i r hi=>?_,fun _ _ _ _ e=>by simpa using e⟩
 rwa [nN] at hi
theorem St.kp {own:List Res} (h:St ⟨w,own,U⟩ U' L w'):Keep w w' fun b=>∃ r ∈ own,r.has b :=
 ⟨h.os,h.tape,h.output,h.size,fun b hb hx=>h.old b hb fun hm=>hm.elim (fun h=>absurd hb (aE.2 h)) hx⟩
theorem St.kp0 (h:St ⟨w,[],U⟩ U' L w'):Keep w w' Non:=h.kp.weak fun b _ ⟨r,hr,_⟩=>by cases hr
theorem St.back {X own own':List Res} (h:St B U L w) (hL:(∀ r ∈ X,r ∈ L)/\(∀ r ∈ own,r ∈ L)/\(∀ (i j:Nat) (r s:Res) (b:Nat),X[i]?=some r->X[j]?=some s->r.has b->s.has b->i=j)/\(∀ r ∈ X,∀ s ∈ own,∀ b,r.has b->¬ s.has b))
  (h':St ⟨w,own,U⟩ U' own' w'):St B U' (own' ++ X) w'/\St B U' (X ++ own') w'/\PHeap.Le U U':=by
 obtain ⟨hX,hO,hd,ho⟩:=hL
 have k:=h'.kp
 have own_mine:∀ b,(∃ r ∈ own,r.has b)->B.mine b/\U b=none:=fun b ⟨r,hr,hb⟩=>⟨(h.own r (hO r hr) b hb).2,(h.own r (hO r hr) b hb).1⟩
 have mine':∀ b,Base.mine ⟨w,own,U⟩ b->B.mine b:=fun b hb=>by
  rcases hb with hb | hb
  ·exact .inl (na h.size hb)
  ·exact (own_mine b hb).1
 have Xlt:∀ r ∈ X,∀ b,r.has b->b < w.heap.size/\¬ Base.mine ⟨w,own,U⟩ b:=fun r hr b hb=>by
  have hlt:=(h.at_ r (hX r hr)).lt hb
  exact ⟨hlt,fun hm=>hm.elim (fun h=>absurd hlt (aE.2 h)) fun ⟨s,hs,hsb⟩=>ho r hr s hs b hb hsb⟩
 have base:∀ Y:List Res,(∀ r ∈ Y,r ∈ own' \/ r ∈ X)->(∀ (i j:Nat) (r s:Res) (b:Nat),Y[i]?=some r->Y[j]?=some s->r.has b->s.has b->i=j)->St B U' Y w':=by
  intro Y hY hdY
  refine ⟨k.os.trans h.os,k.tape.trans h.tape,k.output.trans h.output,na h.size k.size,?_,h'.fro,fun b o hb=>h'.le b o (h.le b o hb),?_,?_,?_,hdY⟩
  ·intro b hb hm
   exact (k.block b (ng hb h.size) fun hx=>hm (own_mine b hx).1).trans (h.old b hb hm)
  ·intro b o hb
   rcases h'.src b o hb with h1 | h1
   ·exact h.src b o h1
   ·exact .inr (mine' b h1)
  ·intro r hr
   rcases hY r hr with hr | hr
   ·exact h'.at_ r hr
   ·exact (h.at_ r (hX r hr)).keep k fun b hb=>fun hx=>(Xlt r hr b hb).2 (.inr hx)
  ·intro r hr b hb
   rcases hY r hr with hr | hr
   ·exact ⟨(h'.own r hr b hb).1,mine' b (h'.own r hr b hb).2⟩
   ·refine ⟨?_,(h.own r (hX r hr) b hb).2⟩
    cases e:U' b with
    | none=>rfl
    | some o =>
     rcases h'.src b o e with h1 | h1
     ·have h1:U b=some o:=h1
      have:=(h.own r (hX r hr) b hb).1;rw [h1] at this;cases this
     ·exact absurd h1 (Xlt r hr b hb).2
 have cross:∀ r ∈ own',∀ s ∈ X,∀ b,r.has b->¬ s.has b:=fun r hr s hs b hb hsb=>(Xlt s hs b hsb).2 (h'.own r hr b hb).2
 have dj2:∀ Y Z:List Res,(∀ r ∈ Y,∀ s ∈ Z,∀ b,r.has b->¬ s.has b)->(∀ (i j:Nat) (r s:Res) (b:Nat),Y[i]?=some r->Y[j]?=some s->r.has b->s.has b->i=j) ->
   (∀ (i j:Nat) (r s:Res) (b:Nat),Z[i]?=some r->Z[j]?=some s->r.has b->s.has b->i=j)->∀ (i j:Nat) (r s:Res) (b:Nat),(Y ++ Z)[i]?=some r->(Y ++ Z)[j]?=some s->r.has b->s.has b->i=j:=by
  intro Y Z hc hY hZ i j r s b hi hj hr hs
  rcases nT i Y.length with h1 | h1
  ·rw [nG h1] at hi
   rcases nT j Y.length with h2 | h2
   ·rw [nG h2] at hj;exact hY i j r s b hi hj hr hs
   ·rw [nH h2] at hj
    exact absurd hs (hc r (hH hi) s (hH hj) b hr)
  ·rw [nH h1] at hi
   rcases nT j Y.length with h2 | h2
   ·rw [nG h2] at hj
    exact absurd hr (hc s (hH hj) r (hH hi) b hs)
   ·rw [nH h2] at hj
    have:=hZ _ _ r s b hi hj hr hs;omega
 refine ⟨base _ (fun r hr=>nZ.1 hr) (dj2 _ _ cross h'.dj hd),base _ (fun r hr=>(nZ.1 hr).symm) (dj2 _ _ (fun r hr s hs b hb hsb=>cross s hs r hr b hsb hb) hd h'.dj),fun b o hb=>h'.le b o hb⟩
theorem St.backH (h:St B U L w) (n:Nat) {own':List Res} (h':St ⟨w,L.take n,U⟩ U' own' w'):St B U' (own' ++ L.drop n) w'/\PHeap.Le U U':=by
 have:=h.back (X:=L.drop n) ⟨fun r hr=>kl hr,fun r hr=>km hr,fun i j r s b hi hj hr hs=>by
  rw [nN] at hi hj
  have:=h.dj _ _ r s b hi hj hr hs;omega,fun r hr s hs b hb hsb=>by
  obtain ⟨i,hi⟩:=nI hr
  obtain ⟨j,hj⟩:=nI hs
  rw [nN] at hi
  rw [nM] at hj
  split at hj
  ·have:=h.dj _ _ r s b hi hj hb hsb;omega
  ·cases hj⟩ h'
 exact ⟨this.1,this.2.2⟩
theorem St.backT (h:St B U L w) (n:Nat) {own':List Res} (h':St ⟨w,L.drop n,U⟩ U' own' w'):St B U' (L.take n ++ own') w'/\PHeap.Le U U':=by
 have:=h.back (X:=L.take n) ⟨fun r hr=>km hr,fun r hr=>kl hr,fun i j r s b hi hj hr hs=>by
  rw [nM] at hi hj
  (split at hi <;> split at hj <;> first | exact h.dj _ _ r s b hi hj hr hs | (cases hi;done) | (cases hj;done)),fun r hr s hs b hb hsb=>by
  obtain ⟨i,hi⟩:=nI hr
  obtain ⟨j,hj⟩:=nI hs
  rw [nN] at hj
  rw [nM] at hi
  split at hi
  ·have:=h.dj _ _ r s b hi hj hb hsb;omega
  ·cases hi⟩ h'
 exact ⟨this.2.1,this.2.2⟩
end
end Go.KL
namespace Go.KL
def w64 (x:Int):Int:=(x + 9223372036854775808) % 18446744073709551616 - 9223372036854775808
def wDd (x:Int):Int:=x % 4294967296
theorem wAU {x:Int} (h1:-9223372036854775808 <= x) (h2:x <= 9223372036854775807):w64 x=x:=by unfold w64;omega
def chk (i:Int) (n:Nat):Option Unit:=if 0 <= i/\i < n then some () else none
def idx {α:Type} (l:List α) (i:Int):Option α:=if 0 <= i then l[i.toNat]? else none
def quo (a b:Int):Option Int:=if b=0 then none else some (w64 (a.tdiv b))
def rem (a b:Int):Option Int:=if b=0 then none else some (a.tmod b)
def app {α:Type} (bytes:Nat) (l m:List α):Option (List α):=if (l.length + m.length) * bytes <= 140737488355328 then some (l ++ m) else none
structure Arr (α:Type) (n:Nat) where
 l:List α
 h:l.length=n
deriving DecidableEq
namespace Arr
variable {α:Type} {n:Nat}
def fill (n:Nat) (x:α):Arr α n:=⟨List.replicate n x,by simp⟩
end Arr
def forN {S B:Type} (body:Nat->S->Option (S ⊕ B)):Nat->Nat->S->Option (S ⊕ B)
 | 0,_,s=>some (.inl s)
 | m + 1,k,s=>match body k s with
  | none=>none
  | some (.inl s')=>forN body m (k + 1) s'
  | some (.inr b)=>some (.inr b)
def wDu {S B:Type} (lo hi:Int) (body:Nat->S->Option (S ⊕ B)) (s:S):Option (S ⊕ B):=if hi <= 9223372036854775807 then forN body (hi - lo).toNat 0 s else none
def forN' {S:Type} (body:Nat->S->Option S):Nat->Nat->S->Option S
 | 0,_,s=>some s
 | m + 1,k,s=>match body k s with
  | none=>none
  | some s'=>forN' body m (k + 1) s'
def wCv {S:Type} (lo hi:Int) (body:Nat->S->Option S) (s:S):Option S:=if hi <= 9223372036854775807 then forN' body (hi - lo).toNat 0 s else none
def big:Nat:=18446744073709551616
def iter {S B:Type} (body:S->Option (S ⊕ B)):Nat->S->Option B
 | 0,_=>none
 | m + 1,s=>match body s with
  | none=>none
  | some (.inl s')=>iter body m s'
  | some (.inr b)=>some b
theorem bnd {α β:Type} {x:Option α} {f:α->Option β} {b:β} (h:x.bind f=some b):∃ a,x=some a/\f a=some b:=by
 cases x with
 | none=>cases h
 | some a=>exact ⟨a,rfl,h⟩
theorem wKw {i:Int} {n:Nat} {u:Unit} (h:chk i n=some u):0 <= i:=by unfold chk at h;split at h <;> simp_all
theorem wKx {i:Int} {n:Nat} {u:Unit} (h:chk i n=some u):i < n:=by unfold chk at h;split at h <;> simp_all
theorem wHn {i:Int} {n:Nat} {u:Unit} (h:chk i n=some u):i.toNat < n:=by have:=wKw h;have:=wKx h;omega
theorem wNq {i:Int} {n:Nat} (h0:0 <= i) (h1:i < n):chk i n=some ():=if_pos ⟨h0,h1⟩
theorem wGl {α:Type} {l:List α} {i:Int} {x:α} (h:idx l i=some x):0 <= i:=by unfold idx at h;split at h <;> simp_all
theorem wAX {α:Type} {l:List α} {i:Int} {x:α} (h:idx l i=some x):l[i.toNat]?=some x:=by unfold idx at h;split at h <;> simp_all
theorem wAw {α:Type} {l:List α} {i:Int} {x:α} (h:idx l i=some x):i.toNat < l.length:=(nA.1 (wAX h)).1
theorem wHo {α:Type} {l:List α} {i:Int} {x:α} (h:idx l i=some x):i < l.length:=by have:=wAw h;have:=wGl h;omega
theorem wIY {α:Type} {l:List α} {k:Nat}:idx l (k:Int)=l[k]?:=by simp [idx]
theorem wJY {α:Type} {bytes:Nat} {l m r:List α} (h:app bytes l m=some r):r=l ++ m/\(l.length + m.length) * bytes <= 140737488355328:=by
 unfold app at h;split at h
 ·rename_i h';injection h with h;exact ⟨h.symm,h'⟩
 ·cases h
theorem wQB {a b r:Int} (h:rem a b=some r):b ≠ 0/\a.tmod b=r:=by unfold rem at h;split at h <;> simp_all
theorem wQC {a b r:Int} (h:quo a b=some r):b ≠ 0/\w64 (a.tdiv b)=r:=by unfold quo at h;split at h <;> simp_all
theorem wCG {S B:Type} {lo hi:Int} {body:Nat->S->Option (S ⊕ B)} {s:S} {b:S ⊕ B} (h:wDu lo hi body s=some b):hi <= 9223372036854775807/\forN body (hi - lo).toNat 0 s=some b:=by
 unfold wDu at h;split at h
 ·rename_i h';exact ⟨h',h⟩
 ·cases h
theorem wCD {S:Type} {lo hi:Int} {body:Nat->S->Option S} {s:S} {b:S} (h:wCv lo hi body s=some b):hi <= 9223372036854775807/\forN' body (hi - lo).toNat 0 s=some b:=by
 unfold wCv at h;split at h
 ·rename_i h';exact ⟨h',h⟩
 ·cases h
def esc {S R:Type} (x:Option R):Option (S ⊕ R):=match x with
 | none=>none
 | some v=>some (.inr v)
theorem wAa {S R:Type} {x:Option R} {y:S ⊕ R} (h:esc x=some y):∃ v,x=some v/\y=.inr v:=by
 cases x with
 | none=>cases h
 | some v=>exact ⟨v,rfl,(aG h).symm⟩
def jn {S R:Type} (x:Option (S ⊕ R)) (k:S->Option R):Option R:=match x with
 | none=>none
 | some (.inl s)=>k s
 | some (.inr v)=>some v
theorem wCH {S R:Type} {x:Option (S ⊕ R)} {k:S->Option R} {v:R} (h:jn x k=some v):∃ r,x=some r:=by
 cases x with
 | none=>cases h
 | some r=>exact ⟨r,rfl⟩
theorem wCo {S R:Type} {x:Option (S ⊕ R)} {k:S->Option R} {v:R} {s:S} {r:S ⊕ R} (h:jn x k=some v) (hx:x=some r) (hr:r=.inl s):k s=some v:=by subst hx hr;exact h
theorem wBw {S R:Type} {x:Option (S ⊕ R)} {k:S->Option R} {v u:R} {r:S ⊕ R} (h:jn x k=some v) (hx:x=some r) (hr:r=.inr u):u=v:=by subst hx hr;exact aG h
@[simp] theorem esc_some {S R:Type} (v:R):(esc (some v):Option (S ⊕ R))=some (.inr v):=rfl
@[simp] theorem esc_none {S R:Type}:(esc (none:Option R):Option (S ⊕ R))=none:=rfl
@[simp] theorem wCp {S R:Type} (s:S) (k:S->Option R):jn (some (.inl s)) k=k s:=rfl
@[simp] theorem wOO {S R:Type} (v:R) (k:S->Option R):jn (some (.inr v)) k=some v:=rfl
@[simp] theorem jn_none {S R:Type} (k:S->Option R):jn none k=none:=rfl
instance {α:Type} {n:Nat} [Inhabited α]:Inhabited (Arr α n):=⟨.fill n default⟩
def gd {α:Type} [Inhabited α] (l:List α) (k:Nat):α:=l.getD k default
theorem wDZ {α:Type} [Inhabited α] {xs:List α} {k:Nat} (h:k < xs.length):xs[k]?=some (gd xs k):=by
 unfold gd
 rw [List.getD_eq_getElem?_getD,nD h]
 rfl
structure Hid (p:Prop):Prop where
 mk :: out:p
theorem wBh {hi:Int} {k:Nat} (h:k < (hi - 0).toNat):(↑k:Int) < hi:=by omega
theorem wBH {hi:Int}:¬ ((↑(hi - 0).toNat:Int) < hi):=by omega
section
variable {K V:Type} [DecidableEq K]
def wKL:List (K × V)->K->Option V
 | [],_=>none
 | (a,v) :: l,x=>if x=a then some v else wKL l x
def mput:List (K × V)->K->V->List (K × V)
 | [],x,v=>[(x,v)]
 | (a,u) :: l,x,v=>if x=a then (x,v) :: l else (a,u) :: mput l x v
def mdel:List (K × V)->K->List (K × V)
 | [],_=>[]
 | (a,u) :: l,x=>if x=a then l else (a,u) :: mdel l x
def wOP (l:List (K × V)) (x:K):Bool:=(wKL l x).isSome
def wHp (l:List (K × V)) (x:K) (z:V):V:=(wKL l x).getD z
def wCf:List (K × V)->K->Nat->Option (Nat × V)
 | [],_,_=>none
 | (a,v) :: l,x,i=>if x=a then some (i,v) else wCf l x (i + 1)
theorem wIZ (l:List (K × V)) (x:K) (i:Nat):(wCf l x i).map (·.2)=wKL l x:=by
 induction l generalizing i with
 | nil=>rfl
 | cons p l ih=>obtain ⟨a,v⟩:=p;simp only [wCf,wKL];split <;> simp [ih]
theorem wEB {l:List (K × V)} {x:K} {i:Nat} (h:wCf l x i=none) (v:V):mput l x v=l ++ [(x,v)]/\mdel l x=l:=by
 induction l generalizing i with
 | nil=>exact ⟨rfl,rfl⟩
 | cons p l ih =>
  obtain ⟨a,u⟩:=p
  rw [wCf] at h
  split at h
  ·cases h
  ·rename_i hne
   obtain ⟨h1,h2⟩:=ih h
   simp [mput,mdel,hne,h1,h2]
theorem wEC {l:List (K × V)} {x:K} {i j:Nat} {u:V} (h:wCf l x i=some (j,u)) (v:V):i <= j/\l[j - i]?=some (x,u)/\mput l x v=l.set (j - i) (x,v)/\mdel l x=l.eraseIdx (j - i):=by
 induction l generalizing i with
 | nil=>cases h
 | cons p l ih =>
  obtain ⟨a,u'⟩:=p
  rw [wCf] at h
  split at h
  ·rename_i e;subst e
   simp only [nL,kQ] at h
   obtain ⟨rfl,rfl⟩:=h
   simp [mput,mdel]
  ·rename_i hne
   obtain ⟨h1,h2,h3,h4⟩:=ih h
   have e:j - i=(j - (i + 1)) + 1:=by omega
   refine ⟨by omega,by rw [e];simpa using h2,?_,?_⟩
   ·rw [e];simp [mput,hne,h3]
   ·rw [e];simp [mdel,hne,h4]
end
end Go.KL
namespace Go.KL
open Go.RowKit
theorem wDf (n:Int):IntKind.i64.wrap n=w64 n:=by rw [IntKind.wrap_i64];unfold w64;omega
theorem wEq (n:Int):IntKind.u32.wrap n=wDd n:=by rw [IntKind.wrap_u32];rfl
section
variable {N:Nat} {P:Program} {l:List Oper} {Q:wCd} {D:List Deferred} {ks:List Nat} {σ:Env} {w:World} {i d:Nat} {s:Sch} {o:Oper} {B:Base} {U:PHeap} {L:List Res}
theorem wCM {o:Oper} {d:Nat} (hd:o.dst=some d) (σ:Env) (v:Value):put' σ o v=upd σ d v:=by unfold put';rw [hd]
theorem wKy {o:Oper} (hd:o.dst=none) (σ:Env) (v:Value):put' σ o v=σ:=by unfold put';rw [hd]
theorem dlt {o:Oper} {d N:Nat} (hd:o.dst=some d) (hN:nB d N=true):∀ e,o.dst=some e->e < N:=by
 intro e he;rw [hd] at he;cases he;simpa [nV] using hN
theorem dno {o:Oper} {N:Nat} (hd:o.dst=none):∀ e,o.dst=some e->e < N:=by intro e he;rw [hd] at he;cases he
theorem OKS.r {v:Value} (ho:l[i]?=some o) (hd:o.dst=some d) (hN:nB d N=true) (hw:wanted l σ o=true) (hr:∀ w',Runs P σ w' o v w')
  (k:OKS N P l Q D ks s (upd σ d v) w):OKS N P l Q D ks (.fl i s) σ w :=
 ⟨o,ho,dlt hd hN,.inl ⟨hw,v,fun w' _=>hr w',⟨fun _=>hr,fun _ w' _=>hr w'⟩,by rw [wCM hd];exact k⟩⟩
theorem OKS.m {v:Value} (ho:l[i]?=some o) (hd:o.dst=some d) (hN:nB d N=true) (hw:wanted l σ o=true) (hr:wEp P σ w o v) (hk:wPz (kOf ks i)=false)
  (k:OKS N P l Q D ks s (upd σ d v) w):OKS N P l Q D ks (.fl i s) σ w :=
 ⟨o,ho,dlt hd hN,.inl ⟨hw,v,hr,⟨fun e=>(by rw [e] at hk;cases hk),fun e=>(by rw [e] at hk;cases hk)⟩,(by rw [wCM hd];exact k)⟩⟩
theorem OKS.p (ho:l[i]?=some o) (hd:o.dst=some d) (hN:nB d N=true) (hw:wanted l σ o=false)
  (k:OKS N P l Q D ks s (upd σ d undef) w):OKS N P l Q D ks (.fl i s) σ w :=
 ⟨o,ho,dlt hd hN,.inr ⟨hw,by rw [wCM hd];exact k⟩⟩
theorem OKS.px (ho:l[i]?=some o) (hd:o.dst=some d) (hN:nB d N=true) (hw:wanted l σ o=false)
  (k:OKS N P l Q D ks s (upd σ d undef) w):OKS N P l Q D ks (.fx i s .stop) σ w :=
 ⟨⟨o,ho,dlt hd hN,.inr ⟨hw,KeepD.refl l ks i w,by rw [wCM hd];exact k⟩⟩,trivial⟩
theorem OKS.v {v:Value} {w':World} (ho:l[i]?=some o) (hd:o.dst=some d) (hN:nB d N=true) (hw:wanted l σ o=true) (hr:Runs P σ w o v w') (hk:wFO (kOf ks i)=false \/ Keep w w' Non)
  (k:OKS N P l Q D ks s (upd σ d v) w'):OKS N P l Q D ks (.fx i s .stop) σ w :=
 ⟨⟨o,ho,dlt hd hN,.inl ⟨hw,.inr (.inl ⟨v,w',hr,KeepD.of hk,by rw [wCM hd];exact k⟩)⟩⟩,trivial⟩
theorem OKS.u {w':World} (ho:l[i]?=some o) (hd:o.dst=none) (hw:wanted l σ o=true) (hr:Does P σ w o w') (hk:wFO (kOf ks i)=false \/ Keep w w' Non)
  (k:OKS N P l Q D ks s σ w'):OKS N P l Q D ks (.fx i s .stop) σ w :=
 ⟨⟨o,ho,dno hd,.inl ⟨hw,.inl ⟨hd,w',hr,KeepD.of hk,by rw [wKy hd];exact k⟩⟩⟩,trivial⟩
def wCi (w:World) (own:List Res) (U:PHeap) (wCd:PHeap->List Res->Value->Prop):Value->World->Prop:=fun v w'=>∃ U' L',St ⟨w,own,U⟩ U' L' w'/\wCd U' L' v
theorem OKS.callH {f:FuncId} {args:List Value} {wCd:PHeap->List Res->Value->Prop} (n:Nat) (ho:l[i]?=some o) (hd:o.dst=some d) (hN:nB d N=true) (hw:wanted l σ o=true) (he:Enters P σ w o f args) (hS:St B U L w)
  (hf:St ⟨w,L.take n,U⟩ U (L.take n) w->Gv P f args w (wCi w (L.take n) U wCd)) (hk:wFO (kOf ks i)=false \/ n=0)
  (k:∀ U' L' v w',PHeap.Le U U'->St B U' (L' ++ L.drop n) w'->wCd U' L' v->OKS N P l Q D ks s (upd σ d v) w'):OKS N P l Q D ks (.fx i s .stop) σ w:=by
 refine ⟨⟨o,ho,dlt hd hN,.inl ⟨hw,.inr (.inr (.inl ⟨f,args,_,he,hf (hS.enterH n),?_⟩))⟩⟩,trivial⟩
 rintro v w' ⟨U',L',h1,h2⟩
 obtain ⟨h3,h4⟩:=hS.backH n h1
 refine ⟨KeepD.of ?_,by rw [wCM hd];exact k U' L' v w' h4 h3 h2⟩
 rcases hk with hk | rfl
 ·exact .inl hk
 ·exact .inr <| h1.kp.weak fun b _ ⟨r,hr,_⟩=>by simp at hr
theorem wHG {j d:Nat} {b:Bool} (hg:o.guard=some (j,b)) (hd:(l[j]?).bind (·.dst)=some d) (h:σ d=.bool b):wanted l σ o=true:=by
 simp [wanted,hg,hd,h]
theorem wAo {j d:Nat} {b:Bool} (hg:o.guard=some (j,b)) (hd:(l[j]?).bind (·.dst)=some d) (h:σ d=undef):wanted l σ o=false:=by
 simp [wanted,hg,hd,h,undef]
theorem wFk {j d:Nat} {b b':Bool} (hg:o.guard=some (j,b)) (hd:(l[j]?).bind (·.dst)=some d) (h:σ d=.bool b') (hne:(b' == b)=false):wanted l σ o=false:=by
 simp [wanted,hg,hd,h,hne]
theorem Runs.addw {t u:TypeId} {x y:Operand} {m n:Int} (ho:o.op=.binOp .add t x y u) (hx:ev σ x=.int .i64 m) (hy:ev σ y=.int .i64 n):Runs P σ w o (.int .i64 (w64 (m + n))) w :=
 ⟨by rw [ho];rfl,by simp [execOp,ho,hx,hy,binOp,eqGuard,Op.intArith,wDf]⟩
theorem Runs.subw {t u:TypeId} {x y:Operand} {m n:Int} (ho:o.op=.binOp .sub t x y u) (hx:ev σ x=.int .i64 m) (hy:ev σ y=.int .i64 n):Runs P σ w o (.int .i64 (w64 (m - n))) w :=
 ⟨by rw [ho];rfl,by simp [execOp,ho,hx,hy,binOp,eqGuard,Op.intArith,wDf]⟩
theorem Runs.mulw {t u:TypeId} {x y:Operand} {m n:Int} (ho:o.op=.binOp .mul t x y u) (hx:ev σ x=.int .i64 m) (hy:ev σ y=.int .i64 n):Runs P σ w o (.int .i64 (w64 (m * n))) w :=
 ⟨by rw [ho];rfl,by simp [execOp,ho,hx,hy,binOp,eqGuard,Op.intArith,wDf]⟩
theorem Runs.addu {t u:TypeId} {x y:Operand} {m n:Int} (ho:o.op=.binOp .add t x y u) (hx:ev σ x=.int .u32 m) (hy:ev σ y=.int .u32 n):Runs P σ w o (.int .u32 (wDd (m + n))) w :=
 ⟨by rw [ho];rfl,by simp [execOp,ho,hx,hy,binOp,eqGuard,Op.intArith,wEq]⟩
theorem Runs.mulu {t u:TypeId} {x y:Operand} {m n:Int} (ho:o.op=.binOp .mul t x y u) (hx:ev σ x=.int .u32 m) (hy:ev σ y=.int .u32 n):Runs P σ w o (.int .u32 (wDd (m * n))) w :=
 ⟨by rw [ho];rfl,by simp [execOp,ho,hx,hy,binOp,eqGuard,Op.intArith,wEq]⟩
theorem Runs.rem {k:IntKind} {t u:TypeId} {x y:Operand} {m n r:Int} (ho:o.op=.binOp .rem t x y u) (hx:ev σ x=.int k m) (hy:ev σ y=.int k n) (h:KL.rem m n=some r):Runs P σ w o (.int k r) w:=by
 obtain ⟨h1,rfl⟩:=wQB h
 exact ⟨by rw [ho];rfl,by simp [execOp,ho,hx,hy,binOp,eqGuard,Op.intDiv,h1]⟩
theorem Runs.quo {t u:TypeId} {x y:Operand} {m n r:Int} (ho:o.op=.binOp .quo t x y u) (hx:ev σ x=.int .i64 m) (hy:ev σ y=.int .i64 n) (h:KL.quo m n=some r):Runs P σ w o (.int .i64 r) w:=by
 obtain ⟨h1,rfl⟩:=wQC h
 exact ⟨by rw [ho];rfl,by simp [execOp,ho,hx,hy,binOp,eqGuard,Op.intDiv,h1,wDf]⟩
theorem Runs.cvw {s' t:TypeId} {k:IntKind} {x:Operand} {m:Int} {u u2:TypeDesc} (ho:o.op=.convert s' t x) (hx:ev σ x=.int k m) (hs:∀ w,(underlying s').run P w=.ok u2 w) (ht:∀ w,(underlying t).run P w=.ok u w) (hu2:u2=.int k) (hu:u=.int .i64):Runs P σ w o (.int .i64 (w64 m)) w :=
 ⟨by rw [ho];rfl,by subst hu hu2;simp [execOp,ho,hx,convert,hs,ht,Conv.intToInt,wDf]⟩
theorem Runs.cvu {s' t:TypeId} {k:IntKind} {x:Operand} {m:Int} {u u2:TypeDesc} (ho:o.op=.convert s' t x) (hx:ev σ x=.int k m) (hs:∀ w,(underlying s').run P w=.ok u2 w) (ht:∀ w,(underlying t).run P w=.ok u w) (hu2:u2=.int k) (hu:u=.int .u32):Runs P σ w o (.int .u32 (wDd m)) w :=
 ⟨by rw [ho];rfl,by subst hu hu2;simp [execOp,ho,hx,convert,hs,ht,Conv.intToInt,wEq]⟩
theorem Runs.min {x y:Operand} {m n:Int} {ty:Array TypeId} (ho:o.op=.call { callee:=.builtin .min,args:=#[x,y],argTypes:=ty }) (hx:ev σ x=.int .i64 m) (hy:ev σ y=.int .i64 n):Runs P σ w o (.int .i64 (Min.min m n)) w :=
 ⟨by rw [ho];rfl,by
  have:(if n < m then n else m)=Min.min m n:=by rw [Int.min_def];split <;> split <;> omega
  simp [execOp,ho,resolve,invoke,builtin,Builtin.min_,Builtin.min2,hx,hy,this]⟩
theorem Runs.max {x y:Operand} {m n:Int} {ty:Array TypeId} (ho:o.op=.call { callee:=.builtin .max,args:=#[x,y],argTypes:=ty }) (hx:ev σ x=.int .i64 m) (hy:ev σ y=.int .i64 n):Runs P σ w o (.int .i64 (Max.max m n)) w :=
 ⟨by rw [ho];rfl,by
  have:(if m < n then n else m)=Max.max m n:=by rw [Int.max_def];split <;> split <;> omega
  simp [execOp,ho,resolve,invoke,builtin,Builtin.max_,Builtin.max2,hx,hy,this]⟩
theorem wNr {t:TypeId} (ht:∀ w,(underlying t).run P w=.ok .bool w) (m n:Bool) (w:World):(Op.equal t (.bool m) (.bool n)).run P w=.ok (m == n) w:=by
 unfold Op.equal Op.maxDepth
 rw [show (10000:Nat)=9999 + 1 from rfl,Op.equalIn]
 simp only [Sem.run_bind,ht,Result.andThen_ok,Sem.run_pure]
theorem Runs.eqB {t u:TypeId} {x y:Operand} {m n:Bool} (ho:o.op=.binOp .eql t x y u) (hx:ev σ x=.bool m) (hy:ev σ y=.bool n) (ht:∀ w,(underlying t).run P w=.ok .bool w):Runs P σ w o (.bool (m == n)) w :=
 ⟨by rw [ho];rfl,by simp [execOp,ho,hx,hy,binOp,eqGuard,wNr ht]⟩
theorem Runs.neB {t u:TypeId} {x y:Operand} {m n:Bool} (ho:o.op=.binOp .neq t x y u) (hx:ev σ x=.bool m) (hy:ev σ y=.bool n) (ht:∀ w,(underlying t).run P w=.ok .bool w):Runs P σ w o (.bool (!(m == n))) w :=
 ⟨by rw [ho];rfl,by simp [execOp,ho,hx,hy,binOp,eqGuard,wNr ht]⟩
theorem OKS.alloc {t:TypeId} {z:Value} {cs:List Value} (ho:l[i]?=some o) (hd:o.dst=some d) (hN:nB d N=true) (hw:wanted l σ o=true) (hop:o.op=.alloc t) (hz:∀ w,(zeroValue t).run P w=.ok z w) (hc:z.cells=cs.toArray) (hS:St B U L w)
  (k:∀ w' b,St B U (.blk b t cs :: L) w'->OKS N P l Q D ks s (upd σ d (.pointer (some ⟨b,0,none⟩))) w'):OKS N P l Q D ks (.fx i s .stop) σ w:=by
 refine OKS.v (v:=.pointer (some ⟨w.heap.size,0,none⟩)) (w':=w.alloc (.cells cs.toArray t)) ho hd hN hw ⟨by rw [hop];rfl,?_⟩ (.inr (wAn w _)) (k _ _ (hS.new (wAn w _) (wDH w cs t) rfl (nO _)))
 simp [execOp,hop,Instr.alloc,hz,newVar,newRow,newObj,hc,Sem.run]
theorem OKS.box {t:TypeId} {x:Operand} {v:Value} {cs:List Value} (ho:l[i]?=some o) (hd:o.dst=some d) (hN:nB d N=true) (hw:wanted l σ o=true) (hop:o.op=.box t x) (hx:ev σ x=v) (hc:v.cells=cs.toArray) (hS:St B U L w)
  (k:∀ w' b,St B U (.blk b t cs :: L) w'->OKS N P l Q D ks s (upd σ d (.pointer (some ⟨b,0,none⟩))) w'):OKS N P l Q D ks (.fx i s .stop) σ w:=by
 subst hx
 refine OKS.v (v:=.pointer (some ⟨w.heap.size,0,none⟩)) (w':=w.alloc (.cells cs.toArray t)) ho hd hN hw ⟨by rw [hop];rfl,?_⟩ (.inr (wAn w _)) (k _ _ (hS.new (wAn w _) (wDH w cs t) rfl (nO _)))
 simp [execOp,hop,Instr.box,newVar,newRow,newObj,hc,Sem.run]
theorem OKS.st {t T:TypeId} {x y:Operand} {j b off:Nat} {v:Value} {vs cs cs':List Value} (ho:l[i]?=some o) (hd:o.dst=none) (hw:wanted l σ o=true) (hop:o.op=.store t x y) (hS:St B U L w) (hk:L[j]?=some (.blk b T cs))
  (hx:ev σ x=.pointer (some ⟨b,off,none⟩)) (hy:ev σ y=v) (hc:v.cells=vs.toArray) (hsz:∀ w,(sizeOf t).run P w=.ok vs.length w) (hlt:off + vs.length <= cs.length) (h1:vs.all one=true) (hcs:wES cs off vs=cs') (hne:wFO (kOf ks i)=false)
  (k:∀ w',St B U (L.set j (.blk b T cs')) w'->OKS N P l Q D ks s σ w'):OKS N P l Q D ks (.fx i s .stop) σ w:=by
 subst hy hcs
 obtain ⟨w',h2,h3,h4,h5⟩:=wCZ (P:=P) (T:=T) off vs 0 cs w (hS.blkAt hk) hlt (nU.1 h1)
 refine OKS.u (w':=w') ho hd hw ⟨by rw [hop];rfl,?_⟩ (.inl hne) (k w' (hS.set hk (h4.weak fun x _ e=>by rw [e];rfl) h3 fun b hb=>.inl hb))
 simp [execOp,hop,Instr.storeAt,hx,Instr.sureAddr,storeVar,hc,hsz,h2]
theorem RowAt.cells {w:World} {c T sz b:Nat} {cs:List Value} (h:RowAt w (some ⟨b,0,none⟩) c T sz cs):∃ cur,w.heap[b]?=some (.cells cur T (0,0))/\cs.length <= c * sz/\c <= maxLen/\cur.size=c * sz/\cur.toList.take cs.length=cs:=by
 rcases h with ⟨h,_⟩ | ⟨b',cur,h,h1⟩
 ·cases h
 ·cases h;exact ⟨cur,h1⟩
theorem wHq (vs:List Value):∀ (l:List Value) (off n:Nat),off + vs.length <= n->(wES l off vs).take n=wES (l.take n) off vs:=by
 induction vs with
 | nil=>intro l off n _;rfl
 | cons v vs ih =>
  intro l off n h
  simp only [wES]
  rw [ih _ _ _ (by simp at h;omega),List.take_set]
theorem OKS.stR {t T:TypeId} {x y:Operand} {j b c sz off:Nat} {A:Option Addr} {v:Value} {vs cs cs':List Value} (ho:l[i]?=some o) (hd:o.dst=none) (hw:wanted l σ o=true) (hop:o.op=.store t x y) (hS:St B U L w) (hk:L[j]?=some (.row A c T sz cs)) (hA:A=some ⟨b,0,none⟩)
  (hx:ev σ x=.pointer (some ⟨b,off,none⟩)) (hy:ev σ y=v) (hc:v.cells=vs.toArray) (hsz:∀ w,(sizeOf t).run P w=.ok vs.length w) (hlt:off + vs.length <= cs.length) (h1:vs.all one=true) (hcs:wES cs off vs=cs') (hne:wFO (kOf ks i)=false)
  (k:∀ w',St B U (L.set j (.row A c T sz cs')) w'->OKS N P l Q D ks s σ w'):OKS N P l Q D ks (.fx i s .stop) σ w:=by
 subst hA
 subst hy hcs
 obtain ⟨cur,g1,g2,g3,g4,g5⟩:=RowAt.cells (hS.at_ _ (hH hk))
 have hB:Blk w b T cur.toList:=by unfold Blk;rw [g1]
 have hcl:cs.length <= cur.toList.length:=by rw [<- g5];simp;omega
 obtain ⟨w',h2,h3,h4,h5⟩:=wCZ (P:=P) (T:=T) off vs 0 cur.toList w hB (by omega) (nU.1 h1)
 refine OKS.u (w':=w') ho hd hw ⟨by rw [hop];rfl,?_⟩ (.inl hne) (k w' (hS.set hk (h4.weak fun x _ e=>by rw [e];rfl) (.inr ⟨b,(wES cur.toList (off + 0) vs).toArray,rfl,h3,?_,g3,?_,?_⟩) fun b hb=>.inl hb))
 ·simp [execOp,hop,Instr.storeAt,hx,Instr.sureAddr,storeVar,hc,hsz,h2]
 ·rw [wCE];exact g2
 ·simp [wCE,g4]
 ·rw [wCE,Nat.add_zero]
  show (wES cur.toList off vs).take cs.length=_
  rw [wHq _ _ _ _ hlt,g5]
theorem St.ldB {t T:TypeId} {x:Operand} {j b off:Nat} {cs:List Value} {v:Value} (hS:St B U L w) (hk:L[j]?=some (.blk b T cs)) (hop:o.op=.load t x) (hx:ev σ x=.pointer (some ⟨b,off,none⟩)) (hag:∀ w,(isAgg t).run P w=.ok false w) (hv:cs[off]?=some v):wEp P σ w o v :=
 fun _ k=>Runs.ldB hop hx hag ((hS.grow k).blkAt hk) hv
theorem St.ldBA {t T:TypeId} {x:Operand} {j b off n:Nat} {cs vs:List Value} (hS:St B U L w) (hk:L[j]?=some (.blk b T cs)) (hop:o.op=.load t x) (hx:ev σ x=.pointer (some ⟨b,off,none⟩)) (hag:∀ w,(isAgg t).run P w=.ok true w) (hsz:∀ w,(sizeOf t).run P w=.ok n w) (hv:(cs.drop off).take n=vs) (hn:vs.length=n):wEp P σ w o (.agg vs.toArray) :=
 fun _ k=>Runs.ldBA hop hx hag hsz ((hS.grow k).blkAt hk) hv hn
theorem St.rowCell {j b c T sz off:Nat} {cs:List Value} {v:Value} (hS:St B U L w) (hk:L[j]?=some (.row (some ⟨b,0,none⟩) c T sz cs)) (hv:cs[off]?=some v):w.cell? ⟨b,off,none⟩=some v:=by
 obtain ⟨cur,g1,g2,g3,g4,g5⟩:=RowAt.cells (hS.at_ _ (hH hk))
 have:cur[off]?=some v:=by
  rw [<- g5,nM] at hv
  split at hv
  ·simpa using hv
  ·cases hv
 simp [World.cell?,g1,this]
theorem wDg {cs vs:List Value} {off n:Nat} (hv:(cs.drop off).take n=vs):∀ j v,vs[j]?=some v->cs[off + j]?=some v:=by
 intro j v hj
 subst hv
 rw [nM] at hj
 split at hj
 ·rwa [nN] at hj
 ·cases hj
theorem St.ldRA {t T:TypeId} {x:Operand} {j b off c sz n:Nat} {A:Option Addr} {cs vs:List Value} (hS:St B U L w) (hk:L[j]?=some (.row A c T sz cs)) (hA:A=some ⟨b,0,none⟩) (hop:o.op=.load t x) (hx:ev σ x=.pointer (some ⟨b,off,none⟩)) (hag:∀ w,(isAgg t).run P w=.ok true w) (hsz:∀ w,(sizeOf t).run P w=.ok n w) (hv:(cs.drop off).take n=vs) (hn:vs.length=n):wEp P σ w o (.agg vs.toArray) :=
 fun _ k=>Runs.ldA hop hx hag hsz hn fun j v hj=>(hS.grow k).rowCell (hA ▸ hk) (wDg hv j v hj)
def Cl (U:PHeap) (b off:Nat) (vs:List Value):Prop:=∃ arr T fr,U b=some (.cells arr T fr)/\∀ j v,vs[j]?=some v->arr[off + j]?=some v
theorem Cl.le {U U':PHeap} {b off:Nat} {vs:List Value} (h:Cl U b off vs) (hl:PHeap.Le U U'):Cl U' b off vs:=by
 obtain ⟨arr,T,fr,h1,h2⟩:=h
 exact ⟨arr,T,fr,hl _ _ h1,h2⟩
theorem Cl.cell {b off f:Nat} {vs:List Value} {v:Value} (h:Cl U b off vs) (hS:St B U L w) (hv:vs[f]?=some v):w.cell? ⟨b,off + f,none⟩=some v:=by
 obtain ⟨arr,T,fr,h1,h2⟩:=h
 simp [World.cell?,hS.fro _ _ h1,h2 f v hv]
theorem Cl.of {b:Nat} {T:TypeId} {cs:List Value} (h:U b=some (.cells cs.toArray T (0,0))):Cl U b 0 cs:=⟨_,_,_,h,fun j v hv=>by simpa using hv⟩
theorem St.ldC {t:TypeId} {x:Operand} {b off f:Nat} {vs:List Value} {v:Value} (hS:St B U L w) (hC:Cl U b off vs) (hop:o.op=.load t x) (hx:ev σ x=.pointer (some ⟨b,off + f,none⟩)) (hag:∀ w,(isAgg t).run P w=.ok false w) (hv:vs[f]?=some v):wEp P σ w o v :=
 fun _ k=>Runs.ld hop hx hag (hC.cell (hS.grow k) hv)
theorem St.ldCA {t:TypeId} {x:Operand} {b off f n:Nat} {vs us:List Value} (hS:St B U L w) (hC:Cl U b off vs) (hop:o.op=.load t x) (hx:ev σ x=.pointer (some ⟨b,off + f,none⟩)) (hag:∀ w,(isAgg t).run P w=.ok true w) (hsz:∀ w,(sizeOf t).run P w=.ok n w) (hv:(vs.drop f).take n=us) (hn:us.length=n):wEp P σ w o (.agg us.toArray) :=
 fun _ k=>Runs.ldA hop hx hag hsz hn fun j v hj=>by
  rw [Nat.add_assoc];exact hC.cell (hS.grow k) (wDg hv j v hj)
theorem wEr {α:Type} {f:α->List Value} {sz:Nat} (hf:∀ x,(f x).length=sz):∀ (l:List α) (i j:Nat) (x:α) (v:Value),l[i]?=some x->(f x)[j]?=some v->(l.flatMap f)[i * sz + j]?=some v
 | [],i,j,x,v,hi,hj=>by simp at hi
 | y :: l,0,j,x,v,hi,hj=>by
  simp at hi;subst hi
  have:j < (f y).length:=by
   rcases nT j (f y).length with h | h
   ·exact h
   ·rw [nu h] at hj;cases hj
  simp only [nr,kc,kK]
  rw [nG this];exact hj
 | y :: l,i + 1,j,x,v,hi,hj=>by
  have ih:=wEr hf l i j x v (by simpa using hi) hj
  simp only [nr]
  rw [nH (by rw [hf,nl];omega),hf,show (i + 1) * sz + j - sz=i * sz + j from by rw [nl];omega]
  exact ih
theorem wAL {α:Type} {f:α->List Value} {sz:Nat} (hf:∀ x,(f x).length=sz) (l:List α):(l.flatMap f).length=l.length * sz:=by
 induction l with
 | nil=>simp
 | cons x l ih=>simp [ih,hf,nl];omega
theorem Sl.el {α:Type} {sz c:Nat} {A:Option Addr} {enc:α->List Value} {xs:List α} (h:Sl U sz A c xs.length (xs.flatMap enc)) (hf:∀ x,(enc x).length=sz) {k:Nat} {x:α} (hx:xs[k]?=some x) :
  ∃ b off,A=some ⟨b,off,none⟩/\Cl U b (off + k * sz) (enc x):=by
 have hlt:=(nA.1 hx).1
 rcases h.mem with h0 | ⟨b,off,arr,T,fr,hA,h2,h3⟩
 ·omega
 ·refine ⟨b,off,hA,arr,T,fr,h2,fun j v hj=>?_⟩
  have:=wEr hf xs k j x v hx hj
  rw [<- h3,nM] at this
  split at this
  ·rw [nN] at this
   rw [show off + k * sz + j=off + (k * sz + j) from by omega]
   simpa using this
  ·cases this
theorem St.rowSome {j c T sz:Nat} {A:Option Addr} {cs:List Value} (hS:St B U L w) (hk:L[j]?=some (.row A c T sz cs)) (hn:0 < cs.length):∃ b,A=some ⟨b,0,none⟩:=by
 rcases hS.at_ _ (hH hk) with ⟨_,_,rfl⟩ | ⟨b,cur,h,_⟩
 ·simp at hn
 ·exact ⟨b,h⟩
theorem wEs (vs:List Value):∀ (p l:List Value) (off:Nat),wES (p ++ l) (p.length + off) vs=p ++ wES l off vs:=by
 induction vs with
 | nil=>intro p l off;rfl
 | cons v vs ih =>
  intro p l off
  simp only [wES]
  rw [List.set_append_right _ _ (by omega),show p.length + off - p.length=off from by omega,show p.length + off + 1=p.length + (off + 1) from by omega,ih]
theorem wFP (vs:List Value):∀ (p l:List Value) (off:Nat),off + vs.length <= p.length->wES (p ++ l) off vs=wES p off vs ++ l:=by
 induction vs with
 | nil=>intro p l off _;rfl
 | cons v vs ih =>
  intro p l off h
  simp only [wES]
  simp only [kY] at h
  rw [List.set_append_left _ _ (by omega),ih _ _ _ (by simp;omega)]
theorem wFH {α:Type} {f:α->List Value} {sz:Nat} (hf:∀ x,(f x).length=sz) {vs:List Value} {off:Nat}:∀ (l:List α) (k:Nat) (x y:α),l[k]?=some x->off + vs.length <= sz->wES (f x) off vs=f y->wES (l.flatMap f) (k * sz + off) vs=(l.set k y).flatMap f
 | [],k,x,y,hk,_,_=>by simp at hk
 | z :: l,0,x,y,hk,ho,hs=>by
  simp at hk;subst hk
  simp only [kc,kK,nr,List.set_cons_zero]
  rw [wFP _ _ _ _ (by rw [hf];exact ho),hs]
 | z :: l,k + 1,x,y,hk,ho,hs=>by
  have ih:=wFH hf l k x y (by simpa using hk) ho hs
  simp only [nr,ku]
  rw [show (k + 1) * sz + off=(f z).length + (k * sz + off) from by rw [hf,nl];omega,wEs,ih]
theorem wHr {w w':World} {c c2 n m:Nat} {A:Option Addr} {a:Addr} {t ty e:TypeId} {inf:TypeInfo} {z v':Value} {cs news:List Value} (ht:P.underlying t=some (.slice e)) (hi:P.info? e=some inf) (hz:inf.zero=some z)
  (hown:w.ownsRow 0 e inf.size (.slice A n c) n cs) (hl:news.length=m * inf.size) (hnews:∀ j u,news[j]?=some u->w.cell? (a.add j)=some u) (h1:∀ u ∈ news,u.oneCell'=true) (h63:n + m <= maxLen) (hbytes:(n + m) * inf.bytes <= 140737488355328)
  (hr:(Builtin.append_ #[t,t] ty #[.slice A n c,.slice (some a) m c2]).run P w=.ok v' w'):w.drawn <= w'.drawn:=by
 have hsmall:n + m <= 9223372036854775807:=by simp only [maxLen] at h63;omega
 rcases hown.2 with ⟨h0,rfl⟩ | ⟨g,cap,cur,h0,hbg,hg,hnc,hcm,hcs,htake⟩
 ·cases h0
  by_cases hm:m=0
  ·subst hm
   simp [Builtin.append_,run_underlying ht,sizeOf,typeInfo,hi,Builtin.lenOf,Builtin.firstCells,loadCells,loadCellsFrom] at hr
   rw [<- hr.2]
   exact nO _
  ·have hr2:=run_append_nil (P:=P) w t ty e inf z ht hi hz a m c2 news hl hnews (by omega) (by omega) (by have hb:=hbytes;simp only [kK] at hb;omega)
   rw [hr2] at hr
   cases hr
   exact aA _
 ·cases h0
  by_cases hroom:n + m <= c
  ·have hfit:n * inf.size + news.length <= cur.size:=by rw [hl,hcs,<- nl];exact kL _ hroom
   have hr2:=run_append_room (P:=P) w t ty e inf ht hi g n c cur hg a m c2 news hl hnews h1 hroom hfit
   rw [hr2] at hr
   cases hr
   exact nO _
  ·have holds:∀ j u,cs[j]?=some u->w.cell? ((⟨g,0,none⟩:Addr).add j)=some u:=hown.cells (g:=g) rfl
   have hr2:=run_append_grow (P:=P) w t ty e inf z ht hi hz ⟨g,0,none⟩ n c cs hown.1 holds a m c2 news hl hnews (by omega) (by omega) (growslice_fits (by omega) hbytes)
   rw [hr2] at hr
   cases hr
   exact aA _
theorem wCa {w:World} {A A2:Option Addr} {c c2 n m sz:Nat} {t ty e:TypeId} {inf:TypeInfo} {z:Value} {cs news:List Value} (ht:P.underlying t=some (.slice e)) (hi:P.info? e=some inf) (hz:inf.zero=some z)
  (hsize:inf.size=sz) (hzs:z.cells.size=sz) (hsz:0 < sz) (hrow:RowAt w A c e sz cs) (hn:cs.length=n * sz) (hl:news.length=m * sz)
  (hnews:m=0 \/ ∃ a,A2=some a/\∀ j u,news[j]?=some u->w.cell? (a.add j)=some u) (h1:∀ u ∈ news,u.oneCell'=true) (hb:(n + m) * inf.bytes <= 140737488355328) (hby:0 < inf.bytes) :
  ∃ A' c' w',(Builtin.append_ #[t,t] ty #[.slice A n c,.slice A2 m c2]).run P w=.ok (.slice A' (n + m) c') w'/\RowAt w' A' c' e sz (cs ++ news)/\Keep w w' (fun b=>A.map (·.block)=some b) /\
   (∀ b,A'.map (·.block)=some b->A.map (·.block)=some b \/ w.heap.size <= b):=by
 have own:w.ownsRow 0 e sz (.slice A n c) n cs:=by
  refine ⟨hn,?_⟩
  rcases hrow with ⟨rfl,rfl,rfl⟩ | ⟨b,cur,rfl,h1,h2,h3,h4,h5⟩
  ·have:n=0:=by
    rcases np n with h | h
    ·exact h
    ·have:=kk h hsz;simp at hn;omega
   subst this;exact .inl ⟨rfl,rfl⟩
  ·exact .inr ⟨b,c,cur,rfl,kj _,h1,ny (hn ▸ h2) hsz,h3,h4,by rw [<- hn];exact h5⟩
 have hnm:n + m <= maxLen:=by
  have:n + m <= (n + m) * inf.bytes:=ke _ hby
  have:(140737488355328:Nat) <= maxLen:=by decide
  omega
 have fin:∀ (a:Addr),(∀ j u,news[j]?=some u->w.cell? (a.add j)=some u)->∃ A' c' w',(Builtin.append_ #[t,t] ty #[.slice A n c,.slice (some a) m c2]).run P w=.ok (.slice A' (n + m) c') w'/\RowAt w' A' c' e sz (cs ++ news)/\Keep w w' (fun b=>A.map (·.block)=some b) /\
   (∀ b,A'.map (·.block)=some b->A.map (·.block)=some b \/ w.heap.size <= b):=by
  intro a ha
  obtain ⟨v',w',hr,hown,hg,_,hbk⟩:=run_append_own_at (P:=P) (w:=w) 0 t ty e inf z sz inf.bytes ht hi hz hsize rfl hzs hsz (.slice A n c) n cs own a m c2 news hl ha h1 hnm hb (kj _)
  have ob:∀ {A:Option Addr} {n c:Nat},(aB A n c).ownBlock=A.map (·.block):=by intro A n c;cases A <;> rfl
  have hlen:(cs ++ news).length=(n + m) * sz:=by simp [hn,hl,nl]
  have hv:∃ A' c',v'=.slice A' (n + m) c'/\RowAt w' A' c' e sz (cs ++ news):=by
   rcases hown.2 with ⟨h1,h2⟩ | ⟨g,cap,cur,h1,h2,h3,h4,h5,h6,h7⟩
   ·refine ⟨none,0,by rw [h1];simp;omega,.inl ⟨rfl,rfl,?_⟩⟩
    rw [h2,kc] at hlen;exact List.eq_nil_of_length_eq_zero hlen
   ·exact ⟨some ⟨g,0,none⟩,cap,h1,.inr ⟨g,cur,rfl,h3,by rw [hlen];exact kL _ h4,h5,h6,by rw [hlen];exact h7⟩⟩
  obtain ⟨A',c',rfl,hrow'⟩:=hv
  rw [ob,ob] at hbk
  refine ⟨A',c',w',hr,hrow',⟨hg.os,⟨hg.tape,wHr (A:=A) (a:=a) ht hi hz (hsize ▸ own) (hsize ▸ hl) ha h1 hnm hb hr⟩,hg.output,hg.size,fun k hk hx=>hg.block k hk fun e=>hx ?_⟩,fun b hb=>?_⟩
  ·rw [ob] at e;exact e.symm
  ·rcases hbk with h | h
   ·rw [h] at hb;exact .inl hb
   ·rw [h] at hb;cases hb;exact .inr (nO _)
 cases A2 with
 | some a =>
  rcases hnews with h0 | ⟨a',ha,hh⟩
  ·subst h0
   have:news=[]:=by simp at hl;exact hl
   subst this
   exact fin a (fun j u h=>by simp at h)
  ·cases ha;exact fin a hh
 | none =>
  rcases hnews with h0 | ⟨a',ha,hh⟩
  ·subst h0
   have:news=[]:=by simp at hl;exact hl
   subst this
   have hle:n <= c:=by
    rcases hrow with ⟨rfl,rfl,rfl⟩ | ⟨b,cur,rfl,h1,h2,h3,h4,h5⟩
    ·have:n=0:=by
      rcases np n with h | h
      ·exact h
      ·have:=kk h hsz;simp at hn;omega
     omega
    ·exact ny (hn ▸ h2) hsz
   refine ⟨A,c,w,?_,by simpa using hrow,Keep.refl w _,fun b hb=>.inl hb⟩
   have hsz2:∀ w,(sizeOf e).run P w=.ok sz w:=by
    intro w;simp [sizeOf,typeInfo,hi,hsize]
   have hu:∀ w,(underlying t).run P w=.ok (.slice e) w:=by intro w;simp [underlying,ht]
   cases A with
   | none=>simp [Builtin.append_,hu,hsz2,Builtin.lenOf,Builtin.firstCells,hle]
   | some a=>simp [Builtin.append_,hu,hsz2,Builtin.lenOf,Builtin.firstCells,hle,storeCells]
  ·cases ha
end
end Go.KL
namespace Go.KL
open Go.RowKit
section
variable {P:Program} {σ:Env} {w:World} {o:Oper}
theorem Runs.iaN {t e:TypeId} {x y:Operand} {A:Option Addr} {b off len cap sz k:Nat} (ho:o.op=.indexAddr t x y) (hx:ev σ x=.slice A len cap) (hA:A=some ⟨b,off,none⟩) (hy:ev σ y=.int .i64 (k:Int))
  (ht:∀ w,(underlying t).run P w=.ok (.slice e) w) (hsz:∀ w,(sizeOf e).run P w=.ok sz w) (h1:k < len):Runs P σ w o (.pointer (some ⟨b,off + k * sz,none⟩)) w:=by
 subst hA
 have:=Runs.ia (P:=P) (w:=w) ho hx hy ht hsz (by omega) (by omega)
 simpa using this
theorem Runs.iaI {t e:TypeId} {x y:Operand} {A:Option Addr} {b off len cap sz:Nat} {i:Int} (ho:o.op=.indexAddr t x y) (hx:ev σ x=.slice A len cap) (hA:A=some ⟨b,off,none⟩) (hy:ev σ y=.int .i64 i)
  (ht:∀ w,(underlying t).run P w=.ok (.slice e) w) (hsz:∀ w,(sizeOf e).run P w=.ok sz w) (h0:0 <= i) (h1:i < len):Runs P σ w o (.pointer (some ⟨b,off + i.toNat * sz,none⟩)) w:=by
 subst hA
 exact Runs.ia ho hx hy ht hsz h0 h1
theorem wAT:nj (fun (p:Nat × Operand)=>(p.1,ev σ p.2)) []=[]:=rfl
theorem wAI {i:Nat} {x:Operand} {l:List (Nat × Operand)} {v:Value} {vs:List (Nat × Value)} (h:ev σ x=v) (ht:nj (fun (p:Nat × Operand)=>(p.1,ev σ p.2)) l=vs) :
  nj (fun (p:Nat × Operand)=>(p.1,ev σ p.2)) ((i,x) :: l)=(i,v) :: vs:=by rw [kP,h,ht]
def lay (place:Nat->Option (Nat × Nat)):List Value->List (Nat × Value)->Option (List Value)
 | cells,[]=>some cells
 | cells,(i,v) :: rest =>
  match place i with
  | none=>none
  | some (off,size)=>if v.cells.size == size && nQ (off + size) cells.length then lay place (wES cells off v.cells.toList) rest else none
theorem wKz (vs:List Value):∀ (l:List Value) (off j:Nat),(vs.zipIdx j).foldl (fun (cs:Array Value) (c,i)=>cs.setIfInBounds (off + i) c) l.toArray=(wES l (off + j) vs).toArray:=by
 induction vs with
 | nil=>intro l off j;rfl
 | cons v vs ih =>
  intro l off j
  simp only [List.zipIdx_cons,List.foldl_cons,List.setIfInBounds_toArray]
  rw [ih]
  simp [wES,Nat.add_assoc]
theorem wCq (place:Nat->Option (Nat × Nat)) (parts:List (Nat × Value)):∀ (cells:List Value) (cs:List Value),lay place cells parts=some cs->Instr.fill place cells.toArray parts=some cs.toArray:=by
 induction parts with
 | nil=>intro cells cs h;simp only [lay,nL] at h;subst h;rfl
 | cons p rest ih =>
  intro cells cs h
  obtain ⟨i,v⟩:=p
  unfold lay at h
  unfold Instr.fill
  cases hp:place i with
  | none=>simp [hp] at h
  | some q =>
   obtain ⟨off,size⟩:=q
   simp only [hp] at h ⊢
   split at h
   ·rename_i hc
    simp only [nP,beq_iff_eq] at hc
    have hle:=kH hc.2
    have hc1:=hc.1
    rw [if_neg (by rw [hc1];simp;exact hle)]
    rw [<- ih _ _ h]
    congr 1
    rw [<- Array.foldl_toList,Array.toList_zipIdx]
    have:=wKz v.cells.toList cells off 0
    simpa using this
   ·cases h
def wNs (P:Program) (fs:Array Field) (pl:List (Nat × Nat)):Prop:=∀ w,((fs.mapM fun f=>do pure (f.offset,<- sizeOf f.type):Sem (Array (Nat × Nat)))).run P w=.ok pl.toArray w
def wCr (P:Program) (t:TypeId) (pl:List (Nat × Nat)):Prop:=∃ fs,(∀ w,(underlying t).run P w=.ok (.struct fs) w)/\wNs P fs pl
theorem Runs.build {t:TypeId} {ps:List (Nat × Operand)} {pv:List (Nat × Value)} {zv:Value} {z cs:List Value} {pl:List (Nat × Nat)} (ho:o.op=.build t ps.toArray)
  (hp:nj (fun (p:Nat × Operand)=>(p.1,ev σ p.2)) ps=pv) (hz:∀ w,(zeroValue t).run P w=.ok zv w) (hT:wCr P t pl)
  (hzc:zv.cells=z.toArray) (hl:lay (fun i=>pl[i]?) z pv=some cs):Runs P σ w o (.agg cs.toArray) w:=by
 refine ⟨by rw [ho];rfl,?_⟩
 have hf:=wCq _ _ _ _ hl
 obtain ⟨fs,hs,hpl⟩:=hT
 have hpl':=hpl w
 subst hp
 simp only [execOp,ho,Instr.build,Sem.run_bind,hz,Result.andThen_ok,hs,hpl',hzc,kG,nf,hf,Sem.run_pure]
theorem Runs.buildA {t e n sz:Nat} {ps:List (Nat × Operand)} {pv:List (Nat × Value)} {zv:Value} {z cs:List Value} (ho:o.op=.build t ps.toArray)
  (hp:nj (fun (p:Nat × Operand)=>(p.1,ev σ p.2)) ps=pv) (hz:∀ w,(zeroValue t).run P w=.ok zv w) (hs:∀ w,(underlying t).run P w=.ok (.array n e) w) (hsz:∀ w,(sizeOf e).run P w=.ok sz w)
  (hzc:zv.cells=z.toArray) (hl:lay (fun i=>some (i * sz,sz)) z pv=some cs):Runs P σ w o (.agg cs.toArray) w:=by
 refine ⟨by rw [ho];rfl,?_⟩
 have hf:=wCq _ _ _ _ hl
 subst hp
 simp only [execOp,ho,Instr.build,Sem.run_bind,hz,Result.andThen_ok,hs,hsz,hzc,kG,hf,Sem.run_pure]
end
def wPn (P:Program) (w:World) (σ:Env):List ResultVar->List Value->Prop
 | [],[]=>True
 | .tmp t :: rs,v :: vs=>σ t=v/\wPn P w σ rs vs
 | .cell a t :: rs,v :: vs=>(∃ ad,σ a=.pointer (some ad)/\(loadVar t ad).run P w=.ok v w)/\wPn P w σ rs vs
 | _,_=>False
theorem wHs {P:Program} {w:World} {σ:Env}:∀ (rs:List ResultVar) (vs:List Value),wPn P w σ rs vs ->
  (rs.mapM (wFG σ)).run P w=.ok vs w:=by
 intro rs
 induction rs with
 | nil=>intro vs h;cases vs with
  | nil=>simp
  | cons v vs=>exact h.elim
 | cons r rs ih =>
  intro vs h
  cases vs with
  | nil=>cases r <;> exact h.elim
  | cons v vs =>
   cases r with
   | tmp t =>
    obtain ⟨h1,h2⟩:=h
    simp [List.mapM_cons,ih vs h2,wFG,h1]
   | cell a t =>
    obtain ⟨⟨ad,h0,h1⟩,h2⟩:=h
    simp [List.mapM_cons,ih vs h2,wFG,h0,asAddr,h1]
theorem wDv {P:Program} {w:World} {σ:Env} {r:ResultVar} {v:Value} (h:wPn P w σ [r] [v]):(wCK #[r] σ).run P w=.ok v w:=by
 have:=wHs _ _ h
 rw [show (#[r]:Array ResultVar)=[r].toArray from rfl]
 simp only [wCK,kz,Sem.run_bind,Sem.run_map,this,Result.andThen_ok]
 simp
theorem wHt {P:Program} {w:World} {σ:Env} {rs:List ResultVar} {vs:List Value} (h:wPn P w σ rs vs) (hn:(vs.length == 1)=false):(wCK rs.toArray σ).run P w=.ok (.tuple vs.toArray) w:=by
 have:=wHs _ _ h
 simp only [wCK,kz]
 simp [this]
 exact fun e=>by rw [e] at hn;cases hn
theorem wGd {P:Program} {w:World} {t T:TypeId} {b off:Nat} {l:List Value} {v:Value} (hag:∀ w,(isAgg t).run P w=.ok false w) (hB:Blk w b T l) (hv:l[off]?=some v) :
  (loadVar t ⟨b,off,none⟩).run P w=.ok v w:=by
 simp [loadVar,hag,load,Sem.run,hB.cell hv]
theorem wDU {P:Program} {w:World} {t T:TypeId} {b off n:Nat} {l vs:List Value} (hag:∀ w,(isAgg t).run P w=.ok true w) (hsz:∀ w,(sizeOf t).run P w=.ok n w) (hB:Blk w b T l)
  (hv:(l.drop off).take n=vs) (hn:vs.length=n):(loadVar t ⟨b,off,none⟩).run P w=.ok (.agg vs.toArray) w:=by
 simp [loadVar,hag,hsz,run_loadCells vs hn (hB.cells hv)]
section
variable {N:Nat} {P:Program} {l:List Oper} {Q:wCd} {D:List Deferred} {ks:List Nat} {σ:Env} {w:World} {i d:Nat} {s:Sch} {o:Oper} {B:Base} {U:PHeap} {L:List Res}
theorem OKS.buildSlice {t e n sz:Nat} {ps:List (Nat × Operand)} {pv:List (Nat × Value)} {z:Value} {zs cs:List Value} (ho:l[i]?=some o) (hd:o.dst=some d) (hN:nB d N=true) (hw:wanted l σ o=true) (hop:o.op=.buildSlice t n ps.toArray)
  (hp:nj (fun (p:Nat × Operand)=>(p.1,ev σ p.2)) ps=pv) (ht:∀ w,(underlying t).run P w=.ok (.slice e) w) (hs:∀ w,(sizeOf e).run P w=.ok sz w) (hz:∀ w,(zeroValue e).run P w=.ok z w)
  (hn:nQ (n * sz) 16777216=true) (hn0:nB 0 (n * sz)=true)
  (hzs:(ni (n * sz)).map (fun i=>z.cells[i % z.cells.size]!)=zs) (hl:lay (fun i=>some (i * sz,sz)) zs pv=some cs) (hlen:cs.length=n * sz) (hS:St B U L w)
  (k:∀ w' b,St B U (.row (some ⟨b,0,none⟩) n e sz cs :: L) w'->OKS N P l Q D ks s (upd σ d (.slice (some ⟨b,0,none⟩) n n)) w'):OKS N P l Q D ks (.fx i s .stop) σ w:=by
 have hle:=kH hn
 have hn':¬ n * sz > 2 ^ 24:=by omega
 have hsz0:0 < n * sz:=by simpa [nV] using hn0
 have hn0':¬ n * sz=0:=by omega
 have hf:=wCq _ _ _ _ hl
 have hzs:(Array.range (n * sz)).map (z.cells[· % z.cells.size]!)=zs.toArray:=by rw [<- List.toArray_range,kG,hzs]
 subst hp
 have hmax:n <= maxLen:=by
  have h1:0 < sz:=by
   rcases np sz with h | h
   ·subst h;omega
   ·exact h
  have:=ke n h1
  have:(16777216:Nat) <= maxLen:=by decide
  omega
 refine OKS.v (v:=.slice (some ⟨w.heap.size,0,none⟩) n n) (w':=w.alloc (.cells cs.toArray e)) ho hd hN hw ⟨by rw [hop];rfl,?_⟩ (.inr (wAn w _))
  (k _ _ (hS.new (wAn w _) (.inr ⟨_,cs.toArray,rfl,wDH w cs e,by rw [hlen];exact nO _,hmax,by simp [hlen],by simp⟩) rfl (nO _)))
 simp only [execOp,hop,Instr.buildSlice,Sem.run_bind,ht,hs,hz,Result.andThen_ok,kG,if_neg hn',if_neg hn0',Sem.run_pure,hzs,hf]
 simp [newRow,newObj,Sem.run,Result.andThen]
theorem OKS.buildSlice0 {t e:Nat} (sz:Nat) (ho:l[i]?=some o) (hd:o.dst=some d) (hN:nB d N=true) (hw:wanted l σ o=true) (hop:o.op=.buildSlice t 0 #[])
  (ht:∀ w,(underlying t).run P w=.ok (.slice e) w) (hs:∀ w,(sizeOf e).run P w=.ok sz w) (hS:St B U L w)
  (k:∀ w' b,St B U (.row (some ⟨b,0,none⟩) 0 e sz [] :: L) w'->OKS N P l Q D ks s (upd σ d (.slice (some ⟨b,0,none⟩) 0 0)) w'):OKS N P l Q D ks (.fx i s .stop) σ w:=by
 refine OKS.v (v:=.slice (some ⟨w.heap.size,0,none⟩) 0 0) (w':=w.alloc (.cells #[] e)) ho hd hN hw ⟨by rw [hop];rfl,?_⟩ (.inr (wAn w _))
  (k _ _ (hS.new (wAn w _) (.inr ⟨_,#[],rfl,wDH w [] e,by simp,kj _,by simp,by simp⟩) rfl (nO _)))
 simp [execOp,hop,Instr.buildSlice,ht,hs,newRow,newObj,Sem.run,Result.andThen,Instr.fill]
 rw [show (Array.range 0)=#[] from rfl,Array.map_empty]
theorem St.srcR {j c T sz m:Nat} {A:Option Addr} {cs:List Value} (hS:St B U L w) (hk:L[j]?=some (.row A c T sz cs)) (hz:0 < sz) (hn:cs.length=m * sz):m=0 \/ ∃ a,A=some a/\∀ j u,cs[j]?=some u->w.cell? (a.add j)=some u:=by
 rcases hS.at_ _ (hH hk) with ⟨_,_,rfl⟩ | ⟨b,cur,rfl,h1,h2,h3,h4,h5⟩
 ·left
  rcases np m with h | h
  ·exact h
  ·have:=kk h hz;simp at hn;omega
 ·right
  refine ⟨_,rfl,fun j u hj=>?_⟩
  rw [wDL,kK]
  exact hS.rowCell hk hj
theorem St.srcS {sz c m:Nat} {A:Option Addr} {cs:List Value} (hS:St B U L w) (h:Sl U sz A c m cs):m=0 \/ ∃ a,A=some a/\∀ j u,cs[j]?=some u->w.cell? (a.add j)=some u:=by
 rcases h.mem with h0 | ⟨b,off,arr,T,fr,rfl,h2,h3⟩
 ·exact .inl h0
 ·right
  refine ⟨_,rfl,fun j u hj=>?_⟩
  rw [wDL]
  rw [<- h3,nM] at hj
  split at hj
  ·rw [nN] at hj
   simpa [World.cell?,hS.fro _ _ h2] using hj
  ·cases hj
theorem St.pick (h:St B U L w) (js:List Nat) (L':List Res) (hn:js.Nodup) (hL:js.map (fun j=>L[j]?)=L'.map some):St B U L' w:=by
 have hlen:js.length=L'.length:=by have:=congrArg aC hL;simpa using this
 have get:∀ (i:Nat) (r:Res),L'[i]?=some r->∃ j,js[i]?=some j/\L[j]?=some r:=by
  intro i r hi
  have h1:(L'.map some)[i]?=some (some r):=by rw [nS,hi];rfl
  rw [<- hL,nS] at h1
  cases hj:js[i]? with
  | none=>rw [hj] at h1;cases h1
  | some j=>rw [hj] at h1;simp only [kA,nL] at h1;exact ⟨j,rfl,h1⟩
 have mem:∀ r ∈ L',r ∈ L:=fun r hr=>by
  obtain ⟨i,hi⟩:=nI hr
  obtain ⟨j,_,h2⟩:=get i r hi
  exact hH h2
 refine ⟨h.os,h.tape,h.output,h.size,h.old,h.fro,h.le,h.src,fun r hr=>h.at_ r (mem r hr),fun r hr=>h.own r (mem r hr),?_⟩
 intro i j r s b hi hj hr hs
 obtain ⟨i',h1,h2⟩:=get i r hi
 obtain ⟨j',h3,h4⟩:=get j s hj
 have:=h.dj _ _ r s b h2 h4 hr hs
 subst this
 exact (List.getElem?_inj (nA.1 h1).1 hn).1 (h1.trans h3.symm)
theorem wFl {α:Type} {enc:α->List Value} (h:∀ x,(enc x).all (·.oneCell')=true) (xs:List α):∀ u ∈ xs.flatMap enc,u.oneCell'=true:=by
 intro u hu
 obtain ⟨x,_,hx⟩:=List.mem_flatMap.1 hu
 exact nU.1 (h x) u hx
theorem OKS.append {α:Type} {t e sz j c c2 bytes:Nat} {A A2:Option Addr} {inf:TypeInfo} {z:Value} {x y:Operand} {enc:α->List Value} {xs ys zs:List α}
  (ho:l[i]?=some o) (hd:o.dst=some d) (hN:nB d N=true) (hw:wanted l σ o=true) (hop:o.op=.call { callee:=.builtin .append,args:=#[x,y],argTypes:=#[t,t] })
  (ht:P.underlying t=some (.slice e)) (hi:P.info? e=some inf) (hz:inf.zero=some z) (hsize:inf.size=sz) (hzs:z.cells.size=sz) (hsz:nB 0 sz=true) (hby:inf.bytes=bytes) (hb0:nB 0 bytes=true)
  (hS:St B U L w) (hk:L[j]?=some (.row A c e sz (xs.flatMap enc))) (hx:ev σ x=.slice A xs.length c) (hy:ev σ y=.slice A2 ys.length c2)
  (hsrc:ys.length=0 \/ ∃ a,A2=some a/\∀ j u,(ys.flatMap enc)[j]?=some u->w.cell? (a.add j)=some u) (hel:∀ x,(enc x).length=sz) (h1:∀ x,(enc x).all (·.oneCell')=true)
  (happ:app bytes xs ys=some zs) (hne:wFO (kOf ks i)=false)
  (k:∀ A' c' w',St B U (L.set j (.row A' c' e sz (zs.flatMap enc))) w'->OKS N P l Q D ks s (upd σ d (.slice A' zs.length c')) w'):OKS N P l Q D ks (.fx i s .stop) σ w:=by
 obtain ⟨rfl,hb⟩:=wJY happ
 have hb0':0 < bytes:=by simpa [nV] using hb0
 have hsz':0 < sz:=by simpa [nV] using hsz
 obtain ⟨A',c',w',r1,r2,r3,r4⟩:=wCa (P:=P) (ty:=o.type) (c2:=c2) ht hi hz hsize hzs hsz' (hS.at_ _ (hH hk)) (wAL hel xs) (wAL hel ys) hsrc (wFl h1 ys) (by rw [hby];exact hb) (by rw [hby];exact hb0')
 refine OKS.v (v:=.slice A' (xs ++ ys).length c') (w':=w') ho hd hN hw ⟨by rw [hop];rfl,?_⟩ (.inl hne) (k A' c' w' (hS.set hk r3 ?_ r4))
 ·rw [kO]
  simp [execOp,hop,resolve,invoke,builtin,hx,hy,r1,Result.andThen]
 ·rw [ko];exact r2
theorem OKS.appendC {t e sz j c c2 bytes n m:Nat} {A A2:Option Addr} {inf:TypeInfo} {z:Value} {x y:Operand} {cs news:List Value}
  (ho:l[i]?=some o) (hd:o.dst=some d) (hN:nB d N=true) (hw:wanted l σ o=true) (hop:o.op=.call { callee:=.builtin .append,args:=#[x,y],argTypes:=#[t,t] })
  (ht:P.underlying t=some (.slice e)) (hi:P.info? e=some inf) (hz:inf.zero=some z) (hsize:inf.size=sz) (hzs:z.cells.size=sz) (hsz:nB 0 sz=true) (hby:inf.bytes=bytes) (hb0:nB 0 bytes=true)
  (hS:St B U L w) (hk:L[j]?=some (.row A c e sz cs)) (hx:ev σ x=.slice A n c) (hn:cs.length=n * sz) (hy:ev σ y=.slice A2 m c2) (hm:news.length=m * sz)
  (hsrc:m=0 \/ ∃ a,A2=some a/\∀ j u,news[j]?=some u->w.cell? (a.add j)=some u) (h1:∀ u ∈ news,u.oneCell'=true)
  (hb:(n + m) * bytes <= 140737488355328) (hne:wFO (kOf ks i)=false)
  (k:∀ A' c' w',St B U (L.set j (.row A' c' e sz (cs ++ news))) w'->OKS N P l Q D ks s (upd σ d (.slice A' (n + m) c')) w'):OKS N P l Q D ks (.fx i s .stop) σ w:=by
 have hb0':0 < bytes:=by simpa [nV] using hb0
 have hsz':0 < sz:=by simpa [nV] using hsz
 obtain ⟨A',c',w',r1,r2,r3,r4⟩:=wCa (P:=P) (ty:=o.type) (c2:=c2) ht hi hz hsize hzs hsz' (hS.at_ _ (hH hk)) hn hm hsrc h1 (by rw [hby];exact hb) (by rw [hby];exact hb0')
 refine OKS.v (v:=.slice A' (n + m) c') (w':=w') ho hd hN hw ⟨by rw [hop];rfl,?_⟩ (.inl hne) (k A' c' w' (hS.set hk r3 r2 r4))
 simp [execOp,hop,resolve,invoke,builtin,hx,hy,r1,Result.andThen]
end
section
variable {r:Option Nat} {N:Nat} {P:Program} {Q:wCd} {D:List Deferred} {σ:Env} {w:World}
theorem CK.forN {S B:Type} {c:Code} {body:Nat->S->Option (S ⊕ B)} {n:Nat} {s0:S} {b:S ⊕ B} (I:Nat->S->Env->World->Prop) (hm:forN body n 0 s0=some b) (h0:I 0 s0 σ w)
  (hs:∀ k s x σ w,k < n->I k s σ w->body k s=some x->(∀ b',x=.inr b'->b=.inr b')->CK r N P c (wET (fun D' σ' w'=>D'=D/\∃ s',x=.inl s'/\I (k + 1) s' σ' w') Q) D σ w)
  (he:∀ s σ w,I n s σ w->b=.inl s->CK r N P c (wET (fun _ _ _=>False) Q) D σ w):CK r N P (.loop c) Q D σ w:=by
 refine CK.loopM (fun m σ w=>∃ k s,k + m=n/\KL.forN body m k s=some b/\I k s σ w) (m:=n) ⟨0,s0,by omega,hm,h0⟩ ?_
 rintro m σ w ⟨k,s,hk,hf,hI⟩
 cases m with
 | zero =>
  have e:k=n:=by omega
  subst e
  simp only [KL.forN,nL] at hf
  refine (he s σ w hI hf.symm).mono fun D' e σ' w' hq=>?_
  cases e with
  | normal=>exact hq.elim
  | _=>exact hq
 | succ m =>
  rw [KL.forN] at hf
  cases hx:body k s with
  | none=>rw [hx] at hf;cases hf
  | some x =>
   rw [hx] at hf
   refine (hs k s x σ w (by omega) hI hx ?_).mono fun D' e σ' w' hq=>?_
   ·rintro b' rfl;injection hf with hf;exact hf.symm
   ·cases e with
    | normal =>
     obtain ⟨rfl,s',rfl,hI'⟩:=hq
     exact ⟨rfl,m,by omega,k + 1,s',by omega,hf,hI'⟩
    | _=>exact hq
theorem CK.forN' {S:Type} {c:Code} {body:Nat->S->Option S} {n:Nat} {s0 b:S} (I:Nat->S->Env->World->Prop) (hm:forN' body n 0 s0=some b) (h0:I 0 s0 σ w)
  (hs:∀ k s x σ w,k < n->I k s σ w->body k s=some x->CK r N P c (wET (fun D' σ' w'=>D'=D/\I (k + 1) x σ' w') Q) D σ w)
  (he:∀ σ w,I n b σ w->CK r N P c (wET (fun _ _ _=>False) Q) D σ w):CK r N P (.loop c) Q D σ w:=by
 refine CK.loopM (fun m σ w=>∃ k s,k + m=n/\KL.forN' body m k s=some b/\I k s σ w) (m:=n) ⟨0,s0,by omega,hm,h0⟩ ?_
 rintro m σ w ⟨k,s,hk,hf,hI⟩
 cases m with
 | zero =>
  have e:k=n:=by omega
  subst e
  simp only [KL.forN',nL] at hf
  subst hf
  refine (he σ w hI).mono fun D' e σ' w' hq=>?_
  cases e with
  | normal=>exact hq.elim
  | _=>exact hq
 | succ m =>
  rw [KL.forN'] at hf
  cases hx:body k s with
  | none=>rw [hx] at hf;cases hf
  | some x =>
   rw [hx] at hf
   refine (hs k s x σ w (by omega) hI hx).mono fun D' e σ' w' hq=>?_
   cases e with
   | normal =>
    obtain ⟨rfl,hI'⟩:=hq
    exact ⟨rfl,m,by omega,k + 1,x,by omega,hf,hI'⟩
   | _=>exact hq
theorem CK.iter {S B:Type} {c:Code} {body:S->Option (S ⊕ B)} {n:Nat} {s0:S} {b:B} (I:S->Env->World->Prop) (hm:iter body n s0=some b) (h0:I s0 σ w)
  (hs:∀ s x σ w,I s σ w->body s=some x->(∀ b',x=.inr b'->b=b')->CK r N P c (wET (fun D' σ' w'=>D'=D/\∃ s',x=.inl s'/\I s' σ' w') Q) D σ w):CK r N P (.loop c) Q D σ w:=by
 refine CK.loopM (fun m σ w=>∃ s,KL.iter body m s=some b/\I s σ w) (m:=n) ⟨s0,hm,h0⟩ ?_
 rintro m σ w ⟨s,hf,hI⟩
 cases m with
 | zero=>cases hf
 | succ m =>
  rw [KL.iter] at hf
  cases hx:body s with
  | none=>rw [hx] at hf;cases hf
  | some x =>
   rw [hx] at hf
   refine (hs s x σ w hI hx ?_).mono fun D' e σ' w' hq=>?_
   ·rintro b' rfl;injection hf with hf;exact hf.symm
   ·cases e with
    | normal =>
     obtain ⟨rfl,s',rfl,hI'⟩:=hq
     exact ⟨rfl,m,by omega,s',hf,hI'⟩
    | _=>exact hq
end
def encI (x:Int):List Value:=[.int .i64 x]
def encB8 (x:Int):List Value:=[.int .u8 x]
def encT (x:Bool):List Value:=[.bool x]
theorem OKS.e {N:Nat} {P:Program} {l:List Oper} {Q:wCd} {D:List Deferred} {ks:List Nat} {σ:Env} {w:World} (h:Q D .normal σ w):OKS N P l Q D ks .nil σ w:=h
theorem Runs.notT {P:Program} {σ:Env} {w:World} {o:Oper} {t:TypeId} {x:Operand} {b:Bool} (ho:o.op=.unOp .not t x) (hx:ev σ x=.bool b):Runs P σ w o (.bool !b) w:=Runs.not ho hx
section
variable {α:Type} {f:α->List Value} {sz:Nat}
theorem wIa (hf:∀ x,(f x).length=sz) (l:List α) (k:Nat) (x:α) {off:Nat} {vs:List Value} (hx:l[k]?=some x) (ho:off=k * sz) (hv:f x=vs):((l.flatMap f).drop off).take sz=vs:=by
 subst ho hv
 have hlt:=(nA.1 hx).1
 have hle:k * sz + sz <= (l.flatMap f).length:=by
  rw [wAL hf,<- Nat.succ_mul];exact kL _ hlt
 apply kS
 intro j
 rw [nM]
 by_cases hj:j < sz
 ·rw [if_pos hj,nN]
  have:j < (f x).length:=by rw [hf];exact hj
  rw [wEr hf l k j x _ hx (nD this),nD this]
 ·rw [if_neg hj,nu (by rw [hf];omega)]
theorem wOQ (hf:∀ x,(f x).length=sz) {fo:Nat} (l:List α) (k:Nat) (x y:α) {off:Nat} {vs:List Value} (hx:l[k]?=some x) (ho:off=k * sz + fo) (hle:fo + vs.length <= sz) (hs:wES (f x) fo vs=f y):wES (l.flatMap f) off vs=(l.set k y).flatMap f:=by
 subst ho;exact wFH hf l k x y hx hle hs
end
section
variable {N:Nat} {P:Program} {l:List Oper} {Q:wCd} {D:List Deferred} {ks:List Nat} {σ:Env} {w:World} {i d:Nat} {s:Sch} {o:Oper} {B:Base} {U:PHeap} {L:List Res}
def InT (ts:List Nat) (L:List Res):List Nat->Prop
 | []=>True
 | b :: T=>(∃ t,ts.contains t=true/\∃ r,L[t]?=some r/\r.has b)/\InT ts L T
def OutT (T:List Nat):List Res->Prop
 | []=>True
 | r :: rs=>(∀ b,r.has b->b ∈ T)/\OutT T rs
theorem InT.mem {ts:List Nat}:∀ {T:List Nat},InT ts L T->∀ b ∈ T,∃ t ∈ ts,∃ r,L[t]?=some r/\r.has b
 | [],_,_,h=>by cases h
 | c :: T,⟨⟨t,h1,r,h2,h3⟩,h⟩,b,hb=>by
  rcases nK.1 hb with rfl | hb
  ·exact ⟨t,by simpa using h1,r,h2,h3⟩
  ·exact InT.mem h b hb
theorem OutT.mem {T:List Nat}:∀ {L:List Res},OutT T L->∀ r ∈ L,∀ b,r.has b->b ∈ T
 | [],_,_,h=>by cases h
 | c :: L,⟨h1,h2⟩,r,hr=>by
  rcases nK.1 hr with rfl | hr
  ·exact h1
  ·exact OutT.mem h2 r hr
theorem St.keepT {T ts ix:List Nat} {L':List Res} {w2:World} (h:St B U L w) (hT:InT ts L T) (hn:ix.Nodup) (hp:ix.map (fun j=>L[j]?)=L'.map some) (hx:(ix.all fun i=>!ts.contains i)=true) (k:Keep w w2 (InL T)):St B U L' w2:=by
 have h':=h.pick ix L' hn hp
 have own:∀ b ∈ T,U b=none/\B.mine b:=fun b hb=>by
  obtain ⟨t,_,r,h2,h3⟩:=hT.mem b hb
  exact h.own r (hH h2) b h3
 refine ⟨k.os.trans h.os,k.tape.trans h.tape,k.output.trans h.output,na h.size k.size,fun b hb hm=>?_,fun b o hb=>?_,h.le,h.src,fun r hr=>?_,h'.own,h'.dj⟩
 ·exact (k.block b (ng hb h.size) fun hc=>hm (own b hc).2).trans (h.old b hb hm)
 ·refine (k.block b (wAQ (h.fro b o hb)) fun hc=>?_).trans (h.fro b o hb)
  rw [(own b hc).1] at hb;cases hb
 ·refine (h'.at_ r hr).keep k fun b hb hc=>?_
  obtain ⟨t,h1,q,h2,h3⟩:=hT.mem b hc
  obtain ⟨n,hn1⟩:=nI hr
  have e:(L'.map some)[n]?=some (some r):=by rw [nS,hn1];rfl
  rw [<- hp,nS] at e
  cases hi:ix[n]? with
  | none=>rw [hi] at e;cases e
  | some m =>
   rw [hi] at e
   simp only [kA,nL] at e
   have:=h.dj m t r q b e h2 hb h3
   subst this
   have hm:=nU.1 hx m (hH hi)
   simp [h1] at hm
theorem OKS.mt {v:Value} {T:List Nat} (ts ix:List Nat) (L':List Res) (ho:l[i]?=some o) (hd:o.dst=some d) (hN:nB d N=true) (hw:wanted l σ o=true) (hS:St B U L w) (hc:chg l ks=InL T) (hT:InT ts L T)
  (hn:ix.Nodup) (hp:ix.map (fun j=>L[j]?)=L'.map some) (hx:(ix.all fun i=>!ts.contains i)=true) (hr:∀ w2,St B U L' w2->wEp P σ w2 o v) (hk:nE (kOf ks i) 3=false)
  (k:OKS N P l Q D ks s (upd σ d v) w):OKS N P l Q D ks (.fl i s) σ w :=
 ⟨o,ho,dlt hd hN,.inl ⟨hw,v,hr w (hS.pick ix L' hn hp),⟨fun e=>(by rw [e] at hk;cases hk),fun _ w2 k2=>hr w2 (hS.keepT hT hn hp hx (hc ▸ k2)) w2 (Keep.refl w2 _)⟩,(by rw [wCM hd];exact k)⟩⟩
theorem OKS.callHT {f:FuncId} {args:List Value} {wCd:PHeap->List Res->Value->Prop} {T:List Nat} (n:Nat) (ho:l[i]?=some o) (hd:o.dst=some d) (hN:nB d N=true) (hw:wanted l σ o=true) (he:Enters P σ w o f args) (hS:St B U L w)
  (hf:St ⟨w,L.take n,U⟩ U (L.take n) w->Gv P f args w (wCi w (L.take n) U wCd)) (hk:nE (kOf ks i) 2=false) (hc:chg l ks=InL T) (hT:OutT T (L.take n))
  (k:∀ U' L' v w',PHeap.Le U U'->St B U' (L' ++ L.drop n) w'->wCd U' L' v->OKS N P l Q D ks s (upd σ d v) w'):OKS N P l Q D ks (.fx i s .stop) σ w:=by
 refine ⟨⟨o,ho,dlt hd hN,.inl ⟨hw,.inr (.inr (.inl ⟨f,args,_,he,hf (hS.enterH n),?_⟩))⟩⟩,trivial⟩
 rintro v w' ⟨U',L',h1,h2⟩
 obtain ⟨h3,h4⟩:=hS.backH n h1
 exact ⟨⟨fun e=>(by rw [e] at hk;cases hk),fun _=>h1.kp.weak fun b _ ⟨r,hr,hb⟩=>(by rw [hc];exact hT.mem r hr b hb)⟩,by rw [wCM hd];exact k U' L' v w' h4 h3 h2⟩
end
end Go.KL
namespace Go.KL
open Go.RowKit
def FnOK {X Y:Type} (P:Program) (U:PHeap) (v:Value) (AR:PHeap->X->List Value->Prop) (RR:PHeap->List Res->Value->Y->Prop) (h:X->Option Y):Prop :=
 ∃ fid fst cap,v=.func (.func fid) (List.toArray fst) (List.toArray cap)/\(∀ (args:Array Value) (w:World),(callFunc fid args).run P w=.ok (.enter fid args) w) /\
  ∀ U1 w1 x y vs,PHeap.Le U U1->St ⟨w1,[],U1⟩ U1 [] w1->AR U1 x vs->h x=some y->Gv P fid (fst ++ vs ++ cap) w1 (wCi w1 [] U1 fun U_ L_ v=>RR U_ L_ v y)
section
variable {N:Nat} {P:Program} {l:List Oper} {Q:wCd} {D:List Deferred} {ks:List Nat} {σ:Env} {w:World} {i d:Nat} {s:Sch} {o:Oper} {B:Base} {U:PHeap} {L:List Res}
theorem FnOK.le {X Y:Type} {U U':PHeap} {v:Value} {AR:PHeap->X->List Value->Prop} {RR:PHeap->List Res->Value->Y->Prop} {h:X->Option Y} (hF:FnOK P U v AR RR h) (hl:PHeap.Le U U'):FnOK P U' v AR RR h:=by
 obtain ⟨fid,fst,cap,e,hc,hg⟩:=hF
 exact ⟨fid,fst,cap,e,hc,fun U1 w1 x y vs h1=>hg U1 w1 x y vs (hl.trans h1)⟩
theorem FnOK.cells {X Y:Type} {v:Value} {AR:PHeap->X->List Value->Prop} {RR:PHeap->List Res->Value->Y->Prop} {h:X->Option Y} (hF:FnOK P U v AR RR h):v.cells=[v].toArray:=by
 obtain ⟨fid,fst,cap,rfl,_⟩:=hF;rfl
theorem OKS.callV {X Y:Type} {x:Operand} {al:List Operand} {ty:Array TypeId} {v:Value} {vs:List Value} {AR:PHeap->X->List Value->Prop} {RR:PHeap->List Res->Value->Y->Prop} {h:X->Option Y} {a:X} {y:Y}
  (ho:l[i]?=some o) (hd:o.dst=some d) (hN:nB d N=true) (hw:wanted l σ o=true) (hop:o.op=.call { callee:=.value x,args:=al.toArray,argTypes:=ty }) (hx:ev σ x=v) (hl:nj (ev σ) al=vs)
  (hS:St B U L w) (hF:FnOK P U v AR RR h) (hA:AR U a vs) (hm:h a=some y)
  (k:∀ U' L' v w',PHeap.Le U U'->St B U' (L' ++ L) w'->RR U' L' v y->OKS N P l Q D ks s (upd σ d v) w'):OKS N P l Q D ks (.fx i s .stop) σ w:=by
 obtain ⟨fid,fst,cap,rfl,hc,hg⟩:=hF
 exact OKS.callH 0 ho hd hN hw (Enters.mk hop hx hc hl rfl) hS (fun hs=>hg U w a y vs (PHeap.Le.refl U) hs hA hm) (.inr rfl) k
theorem Sl.nilA {sz c n:Nat} {cs:List Value} (h:Sl U sz none c n cs):n=0:=by
 rcases h.mem with h | ⟨b,off,arr,T,fr,h,_⟩
 ·exact h
 ·cases h
theorem nilSl {t:TypeId} {u:TypeDesc} (ht:∀ w,(underlying t).run P w=.ok u w) {e:TypeId} (hu:u=.slice e) (A:Option Addr) (n c:Nat) (w:World):(Op.equal t (.slice A n c) (.slice none 0 0)).run P w=.ok A.isNone w:=by
 unfold Op.equal Op.maxDepth
 subst hu
 rw [show (10000:Nat)=9999 + 1 from rfl,Op.equalIn]
 simp only [Sem.run_bind,ht,Result.andThen_ok]
 cases A <;> rfl
theorem Runs.eqNil {t u:TypeId} {x y:Operand} {A:Option Addr} {n c e:Nat} (ho:o.op=.binOp .eql t x y u) (hx:ev σ x=.slice A n c) (hy:ev σ y=.slice none 0 0) (ht:∀ w,(underlying t).run P w=.ok (.slice e) w):Runs P σ w o (.bool A.isNone) w :=
 ⟨by rw [ho];rfl,by simp [execOp,ho,hx,hy,binOp,eqGuard,nilSl ht rfl A n c]⟩
structure Rl (α:Type) where
 sz:Nat
 r:PHeap->α->List Value->Prop
 mono:∀ U U' x vs,r U x vs->PHeap.Le U U'->r U' x vs
 len:∀ U x vs,r U x vs->vs.length=sz
 one:∀ U x vs,r U x vs->vs.all (·.oneCell')=true
def RlL {α:Type} (U:PHeap) (R:Rl α) (xs:List α) (cs:List Value):Prop :=
 ∃ vss:List (List Value),vss.length=xs.length/\(∀ (i:Nat) (x:α) (vs:List Value),xs[i]?=some x->vss[i]?=some vs->R.r U x vs)/\cs=vss.flatten
theorem RlL.le {α:Type} {U U':PHeap} {R:Rl α} {xs:List α} {cs:List Value} (h:RlL U R xs cs) (hl:PHeap.Le U U'):RlL U' R xs cs:=by
 obtain ⟨vss,h1,h2,h3⟩:=h
 exact ⟨vss,h1,fun i x vs hx hv=>R.mono U U' x vs (h2 i x vs hx hv) hl,h3⟩
theorem wIb {vss:List (List Value)} {sz:Nat} (h:∀ vs ∈ vss,vs.length=sz):vss.flatten.length=vss.length * sz:=by
 induction vss with
 | nil=>simp
 | cons v l ih=>rw [kU,kO,ih fun vs hv=>h vs (by simp [hv]),h v (by simp),kY,nl];omega
theorem wEt {sz:Nat}:∀ {vss:List (List Value)} (_:∀ vs ∈ vss,vs.length=sz) (i j:Nat) (vs:List Value) (v:Value),vss[i]?=some vs->vs[j]?=some v->vss.flatten[i * sz + j]?=some v
 | [],_,i,j,vs,v,hi,_=>by simp at hi
 | u :: l,h,0,j,vs,v,hi,hj=>by
  simp at hi;subst hi
  rw [kU,kc,kK,nG (nA.1 hj).1];exact hj
 | u :: l,h,i + 1,j,vs,v,hi,hj=>by
  have ih:=wEt (vss:=l) (fun vs hv=>h vs (by simp [hv])) i j vs v (by simpa using hi) hj
  have hu:=h u (by simp)
  rw [kU,nH (by rw [hu,nl];omega),hu,show (i + 1) * sz + j - sz=i * sz + j from by rw [nl];omega]
  exact ih
theorem RlL.each {α:Type} {R:Rl α} {xs:List α} {vss:List (List Value)} (h1:vss.length=xs.length) (h2:∀ (i:Nat) (x:α) (vs:List Value),xs[i]?=some x->vss[i]?=some vs->R.r U x vs):∀ vs ∈ vss,∃ x,R.r U x vs:=by
 intro vs hv
 obtain ⟨i,hi⟩:=nI hv
 have hlt:=(nA.1 hi).1
 exact ⟨xs[i]'(by omega),h2 i _ vs (nD (by omega)) hi⟩
theorem RlL.len {α:Type} {R:Rl α} {xs:List α} {cs:List Value} (h:RlL U R xs cs):cs.length=xs.length * R.sz:=by
 obtain ⟨vss,h1,h2,rfl⟩:=h
 rw [wIb (sz:=R.sz) fun vs hv=>by obtain ⟨x,hx⟩:=RlL.each h1 h2 vs hv;exact R.len _ _ _ hx,h1]
theorem RlL.one {α:Type} {R:Rl α} {xs:List α} {cs:List Value} (h:RlL U R xs cs):∀ u ∈ cs,u.oneCell'=true:=by
 obtain ⟨vss,h1,h2,rfl⟩:=h
 intro u hu
 obtain ⟨vs,hv,hu⟩:=List.mem_flatten.1 hu
 obtain ⟨x,hx⟩:=RlL.each h1 h2 vs hv
 exact nU.1 (R.one _ _ _ hx) u hu
theorem RlL.nil {α:Type} {R:Rl α}:RlL U R ([]:List α) []:=⟨[],rfl,fun i x vs hx=>by simp at hx,rfl⟩
theorem RlL.append {α:Type} {R:Rl α} {xs ys:List α} {cs ds:List Value} (h:RlL U R xs cs) (h':RlL U R ys ds):RlL U R (xs ++ ys) (cs ++ ds):=by
 obtain ⟨vss,h1,h2,rfl⟩:=h
 obtain ⟨uss,g1,g2,rfl⟩:=h'
 refine ⟨vss ++ uss,by simp [h1,g1],fun i x vs hx hv=>?_,by simp⟩
 rcases nT i xs.length with hi | hi
 ·rw [nG hi] at hx
  rw [nG (by omega)] at hv
  exact h2 i x vs hx hv
 ·rw [nH hi] at hx
  rw [nH (by omega),h1] at hv
  exact g2 _ x vs hx hv
theorem RlL.cons {α:Type} {R:Rl α} {x:α} {xs:List α} {vs cs:List Value} (h0:R.r U x vs) (h:RlL U R xs cs):RlL U R (x :: xs) (vs ++ cs):=by
 obtain ⟨vss,h1,h2,rfl⟩:=h
 refine ⟨vs :: vss,by simp [h1],fun i y us hy hu=>?_,by simp⟩
 cases i with
 | zero=>simp at hy hu;subst hy hu;exact h0
 | succ i=>exact h2 i y us (by simpa using hy) (by simpa using hu)
def SlR {α:Type} (U:PHeap) (R:Rl α) (A:Option Addr) (c:Nat) (xs:List α):Prop:=∃ cs,Sl U R.sz A c xs.length cs/\RlL U R xs cs
theorem SlR.le {α:Type} {U U':PHeap} {R:Rl α} {A:Option Addr} {c:Nat} {xs:List α} (h:SlR U R A c xs) (hl:PHeap.Le U U'):SlR U' R A c xs:=by
 obtain ⟨cs,h1,h2⟩:=h;exact ⟨cs,h1.le hl,h2.le hl⟩
theorem SlR.el {α:Type} {R:Rl α} {A:Option Addr} {c:Nat} {xs:List α} (h:SlR U R A c xs) {k:Nat} {x:α} (hx:xs[k]?=some x) :
  ∃ b off vs,A=some ⟨b,off,none⟩/\Cl U b (off + k * R.sz) vs/\R.r U x vs:=by
 obtain ⟨cs,h1,vss,g1,g2,rfl⟩:=h
 have hlt:=(nA.1 hx).1
 have hv:vss[k]?=some (vss[k]'(by omega)):=nD (by omega)
 rcases h1.mem with h0 | ⟨b,off,arr,T,fr,hA,h2,h3⟩
 ·omega
 ·refine ⟨b,off,vss[k]'(by omega),hA,⟨arr,T,fr,h2,fun j v hj=>?_⟩,g2 k x _ hx hv⟩
  have:=wEt (sz:=R.sz) (fun vs hv=>by obtain ⟨y,hy⟩:=RlL.each g1 g2 vs hv;exact R.len _ _ _ hy) k j _ v hv hj
  rw [<- h3,nM] at this
  split at this
  ·rw [nN] at this
   rw [show off + k * R.sz + j=off + (k * R.sz + j) from by omega]
   simpa using this
  ·cases this
theorem St.freezeRR {α:Type} {R:Rl α} {k c T sz:Nat} {A:Option Addr} {cs:List Value} {xs:List α} (h:St B U L w) (hk:L[k]?=some (.row A c T sz cs)) (hr:RlL U R xs cs) (hsz:R.sz=sz) (hz:0 < sz) :
  ∃ U',PHeap.Le U U'/\SlR U' R A c xs/\St B U' (L.eraseIdx k) w:=by
 subst hsz
 obtain ⟨U',h1,h2,h3⟩:=h.freezeR (n:=xs.length) hk hr.len hz
 exact ⟨U',h1,⟨cs,h2,hr.le h1⟩,h3⟩
theorem OKS.appendR {α:Type} {R:Rl α} {t e sz j c c2 bytes:Nat} {A A2:Option Addr} {inf:TypeInfo} {z:Value} {x y:Operand} {xs ys zs:List α} {cs ds:List Value}
  (ho:l[i]?=some o) (hd:o.dst=some d) (hN:nB d N=true) (hw:wanted l σ o=true) (hop:o.op=.call { callee:=.builtin .append,args:=#[x,y],argTypes:=#[t,t] })
  (ht:P.underlying t=some (.slice e)) (hi:P.info? e=some inf) (hz:inf.zero=some z) (hsize:inf.size=sz) (hzs:z.cells.size=sz) (hsz:nB 0 sz=true) (hby:inf.bytes=bytes) (hb0:nB 0 bytes=true) (hR:R.sz=sz)
  (hS:St B U L w) (hk:L[j]?=some (.row A c e sz cs)) (hx:ev σ x=.slice A xs.length c) (hy:ev σ y=.slice A2 ys.length c2) (hc:RlL U R xs cs) (hd':RlL U R ys ds)
  (hsrc:ys.length=0 \/ ∃ a,A2=some a/\∀ j u,ds[j]?=some u->w.cell? (a.add j)=some u) (happ:app bytes xs ys=some zs) (hne:wFO (kOf ks i)=false)
  (k:∀ A' c' cs' w',St B U (L.set j (.row A' c' e sz cs')) w'->RlL U R zs cs'->OKS N P l Q D ks s (upd σ d (.slice A' zs.length c')) w'):OKS N P l Q D ks (.fx i s .stop) σ w:=by
 obtain ⟨rfl,hb⟩:=wJY happ
 refine OKS.appendC (n:=xs.length) (m:=ys.length) (news:=ds) ho hd hN hw hop ht hi hz hsize hzs hsz hby hb0 hS hk hx (by rw [<- hR];exact hc.len) hy (by rw [<- hR];exact hd'.len) hsrc hd'.one hb hne ?_
 intro A' c' w' hS'
 have:=k A' c' (cs ++ ds) w' hS' (hc.append hd')
 rwa [kO] at this
end
end Go.KL
namespace Go
section
variable {F:Fence} {n:Nat} {P:Program} {b:Frame} {a:Act} {k:List Item} {cs:List Frame} {w:World} {Q:Exit->Act->World->Prop}
theorem wCU {c:Code}:step P (lone (b.atR a (.code (.scope c) :: k)) cs w)=.next (lone (b.atR a (.code c :: .inScope c :: k)) cs w) :=
 step_lone_go (by simp [stepG,stepG.exec,Frame.atR])
theorem wHH {c:Code}:step P (lone (b.atR a (.inScope c :: k)) cs w)=.next (lone (b.atR a k) cs w) :=
 step_lone_go (by simp [stepG,stepG.exec,Frame.atR])
theorem wED {c:Code} (h:c.wpIn F n P (fun e a w=>match e with | .goto _=>False | e=>Q e a w) a w):(Code.scope c).wpIn F n P Q a w:=by
 intro b k cs hro hb hr
 have h0:(lone (b.atR a (.code (.scope c) :: k)) cs w).fenced P F:=fenced_calm hb hr rfl
 obtain ⟨e,a₁,w₁,hq,harr⟩:=h b (.inScope c :: k) cs hro hb hr
 cases e with
 | normal=>exact ⟨.normal,a₁,w₁,hq,.head h0 wCU (StepsIn.trans harr (.one (fenced_calm hb hr rfl) wHH))⟩
 | exit id' =>
  have hx:exitTo id' (.inScope c :: k)=exitTo id' k:=by simp [exitTo]
  exact ⟨.exit id',a₁,w₁,hq,fun k' hk=>.head h0 wCU (harr.1 k' (by rw [hx];exact hk)),
   fun hr' hk=>let ⟨k₁,h1,h2⟩:=harr.2 hr' (by rw [hx];exact hk);⟨k₁,h1,.head h0 wCU h2⟩⟩
 | goto l=>exact hq.elim
 | ret=>exact ⟨_,a₁,w₁,hq,.of_steps (.one h0 wCU) harr⟩
 | panic ch=>exact ⟨_,a₁,w₁,hq,.of_steps (.one h0 wCU) harr⟩
 | outgrown=>exact ⟨_,a₁,w₁,hq,.of_steps (.one h0 wCU) harr⟩
end
end Go
namespace Go.KL
open Go.RowKit
def wQD (Q:wCd):wCd:=fun D e σ w=>match e with
 | .goto _=>False
 | e=>Q D e σ w
section
variable {r:Option Nat} {N:Nat} {P:Program} {Q:wCd} {D:List Deferred} {σ:Env} {w:World}
theorem CK.scope {c:Code} (h:CK r N P c (wQD Q) D σ w):CK r N P (.scope c) Q D σ w:=by
 intro a ha
 refine wED (wpIn_mono (h a ha) ?_)
 rintro e a w ⟨σ,D,hr,q⟩
 cases e with
 | goto l=>exact q.elim
 | _=>exact ⟨σ,D,hr,q⟩
end
def MpR {K V:Type} (es:Array MapEntry) (mk:K->Value) (mv:V->Value) (l:List (K × V)):Prop:=es.toList.map (fun e=>(e.key,e.val))=l.map fun p=>(mk p.1,mv p.2)
structure KeyR {K:Type} [DecidableEq K] (P:Program) (kt:TypeId) (mk:K->Value):Prop where
 chk:∀ em x w,(Instr.checkKey em 10000 kt (mk x)).run P w=.ok () w
 same:∀ x,Instr.sameBits 10000 (mk x) (mk x)=true
 find:∀ {V:Type} (mv:V->Value) (es:List MapEntry) (l:List (K × V)) x w,es.map (fun e=>(e.key,e.val))=l.map (fun p=>(mk p.1,mv p.2))->(Instr.findKey kt (mk x) es).run P w=.ok ((wCf l x 0).map fun p=>(p.1,mv p.2)) w
theorem MpR.nil {K V:Type} (mk:K->Value) (mv:V->Value):MpR #[] mk mv ([]:List (K × V)):=rfl
section
variable {K V:Type} [DecidableEq K]
theorem wGe {P:Program} {kt:TypeId} {mk:K->Value} {mv:V->Value} (heq:∀ x y w,(Op.equal kt (mk x) (mk y)).run P w=.ok (decide (x=y)) w) (l:List (K × V)) (x:K) (w:World) :
  ∀ (es:List MapEntry) (i:Nat),es.map (fun e=>(e.key,e.val))=l.map (fun p=>(mk p.1,mv p.2))->(Instr.findAsking kt (mk x) es i).run P w=.ok ((wCf l x i).map fun p=>(p.1,mv p.2)) w:=by
 induction l with
 | nil=>intro es i h;cases es with
  | nil=>rfl
  | cons e es=>cases h
 | cons p l ih =>
  intro es i h
  cases es with
  | nil=>cases h
  | cons e es =>
   simp only [kP,ki,kQ] at h
   obtain ⟨⟨h1,h2⟩,h3⟩:=h
   obtain ⟨a,v⟩:=p
   simp only at h1 h2
   simp only [Instr.findAsking,Sem.run_bind,h1,heq,Result.andThen,wCf]
   by_cases e:x=a <;> simp [e,h2,ih es (i + 1) h3]
theorem KeyR.ofStruct {P:Program} {kt:TypeId} {mk:K->Value} {fs:Array Field} (hu:P.underlying kt=some (.struct fs)) (hc:∀ em x w,(Instr.checkKey em 10000 kt (mk x)).run P w=.ok () w) (hs:∀ x,Instr.sameBits 10000 (mk x) (mk x)=true)
  (heq:∀ x y w,(Op.equal kt (mk x) (mk y)).run P w=.ok (decide (x=y)) w):KeyR P kt mk:=by
 refine ⟨hc,hs,fun mv es l x w h=>?_⟩
 simp only [Instr.findKey,Sem.run_bind,run_underlying hu,Result.andThen]
 have hf:=wGe heq l x w es 0 h
 cases es with
 | nil=>cases l with
  | nil=>simp [Instr.findNow,wCf]
  | cons p l=>cases h
 | cons e es =>
  simp only [Instr.findNow,Instr.sameNow]
  exact hf
theorem KeyR.ofInt {P:Program} {kt:TypeId} {k:IntKind} (hu:P.underlying kt=some (.int k)):KeyR P kt (fun n:Int=>kv k n):=by
 refine ⟨fun em x w=>?_,fun x=>by simp [Instr.sameBits],fun {V} mv es l x w h=>?_⟩
 ·rw [show (10000:Nat)=9999 + 1 from rfl,Instr.checkKey]
  simp only [Sem.run_bind,run_underlying hu,Result.andThen]
  rfl
 ·have key:∀ (l:List (Int × V)) (es:List MapEntry) (i:Nat),es.map (fun e=>(e.key,e.val))=l.map (fun p=>(kv k p.1,mv p.2))->Instr.findNow (.int k) (.int k x) es i=some ((wCf l x i).map fun p=>(p.1,mv p.2)):=by
   intro l
   induction l with
   | nil=>intro es i h;cases es with
    | nil=>rfl
    | cons e es=>cases h
   | cons p l ih =>
    intro es i h
    cases es with
    | nil=>cases h
    | cons e es =>
     simp only [kP,ki,kQ] at h
     obtain ⟨⟨h1,h2⟩,h3⟩:=h
     obtain ⟨a,v⟩:=p
     simp only at h1 h2
     simp only [Instr.findNow,h1,Instr.sameNow,wCf,if_true]
     by_cases e:x=a
     ·subst e;simp [h2]
     ·have hb:(x == a)=false:=by simpa using e
      simp [e,hb,ih es (i + 1) h3]
  simp only [Instr.findKey,Sem.run_bind,run_underlying hu,Result.andThen,key l es 0 h]
  rfl
variable {N:Nat} {P:Program} {l:List Oper} {Q:wCd} {D:List Deferred} {ks:List Nat} {σ:Env} {w:World} {i d:Nat} {s:Sch} {o:Oper} {B:Base} {U:PHeap} {L:List Res}
omit [DecidableEq K] in
theorem OKS.both {alt:Sch} (h1:OKS N P l Q D ks (.fx i s .stop) σ w) (h2:OKS N P l Q D ks alt σ w):OKS N P l Q D ks (.fx i s alt) σ w:=⟨h1.1,h2⟩
theorem OKS.makeMap {t:TypeId} (ho:l[i]?=some o) (hd:o.dst=some d) (hN:nB d N=true) (hw:wanted l σ o=true) (hop:o.op=.makeMap t none) (hS:St B U L w)
  (k:∀ w' m,St B U (.obj m (.map #[] 0) :: L) w'->OKS N P l Q D ks s (upd σ d (.map (some m))) w'):OKS N P l Q D ks (.fx i s .stop) σ w:=by
 refine OKS.v (v:=.map (some w.heap.size)) (w':=w.alloc (.map #[] 0)) ho hd hN hw ⟨by rw [hop];rfl,?_⟩ (.inr (wAn w _)) (k _ _ (hS.new (wAn w _) (r:=.obj w.heap.size (.map #[] 0)) (heap_alloc_new w _) rfl (nO _)))
 simp [execOp,hop,Instr.makeMap,newObj,Sem.run,Result.andThen]
theorem St.objAt {j b:Nat} {o:Obj} (h:St B U L w) (hk:L[j]?=some (.obj b o)):w.heap[b]?=some o:=h.at_ _ (hH hk)
theorem St.lenM {K0 V0:Type} {t kt et:TypeId} {x:Operand} {j m ck:Nat} {es:Array MapEntry} {mk:K0->Value} {mv:V0->Value} {q:List (K0 × V0)} (hS:St B U L w) (hk:L[j]?=some (.obj m (.map es ck))) (hop:o.op=.call { callee:=.builtin .len,args:=#[x],argTypes:=#[t] }) (hx:ev σ x=.map (some m))
  (hu:P.underlying t=some (.map kt et)) (h:MpR es mk mv q):wEp P σ w o (.int .i64 (q.length:Int)):=by
 intro w' kw
 have hm:=(hS.grow kw).objAt hk
 have hl:es.size=q.length:=by have:=congrArg aC h;simpa using this
 exact ⟨by rw [hop];rfl,by simp [execOp,hop,resolve,invoke,builtin,Builtin.len_,hx,run_underlying hu,MapKept.run_getObj_map hm,goInt,Result.andThen,hl]⟩
theorem wBd (w:World) (r:Nat) (o:Obj):Keep w (w.putObj r o) (·=r):=⟨rfl,⟨rfl,nO _⟩,rfl,by simp,fun k _ hx=>World.putObj_heap_other hx⟩
theorem wEE {w:World} {m:Nat} (o:Obj) (h:m < w.heap.size):(w.putObj m o).heap[m]?=some o:=by
 simp [World.putObj,h]
theorem OKS.mapPut {mt kt et:TypeId} {x y z:Operand} {j m ck:Nat} {es:Array MapEntry} {mk:K->Value} {mv:V->Value} {t:List (K × V)} {a:K} {v:V} (ho:l[i]?=some o) (hd:o.dst=none) (hw:wanted l σ o=true) (hop:o.op=.mapUpdate mt x y z \/ o.op=.insert mt x y z) (hS:St B U L w) (hk:L[j]?=some (.obj m (.map es ck)))
  (hx:ev σ x=.map (some m)) (hy:ev σ y=mk a) (hv:ev σ z=mv v) (hu:P.underlying mt=some (.map kt et)) (R:KeyR P kt mk) (h:MpR es mk mv t) (hne:wFO (kOf ks i)=false)
  (k:∀ es' ck' w',MpR es' mk mv (mput t a v)->St B U (L.set j (.obj m (.map es' ck'))) w'->OKS N P l Q D ks s σ w'):OKS N P l Q D ks (.fx i s .stop) σ w:=by
 have hm:=hS.objAt hk
 have hlt:=wAQ hm
 have hf:=R.find mv es.toList t a w h
 have fin:∀ (es':Array MapEntry) (ck':Nat),MpR es' mk mv (mput t a v)->(Instr.mapUpdate mt (.map (some m)) (mk a) (mv v)).run P w=.ok () (w.putObj m (.map es' ck'))->OKS N P l Q D ks (.fx i s .stop) σ w:=by
  intro es' ck' h1 h2
  refine OKS.u (w':=w.putObj m (.map es' ck')) ho hd hw ⟨by rcases hop with e | e <;> (rw [e];rfl),?_⟩ (.inl hne)
   (k es' ck' _ h1 (hS.set hk ((wBd w m _).weak fun b _ e=>by rw [e];rfl) (wEE _ hlt) fun b hb=>.inl hb))
  rcases hop with e | e <;> simp [execOp,e,hx,hy,hv,h2,Result.andThen]
 cases e:wCf t a 0 with
 | none =>
  obtain ⟨e1,_⟩:=wEB e v
  refine fin (es.push { key:=mk a,val:=mv v,born:=ck }) (ck + 1) ?_ ?_
  ·unfold MpR at h ⊢;rw [e1];simp [h]
  ·simp [Instr.mapUpdate,run_underlying hu,MapKept.run_getObj_map hm,R.chk,hf,e,Result.andThen,MapKept.run_setObj_map _ hm]
   rfl
 | some p =>
  obtain ⟨q,u⟩:=p
  obtain ⟨_,h2,h3,_⟩:=wEC e v
  rw [Nat.sub_zero] at h2 h3
  have hq:q < t.length:=(nA.1 h2).1
  have hl:es.size=t.length:=by have:=congrArg aC h;simpa using this
  have hkq:((es[q]?).map (·.key)).getD (mk a)=mk a:=by
   have h4:(es.toList.map (fun e=>(e.key,e.val)))[q]?=some (mk a,mv u):=by rw [h,nS,h2];rfl
   rw [nS] at h4
   cases h5:es.toList[q]? with
   | none=>rw [h5] at h4;cases h4
   | some e =>
    rw [h5] at h4
    simp only [kA,nL,kQ] at h4
    have h6:es[q]?=some e:=by simpa using h5
    rw [h6];simp [h4.1]
  refine fin (es.modify q fun e=>{ e with key:=mk a,val:=mv v }) ck ?_ ?_
  ·unfold MpR at h ⊢
   rw [h3]
   apply kS
   intro n
   have hn:=congrArg (·[n]?) h
   simp only [nS] at hn ⊢
   rw [ky]
   simp only [Array.toList_modify,List.getElem?_modify]
   by_cases hqn:q=n
   ·subst hqn
    have h5:es.toList[q]?=some (es.toList[q]'(by simpa [hl] using hq)):=nD _
    simp [h5,hq]
   ·simp only [hqn,if_false]
    simpa [hqn] using hn
  ·simp [Instr.mapUpdate,run_underlying hu,MapKept.run_getObj_map hm,R.chk,hf,e,Result.andThen,MapKept.run_setObj_map _ hm,Instr.keyThatStays,hkq,R.same]
   rfl
omit [DecidableEq K] in
theorem wDM {α β:Type} (f:α->β):∀ (l:List α) (q:Nat),(l.map f).eraseIdx q=(l.eraseIdx q).map f
 | [],_=>rfl
 | _ :: _,0=>rfl
 | a :: l,q + 1=>by simp [wDM f l q]
end
section
variable {P:Program} {t ti:TypeId} {f g:Field} {k:IntKind}
structure Two (P:Program) (t ti:TypeId) (f g:Field) (k:IntKind):Prop where
 str:P.underlying t=some (.struct #[f,g])
 f1:f.type=ti
 f2:f.offset=0
 f3 : f.name ≠ "_"
 g1:g.type=ti
 g2:g.offset=1
 g3 : g.name ≠ "_"
 int:P.underlying ti=some (.int k)
 agg:∀ w,(isAgg ti).run P w=.ok false w
 held:P.stoodInHeld t=false
theorem Two.eq (h:Two P t ti f g k) (a b c d:Int) (w:World):(Op.equalIn 10000 t (.agg #[.int k a,.int k b]) (.agg #[.int k c,.int k d])).run P w=.ok (decide (a=c/\b=d)) w:=by
 have hf:P.fieldsOf t=#[f,g]:=by unfold Program.fieldsOf;rw [h.str]
 rw [show (10000:Nat)=9999 + 1 from rfl,run_equalIn_agg w 9999 t _ _ (by rw [hf];exact h.str) h.held,hf]
 simp [Op.eqFields,h.f1,h.f2,h.f3,h.g1,h.g2,h.g3,part,h.agg,run_equalIn_int w 9998 ti k k _ _ h.int,Result.andThen]
 by_cases h1:a=c <;> by_cases h2:b=d <;> simp [h1,h2,h.agg,run_equalIn_int w 9998 ti k k _ _ h.int]
theorem Two.chk (h:Two P t ti f g k) (em:Bool) (a b:Int) (w:World):(Instr.checkKey em 10000 t (.agg #[.int k a,.int k b])).run P w=.ok () w:=by
 rw [show (10000:Nat)=9998 + 1 + 1 from rfl,Instr.checkKey]
 simp only [Sem.run_bind,run_underlying h.str,Result.andThen]
 have hi:∀ v,(Instr.checkKey em (9998 + 1) ti (.int k v)).run P w=.ok () w:=by
  intro v
  rw [Instr.checkKey]
  simp only [Sem.run_bind,run_underlying h.int,Result.andThen]
  rfl
 have hp:∀ i v,(#[kv k a,kv k b]:Array Value)[i]?=some v->(part ti #[.int k a,.int k b] i).run P w=.ok v w:=by
  intro i v hv
  simp [part,h.agg,hv,Result.andThen]
 simp [h.f1,h.f2,h.f3,h.g1,h.g2,h.g3,hp 0 _ rfl,hp 1 _ rfl,hi,Result.andThen]
theorem Two.keyR {α:Type} [DecidableEq α] (h:Two P t ti f g k) (e:α->Value) (p q:α->Int) (he:∀ x,e x=.agg #[.int k (p x),.int k (q x)]) (hx:∀ x y,p x=p y->q x=q y->x=y):KeyR P t e:=by
 refine KeyR.ofStruct h.str (fun em x w=>?_) (fun x=>?_) (fun x y w=>?_)
 ·rw [he];exact h.chk em _ _ w
 ·rw [he];simp [Instr.sameBits]
 ·rw [he,he];unfold Op.equal Op.maxDepth;rw [h.eq]
  congr 1
  exact decide_eq_decide.2 ⟨fun h=>hx x y h.1 h.2,fun h=>by subst h;exact ⟨rfl,rfl⟩⟩
end
theorem wLA {P:Program} {t:TypeId} {d:TypeDesc} (h:∀ w:World,(underlying t).run P w=.ok d w):P.underlying t=some d:=by
 have h0:=h (default:World)
 cases e:P.underlying t with
 | none=>simp [underlying,e] at h0
 | some d' =>
  have h1:=run_underlying e (default:World)
  rw [h1] at h0
  injection h0 with h2 h3
  rw [h2]
end Go.KL
namespace Go.KL
open Go.ChangeShapes Go.WideShapes Go.ChangeAt Go.RowKit
variable {H:Type} {enc:TypeId × Value->H} {P:Program}
theorem St.start (W:World):St ⟨W,[],fun b=>W.heap[b]?⟩ (fun b=>W.heap[b]?) [] W where
 os:=rfl
 tape:=TapeLe.refl W
 output:=rfl
 size:=nO _
 old:=fun _ _ _=>rfl
 fro:=fun _ _ h=>h
 le:=fun _ _ h=>h
 src:=fun _ _ h=>.inl h
 at_:=fun _ h=>by cases h
 own:=fun _ h=>by cases h
 dj:=fun i j r s b h=>by simp at h
theorem wEY (hl:laidOutB P=true) {W W':World} (hb:Below W.heap.size W W') {sp:Nat->Bool}:∀ {ts:List TypeId} {vs:List Value} {ds:List (DataW H)} {ps:List MemPlace},
  (∀ t ∈ ts,P.readableRec t=true/\t < P.types.size)->DataW.TrodAll enc P W 0 (fun _=>true) true ts vs ds ps->(∀ p ∈ ps,p.block < W.heap.size)->(∀ p ∈ ps,sp p.block=true)->DataW.TrodAll enc P W' 0 sp true ts vs ds ps
 | [],[],[],_,_,h,_,_=>h
 | _ :: _,_ :: _,_ :: _,_,hT,⟨p,q,h1,h2,e⟩,hlt,hs =>
  ⟨p,q,WideElems.Trod_stays hl (hT _ (nK.2 (Or.inl rfl))).1 (hT _ (nK.2 (Or.inl rfl))).2 h1 (fun x hx=>hb.same (hlt x (by rw [e];exact nk _ hx))) (fun x hx=>hs x (by rw [e];exact nk _ hx)),
   wEY hl hb (fun t ht=>hT t (nK.2 (Or.inr ht))) h2 (fun x hx=>hlt x (by rw [e];exact nv _ hx)) (fun x hx=>hs x (by rw [e];exact nv _ hx)),e⟩
theorem wLB {f:Func} {s:ChangeSpec} {apart fresh handsOn again:Bool} {W W':World} {args:Array Value} {ds gs:List (DataW H)} {before:List MemPlace}
  (hW:DataW.Whole enc P f.params.toList s.vars apart W args.toList ds gs before) (hv:s.vars=[]) (hl:laidOutB P=true) (hT:∀ t ∈ f.params.toList,P.readableRec t=true/\t < P.types.size)
  {t:TypeId} (hr:f.resultTypes=#[t]) (ht:P.underlying t=some .bool) (b:Bool) (h1:(s.fn H (ds ++ gs)).results=[.lit (.bool b)]) (h2:(s.fn H (ds ++ gs)).args=ds) (h3:(s.fn H (ds ++ gs)).vars=[])
  (hk:Keep W W' Non):s.post enc P f apart fresh handsOn again W args (.bool b) W':=by
 have hlt:=hW.lt
 have hW0:=hW
 obtain ⟨p,q,hA,hV,rfl,hz,hn⟩:=hW
 rw [hv] at hV
 obtain ⟨rfl,rfl⟩:=trodVars_none hV
 simp only [List.append_nil] at hlt hz hn hW0
 have hargs:∀ sp:Nat->Bool,(∀ x ∈ p,sp x.block=true)->DataW.TrodAll enc P W' 0 sp true f.params.toList args.toList (s.fn H (ds ++ [])).args p:=by
  intro sp hsp
  rw [h2]
  exact wEY hl hk.below hT hA hlt hsp
 have hres:∀ (b0:Nat) (sp:Nat->Bool) (hd:Bool),DataW.TrodAll enc P W' b0 sp hd f.resultTypes.toList ((aF b).resultList f.resultTypes.size) (s.fn H (ds ++ [])).results []:=by
  intro b0 sp hd
  rw [h1,hr]
  exact trodAll_mk1 (shut_bool ht b)
 have hvars:∀ sp:Nat->Bool,DataW.TrodVars enc P W' sp s.vars (s.fn H (ds ++ [])).vars []:=by
  intro sp
  rw [h3,hv]
  exact rfl
 have hold:∀ x ∈ p,(fun b=>decide (b < W.heap.size)) x.block=true:=fun x hx=>by simpa using hlt x hx
 refine ⟨ds,[],p,[],p,[],by simpa using hW0,hres _ _ _,hargs _ hold,hvars _,hk.below.frame _,fun _=>?_⟩
 refine ⟨ok_one hr rfl (okWide_bool_mk ht b),_,_,[] ++ p ++ [],⟨[] ++ p,[],trodAll_append (hargs _ (fun _ _=>rfl)) (hres _ _ _),hvars _,rfl,?_,?_⟩,?_⟩
 ·intro b' off hp
  have hp':MemPlace.cell b' off ∈ p:=by simpa using hp
  rw [hk.below.frozen (p:=⟨b',off,none⟩) (hlt _ hp')]
  exact hz b' off hp'
 ·intro ha
  simpa using hn ha
 ·intro x hx _
  simpa using hx
theorem wIc {W:World} {a:Addr} {len cap sz:Nat} {cs:List Value} (hsz:0 < sz) (hlen:cs.length=len * sz) (hcap:len <= cap) (hc:∀ (j:Nat) (v:Value),cs[j]?=some v->W.cell? (a.add j)=some v) :
  Sl (fun b=>W.heap[b]?) sz (some a) cap len cs:=by
 by_cases h0:cs=[]
 ·subst h0
  have:len * sz=0:=by simpa using hlen.symm
  rcases Nat.mul_eq_zero.1 this with h | h
  ·exact ⟨hlen,hcap,.inl h⟩
  ·omega
 ·refine ⟨hlen,hcap,.inr ?_⟩
  have hpos:0 < cs.length:=List.length_pos_iff.2 h0
  have g0:=hc 0 _ (nD hpos)
  have ha:a.add 0=a:=by simp [Addr.add]
  rw [ha] at g0
  obtain ⟨b,off,spot⟩:=a
  have hs:=World.cell?_spot g0
  simp only at hs
  subst hs
  unfold World.cell? at g0
  split at g0
  ·rename_i arr T fr hb
   refine ⟨b,off,arr,T,fr,rfl,hb,?_⟩
   apply kS
   intro j
   rw [nM]
   rcases nT j cs.length with hj | hj
   ·rw [if_pos (by omega),nN,Array.getElem?_toList]
    have:=hc j _ (nD hj)
    rw [add_plain] at this
    unfold World.cell? at this
    simp only [hb] at this
    rw [nD hj]
    simpa using this
   ·rw [if_neg (by omega),nu hj]
  ·cases g0
theorem wLC {α:Type} {f:α->List Value} {sz:Nat} (hf:∀ x,(f x).length=sz) (X:Nat->α):∀ (n j:Nat) (v:Value),((ni n).flatMap fun i=>f (X i))[j]?=some v->∃ k i,k < n/\i < sz/\j=k * sz + i/\(f (X k))[i]?=some v
 | 0,j,v,h=>by simp at h
 | n + 1,j,v,h=>by
  rw [List.range_succ,ko] at h
  have hL:((ni n).flatMap fun i=>f (X i)).length=n * sz:=by
   rw [kq]
   simp [hf,List.map_const']
  rcases nT j (n * sz) with hlt | hge
  ·rw [nG (by omega)] at h
   obtain ⟨k,i,h1,h2,h3,h4⟩:=wLC hf X n j v h
   exact ⟨k,i,by omega,h2,h3,h4⟩
  ·rw [nH (by omega),hL] at h
   simp only [nr,List.flatMap_nil,List.append_nil] at h
   have hj:=(nA.1 h).1
   rw [hf] at hj
   exact ⟨n,j - n * sz,by omega,hj,by omega,h⟩
theorem wKM {α:Type} [Inhabited α] {f:α->List Value} {sz:Nat} {t e:TypeId} {W:World} {cs:List Value} {n:Nat} {y:DataW H × List MemPlace} (hsz:0 < sz) (hf:∀ x,(f x).length=sz) (ht:P.underlying t=some (.slice e)) (ce:P.cellsOf e=sz) (Good:α->Prop)
  (hel:∀ n cs y,DataW.trod enc P W 0 (fun _=>true) true n e cs=some y->∃ x,cs=f x/\Good x) (hn:DataW.trod enc P W 0 (fun _=>true) true n t cs=some y) :
  ∃ (A:Option Addr) (c:Nat) (xs:List α),cs=[.slice A xs.length c]/\Sl (fun b=>W.heap[b]?) sz A c xs.length (xs.flatMap f)/\∀ x ∈ xs,Good x:=by
 rcases Deep.open_slice ht hn with ⟨h1,_⟩ | ⟨a',len,cap,m,k,D,Pl,h1,_,hl,_,hm,_,hc⟩
 ·exact ⟨none,0,[],h1,Sl.nil _ _ _ _,fun _ h=>by cases h⟩
 ·simp only [if_true] at hm
  subst hm
  have each:∀ i,i < len->∃ x:α,Good x/\∀ j,j < sz->W.cell? (a'.add (i * sz + j))=(f x)[j]?:=by
   intro i hi
   obtain ⟨cs,c0,t0⟩:=hc i (by omega)
   obtain ⟨x,rfl,hg⟩:=hel _ _ _ t0
   obtain ⟨_,_,hcell⟩:=World.cells?_some c0
   refine ⟨x,hg,fun j hj=>?_⟩
   have:=hcell j (by omega)
   rw [Deep.add_add,ce] at this
   exact this
  obtain ⟨X,hX⟩:=Deep.choose_lt each
  have hlen:((ni len).map X).length=len:=by simp
  refine ⟨some a',m,(ni len).map X,by rw [hlen];exact h1,?_,fun x hx=>?_⟩
  ·rw [hlen]
   have hfl:((ni len).map X).flatMap f=(ni len).flatMap fun i=>f (X i):=by rw [List.flatMap_map]
   rw [hfl]
   refine wIc hsz ?_ hl ?_
   ·rw [kq]
    simp [hf,List.map_const']
   ·intro j v hj
    obtain ⟨k,i,h1,h2,rfl,h4⟩:=wLC hf X len j v hj
    rw [(hX k h1).2 i h2,h4]
  ·obtain ⟨i,hi,rfl⟩:=kJ.1 hx
   exact (hX i (kC.1 hi)).1
theorem wLD {α:Type} [Inhabited α] {f:α->List Value} {sz:Nat} {t e:TypeId} {W:World} {v:Value} {d:DataW H} {ps:List MemPlace} (hsz:0 < sz) (hf:∀ x,(f x).length=sz) (ht:P.underlying t=some (.slice e)) (ce:P.cellsOf e=sz) (Good:α->Prop)
  (hel:∀ n cs y,DataW.trod enc P W 0 (fun _=>true) true n e cs=some y->∃ x,cs=f x/\Good x) (h:DataW.Trod enc P W 0 (fun _=>true) true t v d ps) (hv:∃ a len cap,v=.slice a len cap) :
  ∃ (A:Option Addr) (c:Nat) (xs:List α),v=.slice A xs.length c/\Sl (fun b=>W.heap[b]?) sz A c xs.length (xs.flatMap f)/\∀ x ∈ xs,Good x:=by
 obtain ⟨n,hn⟩:=h
 obtain ⟨a,len,cap,rfl⟩:=hv
 have hcs:(aB a len cap).cells.toList=[aB a len cap]:=by simp [Value.cells]
 rw [hcs] at hn
 obtain ⟨A,c,xs,h1,h2,h3⟩:=wKM hsz hf ht ce Good hel hn
 simp only [ki,and_true] at h1
 exact ⟨A,c,xs,h1,h2,h3⟩
def wEu (P:Program) (fn:Func) (s:ChangeSpec) (c:OpenClaim):Bool :=
 c.wf (OpenSpec.ofChange s) &&
 fn.params.all (P.readableRec ·) && namedTie P c.named s.vars &&
 (c.stops == []) && (c.knobs == []) &&
 (c.maps == (fn.params.toList ++ s.plain.varTypes P).any (P.mapsRec ·)) && (c.ifaces == (fn.params.toList ++ s.plain.varTypes P).any (P.ifacesRec ·)) && (c.mapsOut == P.mapsAmong fn.resultTypes.toList) &&
 (c.loops == (fn.params.toList ++ s.plain.varTypes P).any (P.loopsFrom ·)) && (c.wideKeys == (fn.params.toList ++ s.plain.varTypes P ++ fn.resultTypes.toList).any (P.wideKeysFrom ·)) &&
 s.vars.all (P.varReadable ·) && fn.resultTypes.all (fun t=>P.readableRec t && decide (t < P.types.size)) && (c.ifacesOut == fn.resultTypes.toList.any (P.ifacesRec ·)) && (c.loopsOut == fn.resultTypes.toList.any (P.loopsFrom ·)) && c.shortTexts.isNone && (P.make == some c.make) && (c.kinds == (if c.domain.isEmpty then [] else fn.params.toList.map fun t=>match P.underlying t with | some (.int k)=>some k | _=>none)) && (c.pinned == c.pinnedBy) &&
 (c.veiled == (fn.params.toList ++ s.plain.varTypes P ++ fn.resultTypes.toList).any (P.veiledRec ·)) && c.veiledFits P fn.params.toList (fn.params.toList ++ s.plain.varTypes P ++ fn.resultTypes.toList)
theorem wLE {f:FuncId} {fn:Func} {s:ChangeSpec} {c:OpenClaim} (h1:laidOutB P=true) (h2:mapsRowed P=true) (h3:(P.stops == [])=true) (h4:(P.stopKnobs == [])=true) (h5:(c.inPlace == P.inPlace f)=true) (h6:(c.unfollowed == P.unfollowed f)=true) (h7:(c.recurses == P.recurses f)=true)
  (h8:(c.named == P.varsNamed f)=true) (h9:(c.plainKeys == P.plainKeys)=true) (h10:P.stopsHeard=true) (h11:P.mayEnter=true) (h12:(c.lifted == P.liftsFinal)=true) (l:wEu P fn s c=true):joinedFacts P f fn s c=true:=by
 unfold wEu at l
 unfold joinedFacts
 rw [h1,h2,h3,h4,h5,h6,h7,h8,h9,h10,h11,h12]
 simp only [Bool.and_true]
 exact l
end Go.KL
namespace Go.KX
noncomputable section
open Go.RowKit Go.KL
inductive Pos
 | H
 | O (p:Pos)
 | I (p:Pos)
 deriving DecidableEq
def Pos.succ (p:Pos):Pos:=Pos.rec (motive:=fun _=>Pos) (.O .H) (fun q _=>.I q) (fun _ s=>.O s) p
theorem Pos.succ_I (p:Pos):(Pos.I p).succ=.O p.succ:=rfl
def Pos.nat:Pos->Nat
 | .H=>1
 | .O p=>2 * p.nat
 | .I p=>2 * p.nat + 1
def Pos.beq:Pos->Pos->Bool
 | .H,.H=>true
 | .O p,.O q=>p.beq q
 | .I p,.I q=>p.beq q
 | _,_=>false
theorem Pos.nat_succ (p:Pos):p.succ.nat=p.nat + 1:=by
 induction p with
 | H=>rfl
 | O p _=>rfl
 | I p ih=>rw [Pos.succ_I];simp only [Pos.nat,ih];omega
theorem Pos.nat_pos (p:Pos):0 < p.nat:=by
 induction p with
 | H=>decide
 | O p ih=>simp only [Pos.nat];omega
 | I p ih=>simp only [Pos.nat];omega
theorem Pos.nat_inj:∀ {p q:Pos},p.nat=q.nat->p=q
 | .H,.H,_=>rfl
 | .H,.O q,h=>by have:=q.nat_pos;simp only [Pos.nat] at h;omega
 | .H,.I q,h=>by have:=q.nat_pos;simp only [Pos.nat] at h;omega
 | .O p,.H,h=>by have:=p.nat_pos;simp only [Pos.nat] at h;omega
 | .I p,.H,h=>by have:=p.nat_pos;simp only [Pos.nat] at h;omega
 | .O p,.O q,h=>by simp only [Pos.nat] at h;rw [Pos.nat_inj (p:=p) (q:=q) (by omega)]
 | .I p,.I q,h=>by simp only [Pos.nat] at h;rw [Pos.nat_inj (p:=p) (q:=q) (by omega)]
 | .O p,.I q,h=>by simp only [Pos.nat] at h;omega
 | .I p,.O q,h=>by simp only [Pos.nat] at h;omega
theorem Pos.beq_eq:∀ {p q:Pos},p.beq q=true->p=q
 | .H,.H,_=>rfl
 | .O p,.O q,h=>by rw [Pos.beq_eq (p:=p) (q:=q) h]
 | .I p,.I q,h=>by rw [Pos.beq_eq (p:=p) (q:=q) h]
 | .H,.O _,h=>by cases h
 | .H,.I _,h=>by cases h
 | .O _,.H,h=>by cases h
 | .I _,.H,h=>by cases h
 | .O _,.I _,h=>by cases h
 | .I _,.O _,h=>by cases h
def Pos.ltb (e:Bool):Pos->Pos->Bool
 | .H,.H=>e
 | .H,_=>true
 | _,.H=>false
 | .O p,.O q=>Pos.ltb e p q
 | .I p,.I q=>Pos.ltb e p q
 | .O p,.I q=>Pos.ltb true p q
 | .I p,.O q=>Pos.ltb false p q
theorem Pos.ltb_iff:∀ (p q:Pos) (e:Bool),Pos.ltb e p q=true ↔ p.nat < q.nat \/ (e=true/\p.nat=q.nat)
 | .H,.H,e=>by simp [Pos.ltb]
 | .H,.O q,e=>by have:=q.nat_pos;simp only [Pos.ltb,Pos.nat];exact ⟨fun _=>.inl (by omega),fun _=>trivial⟩
 | .H,.I q,e=>by have:=q.nat_pos;simp only [Pos.ltb,Pos.nat];exact ⟨fun _=>.inl (by omega),fun _=>trivial⟩
 | .O p,.H,e=>by have:=p.nat_pos;simp only [Pos.ltb,Pos.nat];constructor <;> intro h <;> first | cases h;done | (exfalso;omega)
 | .I p,.H,e=>by have:=p.nat_pos;simp only [Pos.ltb,Pos.nat];constructor <;> intro h <;> first | cases h;done | (exfalso;omega)
 | .O p,.O q,e=>by rw [Pos.ltb,Pos.ltb_iff p q e];simp only [Pos.nat];cases e <;> simp <;> omega
 | .I p,.I q,e=>by rw [Pos.ltb,Pos.ltb_iff p q e];simp only [Pos.nat];cases e <;> simp <;> omega
 | .O p,.I q,e=>by rw [Pos.ltb,Pos.ltb_iff p q true];simp only [Pos.nat];cases e <;> simp <;> omega
 | .I p,.O q,e=>by rw [Pos.ltb,Pos.ltb_iff p q false];simp only [Pos.nat];cases e <;> simp <;> omega
inductive Tr (α:Type)
 | e
 | n (l:Tr α) (v:Option α) (r:Tr α)
variable {α:Type}
def Tr.get (t:Tr α):Pos->Option α :=
 Tr.rec (motive:=fun _=>Pos->Option α) (fun _=>none) (fun _ v _ gl gr p=>Pos.rec (motive:=fun _=>Option α) v (fun q _=>gl q) (fun q _=>gr q) p) t
def Tr.one (p:Pos) (a:α):Tr α:=Pos.rec (motive:=fun _=>Tr α) (.n .e (some a) .e) (fun _ t=>.n t none .e) (fun _ t=>.n .e none t) p
def Tr.set (t:Tr α) (p:Pos) (a:α):Tr α :=
 Tr.rec (motive:=fun _=>Pos->Tr α) (fun p=>Tr.one p a) (fun l v r sl sr p=>Pos.rec (motive:=fun _=>Tr α) (.n l (some a) r) (fun q _=>.n (sl q) v r) (fun q _=>.n l v (sr q)) p) t p
theorem Tr.get_e (p:Pos):(Tr.e:Tr α).get p=none:=rfl
theorem Tr.get_H (l r:Tr α) (v:Option α):(Tr.n l v r).get .H=v:=rfl
theorem Tr.get_O (l r:Tr α) (v:Option α) (p:Pos):(Tr.n l v r).get (.O p)=l.get p:=rfl
theorem Tr.get_I (l r:Tr α) (v:Option α) (p:Pos):(Tr.n l v r).get (.I p)=r.get p:=rfl
theorem Tr.one_H (a:α):Tr.one .H a=.n .e (some a) .e:=rfl
theorem Tr.one_O (p:Pos) (a:α):Tr.one (.O p) a=.n (Tr.one p a) none .e:=rfl
theorem Tr.one_I (p:Pos) (a:α):Tr.one (.I p) a=.n .e none (Tr.one p a):=rfl
theorem Tr.set_e (p:Pos) (a:α):(Tr.e:Tr α).set p a=Tr.one p a:=rfl
theorem Tr.set_H (l r:Tr α) (v:Option α) (a:α):(Tr.n l v r).set .H a=.n l (some a) r:=rfl
theorem Tr.set_O (l r:Tr α) (v:Option α) (p:Pos) (a:α):(Tr.n l v r).set (.O p) a=.n (l.set p a) v r:=rfl
theorem Tr.set_I (l r:Tr α) (v:Option α) (p:Pos) (a:α):(Tr.n l v r).set (.I p) a=.n l v (r.set p a):=rfl
theorem Tr.get_one:∀ (p q:Pos) (a:α),(Tr.one p a).get q=if q=p then some a else none
 | .H,.H,a=>rfl
 | .H,.O q,a=>by simp [Tr.one_H,Tr.get_O,Tr.get_e]
 | .H,.I q,a=>by simp [Tr.one_H,Tr.get_I,Tr.get_e]
 | .O p,.H,a=>by simp [Tr.one_O,Tr.get_H]
 | .O p,.O q,a=>by simp only [Tr.one_O,Tr.get_O,Tr.get_one p q a,Pos.O.injEq]
 | .O p,.I q,a=>by simp [Tr.one_O,Tr.get_I,Tr.get_e]
 | .I p,.H,a=>by simp [Tr.one_I,Tr.get_H]
 | .I p,.O q,a=>by simp [Tr.one_I,Tr.get_O,Tr.get_e]
 | .I p,.I q,a=>by simp only [Tr.one_I,Tr.get_I,Tr.get_one p q a,Pos.I.injEq]
theorem Tr.get_set:∀ (t:Tr α) (p q:Pos) (a:α),(t.set p a).get q=if q=p then some a else t.get q
 | .e,p,q,a=>by simp only [Tr.set_e,Tr.get_one,Tr.get_e]
 | .n l v r,.H,.H,a=>rfl
 | .n l v r,.H,.O q,a=>by simp [Tr.set_H,Tr.get_O]
 | .n l v r,.H,.I q,a=>by simp [Tr.set_H,Tr.get_I]
 | .n l v r,.O p,.H,a=>by simp [Tr.set_O,Tr.get_H]
 | .n l v r,.O p,.O q,a=>by simp only [Tr.set_O,Tr.get_O,Tr.get_set l p q a,Pos.O.injEq]
 | .n l v r,.O p,.I q,a=>by simp [Tr.set_O,Tr.get_I]
 | .n l v r,.I p,.H,a=>by simp [Tr.set_I,Tr.get_H]
 | .n l v r,.I p,.O q,a=>by simp [Tr.set_I,Tr.get_O]
 | .n l v r,.I p,.I q,a=>by simp only [Tr.set_I,Tr.get_I,Tr.get_set r p q a,Pos.I.injEq]
inductive AV
 | int (k:IntKind) (n:Int)
 | bool (b:Bool)
 | ptr (b:Pos) (off:Nat)
 | pnil
 | sl (b:Pos) (off len cap:Nat)
 | rw (b:Pos) (eo co len:Nat)
 | rz (b:Pos) (eo:Nat)
 | snil
 | map (b:Pos)
 | mnil
 | fn (f:Pos) (fi ca:List AV)
 | yld (b:Pos)
 | fnil
 | agg (l:List AV)
 | tup (l:List AV)
inductive AOd
 | t (p:Pos)
 | c (v:AV)
inductive Sh
 | int
 | bool
 | str (fs:List (Nat × Nat × Sh))
inductive AOp
 | mv (x:AOd)
 | pick (c x y:AOd)
 | new (T:Nat) (z:List AV)
 | box (T:Nat) (x:AOd)
 | ld (x:AOd)
 | ldA (n:Nat) (x:AOd)
 | st (n:Nat) (x y:AOd)
 | nilc (x:AOd)
 | add (x y:AOd) | sub (x y:AOd) | mul (x y:AOd) | quo (x y:AOd) | rem (x y:AOd)
 | lss (x y:AOd) | leq (x y:AOd) | gtr (x y:AOd) | geq (x y:AOd) | eql (x y:AOd) | neq (x y:AOd)
 | eqb (ne:Bool) (x y:AOd)
 | eqn (k:Nat) (ne:Bool) (x y:AOd)
 | eqs (ne:Bool) (s:Sh) (x y:AOd)
 | neg (x:AOd) | not (x:AOd)
 | cvt (k:IntKind) (x:AOd)
 | mkf (f:Pos) (fi ca:List AOd)
 | mkm
 | mks (T sz bytes:Nat) (z:List AV) (x y:AOd)
 | slc (sz:Nat) (x:AOd) (lo hi mx:Option AOd)
 | slcA (sz n:Nat) (x:AOd) (lo hi:Option AOd)
 | fad (off:Nat) (x:AOd)
 | fld (off:Nat) (x:AOd) | fldA (off n:Nat) (x:AOd)
 | iad (sz:Nat) (x y:AOd) | iadA (sz n:Nat) (x y:AOd)
 | ix (n:Nat) (x y:AOd) | ixA (sz n:Nat) (x y:AOd)
 | lk (two:Bool) (k:IntKind) (ok:Bool) (z:AV) (x y:AOd)
 | mput (two:Bool) (k:IntKind) (x y z:AOd)
 | mdel (two:Bool) (k:IntKind) (x y:AOd)
 | ext (i:Nat) (x:AOd)
 | bld (z:List AV) (ps:List (Nat × Nat × AOd))
 | blds (T len:Nat) (z:List AV) (ps:List (Nat × Nat × AOd))
 | len (x:AOd) | lenM (x:AOd) | cap (x:AOd)
 | app (T sz bytes:Nat) (x y:AOd)
 | cpy (sz:Nat) (x y:AOd)
 | clr (z:List AV) (x:AOd)
 | min (x y:AOd) | max (x y:AOd)
 | call (x:AOd) (l:List AOd)
 | bad
 | and (x y:AOd) | shr (x y:AOd)
 | ixs (l:List Nat) (y:AOd)
 | apz (T sz bytes:Nat) (z:List AV) (x y:AOd)
structure AO where
 ix:Nat
 kd:Nat
 dst:Option Pos
 grd:Option (Pos × Bool)
 op:AOp
inductive Ex
 | nrm
 | exit (i:Nat)
 | ret
inductive AC
 | skip
 | rg (l:List AO)
 | seq (a b:AC)
 | cond (c:AOd) (a b:AC)
 | block (i:Nat) (a:AC)
 | loop (a:AC)
 | rf (g:AOd) (t:List Pos) (asg body:AC)
 | exit (i:Nat)
 | scope (a:AC)
 | ret
 | rl (l:List AO)
inductive AR
 | t (p:Pos)
 | c (p:Pos) (n:Option Nat)
structure AF where
 n:Nat
 res:List AR
 body:AC
inductive LS
 | ready
 | busy
 | done (e:Ex)
inductive AB
 | cells (T:Nat) (l:List AV)
 | row (T sz:Nat) (l:List AV)
 | mapI (k:IntKind) (l:List (Int × AV))
 | map2 (k:IntKind) (l:List ((Int × Int) × AV))
 | map0
 | loop (σ:Tr AV) (t:List Pos) (asg body:AC) (s:LS)
 | dead
structure AH where
 m:Tr AB
 nx:Pos
 fl:Pos
def AH.push (h:AH) (b:AB):AH:=⟨h.m.set h.nx b,h.nx.succ,h.fl⟩
def AH.put (h:AH) (p:Pos) (b:AB):Option AH:=match Pos.ltb false p h.fl with
 | true=>none
 | false=>some ⟨h.m.set p b,h.nx,h.fl⟩
def nth (l:List α):Nat->Option α :=
 no (motive:=fun _=>Nat->Option α) (fun _=>none) (fun a _ ih n=>kM (motive:=fun _=>Option α) (some a) (fun m _=>ih m) n) l
def wId (a:α) (o:Option (List α)):Option (List α):=nW (motive:=fun _=>Option (List α)) none (fun r=>some (a :: r)) o
def tk (l:List α):Nat->Option (List α) :=
 no (motive:=fun _=>Nat->Option (List α)) (fun n=>kM (motive:=fun _=>Option (List α)) (some []) (fun _ _=>none) n)
  (fun a _ ih n=>kM (motive:=fun _=>Option (List α)) (some []) (fun m _=>wId a (ih m)) n) l
def sub (l:List α) (off n:Nat):Option (List α) :=
 no (motive:=fun _=>Nat->Option (List α)) (fun off=>kM (motive:=fun _=>Option (List α)) (tk [] n) (fun _ _=>none) off)
  (fun a l ih off=>kM (motive:=fun _=>Option (List α)) (tk (a :: l) n) (fun m _=>ih m) off) l off
def ov (l:List α):List α->Option (List α) :=
 no (motive:=fun _=>List α->Option (List α)) (fun vs=>no (motive:=fun _=>Option (List α)) (some []) (fun _ _ _=>none) vs)
  (fun a l ih vs=>no (motive:=fun _=>Option (List α)) (some (a :: l)) (fun v vs _=>wId v (ih vs)) vs) l
def wOR (l:List α) (off:Nat) (vs:List α):Option (List α) :=
 no (motive:=fun _=>Nat->Option (List α)) (fun off=>kM (motive:=fun _=>Option (List α)) (ov [] vs) (fun _ _=>none) off)
  (fun a l ih off=>kM (motive:=fun _=>Option (List α)) (ov (a :: l) vs) (fun m _=>wId a (ih m)) off) l off
def len (l:List α):Nat:=no (motive:=fun _=>Nat) 0 (fun _ _ n=>Nat.succ n) l
def u:AV:=.tup []
def evA (σ:Tr AV) (x:AOd):AV :=
 AOd.rec (motive:=fun _=>AV) (fun p=>nW (motive:=fun _=>AV) u (fun v=>v) (σ.get p)) (fun v=>v) x
def evs (σ:Tr AV) (l:List AOd):List AV:=no (motive:=fun _=>List AV) [] (fun x _ ih=>evA σ x :: ih) l
def AV.cells:AV->List AV
 | .agg l=>l
 | v=>[v]
def AV.one:AV->Bool
 | .agg _ | .tup _=>false
 | _=>true
def wOS:List AV->Bool
 | []=>true
 | v :: l=>v.one && wOS l
def zlt:Int->Int->Bool
 | .ofNat a,.ofNat b=>nB a b
 | .negSucc _,.ofNat _=>true
 | .ofNat _,.negSucc _=>false
 | .negSucc a,.negSucc b=>nB b a
def zle (a b:Int):Bool:=!zlt b a
def zeq:Int->Int->Bool
 | .ofNat a,.ofNat b=>nE a b
 | .negSucc a,.negSucc b=>nE a b
 | _,_=>false
def keq:IntKind->IntKind->Bool
 | .i64,.i64=>true
 | .u8,.u8=>true
 | .u32,.u32=>true
 | .u64,.u64=>true
 | .i32,.i32=>true
 | _,_=>false
def inK:IntKind->Int->Bool
 | .i64,.ofNat n=>nB n 9223372036854775808
 | .i64,.negSucc n=>nB n 9223372036854775808
 | .u8,.ofNat n=>nB n 256
 | .u32,.ofNat n=>nB n 4294967296
 | .u64,.ofNat n=>nB n 18446744073709551616
 | _,_=>false
def wIe (f:Int->Int->Int):AV->AV->Option AV
 | .int k a,.int k' b=>match keq k k' with
  | true=>match inK k (f a b) with
   | true=>some (.int k (f a b))
   | false=>none
  | false=>none
 | _,_=>none
def div (f:Int->Int->Int):AV->AV->Option AV
 | .int k a,.int k' b=>match keq k k' with
  | true=>match zeq b 0 with
   | true=>none
   | false=>match inK k (f a b) with
    | true=>some (.int k (f a b))
    | false=>none
  | false=>none
 | _,_=>none
def wNA (f:Int->Int->Bool):AV->AV->Option AV
 | .int k a,.int k' b=>match keq k k' with
  | true=>some (.bool (f a b))
  | false=>none
 | _,_=>none
def wKN (k:Nat) (x y:AV):Option Bool:=match k,x,y with
 | 0,.pnil,.pnil=>some true
 | 0,.pnil,.ptr _ _=>some false
 | 0,.ptr _ _,.pnil=>some false
 | 1,.snil,.snil=>some true
 | 1,.snil,.sl _ _ _ _=>some false
 | 1,.snil,.rw _ _ _ _=>some false
 | 1,.sl _ _ _ _,.snil=>some false
 | 1,.rw _ _ _ _,.snil=>some false
 | 1,.snil,.rz _ _=>some false
 | 1,.rz _ _,.snil=>some false
 | 2,.mnil,.mnil=>some true
 | 2,.mnil,.map _=>some false
 | 2,.map _,.mnil=>some false
 | 3,.fnil,.fnil=>some true
 | 3,.fnil,.fn _ _ _=>some false
 | 3,.fn _ _ _,.fnil=>some false
 | _,_,_=>none
def wNB (s:Sh) (l:List AV) (off sz:Nat):Option AV :=
 match s with
 | .str _=>match sub l off sz with
  | some r=>some (.agg r)
  | none=>none
 | _=>nth l off
mutual
def wNC:Sh->AV->AV->Option Bool
 | .int,.int k a,.int k' b=>match keq k k' with
  | true=>some (zeq a b)
  | false=>none
 | .bool,.bool a,.bool b=>some (a == b)
 | .str fs,.agg xs,.agg ys=>wQE fs xs ys
 | _,_,_=>none
def wQE:List (Nat × Nat × Sh)->List AV->List AV->Option Bool
 | [],_,_=>some true
 | (off,sz,s) :: fs,xs,ys=>match wNB s xs off sz,wNB s ys off sz with
  | some x,some y=>match wNC s x y with
   | some true=>wQE fs xs ys
   | r=>r
  | _,_=>none
end
def wHI (σ:Tr AV):List AV->List (Nat × Nat × AOd)->Option (List AV)
 | cs,[]=>some cs
 | cs,(off,n,x) :: ps=>match nE (len (evA σ x).cells) n with
  | true=>match wOR cs off (evA σ x).cells with
   | some cs'=>wHI σ cs' ps
   | none=>none
  | false=>none
def wFm:AV->Option Nat
 | .int .i64 (.ofNat n)=>some n
 | _=>none
def boundOf (σ:Tr AV) (d:Nat):Option AOd->Option Nat
 | none=>some d
 | some x=>wFm (evA σ x)
def rep:Nat->List α->List α
 | 0,_=>[]
 | n + 1,l=>l ++ rep n l
def wKO:List ((Int × Int) × AV)->Int->Int->Option AV
 | [],_,_=>none
 | ((a,b),v) :: l,x,y=>match zeq x a && zeq y b with
  | true=>some v
  | false=>wKO l x y
def wKP:List (Int × AV)->Int->Option AV
 | [],_=>none
 | (a,v) :: l,x=>match zeq x a with
  | true=>some v
  | false=>wKP l x
def wLF:List ((Int × Int) × AV)->Int->Int->AV->List ((Int × Int) × AV)
 | [],x,y,v=>[((x,y),v)]
 | ((a,b),w) :: l,x,y,v=>match zeq x a && zeq y b with
  | true=>((x,y),v) :: l
  | false=>((a,b),w) :: wLF l x y v
def wLG:List (Int × AV)->Int->AV->List (Int × AV)
 | [],x,v=>[(x,v)]
 | (a,w) :: l,x,v=>match zeq x a with
  | true=>(x,v) :: l
  | false=>(a,w) :: wLG l x v
def wLH:List ((Int × Int) × AV)->Int->Int->List ((Int × Int) × AV)
 | [],_,_=>[]
 | ((a,b),w) :: l,x,y=>match zeq x a && zeq y b with
  | true=>l
  | false=>((a,b),w) :: wLH l x y
def wLI:List (Int × AV)->Int->List (Int × AV)
 | [],_=>[]
 | (a,w) :: l,x=>match zeq x a with
  | true=>l
  | false=>(a,w) :: wLI l x
def wJZ:AB->Option (List AV)
 | .cells _ l=>some l
 | .row _ _ l=>some l
 | _=>none
def wCs (h:AH) (b:Pos):Option (List AV):=match h.m.get b with
 | some B=>wJZ B
 | none=>none
def setAt (h:AH) (b:Pos) (off:Nat) (vs:List AV):Option AH:=match h.m.get b with
 | some (.cells T l)=>match wOR l off vs with
  | some l'=>h.put b (.cells T l')
  | none=>none
 | some (.row T sz l)=>match wOR l off vs with
  | some l'=>h.put b (.row T sz l')
  | none=>none
 | _=>none
def slice (h:AH) (sz:Nat):AV->Option (Nat × List AV)
 | .snil=>some (0,[])
 | .rz _ _=>some (0,[])
 | .sl b off n _=>match wCs h b with
  | some l=>match sub l off (n * sz) with
   | some r=>some (n,r)
   | none=>none
  | none=>none
 | .rw b _ co n=>match wCs h b with
  | some l=>match sub l co (n * sz) with
   | some r=>some (n,r)
   | none=>none
  | none=>none
 | _=>none
def ifO (b:Bool) (x:Option α):Option α:=match b with
 | true=>x
 | false=>none
def app (h:AH) (T sz by_:Nat) (m:Nat) (news:List AV) (x:AV):Option (AV × AH):=match m with
 | 0=>match x with
  | .snil=>some (.snil,h)
  | .sl b off n c=>some (.sl b off n c,h)
  | .rw b eo co n=>some (.rw b eo co n,h)
  | _=>none
 | m + 1=>match x with
  | .snil=>ifO (nQ ((m + 1) * by_) 140737488355328) (some (.rw h.nx 0 0 (m + 1),h.push (.row T sz news)))
  | .sl b off n c=>match nQ (n + (m + 1)) c with
   | true=>match setAt h b (off + n * sz) news with
    | some h'=>some (.sl b off (n + (m + 1)) c,h')
    | none=>none
   | false=>ifO (nQ ((n + (m + 1)) * by_) 140737488355328) (match slice h sz (.sl b off n c) with
    | some (_,olds)=>some (.rw h.nx 0 0 (n + (m + 1)),h.push (.row T sz (olds ++ news)))
    | none=>none)
  | .rw b eo co n=>match h.m.get b with
   | some (.row T' sz' l)=>match nQ ((n + (m + 1)) * sz) (len l) && (nE sz sz' && (nE eo 0 && nE co 0)) with
    | true=>match setAt h b (n * sz) news with
     | some h'=>some (.rw b 0 0 (n + (m + 1)),h')
     | none=>none
    | false=>ifO (nE T T' && nE sz sz' && nE eo 0 && nE co 0 && nE (n * sz) (len l) && nQ ((n + (m + 1)) * by_) 140737488355328)
     (match h.put b .dead with
      | some h'=>some (.rw h.nx 0 0 (n + (m + 1)),h'.push (.row T sz (l ++ news)))
      | none=>none)
   | _=>none
  | _=>none
def wFn (two:Bool) (k:IntKind) (B:AB) (y:AV):Option (Option AV):=match two,B,y with
 | false,.map0,.int k' _=>ifO (keq k k') (some none)
 | true,.map0,.agg [.int k1 _,.int k2 _]=>ifO (keq k k1 && keq k k2) (some none)
 | false,.mapI k0 l,.int k' n=>ifO (keq k k0 && keq k k') (some (wKP l n))
 | true,.map2 k0 l,.agg [.int k1 a,.int k2 b]=>ifO (keq k k0 && (keq k k1 && keq k k2)) (some (wKO l a b))
 | _,_,_=>none
def wMr (two:Bool) (k:IntKind) (B:AB) (y v:AV):Option AB:=match two,B,y with
 | false,.map0,.int k' n=>ifO (keq k k') (some (.mapI k [(n,v)]))
 | true,.map0,.agg [.int k1 a,.int k2 b]=>ifO (keq k k1 && keq k k2) (some (.map2 k [((a,b),v)]))
 | false,.mapI k0 l,.int k' n=>ifO (keq k k0 && keq k k') (some (.mapI k (wLG l n v)))
 | true,.map2 k0 l,.agg [.int k1 a,.int k2 b]=>ifO (keq k k0 && (keq k k1 && keq k k2)) (some (.map2 k (wLF l a b v)))
 | _,_,_=>none
def wMs (two:Bool) (k:IntKind) (B:AB) (y:AV):Option AB:=match two,B,y with
 | false,.map0,.int k' _=>ifO (keq k k') (some .map0)
 | true,.map0,.agg [.int k1 _,.int k2 _]=>ifO (keq k k1 && keq k k2) (some .map0)
 | false,.mapI k0 l,.int k' n=>ifO (keq k k0 && keq k k') (some (.mapI k (wLI l n)))
 | true,.map2 k0 l,.agg [.int k1 a,.int k2 b]=>ifO (keq k k0 && (keq k k1 && keq k k2)) (some (.map2 k (wLH l a b)))
 | _,_,_=>none
def lenB:AB->Option Nat
 | .map0=>some 0
 | .mapI _ l=>some (len l)
 | .map2 _ l=>some (len l)
 | _=>none
def okV (h:AH):Option AV->Option (AV × AH)
 | some v=>some (v,h)
 | none=>none
def wGm:Option (List AV)->Option AV
 | some l=>some (.agg l)
 | none=>none
def orD (o:Option Nat) (d:Nat):Nat:=match o with
 | some n=>n
 | none=>d
theorem wLJ (o:Option Nat) (d:Nat):orD o d=o.getD d:=by cases o <;> rfl
def wQF (sz:Nat) (v:AV) (lo:Nat) (hi mx:Option Nat):Option AV:=match v with
 | .snil=>ifO (nE lo 0 && (match hi with | some n=>nE n 0 | none=>true) && (match mx with | some n=>nE n 0 | none=>true)) (some .snil)
 | .sl b off n c =>
  let m:=orD mx c
  let h:=orD hi n
  ifO (nQ lo h && nQ h m && nQ m c) (some (.sl b (match nE m lo with | true=>off | false=>off + lo * sz) (h - lo) (m - lo)))
 | .rw b eo co n =>
  let h:=orD hi n
  match mx with
  | none=>ifO (nQ lo h && nQ h n) (match lo with
   | 0=>some (.rw b eo co h)
   | _=>match nB lo n with
    | true=>some (.rw b (eo + lo) (co + lo * sz) (h - lo))
    | false=>some (.rz b (eo + lo)))
  | some m=>ifO (nQ lo h && nQ h m && nQ m n) (some (.sl b (match nE m lo with | true=>co | false=>co + lo * sz) (h - lo) (m - lo)))
 | _=>none
def clr (h:AH) (z:List AV) (b:Pos) (off n:Nat):Option (AV × AH):=match n with
 | 0=>some (u,h)
 | n + 1=>ifO (wOS z) (match setAt h b off (rep (n + 1) z) with
  | some h'=>some (u,h')
  | none=>none)
def bnd (σ:Tr AV):Option AOd->Option (Option Nat)
 | none=>some none
 | some x=>match wFm (evA σ x) with
  | some n=>some (some n)
  | none=>none
def wPo (x:AOd) (σ:Tr AV) (h:AH):Option (AV × AH):=some (evA σ x,h)
def wFo (c:AOd) (x:AOd) (y:AOd) (σ:Tr AV) (h:AH):Option (AV × AH):=match evA σ c with
  | .bool true=>some (evA σ x,h)
  | .bool false=>some (evA σ y,h)
  | _=>none
def wOT (T:Nat) (z:List AV) (σ:Tr AV) (h:AH):Option (AV × AH):=some (.ptr h.nx 0,h.push (.cells T z))
def wKQ (T:Nat) (x:AOd) (σ:Tr AV) (h:AH):Option (AV × AH):=some (.ptr h.nx 0,h.push (.cells T (evA σ x).cells))
def wMt (x:AOd) (σ:Tr AV) (h:AH):Option (AV × AH):=match evA σ x with
  | .ptr b off=>match wCs h b with
   | some l=>okV h (nth l off)
   | none=>none
  | _=>none
def wGf (n:Nat) (x:AOd) (σ:Tr AV) (h:AH):Option (AV × AH):=match evA σ x with
  | .ptr b off=>match wCs h b with
   | some l=>okV h (wGm (sub l off n))
   | none=>none
  | _=>none
def wNt (n:Nat) (x:AOd) (y:AOd) (σ:Tr AV) (h:AH):Option (AV × AH):=match evA σ x with
  | .ptr b off=>match nE (len (evA σ y).cells) n && wOS (evA σ y).cells with
   | true=>match setAt h b off (evA σ y).cells with
    | some h'=>some (u,h')
    | none=>none
   | false=>none
  | _=>none
def wFp (x:AOd) (σ:Tr AV) (h:AH):Option (AV × AH):=match evA σ x with
  | .ptr b off=>some (.ptr b off,h)
  | .fn f fi ca=>some (.fn f fi ca,h)
  | .yld b=>some (.yld b,h)
  | _=>none
def wLK (x:AOd) (y:AOd) (σ:Tr AV) (h:AH):Option (AV × AH):=okV h (wIe Int.add (evA σ x) (evA σ y))
def wLL (x:AOd) (y:AOd) (σ:Tr AV) (h:AH):Option (AV × AH):=okV h (wIe Int.sub (evA σ x) (evA σ y))
def wLM (x:AOd) (y:AOd) (σ:Tr AV) (h:AH):Option (AV × AH):=okV h (wIe Int.mul (evA σ x) (evA σ y))
def wLN (x:AOd) (y:AOd) (σ:Tr AV) (h:AH):Option (AV × AH):=okV h (div Int.tdiv (evA σ x) (evA σ y))
def wLO (x:AOd) (y:AOd) (σ:Tr AV) (h:AH):Option (AV × AH):=okV h (div Int.tmod (evA σ x) (evA σ y))
def wLP (x:AOd) (y:AOd) (σ:Tr AV) (h:AH):Option (AV × AH):=okV h (wNA zlt (evA σ x) (evA σ y))
def wLQ (x:AOd) (y:AOd) (σ:Tr AV) (h:AH):Option (AV × AH):=okV h (wNA zle (evA σ x) (evA σ y))
def wLR (x:AOd) (y:AOd) (σ:Tr AV) (h:AH):Option (AV × AH):=okV h (wNA (fun a b=>zlt b a) (evA σ x) (evA σ y))
def wLS (x:AOd) (y:AOd) (σ:Tr AV) (h:AH):Option (AV × AH):=okV h (wNA (fun a b=>zle b a) (evA σ x) (evA σ y))
def wLT (x:AOd) (y:AOd) (σ:Tr AV) (h:AH):Option (AV × AH):=okV h (wNA zeq (evA σ x) (evA σ y))
def wLU (x:AOd) (y:AOd) (σ:Tr AV) (h:AH):Option (AV × AH):=okV h (wNA (fun a b=>!zeq a b) (evA σ x) (evA σ y))
def wIf (ne:Bool) (x:AOd) (y:AOd) (σ:Tr AV) (h:AH):Option (AV × AH):=match evA σ x,evA σ y with
  | .bool a,.bool b=>some (.bool (ne != (a == b)),h)
  | _,_=>none
def wIg (k:Nat) (ne:Bool) (x:AOd) (y:AOd) (σ:Tr AV) (h:AH):Option (AV × AH):=match wKN k (evA σ x) (evA σ y) with
  | some b=>some (.bool (ne != b),h)
  | none=>none
def wIh (ne:Bool) (s:Sh) (x:AOd) (y:AOd) (σ:Tr AV) (h:AH):Option (AV × AH):=match wNC s (evA σ x) (evA σ y) with
  | some b=>some (.bool (ne != b),h)
  | none=>none
def wLV (x:AOd) (σ:Tr AV) (h:AH):Option (AV × AH):=okV h (wIe Int.sub (match evA σ x with | .int k _=>.int k 0 | _=>u) (evA σ x))
def wIi (x:AOd) (σ:Tr AV) (h:AH):Option (AV × AH):=match evA σ x with
  | .bool b=>some (.bool (!b),h)
  | _=>none
def wIj (k:IntKind) (x:AOd) (σ:Tr AV) (h:AH):Option (AV × AH):=match evA σ x with
  | .int _ n=>ifO (inK k n) (some (.int k n,h))
  | _=>none
def wKR (f:Pos) (fi:List AOd) (ca:List AOd) (σ:Tr AV) (h:AH):Option (AV × AH):=some (.fn f (evs σ fi) (evs σ ca),h)
def wOU  (σ:Tr AV) (h:AH):Option (AV × AH):=some (.map h.nx,h.push .map0)
def wFq (T:Nat) (sz:Nat) (by_:Nat) (z:List AV) (x:AOd) (y:AOd) (σ:Tr AV) (h:AH):Option (AV × AH):=match wFm (evA σ x),wFm (evA σ y) with
  | some l,some c=>ifO (nQ l c && nQ (c * sz) 16777216 && nQ (by_ * c) 281474976710656 && nQ c 16777216) (some (.sl h.nx 0 l c,h.push (.cells T (rep c z))))
  | _,_=>none
def wIk (sz:Nat) (x:AOd) (lo:Option AOd) (hi:Option AOd) (mx:Option AOd) (σ:Tr AV) (h:AH):Option (AV × AH):=match bnd σ lo,bnd σ hi,bnd σ mx with
  | some l,some hh,some m=>okV h (wQF sz (evA σ x) (orD l 0) hh m)
  | _,_,_=>none
def wFr (sz:Nat) (n:Nat) (x:AOd) (lo:Option AOd) (hi:Option AOd) (σ:Tr AV) (h:AH):Option (AV × AH):=match bnd σ lo,bnd σ hi,evA σ x with
  | some l,some hh,.ptr b off=>okV h (wQF sz (.sl b off n n) (orD l 0) hh none)
  | _,_,_=>none
def wIl (off:Nat) (x:AOd) (σ:Tr AV) (h:AH):Option (AV × AH):=match evA σ x with
  | .ptr b o=>some (.ptr b (o + off),h)
  | _=>none
def wIm (off:Nat) (x:AOd) (σ:Tr AV) (h:AH):Option (AV × AH):=match evA σ x with
  | .agg l=>okV h (nth l off)
  | _=>none
def wFs (off:Nat) (n:Nat) (x:AOd) (σ:Tr AV) (h:AH):Option (AV × AH):=match evA σ x with
  | .agg l=>okV h (wGm (sub l off n))
  | _=>none
def wIn (sz:Nat) (x:AOd) (y:AOd) (σ:Tr AV) (h:AH):Option (AV × AH):=match evA σ x,wFm (evA σ y) with
  | .sl b off n _,some i=>ifO (nB i n) (some (.ptr b (off + i * sz),h))
  | .rw b _ co n,some i=>ifO (nB i n) (some (.ptr b (co + i * sz),h))
  | _,_=>none
def wFt (sz:Nat) (n:Nat) (x:AOd) (y:AOd) (σ:Tr AV) (h:AH):Option (AV × AH):=match evA σ x,wFm (evA σ y) with
  | .ptr b off,some i=>ifO (nB i n) (some (.ptr b (off + i * sz),h))
  | _,_=>none
def wOV (n:Nat) (x:AOd) (y:AOd) (σ:Tr AV) (h:AH):Option (AV × AH):=match evA σ x,wFm (evA σ y) with
  | .agg l,some i=>ifO (nB i n) (okV h (nth l i))
  | _,_=>none
def wIo (sz:Nat) (n:Nat) (x:AOd) (y:AOd) (σ:Tr AV) (h:AH):Option (AV × AH):=match evA σ x,wFm (evA σ y) with
  | .agg l,some i=>ifO (nB i n) (okV h (wGm (sub l (i * sz) sz)))
  | _,_=>none
def wMu (two:Bool) (k:IntKind) (ok:Bool) (z:AV) (x:AOd) (y:AOd) (σ:Tr AV) (h:AH):Option (AV × AH):=match evA σ x with
  | .map b=>match h.m.get b with
   | some B=>match wFn two k B (evA σ y) with
    | some (some v)=>some (match ok with | true=>.tup [v,.bool true] | false=>v,h)
    | some none=>some (match ok with | true=>.tup [z,.bool false] | false=>z,h)
    | none=>none
   | none=>none
  | _=>none
def wFI (two:Bool) (k:IntKind) (x:AOd) (y:AOd) (z:AOd) (σ:Tr AV) (h:AH):Option (AV × AH):=match evA σ x with
  | .map b=>match h.m.get b with
   | some B=>match wMr two k B (evA σ y) (evA σ z) with
    | some B'=>match h.put b B' with
     | some h'=>some (u,h')
     | none=>none
    | none=>none
   | none=>none
  | _=>none
def wFJ (two:Bool) (k:IntKind) (x:AOd) (y:AOd) (σ:Tr AV) (h:AH):Option (AV × AH):=match evA σ x with
  | .map b=>match h.m.get b with
   | some B=>match wMs two k B (evA σ y) with
    | some B'=>match h.put b B' with
     | some h'=>some (u,h')
     | none=>none
    | none=>none
   | none=>none
  | _=>none
def wIp (i:Nat) (x:AOd) (σ:Tr AV) (h:AH):Option (AV × AH):=match evA σ x with
  | .tup l=>okV h (nth l i)
  | _=>none
def wLW (z:List AV) (ps:List (Nat × Nat × AOd)) (σ:Tr AV) (h:AH):Option (AV × AH):=okV h (wGm (wHI σ z ps))
def wDh (T:Nat) (n:Nat) (z:List AV) (ps:List (Nat × Nat × AOd)) (σ:Tr AV) (h:AH):Option (AV × AH):=match wHI σ z ps with
  | some l=>some (.sl h.nx 0 n n,h.push (.cells T l))
  | none=>none
def wIq (x:AOd) (σ:Tr AV) (h:AH):Option (AV × AH):=match evA σ x with
 | .snil=>some (.int .i64 0,h)
 | .sl _ _ n _=>some (.int .i64 (.ofNat n),h)
 | .rw _ _ _ n=>some (.int .i64 (.ofNat n),h)
 | .rz _ _=>some (.int .i64 0,h)
 | _=>none
def wDy (x:AOd) (σ:Tr AV) (h:AH):Option (AV × AH):=match evA σ x with
 | .mnil=>some (.int .i64 0,h)
 | .map b=>match h.m.get b with
  | some B=>match lenB B with
   | some n=>some (.int .i64 (.ofNat n),h)
   | none=>none
  | none=>none
 | _=>none
def wIr (x:AOd) (σ:Tr AV) (h:AH):Option (AV × AH):=match evA σ x with
  | .snil=>some (.int .i64 0,h)
  | .sl _ _ _ c=>some (.int .i64 (.ofNat c),h)
  | _=>none
def wHu (T:Nat) (sz:Nat) (by_:Nat) (x:AOd) (y:AOd) (σ:Tr AV) (h:AH):Option (AV × AH):=match slice h sz (evA σ y) with
  | some (m,news)=>ifO (wOS news) (app h T sz by_ m news (evA σ x))
  | none=>none
def wHv (sz:Nat) (x:AOd) (y:AOd) (σ:Tr AV) (h:AH):Option (AV × AH):=match evA σ x,slice h sz (evA σ y) with
  | .sl b off n _,some (m,news)=>match sub news 0 ((if nQ m n then m else n) * sz) with
   | some vs=>ifO (wOS vs) (match setAt h b off vs with
    | some h'=>some (.int .i64 (.ofNat (if nQ m n then m else n)),h')
    | none=>none)
   | none=>none
  | _,_=>none
def wHw (z:List AV) (x:AOd) (σ:Tr AV) (h:AH):Option (AV × AH):=match evA σ x with
  | .sl b off n _=>clr h z b off n
  | .rw b _ co n=>clr h z b co n
  | .rz _ _=>some (u,h)
  | .snil=>some (u,h)
  | _=>none
def wLX (x:AOd) (y:AOd) (σ:Tr AV) (h:AH):Option (AV × AH):=okV h (match evA σ x,evA σ y with
  | .int .i64 a,.int .i64 b=>some (.int .i64 (match zlt b a with | true=>b | false=>a))
  | _,_=>none)
def wLY (x:AOd) (y:AOd) (σ:Tr AV) (h:AH):Option (AV × AH):=okV h (match evA σ x,evA σ y with
  | .int .i64 a,.int .i64 b=>some (.int .i64 (match zlt a b with | true=>b | false=>a))
  | _,_=>none)
abbrev Run:=AC->Tr AV->AH->Option (Ex × Tr AV × AH)
def wKS:List AV->Pos->Tr AV->Tr AV
 | [],_,t=>t
 | v :: l,p,t=>wKS l p.succ (t.set p v)
def res1 (σ:Tr AV) (h:AH):AR->Option AV
 | .t p=>some (evA σ (.t p))
 | .c p n=>match evA σ (.t p) with
  | .ptr b off=>match wCs h b with
   | some l=>match n with
    | none=>nth l off
    | some n=>wGm (sub l off n)
   | none=>none
  | _=>none
def wPp (σ:Tr AV) (h:AH):List AR->Option (List AV)
 | []=>some []
 | r :: l=>match res1 σ h r with
  | some v=>match wPp σ h l with
   | some vs=>some (v :: vs)
   | none=>none
  | none=>none
def tupA:List AV->AV
 | [v]=>v
 | l=>.tup l
def wMv (σ:Tr AV) (h:AH) (l:List AR):Option (AV × AH):=match wPp σ h l with
 | some vs=>some (tupA vs,h)
 | none=>none
def wHx (tb:Tr AF) (ex:Run) (f:Pos) (args:List AV) (h:AH):Option (AV × AH):=match tb.get f with
 | some af=>match nQ (len args) af.n with
  | true=>match ex af.body (wKS args .H .e) h with
   | some (.nrm,σ,h')=>wMv σ h' af.res
   | some (.ret,σ,h')=>wMv σ h' af.res
   | _=>none
  | false=>none
 | none=>none
def Ex.done:Ex->LS
 | .nrm=>.ready
 | e=>.done e
def Ex.go:Ex->Bool
 | .nrm=>true
 | _=>false
def wOW:Tr AV->List Pos->List AV->Option (Tr AV)
 | σ,[],[]=>some σ
 | σ,t :: ts,v :: vs=>wOW (σ.set t v) ts vs
 | _,_,_=>none
def wHy (ex:Run) (b:Pos) (args:List AV) (h:AH):Option (AV × AH):=match h.m.get b with
 | some (.loop σ t asg body .ready)=>match wOW σ t args with
  | none=>none
  | some σ0=>match ex asg σ0 h with
  | some (.nrm,σ1,h1)=>match h1.m.get b with
   | some (.loop _ _ _ _ .ready)=>match h1.put b (.loop σ t asg body .busy) with
    | some h2=>match ex body σ1 h2 with
     | some (e,_,h3)=>match h3.m.get b with
      | some (.loop _ _ _ _ .busy)=>match h3.put b (.loop σ t asg body e.done) with
       | some h4=>some (.bool e.go,h4)
       | none=>none
      | _=>none
     | none=>none
    | none=>none
   | _=>none
  | _=>none
 | _=>none
def wFK (x:AOd) (l:List AOd) (tb:Tr AF) (ex exY:Run) (σ:Tr AV) (h:AH):Option (AV × AH):=match evA σ x with
 | .fn f fi ca=>wHx tb ex f (fi ++ (evs σ l ++ ca)) h
 | .yld b=>wHy exY b (evs σ l) h
 | _=>none
def andI (k:IntKind) (a b:Int):Int:=k.wrap (BitVec.ofInt k.bits a &&& BitVec.ofInt k.bits b).toNat
def wLZ (x:AOd) (y:AOd) (σ:Tr AV) (h:AH):Option (AV × AH):=okV h (match evA σ x,evA σ y with
 | .int k a,.int k' b=>match keq k k' with
  | true=>some (.int k (andI k a b))
  | false=>none
 | _,_=>none)
def wLa (x:AOd) (y:AOd) (σ:Tr AV) (h:AH):Option (AV × AH):=okV h (match evA σ x,evA σ y with
 | .int k a,.int _ (.ofNat b)=>some (.int k (a.fdiv (2 ^ min b k.bits)))
 | _,_=>none)
def wIs (l:List Nat) (y:AOd) (σ:Tr AV) (h:AH):Option (AV × AH):=match evA σ y with
 | .int _ (.ofNat i)=>okV h (match nth l i with
  | some b=>some (.int .u8 (.ofNat b))
  | none=>none)
 | _=>none
def wHz (T sz by_:Nat) (z:List AV) (x y:AOd) (σ:Tr AV) (h:AH):Option (AV × AH):=match evA σ x,wFm (evA σ y) with
 | .snil,some n=>match n with
  | 0=>some (.snil,h)
  | m + 1=>ifO (nQ ((m + 1) * by_) 140737488355328) (some (.rw h.nx 0 0 (m + 1),h.push (.row T sz (rep (m + 1) z))))
 | _,_=>none
def wQG (_:Tr AV) (_:AH):Option (AV × AH):=none
def opY (op:AOp):Tr AF->Run->Run->Tr AV->AH->Option (AV × AH) :=
 AOp.rec (motive:=fun _=>Tr AF->Run->Run->Tr AV->AH->Option (AV × AH))
  (fun x _ _ _=>wPo x)
  (fun c x y _ _ _=>wFo c x y)
  (fun T z _ _ _=>wOT T z)
  (fun T x _ _ _=>wKQ T x)
  (fun x _ _ _=>wMt x)
  (fun n x _ _ _=>wGf n x)
  (fun n x y _ _ _=>wNt n x y)
  (fun x _ _ _=>wFp x)
  (fun x y _ _ _=>wLK x y)
  (fun x y _ _ _=>wLL x y)
  (fun x y _ _ _=>wLM x y)
  (fun x y _ _ _=>wLN x y)
  (fun x y _ _ _=>wLO x y)
  (fun x y _ _ _=>wLP x y)
  (fun x y _ _ _=>wLQ x y)
  (fun x y _ _ _=>wLR x y)
  (fun x y _ _ _=>wLS x y)
  (fun x y _ _ _=>wLT x y)
  (fun x y _ _ _=>wLU x y)
  (fun ne x y _ _ _=>wIf ne x y)
  (fun k ne x y _ _ _=>wIg k ne x y)
  (fun ne s x y _ _ _=>wIh ne s x y)
  (fun x _ _ _=>wLV x)
  (fun x _ _ _=>wIi x)
  (fun k x _ _ _=>wIj k x)
  (fun f fi ca _ _ _=>wKR f fi ca)
  (fun _ _ _=>wOU)
  (fun T sz bytes z x y _ _ _=>wFq T sz bytes z x y)
  (fun sz x lo hi mx _ _ _=>wIk sz x lo hi mx)
  (fun sz n x lo hi _ _ _=>wFr sz n x lo hi)
  (fun off x _ _ _=>wIl off x)
  (fun off x _ _ _=>wIm off x)
  (fun off n x _ _ _=>wFs off n x)
  (fun sz x y _ _ _=>wIn sz x y)
  (fun sz n x y _ _ _=>wFt sz n x y)
  (fun n x y _ _ _=>wOV n x y)
  (fun sz n x y _ _ _=>wIo sz n x y)
  (fun two k ok z x y _ _ _=>wMu two k ok z x y)
  (fun two k x y z _ _ _=>wFI two k x y z)
  (fun two k x y _ _ _=>wFJ two k x y)
  (fun i x _ _ _=>wIp i x)
  (fun z ps _ _ _=>wLW z ps)
  (fun T len z ps _ _ _=>wDh T len z ps)
  (fun x _ _ _=>wIq x)
  (fun x _ _ _=>wDy x)
  (fun x _ _ _=>wIr x)
  (fun T sz bytes x y _ _ _=>wHu T sz bytes x y)
  (fun sz x y _ _ _=>wHv sz x y)
  (fun z x _ _ _=>wHw z x)
  (fun x y _ _ _=>wLX x y)
  (fun x y _ _ _=>wLY x y)
  wFK
  (fun _ _ _=>wQG)
  (fun x y _ _ _=>wLZ x y)
  (fun x y _ _ _=>wLa x y)
  (fun l y _ _ _=>wIs l y)
  (fun T sz bytes z x y _ _ _=>wHz T sz bytes z x y) op
def wNu (op:AOp) (tb:Tr AF) (ex exY:Run) (σ:Tr AV) (h:AH):Option (AV × AH) :=
 match opY op tb ex exY σ ⟨h.m,h.nx,h.nx⟩ with
 | some (v,h')=>some (v,⟨h'.m,h'.nx,h.fl⟩)
 | none=>none
def opK (k:Nat) (op:AOp):Tr AF->Run->Run->Tr AV->AH->Option (AV × AH) :=
 nb (motive:=fun _=>Tr AF->Run->Run->Tr AV->AH->Option (AV × AH)) (opY op) (wNu op) (nE k 2)
def wFQ (d:Option Pos) (σ:Tr AV) (v:AV):Tr AV:=nW (motive:=fun _=>Tr AV) σ (fun p=>σ.set p v) d
def isB (b:Bool) (v:AV):Bool:=match v with
 | .bool b'=>b' == b
 | _=>false
def wCN (σ:Tr AV) (g:Option (Pos × Bool)):Bool:=nW (motive:=fun _=>Bool) true (fun q=>isB q.2 (evA σ (.t q.1))) g
def goOn (d:Option Pos) (k:Tr AV->AH->Option (Tr AV × AH)) (σ:Tr AV) (r:AV × AH):Option (Tr AV × AH):=k (wFQ d σ r.1) r.2
def wQH (o:AO) (k:Tr AV->AH->Option (Tr AV × AH)) (tb:Tr AF) (ex exY:Run) (σ:Tr AV) (h:AH):Option (Tr AV × AH) :=
 nW (motive:=fun _=>Option (Tr AV × AH)) none (goOn o.dst k σ) (opK o.kd o.op tb ex exY σ h)
def wAY (tb:Tr AF) (ex exY:Run) (l:List AO):Tr AV->AH->Option (Tr AV × AH) :=
 no (motive:=fun _=>Tr AV->AH->Option (Tr AV × AH)) (fun σ h=>some (σ,h)) (fun o _ ih σ h =>
  nb (motive:=fun _=>Option (Tr AV × AH)) (ih (wFQ o.dst σ u) h) (wQH o ih tb ex exY σ h) (wCN σ o.grd)) l
theorem wAi (tb:Tr AF) (ex exY:Run) (σ:Tr AV) (h:AH):wAY tb ex exY [] σ h=some (σ,h):=rfl
theorem wAm (tb:Tr AF) (ex exY:Run) (o:AO) (os:List AO) (σ:Tr AV) (h:AH):wAY tb ex exY (o :: os) σ h=(match wCN σ o.grd with
  | true=>match opK o.kd o.op tb ex exY σ h with
   | some r=>wAY tb ex exY os (wFQ o.dst σ r.1) r.2
   | none=>none
  | false=>wAY tb ex exY os (wFQ o.dst σ u) h):=by
 show nb (motive:=fun _=>Option (Tr AV × AH)) _ (nW (motive:=fun _=>Option (Tr AV × AH)) none _ (opK o.kd o.op tb ex exY σ h)) (wCN σ o.grd)=_
 cases wCN σ o.grd
 ·rfl
 ·cases opK o.kd o.op tb ex exY σ h <;> rfl
mutual
def same:AV->AV->Bool
 | .int k n,.int k' n'=>keq k k' && zeq n n'
 | .bool a,.bool b=>a == b
 | .ptr b o,.ptr b' o'=>b.beq b' && nE o o'
 | .pnil,.pnil=>true
 | .sl b o n c,.sl b' o' n' c'=>b.beq b' && (nE o o' && (nE n n' && nE c c'))
 | .rw b eo co n,.rw b' eo' co' n'=>b.beq b' && (nE eo eo' && (nE co co' && nE n n'))
 | .snil,.snil=>true
 | .map b,.map b'=>b.beq b'
 | .mnil,.mnil=>true
 | .fn f fi ca,.fn f' fi' ca'=>f.beq f' && (wFu fi fi' && wFu ca ca')
 | .fnil,.fnil=>true
 | .agg l,.agg l'=>wFu l l'
 | .tup l,.tup l'=>wFu l l'
 | _,_=>false
def wFu:List AV->List AV->Bool
 | [],[]=>true
 | a :: l,b :: k=>same a b && wFu l k
 | _,_=>false
end
def wBr (k:Nat):Bool:=nE k 0 || nE k 2
def wGn (tb:Tr AF) (ex exY:Run) (σf:Tr AV) (h:AH) (a:AO):Bool:=match a.dst with
 | some p=>match wCN σf a.grd with
  | false=>true
  | true=>match opY a.op tb ex exY σf h with
   | some (v,_)=>same v (evA σf (.t p))
   | none=>false
 | none=>true
def wIT (tb:Tr AF) (ex exY:Run) (σf:Tr AV) (h:AH) (n:Nat) (l:List AO):Bool :=
 no (motive:=fun _=>Nat->Bool) (fun _=>true) (fun a _ ih n=>nb (motive:=fun _=>Bool) (nb (motive:=fun _=>Bool) (ih n) (nb (motive:=fun _=>Bool) false (ih n) (wGn tb ex exY σf h a)) (nB (n + 8) a.kd)) (ih (Nat.succ n)) (wBr a.kd)) l n
theorem wDi (tb:Tr AF) (ex exY:Run) (σf:Tr AV) (h:AH) (n:Nat) (a:AO) (t:List AO):wIT tb ex exY σf h n (a :: t)=(match wBr a.kd with
  | true=>wIT tb ex exY σf h (n + 1) t
  | false=>(match nB (n + 8) a.kd with
   | true=>wGn tb ex exY σf h a
   | false=>true) && wIT tb ex exY σf h n t):=by
 show nb (motive:=fun _=>Bool) (nb (motive:=fun _=>Bool) (wIT tb ex exY σf h n t) (nb (motive:=fun _=>Bool) false (wIT tb ex exY σf h n t) (wGn tb ex exY σf h a)) (nB (n + 8) a.kd)) (wIT tb ex exY σf h (n + 1) t) (wBr a.kd)=_
 cases wBr a.kd
 ·cases nB (n + 8) a.kd
  ·rfl
  ·cases wGn tb ex exY σf h a <;> rfl
 ·rfl
def wOX (tb:Tr AF) (ex exY:Run) (o:AO) (σ:Tr AV) (h:AH):Option (Tr AV × AH):=match wCN σ o.grd with
 | true=>match opK o.kd o.op tb ex exY σ h with
  | some r=>some (wFQ o.dst σ r.1,r.2)
  | none=>none
 | false=>some (wFQ o.dst σ u,h)
def wLb (tb:Tr AF) (ex exY:Run) (l:List AO):Tr AV->AH->Option (Tr AV × AH) :=
 no (motive:=fun _=>Tr AV->AH->Option (Tr AV × AH)) (fun σ h=>some (σ,h)) (fun o os ih σ h =>
  nW (motive:=fun _=>Option (Tr AV × AH)) none (fun r=>nb (motive:=fun _=>Option (Tr AV × AH)) (some r) (nb (motive:=fun _=>Option (Tr AV × AH)) none (some r) (wIT tb ex exY r.1 h 0 os)) (nE o.kd 0))
   (nb (motive:=fun _=>Option (Tr AV × AH)) (ih (wFQ o.dst σ u) h) (wQH o ih tb ex exY σ h) (wCN σ o.grd))) l
theorem wND (tb:Tr AF) (ex exY:Run) (σ:Tr AV) (h:AH):wLb tb ex exY [] σ h=some (σ,h):=rfl
theorem wLc (tb:Tr AF) (ex exY:Run) (o:AO) (os:List AO) (σ:Tr AV) (h:AH):wLb tb ex exY (o :: os) σ h=(match wOX tb ex exY o σ h with
  | none=>none
  | some q=>match wLb tb ex exY os q.1 q.2 with
   | none=>none
   | some r=>match nE o.kd 0 with
    | true=>match wIT tb ex exY r.1 h 0 os with
     | true=>some r
     | false=>none
    | false=>some r):=by
 show nW (motive:=fun _=>Option (Tr AV × AH)) none (fun r=>nb (motive:=fun _=>Option (Tr AV × AH)) (some r) (nb (motive:=fun _=>Option (Tr AV × AH)) none (some r) (wIT tb ex exY r.1 h 0 os)) (nE o.kd 0))
   (nb (motive:=fun _=>Option (Tr AV × AH)) (wLb tb ex exY os (wFQ o.dst σ u) h) (nW (motive:=fun _=>Option (Tr AV × AH)) none (fun r=>wLb tb ex exY os (wFQ o.dst σ r.1) r.2) (opK o.kd o.op tb ex exY σ h)) (wCN σ o.grd))=_
 unfold wOX
 cases wCN σ o.grd
 ·simp only
  cases wLb tb ex exY os (wFQ o.dst σ u) h with
  | none=>rfl
  | some r =>
   simp only
   cases nE o.kd 0
   ·rfl
   ·cases wIT tb ex exY r.1 h 0 os <;> rfl
 ·cases opK o.kd o.op tb ex exY σ h with
  | none=>rfl
  | some q =>
   simp only
   cases wLb tb ex exY os (wFQ o.dst σ q.1) q.2 with
   | none=>rfl
   | some r =>
    simp only
    cases nE o.kd 0
    ·rfl
    ·cases wIT tb ex exY r.1 h 0 os <;> rfl
abbrev R:=Option (Ex × Tr AV × AH)
def sNrm (σ:Tr AV) (h:AH):R:=some (.nrm,σ,h)
def sRg (l:List AO) (tb:Tr AF) (ex exY exR:Run) (σ:Tr AV) (h:AH):R :=
 nW (motive:=fun _=>R) none (fun r=>some (.nrm,r.1,r.2)) (wAY tb ex exY l σ h)
def sRl (l:List AO) (tb:Tr AF) (ex exY:Run) (σ:Tr AV) (h:AH):R :=
 nW (motive:=fun _=>R) none (fun r=>some (.nrm,r.1,r.2)) (wLb tb ex exY l σ h)
theorem wNv (l:List AO) (tb:Tr AF) (ex exY:Run) (σ:Tr AV) (h:AH):sRl l tb ex exY σ h=(match wLb tb ex exY l σ h with
  | some r=>some (.nrm,r.1,r.2)
  | none=>none):=by
 unfold sRl
 cases wLb tb ex exY l σ h <;> rfl
def seqK (b:AC) (exR:Run) (r:Ex × Tr AV × AH):R:=Ex.rec (motive:=fun _=>Tr AV->AH->R) (fun σ h=>exR b σ h) (fun i σ h=>some (.exit i,σ,h)) (fun σ h=>some (.ret,σ,h)) r.1 r.2.1 r.2.2
def wQI (a b:AC) (exR:Run) (σ:Tr AV) (h:AH):R:=nW (motive:=fun _=>R) none (seqK b exR) (exR a σ h)
def wLd (c:AOd) (a b:AC) (exR:Run) (σ:Tr AV) (h:AH):R:=match evA σ c with
 | .bool true=>exR a σ h
 | .bool false=>exR b σ h
 | _=>none
def wNw (i:Nat) (r:Ex × Tr AV × AH):R:=Ex.rec (motive:=fun _=>Tr AV->AH->R) (fun σ h=>some (.nrm,σ,h))
 (fun j σ h=>nb (motive:=fun _=>R) (some (.exit j,σ,h)) (some (.nrm,σ,h)) (nE j i)) (fun σ h=>some (.ret,σ,h)) r.1 r.2.1 r.2.2
def wJa (i:Nat) (a:AC) (exR:Run) (σ:Tr AV) (h:AH):R:=nW (motive:=fun _=>R) none (wNw i) (exR a σ h)
def wLe (a:AC) (exR:Run) (σ:Tr AV) (h:AH):R:=nW (motive:=fun _=>R) none (seqK (.loop a) exR) (exR a σ h)
def sRf (f:Bool) (g:AOd) (t:List Pos) (asg body:AC) (tb:Tr AF) (ex:Run) (σ:Tr AV) (h:AH):R:=match f,evA σ g with
 | true,.fn f fi ca=>match wHx tb ex f (fi ++ (.yld h.nx :: ca)) (h.push (.loop σ t asg body .ready)) with
  | some (_,h2)=>match h2.m.get h.nx with
   | some (.loop _ _ _ _ .ready)=>match h2.put h.nx .dead with
    | some h3=>some (.nrm,σ,h3)
    | none=>none
   | some (.loop _ _ _ _ (.done e))=>match h2.put h.nx .dead with
    | some h3=>some (e,σ,h3)
    | none=>none
   | _=>none
  | none=>none
 | _,_=>none
def step (c:AC):Bool->Tr AF->Run->Run->Run->Tr AV->AH->R :=
 AC.rec (motive:=fun _=>Bool->Tr AF->Run->Run->Run->Tr AV->AH->R)
  (fun _ _ _ _ _=>sNrm)
  (fun l _ tb ex exY exR=>sRg l tb ex exY exR)
  (fun a b _ _ _ _ _ _ exR=>wQI a b exR)
  (fun c a b _ _ _ _ _ _ exR=>wLd c a b exR)
  (fun i a _ _ _ _ _ exR=>wJa i a exR)
  (fun a _ _ _ _ _ exR=>wLe a exR)
  (fun g t asg body _ _ f tb ex _ _=>sRf f g t asg body tb ex)
  (fun i _ _ _ _ _ σ h=>some (.exit i,σ,h))
  (fun a _ _ _ _ _ exR=>exR a)
  (fun _ _ _ _ _ σ h=>some (.ret,σ,h))
  (fun l _ tb ex exY _=>sRl l tb ex exY) c
def exec (tb:Tr AF) (n:Nat):Bool->Run :=
 kM (motive:=fun _=>Bool->Run) (fun _ _ _ _=>none) (fun _ ih r c=>step c (!r) tb (ih false) (ih true) (ih r)) n
theorem wIA (tb:Tr AF) (n:Nat) (r:Bool) (c:AC):exec tb (n + 1) r c=step c (!r) tb (exec tb n false) (exec tb n true) (exec tb n r):=rfl
end
end Go.KX
namespace Go.KX
open Go.RowKit Go.KL
def wLf (σ:Env):List Nat->List Value->Env
 | t :: ts,v :: vs=>wLf (upd σ t v) ts vs
 | _,_=>σ
theorem wLg {N:Nat}:∀ (ts:List Nat) (vs:List Value) {tmps:Array Value} {σ:Env},(∀ t ∈ ts,t < N)->Rep N [] { tmps:=tmps,defers:=[] } σ ->
  Rep N [] { tmps:=(ts.zip vs).foldl (fun tmps (x:Nat × Value)=>tmps.setIfInBounds x.1 x.2) tmps,defers:=[] } (wLf σ ts vs)
 | [],vs,tmps,σ,_,h=>by simpa [wLf] using h
 | _ :: _,[],tmps,σ,_,h=>by simpa [wLf] using h
 | t :: ts,v :: vs,tmps,σ,ht,h=>by
  have h':=h.put (ht t (by simp)) v
  have:=wLg ts vs (tmps:=tmps.setIfInBounds t v) (σ:=upd σ t v) (fun x hx=>ht x (by simp [hx])) (by simpa [Act.put] using h')
  simpa [wLf] using this
def LoopAt (w:World) (l N:Nat) (σ:Env) (t:List Nat) (assign body:Code) (rb:Nat) (fn:FuncId) (s:LoopState) (pend:Option Code):Prop :=
 ∃ a D,Rep N D a σ/\w.heap[l]?=some (.loop { state:=s,pending:=pend,fn,tmps:=a.tmps,params:=t.toArray,assign,body,defers:=rb })
def Yd (P:Program) (l:Nat) (v:List Value) (w:World) (R:Bool->World->Prop):Prop :=
 ∃ lr:Loop,w.heap[l]?=some (.loop lr)/\lr.params.size=v.length /\
  RoundIn (WF none) 0 P l lr.fn ((lr.params.zip v.toArray).foldl (fun tmps (t,a)=>tmps.setIfInBounds t a) lr.tmps) lr.assign lr.body w (fun e w'=>∃ b,e=.returned (.bool b)/\R b w')
theorem LoopAt.lt {w:World} {l N:Nat} {σ:Env} {t:List Nat} {assign body:Code} {rb:Nat} {fn:FuncId} {s:LoopState} {pend:Option Code} (h:LoopAt w l N σ t assign body rb fn s pend):l < w.heap.size:=by
 obtain ⟨a,D,_,h⟩:=h
 rcases nT l w.heap.size with hlt | hge
 ·exact hlt
 ·rw [nq hge] at h;cases h
theorem LoopAt.keep {w w':World} {l N:Nat} {σ:Env} {t:List Nat} {assign body:Code} {rb:Nat} {fn:FuncId} {s:LoopState} {pend:Option Code} {X:Nat->Prop} (h:LoopAt w l N σ t assign body rb fn s pend) (k:Keep w w' X) (hx:¬ X l):LoopAt w' l N σ t assign body rb fn s pend:=by
 have hl:=h.lt
 obtain ⟨a,D,hr,h⟩:=h
 exact ⟨a,D,hr,(k.block l hl hx).trans h⟩
section
variable {N:Nat} {P:Program} {Q:wCd} {D:List Deferred} {σ:Env} {w:World}
def wLh (P:Program) (l N:Nat) (σ:Env) (t:List Nat) (assign body:Code) (rb:Nat) (fn:FuncId) (R:Bool->World->Prop):wCd:=fun _ e _ w =>
 match e with
 | .normal=>LoopAt w l N σ t assign body rb fn .busy none/\∀ w',LoopAt w' l N σ t assign body rb fn .ready none->Keep w w' (·=l)->w'.heap.size=w.heap.size->R true w'
 | .ret=>LoopAt w l N σ t assign body rb fn .busy none/\∀ w',LoopAt w' l N σ t assign body rb fn .done (some .ret)->Keep w w' (·=l)->w'.heap.size=w.heap.size->R false w'
 | .exit i=>LoopAt w l N σ t assign body rb fn .busy none/\∀ w',LoopAt w' l N σ t assign body rb fn .done (some (.exit i))->Keep w w' (·=l)->w'.heap.size=w.heap.size->R false w'
 | _=>False
theorem Yd.of {l:Nat} {t:List Nat} {assign body:Code} {rb:Nat} {fn:FuncId} {v:List Value} {R:Bool->World->Prop} (hl:LoopAt w l N σ t assign body rb fn .ready none) (ht:∀ x ∈ t,x < N) (hlen:t.length=v.length)
  (h:∀ σ0,(∀ i,σ0 i=wLf σ t v i)->CK (some l) N P assign (fun D' e σ' w1=>e=.normal/\D'=[]/\LoopAt w1 l N σ t assign body rb fn .ready none /\
   ∀ w2,LoopAt w2 l N σ t assign body rb fn .busy none->Keep w1 w2 (·=l)->w2.heap.size=w1.heap.size->CK (some l) N P body (wLh P l N σ t assign body rb fn R) [] σ' w2) [] σ0 w):Yd P l v w R:=by
 obtain ⟨a,D,hr,hh⟩:=hl
 refine ⟨_,hh,by simpa using hlen,?_⟩
 refine roundIn_of_wpIn (F:=WF none) trivial ?_
 have hrep:Rep N [] { tmps:=((t.toArray.zip v.toArray).foldl (fun tmps (x:Nat × Value)=>tmps.setIfInBounds x.1 x.2) a.tmps),defers:=[] } (wLf σ t v):=by
  have:=wLg t v ht (show Rep N [] { tmps:=a.tmps,defers:=[] } σ from ⟨hr.size,rfl,hr.get⟩)
  simpa using this
 refine wpIn_mono (h _ (fun _=>rfl) _ hrep) ?_
 rintro e a1 w1 ⟨σ',D',hr1,rfl,rfl,hl1,hb⟩
 obtain ⟨a2,D2,hr2,hh2⟩:=hl1
 have hlt:l < w1.heap.size:=LoopAt.lt ⟨a2,D2,hr2,hh2⟩
 refine ⟨_,run_beginRound hh2 rfl,?_⟩
 have hl2:LoopAt (w1.putObj l (.loop { state:=.busy,pending:=none,fn,tmps:=a2.tmps,params:=t.toArray,assign,body,defers:=rb })) l N σ t assign body rb fn .busy none:=⟨a2,D2,hr2,World.putObj_heap_same hlt⟩
 refine wpIn_mono (hb _ hl2 (wBd _ _ _) (by simp) a1 hr1) ?_
 rintro e a3 w3 ⟨σ3,D3,hr3,q⟩
 have fin:∀ (jump:Option Code) (b:Bool),b=jump.isNone->LoopAt w3 l N σ t assign body rb fn .busy none ->
   (∀ w',LoopAt w' l N σ t assign body rb fn (if jump.isNone then .ready else .done) jump->Keep w3 w' (·=l)->w'.heap.size=w3.heap.size->R b w') ->
   ∃ v w',(Instr.endRound l jump).run P w3=.ok v w'/\∃ b,Ending.returned v=.returned (.bool b)/\R b w':=by
  rintro jump b rfl ⟨a4,D4,hr4,hh4⟩ hR
  have hlt3:l < w3.heap.size:=LoopAt.lt ⟨a4,D4,hr4,hh4⟩
  exact ⟨_,_,run_endRound jump hh4,_,rfl,hR _ ⟨a4,D4,hr4,World.putObj_heap_same hlt3⟩ (wBd _ _ _) (by simp)⟩
 cases e with
 | normal=>exact fin none true rfl q.1 q.2
 | ret=>exact fin (some .ret) false rfl q.1 q.2
 | exit i=>exact fin (some (.exit i)) false rfl q.1 q.2
 | goto i=>exact q.elim
 | panic c=>exact q.elim
 | outgrown=>exact q.elim
def mark (rb:Nat):Deferred:={ target:=.collected rb,args:=#[] }
theorem CK.rangeFunc {g:Operand} {t:List Nat} {assign body:Code} {f:FuncId} {fl cl:List Value} (hx:ev σ g=.func (.func f) fl.toArray cl.toArray)
  (hcall:∀ (args:Array Value) (w:World),(callFunc f args).run P w=.ok (.enter f args) w)
  (h:∀ fn l rb w1,rb=w.heap.size->l=w.heap.size + 1->LoopAt w1 l N σ t assign body rb fn .ready none->w1.heap[rb]?=some (.deferred (some []))->Keep w w1 Non->w1.heap.size=w.heap.size + 2 ->
   Gv P f (fl ++ [.func (.yield l) #[] #[]] ++ cl) w1 (fun _ w3 =>
    (LoopAt w3 l N σ t assign body rb fn .ready none/\∀ w4,Keep w3 w4 (·=l)->w4.heap.size=w3.heap.size->Q (mark rb :: D) .normal σ w4) \/
    (∃ e,(e=Exit.ret \/ ∃ i,e=.exit i)/\LoopAt w3 l N σ t assign body rb fn .done (match e with | .ret=>some .ret | .exit i=>some (.exit i) | _=>none)/\∀ w4,Keep w3 w4 (·=l)->w4.heap.size=w3.heap.size->Q (mark rb :: D) e σ w4))) :
  CK none N P (.rangeFunc g t.toArray assign body) Q D σ w:=by
 intro a ha
 refine wpIn_rangeFunc (F:=WF none) fun fn _=>?_
 have hl:LoopAt ((w.alloc (.deferred (some []))).alloc (.loop { state:=.ready,pending:=none,fn,tmps:=a.tmps,params:=t.toArray,assign,body,defers:=w.heap.size })) (w.heap.size + 1) N σ t assign body w.heap.size fn .ready none:=by
  refine ⟨a,D,ha,?_⟩
  have:=heap_alloc_new (w.alloc (.deferred (some []))) (.loop { state:=.ready,pending:=none,fn,tmps:=a.tmps,params:=t.toArray,assign,body,defers:=w.heap.size })
  rwa [World.size_alloc] at this
 have hd:((w.alloc (.deferred (some []))).alloc (.loop { state:=.ready,pending:=none,fn,tmps:=a.tmps,params:=t.toArray,assign,body,defers:=w.heap.size })).heap[w.heap.size]?=some (.deferred (some [])):=by
  rw [Below.heap_alloc _ _ _ (by simp)]
  exact heap_alloc_new w _
 have hG:=h fn _ _ _ rfl rfl hl hd ((wAn w _).non (wAn _ _)) (by simp)
 generalize hW:(w.alloc (.deferred (some []))).alloc (.loop { state:=.ready,pending:=none,fn,tmps:=a.tmps,params:=t.toArray,assign,body,defers:=w.heap.size })=W1 at hl hd hG
 refine ⟨w.heap.size + 1,[{ target:=.collected w.heap.size,args:=#[] }],W1,{ target:=.fn (.func f) cl.toArray,args:=(fl ++ [Value.func (.yield (w.heap.size + 1)) #[] #[]]).toArray },W1,f,(fl ++ [Value.func (.yield (w.heap.size + 1)) #[] #[]] ++ cl).toArray,W1,hW ▸ run_enterLoop_outer fn a.tmps t.toArray assign body,?_,fun _ _=>trivial,?_,fun h=>(by cases h),?_⟩
 ·have he:a.eval g=.func (.func f) fl.toArray cl.toArray:=by rw [ha.eval];exact hx
  have hc:a.eval (.const (.func (.yield (w.heap.size + 1)) #[] #[]))=.func (.yield (w.heap.size + 1)) #[] #[]:=rfl
  simp [resolve,rangeCall,he,hc,Deferred.ofValue]
 ·simp [invoke,hcall]
 ·refine CallsIn.mono (hG.callsIn none) ?_
  rintro e w3 ⟨v,rfl,hv⟩
  have hrep:Rep N (mark w.heap.size :: D) { a with defers:=[{ target:=.collected w.heap.size,args:=#[] }] ++ a.defers } σ:=⟨ha.size,by rw [<- ha.defers];rfl,ha.get⟩
  rcases hv with ⟨hl3,hQ⟩ | ⟨e,he,hl3,hQ⟩
  ·obtain ⟨a3,D3,hr3,hh3⟩:=hl3
   exact ⟨none,_,run_endLoop hh3 (by simp),σ,_,hrep,hQ _ (wBd _ _ _) (by simp)⟩
  ·rcases he with rfl | ⟨i,rfl⟩
   ·obtain ⟨a3,D3,hr3,hh3⟩:=hl3
    exact ⟨some .ret,_,run_endLoop hh3 (by simp),wpIn_ret ⟨σ,_,hrep,hQ _ (wBd _ _ _) (by simp)⟩⟩
   ·obtain ⟨a3,D3,hr3,hh3⟩:=hl3
    exact ⟨some (.exit i),_,run_endLoop hh3 (by simp),wpIn_exit ⟨σ,_,hrep,hQ _ (wBd _ _ _) (by simp)⟩⟩
def Dfr (w:World) (rb:Nat):Prop:=w.heap[rb]?=some (.deferred (some []))
theorem Dfr.lt {w:World} {b:Nat} (h:Dfr w b):b < w.heap.size:=by
 rcases nT b w.heap.size with hlt | hge
 ·exact hlt
 ·unfold Dfr at h;rw [nq hge] at h;cases h
theorem Dfr.keep {w w':World} {b:Nat} {X:Nat->Prop} (h:Dfr w b) (k:Keep w w' X) (hx:¬ X b):Dfr w' b:=(k.block b h.lt hx).trans h
def retM (P:Program) (rs:Array ResultVar) (R:Value->World->Prop):wCd:=fun D e σ w =>
 match e with
 | .normal | .ret=>∃ rbs:List Nat,D=rbs.map mark/\rbs.Nodup/\(∀ rb ∈ rbs,Dfr w rb)/\∀ w',Keep w w' (· ∈ rbs)->w'.heap.size=w.heap.size->∃ v,(wCK rs σ).run P w'=.ok v w'/\R v w'
 | _=>False
theorem Gv.ofM {f:FuncId} {fn:Func} {c:Code} {args:List Value} {R:Value->World->Prop} {rs:Array ResultVar}
  (hf:P.funcs[f]?=some fn) (hb:fn.body=some c) (hN:fn.ntmps=N) (hrs:fn.results=rs) (hle:args.length <= N)
  (h:CK none N P c (retM P rs R) [] (wNn args) w):Gv P f args w R:=by
 refine callsIn_wide.1 (callsIn_of_wp_marks hf hb trivial ?_ (n:=0))
 subst hN hrs
 refine wpIn_mono (h _ (wJW args _ hle)) ?_
 have fin:∀ (σ:Env) (a:Act) (tmps:Array Value),(results fn tmps=wCK fn.results σ)->∀ (rbs:List Nat) (w:World) (u:FrameMode),u=.returning->rbs.Nodup->(∀ rb ∈ rbs,Dfr w rb)->(∀ w',Keep w w' (· ∈ rbs)->w'.heap.size=w.heap.size->∃ v,(wCK fn.results σ).run P w'=.ok v w'/\R v w') ->
   LeavesInM Fence.wide 0 P fn tmps (fun e w'=>∃ v,e=.returned v/\R v w') (rbs.map mark) u w:=by
  intro σ a tmps hres rbs
  induction rbs with
  | nil =>
   intro w u hu _ _ hR
   subst hu
   obtain ⟨v,hv,hRv⟩:=hR w (Keep.refl w _) rfl
   exact ⟨v,by rw [hres];exact hv,v,rfl,hRv⟩
  | cons rb rbs ih =>
   intro w u hu hn hd hR
   subst hu
   obtain ⟨hn1,hn2⟩:=kh.1 hn
   refine ⟨by simp,.inl ⟨rb,_,rfl,run_takeDeferred (hd rb (by simp)),ih _ _ rfl hn2 (fun x hx=>(hd x (by simp [hx])).keep (wBd w rb _) fun e=>hn1 (e ▸ hx)) fun w' K hs=>hR w' ?_ (by rw [hs];simp)⟩⟩
   exact ((wBd w rb _).weak fun i _ e=>by subst e;simp).step K fun i _ hi=>by simp [hi]
 rintro e a w ⟨σ,D,hr,q⟩
 cases e with
 | normal=>obtain ⟨rbs,rfl,h1,h2,h3⟩:=q;show LeavesInM _ _ _ _ _ _ a.defers _ _;rw [hr.defers];exact fin σ a _ (wEV hr fn) rbs w _ rfl h1 h2 h3
 | ret=>obtain ⟨rbs,rfl,h1,h2,h3⟩:=q;show LeavesInM _ _ _ _ _ _ a.defers _ _;rw [hr.defers];exact fin σ a _ (wEV hr fn) rbs w _ rfl h1 h2 h3
 | _=>exact q.elim
end
theorem Yd.rounds {P:Program} {σ:Env} {w:World} {o:Oper} {l:Nat} {x:Operand} {ys:Array Operand} {ty:Array TypeId} {v:List Value} {R:Bool->World->Prop} (ho:o.op=.call { callee:=.value x,args:=ys,argTypes:=ty })
  (hx:ev σ x=.func (.yield l) #[] #[]) (hy:ys.toList.map (ev σ)=v) (hY:Yd P l v w R):Rounds P σ w o fun v w'=>∃ b,v=.bool b/\R b w':=by
 subst hy
 obtain ⟨lr,h1,h2,h3⟩:=hY
 refine ⟨by rw [ho];rfl,l,lr.fn,_,lr.assign,lr.body,?_,h3.mono fun e w' ⟨b,e1,e2⟩=>⟨_,e1,b,rfl,e2⟩⟩
 have e:ys.map (ev σ)=(ys.toList.map (ev σ)).toArray:=by
  rw [<- Array.toList_map]
 have:=run_yield (P:=P) (args:=ys.map (ev σ)) h1 (by simpa using h2.symm)
 rw [<- e]
 simp [execOp,ho,resolve,hx,Deferred.ofValue,invoke,this]
end Go.KX
namespace Go.KL
open Go.RowKit
section
variable {N:Nat} {P:Program} {l:List Oper} {Q:wCd} {D:List Deferred} {ks:List Nat} {σ:Env} {w:World} {i d:Nat} {s:Sch} {o:Oper}
theorem OKS.rm {x:Operand} {v:Value} (ho:l[i]?=some o) (hd:o.dst=some d) (hN:nB d N=true) (hw:wanted l σ o=true) (hm:o.op=.move x) (hx:ev σ x=v)
  (k:OKS N P l Q D ks s (upd σ d v) w):OKS N P l Q D ks (.fl i s) σ w:=OKS.r ho hd hN hw (fun _=>Runs.mv hm hx) k
theorem OKS.ra {x:Operand} {v:Value} (ho:l[i]?=some o) (hd:o.dst=some d) (hN:nB d N=true) (hw:wanted l σ o=true) (hm:o.op=.assign x) (hx:ev σ x=v)
  (k:OKS N P l Q D ks s (upd σ d v) w):OKS N P l Q D ks (.fl i s) σ w:=OKS.r ho hd hN hw (fun _=>Runs.as hm hx) k
theorem OKS.mx2 {v:Value} (ho:l[i]?=some o) (hd:o.dst=some d) (hN:nB d N=true) (hw:wanted l σ o=true) (hr:wEp P σ w o v)
  (k:OKS N P l Q D ks s (upd σ d v) w):OKS N P l Q D ks (.fx i s .stop) σ w:=OKS.v ho hd hN hw (hr w (Keep.refl w _)) (.inr (Keep.refl w _)) k
end
end Go.KL
namespace Go.KL
open Go.RowKit
open Go.KX (LoopAt Yd wLf Dfr wLh retM)
section
variable {B:Base} {U U':PHeap} {L M:List Res} {w w':World}
theorem St.keepX (h:St B U L w) {X:Nat->Prop} (K:Keep w w' X) (h1:∀ b,X b->U b=none/\B.mine b) (h2:∀ r ∈ L,∀ b,r.has b->¬ X b):St B U L w' :=
  ⟨K.os.trans h.os,K.tape.trans h.tape,K.output.trans h.output,na h.size K.size,fun b hb hm=>(K.block b (ng hb h.size) fun hx=>hm (h1 b hx).2).trans (h.old b hb hm),
   fun b o hb=>(K.block b (wAQ (h.fro b o hb)) fun hx=>by rw [(h1 b hx).1] at hb;cases hb).trans (h.fro b o hb),h.le,h.src,fun r hr=>(h.at_ r hr).keep K (h2 r hr),h.own,h.dj⟩
theorem St.left (h:St B U (L ++ M) w):St B U L w :=
 ⟨h.os,h.tape,h.output,h.size,h.old,h.fro,h.le,h.src,fun r hr=>h.at_ r (nk _ hr),fun r hr=>h.own r (nk _ hr),fun i j r s b hi hj =>
  h.dj i j r s b (by rw [nG (nA.1 hi).1];exact hi) (by rw [nG (nA.1 hj).1];exact hj)⟩
theorem St.addLast (h:St B U L w) {r:Res} {b:Nat} (hr:r.At w) (hb:r.has b) (hf:U b=none) (hm:B.mine b) (hn:∀ s ∈ L,¬ s.has b) (hu:∀ c,r.has c->c=b:=by intro c hc;cases hc;rfl):St B U (L ++ [r]) w:=by
 refine ⟨h.os,h.tape,h.output,h.size,h.old,h.fro,h.le,h.src,fun s hs=>?_,fun s hs c hc=>?_,fun i j s u c hi hj hs hu'=>?_⟩
 ·rcases nZ.1 hs with hs | hs
  ·exact h.at_ s hs
  ·rw [nh.1 hs];exact hr
 ·rcases nZ.1 hs with hs | hs
  ·exact h.own s hs c hc
  ·rw [nh.1 hs] at hc
   obtain rfl:=hu c hc
   exact ⟨hf,hm⟩
 ·have at_:∀ (i:Nat) (s:Res),(L ++ [r])[i]?=some s->L[i]?=some s \/ (i=L.length/\s=r):=by
   intro i s hi
   rcases nT i L.length with hl | hl
   ·rw [nG hl] at hi;exact .inl hi
   ·rw [nH hl] at hi
    have hz:i - L.length=0:=by
     have:=(nA.1 hi).1
     simp at this
     omega
    rw [hz] at hi
    simp at hi
    exact .inr ⟨by omega,hi.symm⟩
  rcases at_ i s hi with h1 | ⟨h1,rfl⟩ <;> rcases at_ j u hj with h2 | ⟨h2,rfl⟩
  ·exact h.dj i j s u c h1 h2 hs hu'
  ·obtain rfl:=hu c hu'
   exact absurd hs (hn s (hH h1))
  ·obtain rfl:=hu c hs
   exact absurd hu' (hn u (hH h2))
  ·omega
theorem St.putObj {l:Nat} {o o2:Obj} (h:St B U (.obj l o :: L) w) (K:Keep w w' (·=l)) (h2:w'.heap[l]?=some o2):St B U (.obj l o2 :: L) w' :=
 h.set (k:=0) (r:=.obj l o) (r':=.obj l o2) rfl (K.weak fun b _ e=>by rw [e];rfl) h2 fun b hb=>.inl hb
theorem St.outObj {l:Nat} {o:Obj} (h:St B U (.obj l o :: L) w) (K:Keep w w' (·=l)):St B U L w':=by
 have hm:=h.own (.obj l o) (by simp) l rfl
 have h0:St B U L w:=h.drop 0
 refine h0.keepX K (fun b e=>by rw [e];exact hm) fun r hr b hb e=>?_
 subst e
 obtain ⟨i,hi⟩:=nI hr
 have:=h.dj 0 (i + 1) (.obj b o) r b rfl (by simpa using hi) rfl hb
 omega
theorem St.outs {rbs:List Nat} {d:Obj} (h:St B U (L ++ rbs.map fun rb=>.obj rb d) w) (K:Keep w w' (· ∈ rbs)):St B U L w':=by
 refine h.left.keepX K (fun b hb=>?_) fun r hr b hb hm=>?_
 ·exact h.own (.obj b d) (nv _ (kJ.2 ⟨b,hb,rfl⟩)) b rfl
 ·obtain ⟨i,hi⟩:=nI hr
  obtain ⟨j,hj⟩:=nI hm
  have hil:=(nA.1 hi).1
  have:=h.dj i (L.length + j) r (.obj b d) b (by rw [nG hil];exact hi) (by rw [nH (by omega),show L.length + j - L.length=j by omega,nS,hj];rfl) hb rfl
  omega
end
def LR (N:Nat) (σ:Env) (t:List Nat) (asg body:Code) (rb:Nat) (fn:FuncId) (s:LoopState) (pend:Option Code) (o:Obj):Prop :=
 ∃ a D,Rep N D a σ/\o=.loop { state:=s,pending:=pend,fn,tmps:=a.tmps,params:=t.toArray,assign:=asg,body,defers:=rb }
theorem LR.at_ {N:Nat} {σ:Env} {t:List Nat} {asg body:Code} {rb:Nat} {fn:FuncId} {s:LoopState} {pend:Option Code} {o:Obj} {w:World} {l:Nat} (h:LR N σ t asg body rb fn s pend o) (hw:w.heap[l]?=some o):LoopAt w l N σ t asg body rb fn s pend:=by
 obtain ⟨a,D,h1,rfl⟩:=h
 exact ⟨a,D,h1,hw⟩
theorem LR.of {N:Nat} {σ:Env} {t:List Nat} {asg body:Code} {rb:Nat} {fn:FuncId} {s:LoopState} {pend:Option Code} {w:World} {l:Nat} (h:LoopAt w l N σ t asg body rb fn s pend):∃ o,w.heap[l]?=some o/\LR N σ t asg body rb fn s pend o:=by
 obtain ⟨a,D,h1,h2⟩:=h
 exact ⟨_,h2,a,D,h1,rfl⟩
def YOK (P:Program) (l:Nat) {X S E:Type} (ar:PHeap->X->List Value->Prop) (PY:S->PHeap->List Res->Prop) (PE:E->PHeap->List Res->Prop) (f:S->X->Option (S ⊕ E)) (U0:PHeap):Prop :=
 ∀ U w s x vs r L,PHeap.Le U0 U->St ⟨w,L,U⟩ U L w->PY s U L->ar U x vs->f s x=some r ->
  Yd P l vs w fun b w'=>∃ U' L',St ⟨w,L,U⟩ U' L' w'/\(match r with | .inl s'=>b=true/\PY s' U' L' | .inr e=>b=false/\PE e U' L')
def ItS (w:World) (L:List Res) (U:PHeap) {S E:Type} (PY:S->PHeap->List Res->Prop) (PE:E->PHeap->List Res->Prop) (r:S ⊕ E):Value->World->Prop:=fun _ w' =>
 ∃ U' L',St ⟨w,L,U⟩ U' L' w'/\(match r with | .inl s=>PY s U' L' | .inr e=>PE e U' L')
section
variable {r:Option Nat} {N:Nat} {P:Program} {l:List Oper} {Q:wCd} {D:List Deferred} {ks:List Nat} {B:Base} {U:PHeap} {L:List Res} {σ:Env} {w:World} {i d:Nat} {o:Oper} {s:Sch} {X S E:Type} {ar:PHeap->X->List Value->Prop}
 {PY:S->PHeap->List Res->Prop} {PE:E->PHeap->List Res->Prop} {f:S->X->Option (S ⊕ E)}
theorem OKS.yieldT (n:Nat) {y:Nat} {x:Operand} {args:Array Operand} {ty:Array TypeId} {vs:List Value} {st:S} {a:X} {rr:S ⊕ E} {U0:PHeap} (ho:l[i]?=some o) (hd:o.dst=some d) (hN:nB d N=true) (hw:wanted l σ o=true)
  (hop:o.op=.call { callee:=.value x,args:=args,argTypes:=ty }) (hx:ev σ x=.func (.yield y) #[] #[]) (ha:args.toList.map (ev σ)=vs) (hS:St B U L w) (hY:YOK P y ar PY PE f U0) (hle:PHeap.Le U0 U) (hP:PY st U (L.drop n)) (har:ar U a vs) (hf:f st a=some rr) (hk:wFO (kOf ks i)=false)
  (k:∀ U' L' b w',PHeap.Le U U'->St B U' (L.take n ++ L') w'->(match rr with | .inl s'=>b=true/\PY s' U' L' | .inr e=>b=false/\PE e U' L')->OKS N P l Q D ks s (upd σ d (.bool b)) w'):OKS N P l Q D ks (.fx i s .stop) σ w:=by
 have Y:=hY U w st a vs rr _ hle (hS.enterT n) hP har hf
 have R:=Go.KX.Yd.rounds (σ:=σ) hop hx ha Y
 refine ⟨⟨o,ho,dlt hd hN,.inl ⟨hw,.inr (.inr (.inr (R.mono ?_)))⟩⟩,trivial⟩
 rintro v w' ⟨b,rfl,U',L',h1,h2⟩
 obtain ⟨h3,h4⟩:=hS.backT n h1
 exact ⟨KeepD.of (.inl hk),by rw [wCM hd];exact k U' L' b w' h4 h3 h2⟩
def wNx:Exit->Option Code
 | .ret=>some .ret
 | .exit i=>some (.exit i)
 | _=>none
theorem CK.rangeY {g:Operand} {t:List Nat} {asg body:Code} {fi:FuncId} {fl cl:List Value} {s0:S} {rr:S ⊕ E} {exO:E->Exit} (hx:ev σ g=.func (.func fi) fl.toArray cl.toArray)
  (hcall:∀ (args:Array Value) (w:World),(callFunc fi args).run P w=.ok (.enter fi args) w) (hS:St B U L w) (ht:∀ x ∈ t,x < N) (hlen:∀ U x vs,ar U x vs->t.length=vs.length) (hex:∀ e,exO e=.ret \/ ∃ i,exO e=.exit i) (h0:PY s0 U L)
  (hit:∀ (l:Nat) (w1:World) (L1:List Res) (PY':S->PHeap->List Res->Prop) (PE':E->PHeap->List Res->Prop),St ⟨w1,L1,U⟩ U L1 w1->PY' s0 U L1->YOK P l ar PY' PE' f U->Gv P fi (fl ++ [.func (.yield l) #[] #[]] ++ cl) w1 (ItS w1 L1 U PY' PE' rr))
  (hbody:∀ (l rb:Nat) (fn:FuncId) s x vs r U' L' w' o B',PHeap.Le U U'->St B' U' (.obj l o :: L') w'->PY s U' L'->ar U' x vs->f s x=some r->∀ σ0,(∀ i,σ0 i=wLf σ t vs i) ->
   CK (some l) N P asg (fun D' e σ1 w1=>e=.normal/\D'=[]/\∃ U1 L1,St B' U1 (.obj l o :: L1) w1/\∀ w2 o2,St B' U1 (.obj l o2 :: L1) w2 ->
    CK (some l) N P body (fun _ e2 _ w3=>∃ U3 L3,St B' U3 (.obj l o2 :: L3) w3/\(match r with | .inl s'=>e2=.normal/\PY s' U3 L3 | .inr e'=>e2=exO e'/\PE e' U3 L3)) [] σ1 w2) [] σ0 w')
  (hk:∀ rb U' L' w',PHeap.Le U U'->St B U' (L' ++ [.obj rb (.deferred (some []))]) w'->(match rr with | .inl s=>PY s U' L'->Q (Go.KX.mark rb :: D) .normal σ w' | .inr e=>PE e U' L'->Q (Go.KX.mark rb :: D) (exO e) σ w')) :
  CK none N P (.rangeFunc g t.toArray asg body) Q D σ w:=by
 refine Go.KX.CK.rangeFunc hx hcall fun fn l rb w1 e1 e2 hl hd K hs=>?_
 obtain ⟨o,ho,hLR⟩:=LR.of hl
 have hlt:l < w1.heap.size:=wAQ ho
 have hS0:=hS.grow K
 have hsz:∀ s ∈ L,∀ b,s.has b->b < w.heap.size:=fun s hs b hb=>(hS.at_ s hs).lt hb
 have hfree:∀ b,w.heap.size <= b->U b=none/\B.mine b:=fun b hb=>by
  refine ⟨?_,.inl (na hS.size hb)⟩
  cases e:U b with
  | none=>rfl
  | some x=>have:=wAQ (hS.fro b x e);omega
 have hS1:St B U (.obj l o :: L) w1:=by
  have h1:=hS0.addLast (r:=.obj l o) (b:=l) ho rfl (hfree l (by omega)).1 (hfree l (by omega)).2 fun s hs' e=>by have:=hsz s hs' l e;omega
  refine ⟨h1.os,h1.tape,h1.output,h1.size,h1.old,h1.fro,h1.le,h1.src,fun r hr=>h1.at_ r ?_,fun r hr=>h1.own r ?_,?_⟩
  ·rcases nK.1 hr with rfl | hr <;> simp [*]
  ·rcases nK.1 hr with rfl | hr <;> simp [*]
  ·intro i j r s b hi hj hr hs'
   cases i with
   | zero =>
    simp only [nX,nL] at hi;subst hi;cases hr
    cases j with
    | zero=>rfl
    | succ j=>have:=hsz s (hH (by simpa using hj)) _ hs';omega
   | succ i =>
    cases j with
    | zero=>simp only [nX,nL] at hj;subst hj;cases hs';have:=hsz r (hH (by simpa using hi)) _ hr;omega
    | succ j=>rw [hS0.dj i j r s b (by simpa using hi) (by simpa using hj) hr hs']
 have hS2:St B U ((.obj l o :: L) ++ [.obj rb (.deferred (some []))]) w1:=by
  refine hS1.addLast (b:=rb) hd rfl (hfree rb (by omega)).1 (hfree rb (by omega)).2 fun s hs' e=>?_
  rcases nK.1 hs' with rfl | hs'
  ·cases e;omega
  ·have:=hsz s hs' rb e;omega
 let PYl:S->PHeap->List Res->Prop:=fun s U L=>∃ o L',L=.obj l o :: L'/\LR N σ t asg body rb fn .ready none o/\PY s U L'
 let PEl:E->PHeap->List Res->Prop:=fun e U L=>∃ o L',L=.obj l o :: L'/\LR N σ t asg body rb fn .done (wNx (exO e)) o/\PE e U L'
 have hY:YOK P l ar PYl PEl f U:=by
  rintro U' w' s x vs r L3 hle hSt ⟨o',L',rfl,hLR',hP⟩ har hf
  refine Go.KX.Yd.of (hLR'.at_ (hSt.at_ (.obj l o') (by simp))) ht (hlen _ _ _ har) fun σ0 hσ0=>?_
  refine (hbody l rb fn s x vs r U' L' w' o' _ hle hSt hP har hf σ0 hσ0).mono ?_
  rintro D' e σ1 w1 ⟨rfl,rfl,U1,L1,hS1,hb⟩
  refine ⟨rfl,rfl,hLR'.at_ (hS1.at_ (.obj l o') (by simp)),fun w2 hl2 K2 _=>?_⟩
  obtain ⟨o2,ho2,hLR2⟩:=LR.of hl2
  refine (hb w2 o2 (hS1.putObj K2 ho2)).mono ?_
  rintro D2 e2 σ2 w3 ⟨U3,L3,hS3,hm⟩
  cases r with
  | inl s' =>
   obtain ⟨rfl,hP'⟩:=hm
   refine ⟨hLR2.at_ (hS3.at_ (.obj l o2) (by simp)),fun w4 hl4 K4 _=>?_⟩
   obtain ⟨o4,ho4,hLR4⟩:=LR.of hl4
   exact ⟨U3,_,hS3.putObj K4 ho4,rfl,o4,L3,rfl,hLR4,hP'⟩
  | inr e' =>
   obtain ⟨rfl,hP'⟩:=hm
   have fin:∀ w4 p,p=wNx (exO e')->LoopAt w4 l N σ t asg body rb fn .done p->Keep w3 w4 (·=l)->∃ U'' L'',St ⟨w',.obj l o' :: L',U'⟩ U'' L'' w4/\(false=false/\PEl e' U'' L''):=by
    rintro w4 p rfl hl4 K4
    obtain ⟨o4,ho4,hLR4⟩:=LR.of hl4
    exact ⟨U3,_,hS3.putObj K4 ho4,rfl,o4,L3,rfl,hLR4,hP'⟩
   have hB:=hLR2.at_ (hS3.at_ (.obj l o2) (by simp))
   rcases hex e' with he | ⟨i,he⟩
   ·rw [he] at fin ⊢
    exact ⟨hB,fun w4 hl4 K4 _=>fin w4 _ rfl hl4 K4⟩
   ·rw [he] at fin ⊢
    exact ⟨hB,fun w4 hl4 K4 _=>fin w4 _ rfl hl4 K4⟩
 have hE:St ⟨w1,.obj l o :: L,U⟩ U (.obj l o :: L) w1:=by have:=hS1.enterH (L.length + 1);simpa using this
 refine (hit l w1 (.obj l o :: L) PYl PEl hE ⟨o,L,rfl,hLR,h0⟩ hY).mono ?_
 rintro v w3 ⟨U',L3,g1,g2⟩
 obtain ⟨g3,g4⟩:=hS2.backH (L.length + 1) (own':=L3) (U':=U') (w':=w3) (by simpa using g1)
 have g3:St B U' (L3 ++ [.obj rb (.deferred (some []))]) w3:=by simpa using g3
 have hkk:=hk rb U'
 cases rr with
 | inl s' =>
  obtain ⟨o',L',rfl,hLR',hP⟩:=g2
  refine .inl ⟨hLR'.at_ (g3.at_ (.obj l o') (by simp)),fun w4 K4 _=>hkk L' w4 g4 ?_ hP⟩
  exact St.outObj (L:=L' ++ [.obj rb (.deferred (some []))]) (by simpa using g3) K4
 | inr e' =>
  obtain ⟨o',L',rfl,hLR',hP⟩:=g2
  refine .inr ⟨exO e',hex e',?_,fun w4 K4 _=>hkk L' w4 g4 ?_ hP⟩
  ·have:=hLR'.at_ (g3.at_ (.obj l o') (by simp))
   rcases hex e' with he | ⟨i,he⟩ <;> (rw [he] at this ⊢;exact this)
  ·exact St.outObj (L:=L' ++ [.obj rb (.deferred (some []))]) (by simpa using g3) K4
theorem wDD {rs:Array ResultVar} {R:Value->World->Prop} {rbs:List Nat} {e:Exit} (he:e=.normal \/ e=.ret) (hS:St B U (L ++ rbs.map fun rb=>.obj rb (.deferred (some []))) w)
  (k:∀ w',St B U L w'->∃ v,(wCK rs σ).run P w'=.ok v w'/\R v w'):retM P rs R (rbs.map Go.KX.mark) e σ w:=by
 have hn:rbs.Nodup:=by
  rw [List.Nodup,List.pairwise_iff_getElem]
  intro i j hi hj hij e
  have at_:∀ (i:Nat) (h:i < rbs.length),(L ++ rbs.map fun rb=>Res.obj rb (.deferred (some [])))[L.length + i]?=some (.obj rbs[i] (.deferred (some []))):=fun i h=>by
   rw [nH (by omega),show L.length + i - L.length=i by omega,nS,nD h]
   rfl
  have:=hS.dj _ _ _ _ rbs[i] (at_ i hi) (at_ j hj) rfl (by rw [e];rfl)
  omega
 have fin:∃ rbs':List Nat,rbs.map Go.KX.mark=rbs'.map Go.KX.mark/\rbs'.Nodup/\(∀ rb ∈ rbs',Dfr w rb)/\∀ w',Keep w w' (· ∈ rbs')->w'.heap.size=w.heap.size->∃ v,(wCK rs σ).run P w'=.ok v w'/\R v w' :=
  ⟨rbs,rfl,hn,fun rb hrb=>hS.at_ (.obj rb (.deferred (some []))) (nv _ (kJ.2 ⟨rb,hrb,rfl⟩)),fun w' K _=>k w' (hS.outs K)⟩
 rcases he with rfl | rfl
 ·exact fin
 ·exact fin
end
end Go.KL
