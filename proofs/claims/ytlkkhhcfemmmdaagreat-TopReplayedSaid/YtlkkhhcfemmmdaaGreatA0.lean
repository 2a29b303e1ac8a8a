import Derived.WalkKit
import Derived.TacticsIn
import Derived.OrdersIn
import Derived.RangeFuncIn
import Derived.RangeFuncLeaves
import Derived.LoopNIn
import Derived.Maps.AppendAt
import Derived.MapKept
import Derived.Laws.StructEq
import Derived.WideKeyRuns
import Derived.RangeFuncRecord
import Derived.Laws.MakeOwn
import Derived.ProofKit
import Derived.Deep.SlicePairs
import Derived.JoinedOf
import Derived.Lib.AppendZerosOnto
set_option linter.all false
open List renaming mem_of_getElem?->nA,getElem?_eq_some_iff->nB,getElem?_eq_getElem->nD,getElem?_append_right->nE,getElem?_append_left->nG,mem_cons->nH,getElem?_of_mem->nJ,getElem?_take->nM,all_eq_true->nO,getElem?_drop->nP,getElem?_cons_zero->nQ,flatMap->nT,contains_eq_mem->nU,flatMap_cons->nV,getElem?_map->nW,mem_append->nb,getElem?_toArray->ni,mem_singleton->nm,replicate->np,range->nq,length_append->nr,map->nt,mem_append_left->nu,mem_of_mem_eraseIdx->nv,length_take->nw,flatMap_append->ny,eq_nil_of_length_eq_zero->kA,getElem?_eq_none->kB,mem_append_right->kC,length_cons->kD,pairwise_append->kE,pairwise_cons->kM,mem_range->kO,map_toArray->kV,length_drop->kW,mem_map->kY,map_cons->ka,getD_eq_getElem?_getD->kb,nodup_append->ke,ext_getElem?->kf,flatten_cons->kg,drop_eq_getElem_cons->kh,mem_filter->kq,nodup_cons->kr,map_const'->kx,drop_eq_nil_of_le->aA,set_append_right->aB,mem_of_mem_drop->aC,mem_of_mem_take->aD,length_flatMap->aF,mergeSort_perm->aG,set_cons_succ->aJ,set_cons_zero->aK,size_toArray->aN,getElem?_set->aO,mapM_toArray->aP
open Nat renaming blt->nI,le_refl->nN,lt_or_ge->nX,eq_zero_or_pos->nY,blt_eq->nZ,mul_le_mul_right->na,le_trans->nc,add_mul->ng,le_of_mul_le_mul_right->nh,lt_of_lt_of_le->nj,beq->kG,mul_pos->kR,le_of_ble_eq_true->kX,zero_add->kZ,zero_mul->kl,le_mul_of_pos_right->km,zero_le->ky,add_zero->aH,lt_trans->aI,succ_mul->aL,le_succ->aQ,not_lt->aS
open Option.some renaming injEq->nK,inj->ku
open Array renaming getD_eq_getD_getElem?->nL,getElem?_eq_none->nz,all_eq_true_iff_forall_mem->kU,getElem?_eq_getElem->ki,getElem?_replicate->kj,replicate->ko
open Bool renaming and_eq_true->nR,not_eq_true'->nS,or_eq_true->kH,false_eq_true->kK
open Option renaming map_some->kJ,getD_some->kS,bind_some->aR
open Int renaming eq_ofNat_of_zero_le->kP,toNat_natCast->kQ
open Prod.mk renaming injEq->kc
open List.cons renaming injEq->kv
open Go.Value renaming slice->kz,int->aM,bool->aT
namespace Go.KL
open Go.RowKit
abbrev Env:=Nat->Value
def upd (σ:Env) (d:Nat) (v:Value):Env:=fun t=>bif kG t d then v else σ t
def ev (σ:Env):Operand->Value
 | .tmp t=>σ t
 | .const v=>v
 | .global g=>.pointer (some ⟨g,0,none⟩)
 | .func f=>.func (.func f) #[] #[]
def WF (r:Option Nat):Fence:={ fn:=fun _=>True,depth:=none,alive:=false,round:=r }
structure Rep (N:Nat) (D:List Deferred) (a:Act) (σ:Env):Prop where
 size:a.tmps.size=N
 defers:a.defers=D
 get:∀ t,a.tmps.getD t undef=σ t
theorem wEI (σ:Env) (d:Nat) (v:Value):upd σ d v d=v:=by simp [upd]
theorem wEU (σ:Env) {d t:Nat} (v:Value) (h:t ≠ d):upd σ d v t=σ t:=by
 unfold upd
 have:kG t d=false:=by
  cases hb:kG t d
  ·rfl
  ·exact absurd (Nat.eq_of_beq_eq_true hb) h
 simp [this]
theorem Rep.eval {N:Nat} {D:List Deferred} {a:Act} {σ:Env} (h:Rep N D a σ):a.eval=ev σ:=by
 funext x
 cases x with
 | tmp t=>exact h.get t
 | const v=>rfl
 | global g=>rfl
 | func f=>rfl
theorem Rep.put {N:Nat} {D:List Deferred} {a:Act} {σ:Env} (h:Rep N D a σ) {d:Nat} (hd:d < N) (v:Value):Rep N D (a.put (some d) v) (upd σ d v):=by
 refine ⟨by simp [Act.put,h.size],h.defers,fun t=>?_⟩
 by_cases e:t=d
 ·subst e
  rw [wEI]
  simp [Act.put,nL,h.size,hd]
 ·rw [wEU _ _ e,<- h.get t]
  simp only [Act.put,nL]
  rw [Array.getElem?_setIfInBounds_ne (fun e'=>e e'.symm)]
abbrev wDr:=List Deferred->Exit->Env->World->Prop
def wJC (N:Nat) (Q:wDr) (e:Exit) (a:Act) (w:World):Prop:=∃ σ D,Rep N D a σ/\Q D e σ w
def OK (r:Option Nat) (N:Nat) (P:Program) (ops:List Oper) (Q:wDr) (l:List Oper) (D:List Deferred) (σ:Env) (w:World):Prop :=
 ∀ a,Rep N D a σ->wpListIn (WF r) 0 P ops.toArray (wJC N Q) l a w
def CK (r:Option Nat) (N:Nat) (P:Program) (c:Code) (Q:wDr) (D:List Deferred) (σ:Env) (w:World):Prop :=
 ∀ a,Rep N D a σ->Code.wpIn (WF r) 0 P c (wJC N Q) a w
def wGC (K:List Deferred->Env->World->Prop) (Q:wDr):wDr:=fun D e σ w =>
 match e with
 | .normal=>K D σ w
 | e=>Q D e σ w
def wJL (id:Nat) (Q:wDr):wDr:=fun D e σ w =>
 match e with
 | .exit i=>if i=id then Q D .normal σ w else Q D (.exit i) σ w
 | e=>Q D e σ w
section rules
variable {r:Option Nat} {N:Nat} {P:Program} {Q:wDr} {D:List Deferred} {σ:Env} {w:World}
theorem CK.mono {c:Code} {Q':wDr} (h:CK r N P c Q D σ w) (hq:∀ D e σ w,Q D e σ w->Q' D e σ w):CK r N P c Q' D σ w :=
 fun a ha=>wpIn_mono (h a ha) fun _ _ _ ⟨σ,D,hr,q⟩=>⟨σ,D,hr,hq _ _ _ _ q⟩
theorem CK.seq {x y:Code} (h:CK r N P x (wGC (fun D σ w=>CK r N P y Q D σ w) Q) D σ w):CK r N P (.seq x y) Q D σ w:=by
 intro a ha
 refine wpIn_seq (wpIn_mono (h a ha) ?_)
 rintro e a w ⟨σ,D,hr,q⟩
 cases e with
 | normal=>exact q a hr
 | _=>exact ⟨σ,D,hr,q⟩
theorem CK.cut {x y:Code} (M:Env->World->Prop) (h1:CK r N P x (wGC (fun D' σ w=>D'=D/\M σ w) Q) D σ w)
  (h2:∀ σ w,M σ w->CK r N P y Q D σ w):CK r N P (.seq x y) Q D σ w:=by
 refine CK.seq (h1.mono ?_)
 intro D' e σ w q
 cases e with
 | normal=>obtain ⟨rfl,hm⟩:=q;exact h2 _ _ hm
 | _=>exact q
theorem CK.skip (h:Q D .normal σ w):CK r N P .skip Q D σ w:=fun _ ha=>wpIn_skip ⟨σ,D,ha,h⟩
theorem CK.label {l:Nat} (h:Q D .normal σ w):CK r N P (.label l) Q D σ w:=fun _ ha=>wpIn_label ⟨σ,D,ha,h⟩
theorem CK.exit {id:Nat} (h:Q D (.exit id) σ w):CK r N P (.exit id) Q D σ w:=fun _ ha=>wpIn_exit ⟨σ,D,ha,h⟩
theorem CK.ret (h:Q D .ret σ w):CK r N P .ret Q D σ w:=fun _ ha=>wpIn_ret ⟨σ,D,ha,h⟩
theorem CK.block {id:Nat} {c:Code} (h:CK r N P c (wJL id Q) D σ w):CK r N P (.block id c) Q D σ w:=by
 intro a ha
 refine wpIn_block (wpIn_mono (h a ha) ?_)
 rintro e a w ⟨σ,D,hr,q⟩
 cases e with
 | exit i =>
  simp only [wJL] at q
  simp only [Exit.inBlock]
  split
  ·rename_i h;rw [if_pos h] at q;exact ⟨σ,D,hr,q⟩
  ·rename_i h;rw [if_neg h] at q;exact ⟨σ,D,hr,q⟩
 | _=>exact ⟨σ,D,hr,q⟩
theorem CK.condT {c:Operand} {x y:Code} (hc:ev σ c=.bool true) (h:CK r N P x Q D σ w):CK r N P (.cond c x y) Q D σ w :=
 fun a ha=>wpIn_cond_true (by rw [ha.eval];exact hc) (h a ha)
theorem CK.condF {c:Operand} {x y:Code} (hc:ev σ c=.bool false) (h:CK r N P y Q D σ w):CK r N P (.cond c x y) Q D σ w :=
 fun a ha=>wpIn_cond_false (by rw [ha.eval];exact hc) (h a ha)
theorem CK.loopM {c:Code} (I:Nat->Env->World->Prop) {m:Nat} (h0:I m σ w)
  (h:∀ m σ w,I m σ w->CK r N P c (wGC (fun D' σ' w'=>D'=D/\∃ m',m' < m/\I m' σ' w') Q) D σ w):CK r N P (.loop c) Q D σ w:=by
 have key:∀ M m σ w,m < M->I m σ w->∀ a,Rep N D a σ->Code.roundsIn (WF r) 0 P c (wJC N Q) M a w:=by
  intro M
  induction M with
  | zero=>intro m _ _ hm;omega
  | succ M ih =>
   intro m σ w hm hI a ha
   rw [roundsIn_succ]
   refine wpIn_mono (h m σ w hI a ha) ?_
   rintro e a' w' ⟨σ',D',hr,q⟩
   cases e with
   | normal =>
    obtain ⟨rfl,m',hlt,hI'⟩:=q
    exact ih m' σ' w' (by omega) hI' a' hr
   | _=>exact ⟨σ',D',hr,q⟩
 exact fun a ha=>wpIn_loop_rounds (m + 1) (key (m + 1) m σ w (by omega) h0 a ha)
theorem wJb {K:List Deferred->Env->World->Prop} (h:K D σ w):wGC K Q D .normal σ w:=h
theorem wNn {K:List Deferred->Env->World->Prop} {i:Nat} (h:Q D (.exit i) σ w):wGC K Q D (.exit i) σ w:=h
theorem wNo {K:List Deferred->Env->World->Prop} (h:Q D .ret σ w):wGC K Q D .ret σ w:=h
theorem wMM {i:Nat} (h:Q D .normal σ w):wJL i Q D .normal σ w:=h
theorem wJc {i:Nat} (h:Q D .normal σ w):wJL i Q D (.exit i) σ w:=by show (if i=i then _ else _);rw [if_pos rfl];exact h
theorem wMN {i j:Nat} (h:Q D (.exit j) σ w) (hne:kG j i=false:=by rfl):wJL i Q D (.exit j) σ w:=by
 have:j ≠ i:=fun e=>by subst e;rw [Nat.beq_refl] at hne;cases hne
 show (if j=i then _ else _);rw [if_neg this];exact h
theorem wMO {i:Nat} (h:Q D .ret σ w):wJL i Q D .ret σ w:=h
theorem CK.region {id:Nat} {l:List Oper} (h:OK r N P l Q l D σ w):CK r N P (.region id l.toArray false) Q D σ w :=
 fun a ha=>wpIn_region_lit (h a ha)
theorem OK.nil {ops:List Oper} (h:Q D .normal σ w):OK r N P ops Q [] D σ w:=fun _ ha=>wpListIn_nil ⟨σ,D,ha,h⟩
theorem CK.fresh {c:Code} {σ:Env} (h:∀ σ',(∀ t,σ' t=σ t)->CK r N P c Q D σ' w):CK r N P c Q D σ w:=h σ fun _=>rfl
end rules
def wanted (ops:List Oper) (σ:Env) (o:Oper):Bool :=
 match o.guard with
 | none=>true
 | some (j,b)=>match (ops[j]?).bind (·.dst) with
  | some d=>match σ d with
   | .bool b'=>b' == b
   | _=>false
  | none=>false
def wGv:Op->Bool
 | .defer _=>false
 | _=>true
theorem wEf {N:Nat} {D:List Deferred} {a:Act} {σ:Env} (h:Rep N D a σ) (ops:List Oper) (o:Oper) (hw:wanted ops σ o=true) :
  Region.wanted o (yielded ops.toArray a.tmps)=true:=by
 unfold wanted at hw
 unfold Region.wanted
 cases hg:o.guard with
 | none=>rfl
 | some g =>
  obtain ⟨j,b⟩:=g
  simp only [hg] at hw ⊢
  unfold yielded
  simp only [ni]
  cases hd:(ops[j]?).bind (·.dst) with
  | none=>simp [hd] at hw
  | some d =>
   simp only [hd] at hw
   have hg':=h.get d
   rw [nL] at hg'
   simp only [aR]
   cases ht:a.tmps[d]? with
   | none =>
    rw [ht] at hg'
    simp only [Option.getD_none] at hg'
    rw [<- hg'] at hw
    simp [undef] at hw
   | some v =>
    rw [ht] at hg'
    simp only [kS] at hg'
    subst hg'
    cases hv:σ d <;> simp_all
theorem wGh {N:Nat} {D:List Deferred} {a:Act} {σ:Env} (h:Rep N D a σ) (ops:List Oper) (o:Oper) (hw:wanted ops σ o=false) :
  Region.wanted o (yielded ops.toArray a.tmps)=false:=by
 unfold wanted at hw
 unfold Region.wanted
 cases hg:o.guard with
 | none=>simp [hg] at hw
 | some g =>
  obtain ⟨j,b⟩:=g
  simp only [hg] at hw ⊢
  unfold yielded
  simp only [ni]
  cases hd:(ops[j]?).bind (·.dst) with
  | none=>simp
  | some d =>
   simp only [hd] at hw
   have hg':=h.get d
   rw [nL] at hg'
   simp only [aR]
   cases ht:a.tmps[d]? with
   | none=>simp
   | some v =>
    rw [ht] at hg'
    simp only [kS] at hg'
    subst hg'
    cases hv:σ d <;> simp_all
section ops
variable {r:Option Nat} {N:Nat} {P:Program} {ops:List Oper} {Q:wDr} {D:List Deferred} {σ:Env} {w w':World} {rest:List Oper} {o:Oper} {d:Nat}
def Runs (P:Program) (σ:Env) (w:World) (o:Oper) (v:Value) (w':World):Prop :=
 wGv o.op=true/\(execOp (ev σ) o).run P w=.ok (.value v) w'
def Does (P:Program) (σ:Env) (w:World) (o:Oper) (w':World):Prop :=
 wGv o.op=true/\(execOp (ev σ) o).run P w=.ok .skip w'
theorem semAt_eq (r:Option Nat) (ρ:Operand->Value) (o:Oper) (h:wGv o.op=true):o.semAt r ρ=execOp ρ o :=
 Oper.semAt_eq r ρ o fun c e=>by rw [e] at h;cases h
theorem OK.val {v:Value} (hw:wanted ops σ o=true) (hd:o.dst=some d) (hdN:nI d N=true) (hr:Runs P σ w o v w')
  (k:OK r N P ops Q rest D (upd σ d v) w'):OK r N P ops Q (o :: rest) D σ w:=by
 intro a ha
 have hdN':d < N:=by simpa [nZ] using hdN
 simp only [wpListIn,wEf ha ops o hw,if_true]
 refine ⟨fun _ _=>trivial,?_⟩
 rw [semAt_eq _ _ _ hr.1,ha.eval,hr.2]
 simp only [Oper.uponIn,hd]
 exact k _ (ha.put hdN' v)
theorem OK.unit (hw:wanted ops σ o=true) (hd:o.dst=none) (hr:Does P σ w o w')
  (k:OK r N P ops Q rest D σ w'):OK r N P ops Q (o :: rest) D σ w:=by
 intro a ha
 simp only [wpListIn,wEf ha ops o hw,if_true]
 refine ⟨fun _ _=>trivial,?_⟩
 rw [semAt_eq _ _ _ hr.1,ha.eval,hr.2]
 simp only [Oper.uponIn,hd,Act.put]
 exact k _ ha
theorem OK.valn {v:Value} (hw:wanted ops σ o=true) (hd:o.dst=none) (hr:Runs P σ w o v w')
  (k:OK r N P ops Q rest D σ w'):OK r N P ops Q (o :: rest) D σ w:=by
 intro a ha
 simp only [wpListIn,wEf ha ops o hw,if_true]
 refine ⟨fun _ _=>trivial,?_⟩
 rw [semAt_eq _ _ _ hr.1,ha.eval,hr.2]
 simp only [Oper.uponIn,hd,Act.put]
 exact k _ ha
theorem OK.pass (hw:wanted ops σ o=false) (hd:o.dst=some d) (hdN:nI d N=true)
  (k:OK r N P ops Q rest D (upd σ d undef) w):OK r N P ops Q (o :: rest) D σ w:=by
 intro a ha
 have hdN':d < N:=by simpa [nZ] using hdN
 simp only [wpListIn,wGh ha ops o hw,kK,if_false]
 refine ⟨fun _ _=>trivial,?_⟩
 rw [hd]
 exact k _ (ha.put hdN' _)
theorem OK.passn (hw:wanted ops σ o=false) (hd:o.dst=none)
  (k:OK r N P ops Q rest D σ w):OK r N P ops Q (o :: rest) D σ w:=by
 intro a ha
 simp only [wpListIn,wGh ha ops o hw,kK,if_false]
 refine ⟨fun _ _=>trivial,?_⟩
 rw [hd]
 exact k _ ha
def Gv (P:Program) (f:FuncId) (args:List Value) (w:World) (R:Value->World->Prop):Prop :=
 Calls P f args.toArray w fun e w'=>∃ v,e=.returned v/\R v w'
theorem Calls.mono' {f:FuncId} {args:Array Value} {R R':Ending->World->Prop} (h:Calls P f args w R) (hr:∀ e w',R e w'->R' e w'):Calls P f args w R' :=
 fun cs=>let ⟨e,w',fr,a,b⟩:=h cs;⟨e,w',fr,hr _ _ a,b⟩
theorem Gv.mono {f:FuncId} {args:List Value} {R R':Value->World->Prop} (h:Gv P f args w R) (hr:∀ v w',R v w'->R' v w'):Gv P f args w R' :=
 Calls.mono' h fun _ _ ⟨v,e,hR⟩=>⟨v,e,hr _ _ hR⟩
theorem wJd {F:Fence} {n:Nat} {l:Nat} {f:FuncId} {args:Array Value} {R:Ending->World->Prop} (h:CallsIn F n P f args w R):CallsIn (F.inRound l) n P f args w R:=h
theorem Gv.callsIn {f:FuncId} {args:List Value} {R:Value->World->Prop} (h:Gv P f args w R) (r:Option Nat) :
  CallsIn (WF r) 0 P f args.toArray w fun e w'=>∃ v,e=.returned v/\R v w':=by
 have h':CallsIn Fence.wide 0 P f args.toArray w fun e w'=>∃ v,e=.returned v/\R v w':=callsIn_wide.2 h
 cases r with
 | none=>exact h'
 | some l=>exact wJd (l:=l) h'
theorem wQw:nt (ev σ) []=[]:=rfl
theorem wNp {x:Operand} {l:List Operand} {v:Value} {vs:List Value} (h:ev σ x=v) (ht:nt (ev σ) l=vs):nt (ev σ) (x :: l)=v :: vs:=by
 rw [ka,h,ht]
def Enters (P:Program) (σ:Env) (w:World) (o:Oper) (f:FuncId) (args:List Value):Prop :=
 wGv o.op=true/\(execOp (ev σ) o).run P w=.ok (.enter f args.toArray) w
theorem Enters.mk {x:Operand} {l:List Operand} {ty:Array TypeId} {f:FuncId} {fl cl vs args:List Value}
  (ho:o.op=.call { callee:=.value x,args:=l.toArray,argTypes:=ty }) (hx:ev σ x=.func (.func f) fl.toArray cl.toArray)
  (hcall:∀ (args:Array Value) (w:World),(callFunc f args).run P w=.ok (.enter f args) w)
  (hl:nt (ev σ) l=vs) (ha:fl ++ vs ++ cl=args):Enters P σ w o f args:=by
 refine ⟨by rw [ho];rfl,?_⟩
 subst ha hl
 simp [execOp,ho,resolve,hx,Deferred.ofValue,invoke,hcall]
theorem OK.call {f:FuncId} {args:List Value} {R:Value->World->Prop} (hw:wanted ops σ o=true) (hd:o.dst=some d) (hdN:nI d N=true)
  (he:Enters P σ w o f args) (hf:Gv P f args w R)
  (k:∀ v w',R v w'->OK r N P ops Q rest D (upd σ d v) w'):OK r N P ops Q (o :: rest) D σ w:=by
 intro a ha
 have hdN':d < N:=by simpa [nZ] using hdN
 simp only [wpListIn,wEf ha ops o hw,if_true]
 refine ⟨fun _ _=>trivial,?_⟩
 rw [semAt_eq _ _ _ he.1,ha.eval,he.2]
 simp only [Oper.uponIn,hd]
 refine ⟨fun h=>(by cases h),?_⟩
 refine CallsIn.mono (hf.callsIn r) ?_
 rintro e w' ⟨v,rfl,hR⟩
 exact k v w' hR _ (ha.put hdN' v)
theorem OK.calln {f:FuncId} {args:List Value} {R:Value->World->Prop} (hw:wanted ops σ o=true) (hd:o.dst=none)
  (he:Enters P σ w o f args) (hf:Gv P f args w R)
  (k:∀ v w',R v w'->OK r N P ops Q rest D σ w'):OK r N P ops Q (o :: rest) D σ w:=by
 intro a ha
 simp only [wpListIn,wEf ha ops o hw,if_true]
 refine ⟨fun _ _=>trivial,?_⟩
 rw [semAt_eq _ _ _ he.1,ha.eval,he.2]
 simp only [Oper.uponIn,hd]
 refine ⟨fun h=>(by cases h),?_⟩
 refine CallsIn.mono (hf.callsIn r) ?_
 rintro e w' ⟨v,rfl,hR⟩
 exact k v w' hR _ ha
end ops
def wGw (σ:Env):ResultVar->Sem Value
 | .tmp t=>pure (σ t)
 | .cell a t=>do loadVar t (<- asAddr (σ a))
def wDm (rs:Array ResultVar) (σ:Env):Sem Value:=do
 let vs <- rs.mapM (wGw σ)
 pure (if h:vs.size=1 then vs[0] else .tuple vs)
theorem wGx {N:Nat} {D:List Deferred} {a:Act} {σ:Env} (h:Rep N D a σ) (fn:Func):results fn a.tmps=wDm fn.results σ:=by
 unfold results wDm
 congr 1
 congr 1
 funext x
 cases x with
 | tmp t=>simp only [h.get,wGw]
 | cell a t=>simp only [h.get,wGw]
def retQ (P:Program) (rs:Array ResultVar) (R:Value->World->Prop):wDr:=fun D e σ w =>
 match e with
 | .normal | .ret=>D=[]/\∃ v,(wDm rs σ).run P w=.ok v w/\R v w
 | _=>False
def wQx (args:List Value):Env:=fun t=>(args[t]?).getD undef
theorem wMP (args:List Value) (N:Nat) (h:args.length <= N) :
  Rep N [] { tmps:=args.toArray ++ ko (N - args.toArray.size) undef,defers:=[] } (wQx args):=by
 refine ⟨by simp;omega,rfl,fun t=>?_⟩
 simp only [nL,wQx]
 rw [Array.getElem?_append]
 split
 ·simp
 ·rename_i hge
  simp only [aN,aS] at hge
  rw [kB hge,kj]
  split <;> rfl
theorem Gv.of {P:Program} {f:FuncId} {fn:Func} {c:Code} {args:List Value} {w:World} {R:Value->World->Prop} {N:Nat} {rs:Array ResultVar}
  (hf:P.funcs[f]?=some fn) (hb:fn.body=some c) (hN:fn.ntmps=N) (hrs:fn.results=rs) (hle:Nat.ble args.length N=true)
  (h:CK none N P c (retQ P rs R) [] (wQx args) w):Gv P f args w R:=by
 refine callsIn_wide.1 (callsIn_of_wp hf hb trivial ?_ (n:=0))
 subst hN hrs
 refine wpIn_mono (h _ (wMP args _ (kX hle))) ?_
 rintro e a w ⟨σ,D,hr,q⟩
 cases e with
 | normal=>obtain ⟨rfl,v,hv,hR⟩:=q;exact ⟨hr.defers,v,by rw [wGx hr];exact hv,v,rfl,hR⟩
 | ret=>obtain ⟨rfl,v,hv,hR⟩:=q;exact ⟨hr.defers,v,by rw [wGx hr];exact hv,v,rfl,hR⟩
 | _=>exact q.elim
theorem wNE {P:Program} {σ:Env} {w:World}:(wDm #[] σ).run P w=.ok (.tuple #[]) w:=by simp [wDm]
theorem res1 {P:Program} {σ:Env} {w:World} {t:Nat} {v:Value} (h:σ t=v):(wDm #[.tmp t] σ).run P w=.ok v w:=by subst h;simp [wDm,wGw]
theorem wLV {P:Program} {σ:Env} {w:World} {t u:Nat} {x y:Value} (h:σ t=x) (h2:σ u=y):(wDm #[.tmp t,.tmp u] σ).run P w=.ok (.tuple #[x,y]) w:=by subst h h2;simp [wDm,wGw]
theorem res3 {P:Program} {σ:Env} {w:World} {t u s:Nat} {x y z:Value} (h:σ t=x) (h2:σ u=y) (h3:σ s=z):(wDm #[.tmp t,.tmp u,.tmp s] σ).run P w=.ok (.tuple #[x,y,z]) w:=by
 subst h h2 h3;simp [wDm,wGw]
structure TapeLe (w w':World):Prop where
 eq:w'.tape=w.tape
 le:w.drawn <= w'.drawn
theorem TapeLe.trans {a b c:World} (k:TapeLe b c) (h:TapeLe a b):TapeLe a c:=⟨k.eq.trans h.eq,nc h.le k.le⟩
theorem TapeLe.refl (w:World):TapeLe w w:=⟨rfl,nN _⟩
structure Keep (w w':World) (X:Nat->Prop):Prop where
 os:w'.os=w.os
 tape:TapeLe w w'
 output:w'.output=w.output
 size:w.heap.size <= w'.heap.size
 block:∀ k,k < w.heap.size->¬ X k->w'.heap[k]?=w.heap[k]?
abbrev Non:Nat->Prop:=fun _=>False
theorem Keep.refl (w:World) (X:Nat->Prop):Keep w w X:=⟨rfl,TapeLe.refl w,rfl,nN _,fun _ _ _=>rfl⟩
theorem Keep.step {a b c:World} {X Y:Nat->Prop} (h:Keep a b X) (k:Keep b c Y) (hs:∀ i,i < a.heap.size->Y i->X i):Keep a c X :=
 ⟨k.os.trans h.os,k.tape.trans h.tape,k.output.trans h.output,nc h.size k.size,fun i hi hx =>
  (k.block i (nj hi h.size) (fun hy=>hx (hs i hi hy))).trans (h.block i hi hx)⟩
theorem Keep.non {a b c:World} {X:Nat->Prop} (h:Keep a b X) (k:Keep b c Non):Keep a c X:=h.step k fun _ _ h=>h.elim
theorem Keep.weak {a b:World} {X Y:Nat->Prop} (h:Keep a b Y) (hs:∀ i,i < a.heap.size->Y i->X i):Keep a b X :=
 ⟨h.os,h.tape,h.output,h.size,fun i hi hx=>h.block i hi fun hy=>hx (hs i hi hy)⟩
theorem Keep.below {a b:World} (h:Keep a b Non):Below a.heap.size a b:=⟨h.os,h.tape.eq,h.output,h.size,fun k hk=>h.block k hk id⟩
theorem Keep.drew (w:World):Keep w { w with drawn:=w.drawn + 1 } Non:=⟨rfl,⟨rfl,aQ _⟩,rfl,nN _,fun _ _ _=>rfl⟩
def Blk (w:World) (b:Nat) (T:TypeId) (l:List Value):Prop:=w.heap[b]?=some (.cells l.toArray T (0,0))
theorem Blk.lt {w:World} {b:Nat} {T:TypeId} {l:List Value} (h:Blk w b T l):b < w.heap.size:=by
 rcases nX b w.heap.size with hlt | hge
 ·exact hlt
 ·unfold Blk at h;rw [nz hge] at h;cases h
theorem Blk.keep {w w':World} {b:Nat} {T:TypeId} {l:List Value} {X:Nat->Prop} (h:Blk w b T l) (k:Keep w w' X) (hx:¬ X b):Blk w' b T l:=(k.block b h.lt hx).trans h
theorem Blk.non {w w':World} {b:Nat} {T:TypeId} {l:List Value} (h:Blk w b T l) (k:Keep w w' Non):Blk w' b T l:=h.keep k id
theorem Blk.cell {w:World} {b off:Nat} {T:TypeId} {l:List Value} {v:Value} (h:Blk w b T l) (hv:l[off]?=some v):w.cell? ⟨b,off,none⟩=some v:=by
 unfold Blk at h
 simp [World.cell?,h,hv]
theorem Blk.frozen {w:World} {b off:Nat} {T:TypeId} {l:List Value} (h:Blk w b T l):w.frozen? ⟨b,off,none⟩=false:=by
 unfold Blk at h
 simp [World.frozen?,h]
theorem wAq (w:World) (o:Obj):Keep w (w.alloc o) Non:=⟨rfl,⟨rfl,nN _⟩,rfl,by simp,fun k hk _=>Below.heap_alloc w o k hk⟩
theorem wEg (w:World) (l:List Value) (T:TypeId):Blk (w.alloc (.cells l.toArray T)) w.heap.size T l:=by
 unfold Blk
 show (w.heap.push _)[w.heap.size]?=_
 simp
theorem wJM (w:World) (o:Obj):(w.alloc o).heap.size=w.heap.size + 1:=by simp
theorem wKU (w:World) (b off:Nat) (v:Value):Keep w (w.setCell ⟨b,off,none⟩ v) (·=b) :=
 ⟨rfl,⟨rfl,nN _⟩,rfl,by simp [World.setCell],fun k _ hx=>Below.heap_setCell w _ v k hx⟩
theorem wLW {w:World} {b:Nat} {T:TypeId} {l:List Value} (h:Blk w b T l) (off:Nat) (v:Value):Blk (w.setCell ⟨b,off,none⟩ v) b T (l.set off v):=by
 unfold Blk at h ⊢
 simp [World.setCell,Array.getElem?_modify,h]
theorem wKV (w:World) (a:Addr) (v:Value):(w.setCell a v).heap.size=w.heap.size:=by simp [World.setCell]
def wEw:List Value->Nat->List Value->List Value
 | l,_,[]=>l
 | l,off,v :: vs=>wEw (l.set off v) (off + 1) vs
theorem wCS (l:List Value) (off:Nat) (vs:List Value):(wEw l off vs).length=l.length:=by
 induction vs generalizing l off with
 | nil=>rfl
 | cons v vs ih=>simp [wEw,ih]
def one (v:Value):Bool :=
 match v with
 | .agg _ | .tuple _=>false
 | _=>true
theorem wNF {P:Program} {w:World} {b off:Nat} {T:TypeId} {l:List Value} {v:Value} (h:Blk w b T l) (hlt:off < l.length) (h1:one v=true) :
  (store ⟨b,off,none⟩ v).run P w=.ok () (w.setCell ⟨b,off,none⟩ v):=by
 have hc:w.cell? ⟨b,off,none⟩=some (l[off]'hlt):=h.cell (nD hlt)
 have hf:=h.frozen (off:=off)
 cases v <;> simp [store,Sem.run,hc,hf,one] at h1 ⊢
theorem wDG {P:Program} {b:Nat} {T:TypeId} (off:Nat) (vs:List Value):∀ (i:Nat) (l:List Value) (w:World),Blk w b T l->off + i + vs.length <= l.length->(∀ v ∈ vs,one v=true) ->
  ∃ w',(storeCells ⟨b,off,none⟩ vs i).run P w=.ok () w'/\Blk w' b T (wEw l (off + i) vs)/\Keep w w' (·=b)/\w'.heap.size=w.heap.size:=by
 induction vs with
 | nil=>intro i l w h _ _;exact ⟨w,by simp [storeCells],h,Keep.refl _ _,rfl⟩
 | cons v vs ih =>
  intro i l w h hle h1
  have hlt:off + i < l.length:=by simp at hle;omega
  have hs:=wNF (P:=P) h hlt (h1 v (by simp))
  obtain ⟨w',h2,h3,h4,h5⟩:=ih (i + 1) (l.set (off + i) v) _ (wLW h (off + i) v) (by simp at hle ⊢;omega) (fun u hu=>h1 u (by simp [hu]))
  refine ⟨w',?_,h3,(wKU w b (off + i) v).step h4 (fun _ _ h=>h),by rw [h5,wKV]⟩
  have ha:Addr.add ⟨b,off,none⟩ i=⟨b,off + i,none⟩:=by unfold Addr.add;split <;> simp_all
  simp only [storeCells,Sem.run_bind,ha,hs,Result.andThen_ok]
  exact h2
section
variable {r:Option Nat} {N:Nat} {P:Program} {ops:List Oper} {Q:wDr} {D:List Deferred} {σ:Env} {w w':World} {rest:List Oper} {o:Oper} {d:Nat}
theorem Runs.mv {x:Operand} {v:Value} (ho:o.op=.move x) (hx:ev σ x=v):Runs P σ w o v w:=⟨by rw [ho];rfl,by simp [execOp,ho,hx]⟩
theorem Runs.as {x:Operand} {v:Value} (ho:o.op=.assign x) (hx:ev σ x=v):Runs P σ w o v w:=⟨by rw [ho];rfl,by simp [execOp,ho,hx]⟩
theorem Runs.pickT {c x y:Operand} {v:Value} (ho:o.op=.pick c x y) (hc:ev σ c=.bool true) (hx:ev σ x=v):Runs P σ w o v w:=⟨by rw [ho];rfl,by simp [execOp,ho,hc,hx,asBool]⟩
theorem Runs.pickF {c x y:Operand} {v:Value} (ho:o.op=.pick c x y) (hc:ev σ c=.bool false) (hx:ev σ y=v):Runs P σ w o v w:=⟨by rw [ho];rfl,by simp [execOp,ho,hc,hx,asBool]⟩
theorem Runs.ext {x:Operand} {i:Nat} {vs:Array Value} {v:Value} (ho:o.op=.extract x i) (hx:ev σ x=.tuple vs) (hv:vs[i]?=some v):Runs P σ w o v w :=
 ⟨by rw [ho];rfl,by simp [execOp,ho,Instr.extract,hx,hv]⟩
theorem Runs.nilp {x:Operand} {a:Addr} (ho:o.op=.nilCheck x) (hx:ev σ x=.pointer (some a)):Runs P σ w o (.pointer (some a)) w :=
 ⟨by rw [ho];rfl,by simp [execOp,ho,hx]⟩
theorem Runs.nilf {x:Operand} {f:FuncId} {a b:Array Value} (ho:o.op=.nilCheck x) (hx:ev σ x=.func (.func f) a b):Runs P σ w o (.func (.func f) a b) w :=
 ⟨by rw [ho];rfl,by simp [execOp,ho,hx]⟩
theorem Runs.nily {x:Operand} {f:Nat} {a b:Array Value} (ho:o.op=.nilCheck x) (hx:ev σ x=.func (.yield f) a b):Runs P σ w o (.func (.yield f) a b) w :=
 ⟨by rw [ho];rfl,by simp [execOp,ho,hx]⟩
theorem Runs.mkf {fn:Go.Fn} {fl cl:List Operand} {fv cv:List Value} (ho:o.op=.makeFunc fn fl.toArray cl.toArray) (hf:nt (ev σ) fl=fv) (hc:nt (ev σ) cl=cv):Runs P σ w o (.func fn fv.toArray cv.toArray) w :=
 ⟨by rw [ho];rfl,by subst hf hc;simp [execOp,ho,Instr.makeFunc]⟩
theorem wFa (b off n:Nat):Addr.add ⟨b,off,none⟩ n=⟨b,off + n,none⟩:=by unfold Addr.add;split <;> simp_all
theorem Runs.ld {t:TypeId} {x:Operand} {a:Addr} {v:Value} (ho:o.op=.load t x) (hx:ev σ x=.pointer (some a)) (hag:∀ w,(isAgg t).run P w=.ok false w) (hc:w.cell? a=some v):Runs P σ w o v w :=
 ⟨by rw [ho];rfl,by simp [execOp,ho,Instr.loadAt,hx,Instr.sureAddr,loadVar,hag,load,Sem.run,hc]⟩
theorem wHY {P:Program} {w:World} {b off:Nat} (vs:List Value):∀ (i:Nat) (acc:Array Value),(∀ j v,vs[j]?=some v->w.cell? ⟨b,off + i + j,none⟩=some v) ->
  (loadCellsFrom ⟨b,off,none⟩ i vs.length acc).run P w=.ok (acc ++ vs.toArray) w:=by
 induction vs with
 | nil=>intro i acc _;simp [loadCellsFrom]
 | cons v vs ih =>
  intro i acc h
  have h0:=h 0 v rfl
  simp only [aH] at h0
  have:=ih (i + 1) (acc.push v) (fun j u hu=>by have:=h (j + 1) u (by simpa using hu);rw [show off + (i + 1) + j=off + i + (j + 1) from by omega];exact this)
  simp only [kD,loadCellsFrom,Sem.run_bind,wFa]
  simp only [load,Sem.run,h0,Result.andThen_ok]
  rw [this]
  simp
theorem run_loadCells {P:Program} {w:World} {b off n:Nat} (vs:List Value) (hn:vs.length=n) (h:∀ j v,vs[j]?=some v->w.cell? ⟨b,off + j,none⟩=some v) :
  (loadCells ⟨b,off,none⟩ n).run P w=.ok vs.toArray w:=by
 subst hn
 have:=wHY (P:=P) (w:=w) (b:=b) (off:=off) vs 0 #[] (by simpa using h)
 simpa [loadCells] using this
theorem Runs.ldA {t:TypeId} {x:Operand} {b off n:Nat} {vs:List Value} (ho:o.op=.load t x) (hx:ev σ x=.pointer (some ⟨b,off,none⟩)) (hag:∀ w,(isAgg t).run P w=.ok true w)
  (hsz:∀ w,(sizeOf t).run P w=.ok n w) (hn:vs.length=n) (h:∀ j v,vs[j]?=some v->w.cell? ⟨b,off + j,none⟩=some v):Runs P σ w o (.agg vs.toArray) w :=
 ⟨by rw [ho];rfl,by simp [execOp,ho,Instr.loadAt,hx,Instr.sureAddr,loadVar,hag,hsz,run_loadCells vs hn h]⟩
theorem Blk.cells {w:World} {b off n:Nat} {T:TypeId} {l vs:List Value} (h:Blk w b T l) (hv:(l.drop off).take n=vs):∀ j v,vs[j]?=some v->w.cell? ⟨b,off + j,none⟩=some v:=by
 intro j v hj
 subst hv
 refine h.cell ?_
 rw [nM] at hj
 split at hj
 ·rwa [nP] at hj
 ·cases hj
theorem Runs.ldB {t T:TypeId} {x:Operand} {b off:Nat} {l:List Value} {v:Value} (ho:o.op=.load t x) (hx:ev σ x=.pointer (some ⟨b,off,none⟩)) (hag:∀ w,(isAgg t).run P w=.ok false w)
  (hB:Blk w b T l) (hv:l[off]?=some v):Runs P σ w o v w:=Runs.ld ho hx hag (hB.cell hv)
theorem Runs.ldBA {t T:TypeId} {x:Operand} {b off n:Nat} {l vs:List Value} (ho:o.op=.load t x) (hx:ev σ x=.pointer (some ⟨b,off,none⟩)) (hag:∀ w,(isAgg t).run P w=.ok true w)
  (hsz:∀ w,(sizeOf t).run P w=.ok n w) (hB:Blk w b T l) (hv:(l.drop off).take n=vs) (hn:vs.length=n):Runs P σ w o (.agg vs.toArray) w :=
 Runs.ldA ho hx hag hsz hn (hB.cells hv)
theorem Runs.fa {s:TypeId} {x:Operand} {i b off n:Nat} {fs:Array Field} {fl:Field} (ho:o.op=.fieldAddr s x i) (hx:ev σ x=.pointer (some ⟨b,off,none⟩))
  (hs:∀ w,(underlying s).run P w=.ok (.struct fs) w) (hf:fs[i]?=some fl) (hsz:∀ w,(sizeOf fl.type).run P w=.ok (n + 1) w):Runs P σ w o (.pointer (some ⟨b,off + fl.offset,none⟩)) w :=
 ⟨by rw [ho];rfl,by simp [execOp,ho,Instr.fieldAt,hs,hf,hx,Instr.sureAddr,fieldPlace,hsz,wFa]⟩
theorem Runs.ia {t e:TypeId} {x y:Operand} {b off len cap sz:Nat} {i:Int} (ho:o.op=.indexAddr t x y) (hx:ev σ x=.slice (some ⟨b,off,none⟩) len cap) (hy:ev σ y=.int .i64 i)
  (ht:∀ w,(underlying t).run P w=.ok (.slice e) w) (hsz:∀ w,(sizeOf e).run P w=.ok sz w) (h0:0 <= i) (h1:i < len):Runs P σ w o (.pointer (some ⟨b,off + i.toNat * sz,none⟩)) w :=
 ⟨by rw [ho];rfl,by simp [execOp,ho,Instr.indexAt,hx,hy,asIntOf,ht,hsz,h0,h1,wFa]⟩
theorem Runs.iaA {t e:TypeId} {x y:Operand} {b off len sz:Nat} {i:Int} (ho:o.op=.indexAddr t x y) (hx:ev σ x=.pointer (some ⟨b,off,none⟩)) (hy:ev σ y=.int .i64 i)
  (ht:∀ w,(underlying t).run P w=.ok (.array len e) w) (hsz:∀ w,(sizeOf e).run P w=.ok sz w) (h0:0 <= i) (h1:i < len):Runs P σ w o (.pointer (some ⟨b,off + i.toNat * sz,none⟩)) w :=
 ⟨by rw [ho];rfl,by simp [execOp,ho,Instr.indexAt,Instr.sureAddr,hx,hy,asIntOf,ht,hsz,h0,h1,wFa]⟩
theorem wEx {P:Program} {w:World} {e n off:Nat} {cs vs:List Value} (hag:∀ w,(isAgg e).run P w=.ok true w) (hsz:∀ w,(sizeOf e).run P w=.ok n w) (hv:(cs.drop off).take n=vs) :
  (part e cs.toArray off).run P w=.ok (.agg vs.toArray) w:=by
 subst hv
 simp [part,hag,hsz,List.extract_eq_take_drop]
theorem wEJ {P:Program} {w:World} {e off:Nat} {cs:List Value} {v:Value} (hag:∀ w,(isAgg e).run P w=.ok false w) (hv:cs[off]?=some v) :
  (part e cs.toArray off).run P w=.ok v w:=by
 simp [part,hag,hv]
theorem Runs.ixA {t e:TypeId} {x y:Operand} {len sz:Nat} {i:Int} {cs:List Value} {v:Value} (ho:o.op=.index t x y) (hx:ev σ x=.agg cs.toArray) (hy:ev σ y=.int .i64 i)
  (ht:∀ w,(underlying t).run P w=.ok (.array len e) w) (hsz:∀ w,(sizeOf e).run P w=.ok sz w) (h0:0 <= i) (h1:i < len) (hp:(part e cs.toArray (i.toNat * sz)).run P w=.ok v w):Runs P σ w o v w :=
 ⟨by rw [ho];rfl,by simp [execOp,ho,Instr.index,hx,hy,asIntOf,ht,hsz,h0,h1,hp]⟩
theorem Runs.fld {s:TypeId} {x:Operand} {i:Nat} {fs:Array Field} {fl:Field} {cs:List Value} {v:Value} (ho:o.op=.field s x i) (hx:ev σ x=.agg cs.toArray)
  (hs:∀ w,(underlying s).run P w=.ok (.struct fs) w) (hf:fs[i]?=some fl) (hp:(part fl.type cs.toArray fl.offset).run P w=.ok v w):Runs P σ w o v w :=
 ⟨by rw [ho];rfl,by simp [execOp,ho,Instr.field,hs,hf,hx,asAgg,hp]⟩
theorem Runs.not {t:TypeId} {x:Operand} {b:Bool} (ho:o.op=.unOp .not t x) (hx:ev σ x=.bool b):Runs P σ w o (.bool !b) w :=
 ⟨by rw [ho];rfl,by simp [execOp,ho,hx,Op.unary]⟩
theorem Runs.lss {t u:TypeId} {k:IntKind} {x y:Operand} {m n:Int} (ho:o.op=.binOp .lss t x y u) (hx:ev σ x=.int k m) (hy:ev σ y=.int k n):Runs P σ w o (.bool (decide (m < n))) w :=
 ⟨by rw [ho];rfl,by simp [execOp,ho,hx,hy,binOp,eqGuard,Op.intCmp]⟩
theorem Runs.leq {t u:TypeId} {k:IntKind} {x y:Operand} {m n:Int} (ho:o.op=.binOp .leq t x y u) (hx:ev σ x=.int k m) (hy:ev σ y=.int k n):Runs P σ w o (.bool (decide (m <= n))) w :=
 ⟨by rw [ho];rfl,by simp [execOp,ho,hx,hy,binOp,eqGuard,Op.intCmp]⟩
theorem Runs.gtr {t u:TypeId} {k:IntKind} {x y:Operand} {m n:Int} (ho:o.op=.binOp .gtr t x y u) (hx:ev σ x=.int k m) (hy:ev σ y=.int k n):Runs P σ w o (.bool (decide (n < m))) w :=
 ⟨by rw [ho];rfl,by simp [execOp,ho,hx,hy,binOp,eqGuard,Op.intCmp]⟩
theorem Runs.geq {t u:TypeId} {k:IntKind} {x y:Operand} {m n:Int} (ho:o.op=.binOp .geq t x y u) (hx:ev σ x=.int k m) (hy:ev σ y=.int k n):Runs P σ w o (.bool (decide (n <= m))) w :=
 ⟨by rw [ho];rfl,by simp [execOp,ho,hx,hy,binOp,eqGuard,Op.intCmp]⟩
theorem wLX (m n:Int):(m == n)=decide (m=n):=by by_cases h:m=n <;> simp [h]
theorem Runs.eql {t u:TypeId} {k:IntKind} {x y:Operand} {m n:Int} (ho:o.op=.binOp .eql t x y u) (hx:ev σ x=.int k m) (hy:ev σ y=.int k n):Runs P σ w o (.bool (decide (m=n))) w :=
 ⟨by rw [ho];rfl,by simp [execOp,ho,hx,hy,binOp,eqGuard,Op.intCmp,wLX]⟩
theorem Runs.neq {t u:TypeId} {k:IntKind} {x y:Operand} {m n:Int} (ho:o.op=.binOp .neq t x y u) (hx:ev σ x=.int k m) (hy:ev σ y=.int k n):Runs P σ w o (.bool (decide (m ≠ n))) w :=
 ⟨by rw [ho];rfl,by simp [execOp,ho,hx,hy,binOp,eqGuard,Op.intCmp,bne,wLX]⟩
theorem Runs.to {v v':Value} (h:Runs P σ w o v w') (e:v=v'):Runs P σ w o v' w':=e ▸ h
theorem wTs {p:Prop} [Decidable p] (h:p):aT (decide p)=.bool true:=by simp [h]
theorem wTt {p:Prop} [Decidable p] (h:¬ p):aT (decide p)=.bool false:=by simp [h]
theorem Runs.len {t e:TypeId} {x:Operand} {a:Option Addr} {n c:Nat} (ho:o.op=.call { callee:=.builtin .len,args:=#[x],argTypes:=#[t] }) (hx:ev σ x=.slice a n c)
  (ht:∀ w,(underlying t).run P w=.ok (.slice e) w):Runs P σ w o (.int .i64 n) w :=
 ⟨by rw [ho];rfl,by simp [execOp,ho,resolve,invoke,builtin,Builtin.len_,hx,ht,goInt]⟩
end
def wTu (o:Oper):List Nat:=(o.after.toList.filter (Region.binds .any)).map (·.on)
def Rounds (P:Program) (σ:Env) (w:World) (o:Oper) (R:Value->World->Prop):Prop :=
 wGv o.op=true/\∃ l f tmps asg body,(execOp (ev σ) o).run P w=.ok (.round l f tmps asg body) w/\RoundIn (WF none) 0 P l f tmps asg body w fun e w'=>∃ v,e=.returned v/\R v w'
theorem Rounds.mono {P:Program} {σ:Env} {w:World} {o:Oper} {R R':Value->World->Prop} (h:Rounds P σ w o R) (hR:∀ v w',R v w'->R' v w'):Rounds P σ w o R':=by
 obtain ⟨h1,l,f,t,a,b,h2,h3⟩:=h
 exact ⟨h1,l,f,t,a,b,h2,h3.mono fun e w' ⟨v,e1,e2⟩=>⟨v,e1,hR _ _ e2⟩⟩
theorem wGi {P:Program} {l:Nat} {f:FuncId} {tmps:Array Value} {asg body:Code} {w:World} {R:Ending->World->Prop} (h:RoundIn (WF none) 0 P l f tmps asg body w R) (r:Option Nat):RoundIn (WF r) 0 P l f tmps asg body w R:=h
theorem OK.round {r:Option Nat} {N:Nat} {P:Program} {ops:List Oper} {Q:wDr} {D:List Deferred} {σ:Env} {w:World} {rest:List Oper} {o:Oper} {d:Nat} {R:Value->World->Prop}
  (hw:wanted ops σ o=true) (hd:o.dst=some d) (hdN:nI d N=true) (hr:Rounds P σ w o R) (k:∀ v w',R v w'->OK r N P ops Q rest D (upd σ d v) w'):OK r N P ops Q (o :: rest) D σ w:=by
 intro a ha
 have hdN':d < N:=by simpa [nZ] using hdN
 obtain ⟨h1,l,f,t,as,b,h2,h3⟩:=hr
 simp only [wpListIn,wEf ha ops o hw,if_true]
 refine ⟨fun _ _=>trivial,?_⟩
 rw [semAt_eq _ _ _ h1,ha.eval,h2]
 simp only [Oper.uponIn,hd]
 refine ⟨fun h=>(by cases h),?_⟩
 refine RoundIn.mono (wGi h3 r) ?_
 rintro e w' ⟨v,rfl,hR⟩
 exact k v w' hR _ (ha.put hdN' _)
theorem OK.roundn {r:Option Nat} {N:Nat} {P:Program} {ops:List Oper} {Q:wDr} {D:List Deferred} {σ:Env} {w:World} {rest:List Oper} {o:Oper} {R:Value->World->Prop}
  (hw:wanted ops σ o=true) (hd:o.dst=none) (hr:Rounds P σ w o R) (k:∀ v w',R v w'->OK r N P ops Q rest D σ w'):OK r N P ops Q (o :: rest) D σ w:=by
 intro a ha
 obtain ⟨h1,l,f,t,as,b,h2,h3⟩:=hr
 simp only [wpListIn,wEf ha ops o hw,if_true]
 refine ⟨fun _ _=>trivial,?_⟩
 rw [semAt_eq _ _ _ h1,ha.eval,h2]
 simp only [Oper.uponIn,hd]
 refine ⟨fun h=>(by cases h),?_⟩
 refine RoundIn.mono (wGi h3 r) ?_
 rintro e w' ⟨v,rfl,hR⟩
 exact k v w' hR _ ha
def Step1 (P:Program) (ops:List Oper) (o:Oper) (σ:Env) (w:World) (R:Value->World->Prop):Prop :=
 (wanted ops σ o=true/\((o.dst=none/\∃ w',Does P σ w o w'/\R undef w') \/ (∃ v w',Runs P σ w o v w'/\R v w') \/ (∃ f args R',Enters P σ w o f args/\Gv P f args w R'/\∀ v w',R' v w'->R v w') \/ Rounds P σ w o R)) \/
 (wanted ops σ o=false/\R undef w)
theorem Keep.trans' {a b c:World} {X:Nat->Prop} (h:Keep a b X) (k:Keep b c X):Keep a c X:=h.step k fun _ _ h=>h
def put' (σ:Env) (o:Oper) (v:Value):Env :=
 match o.dst with
 | some d=>upd σ d v
 | none=>σ
def wFb (P:Program) (σ:Env) (w:World) (o:Oper) (v:Value):Prop:=∀ w',Keep w w' Non->Runs P σ w' o v w'
inductive Sch
 | nil
 | stop
 | fl (i:Nat) (s:Sch)
 | fx (i:Nat) (s alt:Sch)
def kOf (ks:List Nat) (i:Nat):Nat:=ks.getD i 0
def wQy (ks:List Nat) (i:Nat):Bool:=kOf ks i == 1 || kOf ks i == 3 || kOf ks i == 1004
def InL (T:List Nat) (b:Nat):Prop:=b ∈ T
def OutL (T:List Nat) (b:Nat):Prop:=b ∉ T
def chg (l:List Oper) (ks:List Nat):Nat->Prop:=bif kG (kOf ks (l.length - 1)) 1006 then OutL (ks.drop l.length) else InL (ks.drop l.length)
def wTv (k:Nat):Bool:=kG k 3 || kG k 1004
def wGD (k:Nat):Bool:=kG k 2 || kG k 1005
def KeepD (l:List Oper) (ks:List Nat) (i:Nat) (w w':World):Prop:=(kOf ks i=2->Keep w w' Non)/\(kOf ks i=1005->Keep w w' (chg l ks))
theorem KeepD.of {l:List Oper} {ks:List Nat} {i:Nat} {w w':World} (h:wGD (kOf ks i)=false \/ Keep w w' Non):KeepD l ks i w w':=by
 refine ⟨fun e=>?_,fun e=>?_⟩
 ·rcases h with h | h
  ·rw [e] at h;cases h
  ·exact h
 ·rcases h with h | h
  ·rw [e] at h;cases h
  ·exact h.weak fun _ _ hx=>hx.elim
theorem KeepD.refl (l:List Oper) (ks:List Nat) (i:Nat) (w:World):KeepD l ks i w w:=.of (.inr (Keep.refl w _))
def Fl (P:Program) (l:List Oper) (k:Nat) (T:Nat->Prop) (o:Oper) (σ:Env) (w:World) (K:Env->Prop):Prop :=
 (wanted l σ o=true/\∃ v,(wFb P σ w o v)/\((k=3->∀ w',Runs P σ w' o v w')/\(k=1004->∀ w',Keep w w' T->Runs P σ w' o v w'))/\K (put' σ o v)) \/ (wanted l σ o=false/\K (put' σ o undef))
def OKS (N:Nat) (P:Program) (l:List Oper) (Q:wDr) (D:List Deferred) (ks:List Nat):Sch->Env->World->Prop
 | .nil,σ,w=>Q D .normal σ w
 | .stop,_,_=>True
 | .fl i s,σ,w=>∃ o,l[i]?=some o/\(∀ d,o.dst=some d->d < N)/\Fl P l (kOf ks i) (chg l ks) o σ w fun σ'=>OKS N P l Q D ks s σ' w
 | .fx i s alt,σ,w=>(∃ o,l[i]?=some o/\(∀ d,o.dst=some d->d < N)/\Step1 P l o σ w fun v w'=>KeepD l ks i w w'/\OKS N P l Q D ks s (put' σ o v) w')/\OKS N P l Q D ks alt σ w
section
variable {r:Option Nat} {N:Nat} {P:Program} {Q:wDr} {D:List Deferred} {l:List Oper} {ks:List Nat}
theorem Step1.mono {ops:List Oper} {o:Oper} {σ:Env} {w:World} {R R':Value->World->Prop} (h:Step1 P ops o σ w R) (hR:∀ v w',R v w'->R' v w'):Step1 P ops o σ w R':=by
 rcases h with ⟨h1,⟨h2,w',h3,h4⟩ | ⟨v,w',h3,h4⟩ | ⟨f,args,Q,h3,h4,h5⟩ | hy⟩ | ⟨h1,h2⟩
 ·exact .inl ⟨h1,.inl ⟨h2,w',h3,hR _ _ h4⟩⟩
 ·exact .inl ⟨h1,.inr (.inl ⟨v,w',h3,hR _ _ h4⟩)⟩
 ·exact .inl ⟨h1,.inr (.inr (.inl ⟨f,args,Q,h3,h4,fun v w' h=>hR _ _ (h5 v w' h)⟩))⟩
 ·exact .inl ⟨h1,.inr (.inr (.inr (hy.mono hR)))⟩
 ·exact .inr ⟨h1,hR _ _ h2⟩
theorem OK.step1 {o:Oper} {rest:List Oper} {σ:Env} {w:World} {R:Value->World->Prop} (hdN:∀ d,o.dst=some d->d < N) (h:Step1 P l o σ w R)
  (k:∀ v w',R v w'->OK r N P l Q rest D (put' σ o v) w'):OK r N P l Q (o :: rest) D σ w:=by
 unfold put' at k
 cases hd:o.dst with
 | none =>
  rw [hd] at k
  rcases h with ⟨h1,⟨_,w',h3,h4⟩ | ⟨v,w',h3,h4⟩ | ⟨f,args,Q,h3,h4,h5⟩ | hy⟩ | ⟨h1,h2⟩
  ·exact OK.unit h1 hd h3 (k _ _ h4)
  ·exact OK.valn h1 hd h3 (k _ _ h4)
  ·exact OK.calln h1 hd h3 h4 fun v w' hR=>k _ _ (h5 _ _ hR)
  ·exact OK.roundn h1 hd hy fun v w' hR=>k _ _ hR
  ·exact OK.passn h1 hd (k _ _ h2)
 | some d =>
  rw [hd] at k
  have hb:nI d N=true:=by rw [nZ];exact hdN d hd
  rcases h with ⟨h1,⟨h2,w',h3,h4⟩ | ⟨v,w',h3,h4⟩ | ⟨f,args,Q,h3,h4,h5⟩ | hy⟩ | ⟨h1,h2⟩
  ·rw [hd] at h2;cases h2
  ·exact OK.val h1 hd hb h3 (k _ _ h4)
  ·exact OK.call h1 hd hb h3 h4 fun v w' hR=>k _ _ (h5 _ _ hR)
  ·exact OK.round h1 hd hb hy fun v w' hR=>k _ _ hR
  ·exact OK.pass h1 hd hb (k _ _ h2)
theorem Fl.step1 {k:Nat} {T:Nat->Prop} {o:Oper} {σ:Env} {w:World} {K:Env->Prop} (h:Fl P l k T o σ w K):Step1 P l o σ w fun v w'=>w'=w/\K (put' σ o v):=by
 rcases h with ⟨h1,v,h2,_,h3⟩ | ⟨h1,h2⟩
 ·exact .inl ⟨h1,.inr (.inl ⟨v,w,h2 w (Keep.refl w _),rfl,h3⟩)⟩
 ·exact .inr ⟨h1,rfl,h2⟩
def inOrder:Nat->Sch->Nat->Bool
 | p,.nil,n=>p == n
 | _,.stop,_=>false
 | p,.fl i s,n=>i == p && inOrder (p + 1) s n
 | p,.fx i s _,n=>i == p && inOrder (p + 1) s n
theorem OKS.inOrder (s:Sch):∀ (p:Nat) (σ:Env) (w:World),inOrder p s l.length=true->OKS N P l Q D ks s σ w->OK r N P l Q (l.drop p) D σ w:=by
 induction s with
 | nil =>
  intro p σ w hs h
  simp only [KL.inOrder,beq_iff_eq] at hs
  subst hs
  rw [List.drop_length];exact OK.nil h
 | stop=>intro p σ w hs h;cases hs
 | fl i s ih =>
  intro p σ w hs h
  simp only [KL.inOrder,nR,beq_iff_eq] at hs
  obtain ⟨rfl,hs⟩:=hs
  obtain ⟨o,ho,hN,hf⟩:=h
  obtain ⟨hlt,e⟩:=nB.1 ho
  rw [kh hlt,e]
  exact OK.step1 hN hf.step1 fun v w' ⟨e,hk⟩=>e ▸ ih (i + 1) _ _ hs hk
 | fx i s alt ih _ =>
  intro p σ w hs h
  simp only [KL.inOrder,nR,beq_iff_eq] at hs
  obtain ⟨rfl,hs⟩:=hs
  obtain ⟨⟨o,ho,hN,hf⟩,_⟩:=h
  obtain ⟨hlt,e⟩:=nB.1 ho
  rw [kh hlt,e]
  exact OK.step1 hN hf fun v w' ⟨_,hk⟩=>ih (i + 1) _ _ hs hk
theorem CK.reg {id:Nat} {σ:Env} {w:World} (s:Sch) (hs:inOrder 0 s l.length=true) (h:OKS N P l Q D ks s σ w):CK r N P (.region id l.toArray false) Q D σ w :=
 CK.region (by have:=OKS.inOrder (r:=r) s 0 σ w hs h;simpa using this)
def wHZ (l:List Oper) (o:Oper):List Nat :=
  (o.op.operands.toList.filterMap fun | .tmp t=>some t | _=>none) ++
  (match o.guard with
   | some (g,_)=>((l[g]?).bind (·.dst)).toList
   | none=>[])
def wEn (o:Oper):Bool:=match o.op with | .select ..=>true | _=>false
def apt (l:List Oper) (x y:Oper):Bool :=
  !wEn x && !wEn y &&
  (match x.dst with
   | some d=>!(wHZ l y).contains d && y.dst != some d
   | none=>true) &&
  (match y.dst with
   | some d=>!(wHZ l x).contains d
   | none=>true)
structure Apt (l:List Oper) (x y:Oper):Prop where
 sx:wEn x=false
 sy:wEn y=false
 xy:∀ d,x.dst=some d->d ∉ wHZ l y
 ne:∀ d,x.dst=some d->y.dst ≠ some d
 yx:∀ d,y.dst=some d->d ∉ wHZ l x
theorem wPt {x y:Oper} (h:apt l x y=true):Apt l x y:=by
 unfold apt at h
 simp only [nR,nS] at h
 obtain ⟨⟨⟨h1,h2⟩,h3⟩,h4⟩:=h
 refine ⟨h1,h2,fun d hd=>?_,fun d hd=>?_,fun d hd=>?_⟩
 ·rw [hd] at h3;simp only [nR,nS,nU,decide_eq_false_iff_not] at h3;exact h3.1
 ·rw [hd] at h3;simp only [nR,bne_iff_ne] at h3;exact h3.2
 ·rw [hd] at h4;simp only [nS,nU,decide_eq_false_iff_not] at h4;exact h4
theorem wTw {o:Oper} (h:wEn o=false):∀ cs b,o.op ≠ .select cs b:=by
 intro cs b e;unfold wEn at h;rw [e] at h;cases h
theorem wNq {σ:Env} {o:Oper} {v:Value} {t:Nat} (h:∀ d,o.dst=some d->d ≠ t):put' σ o v t=σ t:=by
 unfold put'
 cases hd:o.dst with
 | none=>rfl
 | some d=>exact wEU _ _ (Ne.symm (h d hd))
theorem wRk {σ:Env} {x o:Oper} {v:Value} (h:∀ d,x.dst=some d->d ∉ wHZ l o):∀ y ∈ o.op.operands,ev (put' σ x v) y=ev σ y:=by
 intro y hy
 cases y with
 | tmp t =>
  refine wNq fun d hd e=>h d hd ?_
  subst e
  exact nu _ (List.mem_filterMap.2 ⟨.tmp d,by simpa using hy,rfl⟩)
 | _=>rfl
theorem wDw {σ:Env} {x o:Oper} {v:Value} (h:∀ d,x.dst=some d->d ∉ wHZ l o):wanted l (put' σ x v) o=wanted l σ o:=by
 unfold wanted
 cases hg:o.guard with
 | none=>rfl
 | some g =>
  obtain ⟨j,b⟩:=g
  simp only
  cases hd:(l[j]?).bind (·.dst) with
  | none=>rfl
  | some t =>
   simp only
   rw [wNq fun d hx e=>h d hx ?_]
   subst e
   unfold wHZ
   rw [hg]
   simp only [hd]
   simp
theorem wIE {σ:Env} {x o:Oper} {v:Value} (hs:wEn o=false) (h:∀ d,x.dst=some d->d ∉ wHZ l o):execOp (ev (put' σ x v)) o=execOp (ev σ) o :=
 execOp_congr o (wTw hs) (wRk h)
theorem Runs.put' {σ:Env} {x o:Oper} {u v:Value} {w w':World} (hs:wEn o=false) (h:∀ d,x.dst=some d->d ∉ wHZ l o):Runs P (put' σ x u) w o v w' ↔ Runs P σ w o v w':=by
 unfold Runs;rw [wIE hs h]
theorem Does.put' {σ:Env} {x o:Oper} {u:Value} {w w':World} (hs:wEn o=false) (h:∀ d,x.dst=some d->d ∉ wHZ l o):Does P (put' σ x u) w o w' ↔ Does P σ w o w':=by
 unfold Does;rw [wIE hs h]
theorem Enters.put' {σ:Env} {x o:Oper} {u:Value} {w:World} {f:FuncId} {args:List Value} (hs:wEn o=false) (h:∀ d,x.dst=some d->d ∉ wHZ l o):Enters P (put' σ x u) w o f args ↔ Enters P σ w o f args:=by
 unfold Enters;rw [wIE hs h]
theorem Rounds.put' {σ:Env} {x o:Oper} {u:Value} {w:World} {R:Value->World->Prop} (hs:wEn o=false) (h:∀ d,x.dst=some d->d ∉ wHZ l o):Rounds P (put' σ x u) w o R ↔ Rounds P σ w o R:=by
 unfold Rounds;rw [wIE hs h]
theorem Step1.put' {σ:Env} {x o:Oper} {u:Value} {w:World} {R:Value->World->Prop} (hs:wEn o=false) (h:∀ d,x.dst=some d->d ∉ wHZ l o):Step1 P l o (put' σ x u) w R->Step1 P l o σ w R:=by
 unfold Step1
 rw [wDw h]
 simp only [Runs.put' hs h,Does.put' hs h,Enters.put' hs h,Rounds.put' hs h]
 exact id
theorem wIM {σ:Env} {x y:Oper} (u v:Value) (h:∀ d,x.dst=some d->y.dst ≠ some d):KL.put' (KL.put' σ x u) y v=KL.put' (KL.put' σ y v) x u:=by
 unfold KL.put'
 cases hx:x.dst with
 | none=>rfl
 | some d =>
  cases hy:y.dst with
  | none=>rfl
  | some e =>
   have hne:d ≠ e:=fun he=>h d hx (by rw [hy,he])
   show upd (upd σ d u) e v=upd (upd σ e v) d u
   funext t
   by_cases h1:t=d
   ·subst h1;rw [wEU _ _ hne,wEI,wEI]
   ·rw [wEU (upd σ e v) _ h1]
    by_cases h2:t=e
    ·subst h2;rw [wEI,wEI]
    ·rw [wEU _ _ h2,wEU _ _ h2,wEU _ _ h1]
def Over (k:Nat) (T:Nat->Prop) (w w':World):Prop:=k=3 \/ Keep w w' Non \/ (k=1004/\Keep w w' T)
theorem OKS.swapF {i j:Nat} {s:Sch} {σ:Env} {w:World} (hap:∀ x y,l[i]?=some x->l[j]?=some y->Apt l x y)
  (h:OKS N P l Q D ks (.fl i (.fl j s)) σ w):OKS N P l Q D ks (.fl j (.fl i s)) σ w:=by
 obtain ⟨x,hx,hxN,hf⟩:=h
 have key:∀ u,(OKS N P l Q D ks (.fl j s) (put' σ x u) w)->∃ y,l[j]?=some y/\(∀ d,y.dst=some d->d < N)/\Fl P l (kOf ks j) (chg l ks) y σ w (fun σ'=>∃ v,σ'=put' σ y v/\OKS N P l Q D ks s (put' σ' x u) w):=by
  rintro u ⟨y,hy,hyN,hg⟩
  have A:=hap x y hx hy
  refine ⟨y,hy,hyN,?_⟩
  rcases hg with ⟨h1,v,h2,h3,h4⟩ | ⟨h1,h2⟩
  ·exact .inl ⟨by rwa [wDw A.xy] at h1,v,fun w2 k2=>(Runs.put' A.sy A.xy).1 (h2 w2 k2),⟨fun e w2=>(Runs.put' A.sy A.xy).1 (h3.1 e w2),fun e w2 k2=>(Runs.put' A.sy A.xy).1 (h3.2 e w2 k2)⟩,v,rfl,by rw [<- wIM u v A.ne];exact h4⟩
  ·exact .inr ⟨by rwa [wDw A.xy] at h1,undef,rfl,by rw [<- wIM u undef A.ne];exact h2⟩
 rcases hf with ⟨h1,u,h2,h3,h4⟩ | ⟨h1,h4⟩
 ·obtain ⟨y,hy,hyN,hg⟩:=key u h4
  have A:=hap x y hx hy
  refine ⟨y,hy,hyN,?_⟩
  have go:∀ v,OKS N P l Q D ks s (put' (put' σ y v) x u) w->OKS N P l Q D ks (.fl i s) (put' σ y v) w:=fun v hv =>
   ⟨x,hx,hxN,.inl ⟨by rw [wDw A.yx];exact h1,u,fun w2 k2=>(Runs.put' A.sx A.yx).2 (h2 w2 k2),⟨fun e w2=>(Runs.put' A.sx A.yx).2 (h3.1 e w2),fun e w2 k2=>(Runs.put' A.sx A.yx).2 (h3.2 e w2 k2)⟩,hv⟩⟩
  rcases hg with ⟨g1,v,g2,g3,v',e,g4⟩ | ⟨g1,v',e,g2⟩
  ·exact .inl ⟨g1,v,g2,g3,go v g4⟩
  ·exact .inr ⟨g1,go undef g2⟩
 ·obtain ⟨y,hy,hyN,hg⟩:=key undef h4
  have A:=hap x y hx hy
  refine ⟨y,hy,hyN,?_⟩
  have go:∀ v,OKS N P l Q D ks s (put' (put' σ y v) x undef) w->OKS N P l Q D ks (.fl i s) (put' σ y v) w:=fun v hv =>
   ⟨x,hx,hxN,.inr ⟨by rw [wDw A.yx];exact h1,hv⟩⟩
  rcases hg with ⟨g1,v,g2,g3,v',e,g4⟩ | ⟨g1,v',e,g2⟩
  ·exact .inl ⟨g1,v,g2,g3,go v g4⟩
  ·exact .inr ⟨g1,go undef g2⟩
theorem OKS.swapX {i j:Nat} {s:Sch} {σ:Env} {w:World} (hap:∀ x y,l[i]?=some x->l[j]?=some y->Apt l x y) (hk:kOf ks j=2 \/ kOf ks i=3 \/ (kOf ks i=1004/\kOf ks j=1005))
  (h:OKS N P l Q D ks (.fl i (.fx j s .stop)) σ w):OKS N P l Q D ks (.fx j (.fl i s) .stop) σ w:=by
 obtain ⟨x,hx,hxN,hf⟩:=h
 have key:∀ u,(OKS N P l Q D ks (.fx j s .stop) (put' σ x u) w)->∃ y,l[j]?=some y/\Apt l x y/\(∀ d,y.dst=some d->d < N)/\Step1 P l y σ w fun v w'=>KeepD l ks j w w'/\OKS N P l Q D ks s (put' (put' σ x u) y v) w':=by
  rintro u ⟨⟨y,hy,hyN,hg⟩,_⟩
  have A:=hap x y hx hy
  exact ⟨y,hy,A,hyN,Step1.put' A.sy A.xy hg⟩
 have fin:∀ u y,l[j]?=some y->Apt l x y->(∀ d,y.dst=some d->d < N)->(Step1 P l y σ w fun v w'=>KeepD l ks j w w'/\OKS N P l Q D ks s (put' (put' σ x u) y v) w') ->
   (∀ v w',Over (kOf ks i) (chg l ks) w w'->OKS N P l Q D ks s (put' (put' σ y v) x u) w'->OKS N P l Q D ks (.fl i s) (put' σ y v) w')->OKS N P l Q D ks (.fx j (.fl i s) .stop) σ w:=by
  intro u y hy A hyN hg hx2
  refine ⟨⟨y,hy,hyN,hg.mono fun v w' ⟨hk',hO⟩=>⟨hk',hx2 v w' ?_ (by rw [<- wIM u v A.ne];exact hO)⟩⟩,trivial⟩
  rcases hk with e | e | ⟨e,e2⟩
  ·exact .inr (.inl (hk'.1 e))
  ·exact .inl e
  ·exact .inr (.inr ⟨e,hk'.2 e2⟩)
 rcases hf with ⟨h1,u,h2,h3,h4⟩ | ⟨h1,h4⟩
 ·obtain ⟨y,hy,A,hyN,hg⟩:=key u h4
  refine fin u y hy A hyN hg fun v w' hw hO=>⟨x,hx,hxN,.inl ⟨by rw [wDw A.yx];exact h1,u,fun w2 k2=>(Runs.put' A.sx A.yx).2 ?_,⟨fun e w2=>(Runs.put' A.sx A.yx).2 (h3.1 e w2),fun e w2 k2=>(Runs.put' A.sx A.yx).2 ?_⟩,hO⟩⟩
  ·rcases hw with e | hw | ⟨e,hw⟩
   ·exact h3.1 e w2
   ·exact h2 w2 (hw.non k2)
   ·exact h3.2 e w2 (hw.non k2)
  ·rcases hw with e' | hw | ⟨_,hw⟩
   ·exact h3.1 e' w2
   ·exact h3.2 e w2 (Keep.trans' (hw.weak fun _ _ hx=>hx.elim) k2)
   ·exact h3.2 e w2 (Keep.trans' hw k2)
 ·obtain ⟨y,hy,A,hyN,hg⟩:=key undef h4
  exact fin undef y hy A hyN hg fun v w' hw hO=>⟨x,hx,hxN,.inr ⟨by rw [wDw A.yx];exact h1,hO⟩⟩
def apI (l:List Oper) (i j:Nat):Bool:=match l[i]?,l[j]? with | some x,some y=>apt l x y | _,_=>false
def prI (l:List Oper) (i:Nat):List Nat:=match l[i]? with | some o=>wTu o | none=>[]
def wJD (l:List Oper):Nat->Nat->Nat->Bool
 | 0,_,_=>false
 | n + 1,x,i=>(prI l i).contains x || (prI l i).any fun p=>wJD l n x p
def wTx (l:List Oper) (ks F X:List Nat) (y:Nat):Bool:=(prI l y).any fun p=>if wQy ks p then !F.contains p else !X.contains p
def wNG:Sch->List Nat
 | .fx i _ a=>i :: wNG a
 | _=>[]
def wKS (l:List Oper) (ks:List Nat):Bool->List Nat->List Nat->Sch->Bool
 | false,F,X,.nil=>(nq l.length).all fun y=>F.contains y || X.contains y
 | true,_,_,.nil=>false
 | m,_,_,.stop=>m
 | true,_,_,.fl _ _=>false
 | false,F,X,.fl i s=>wQy ks i && nI i l.length && !F.contains i && F.all (fun x=>apI l x i || wJD l 12 x i) && wKS l ks false (F ++ [i]) X s
 | m,F,X,.fx i s a=>(m || (nq l.length).all fun y=>F.contains y || X.contains y || (wNG (.fx i s a)).contains y || wTx l ks F X y) &&
   !wQy ks i && nI i l.length && !X.contains i && F.all (fun x=>(apI l x i && (kOf ks i == 2 || (kOf ks x == 3 || (kOf ks x == 1004 && kOf ks i == 1005)))) || wJD l 12 x i) && wKS l ks false F (i :: X) s && wKS l ks true F X a
def wNr (l:List Oper) (ks:List Nat) (s:Sch):Bool:=(nq l.length).all (fun i=>(prI l i).all (nI · i)) && wKS l ks false [] [] s
def fls (s:Sch) (pend:List Nat):Sch:=pend.foldr Sch.fl s
theorem wMQ {i j:Nat} (h:apI l i j=true):∀ x y,l[i]?=some x->l[j]?=some y->Apt l x y:=by
 intro x y hx hy
 unfold apI at h
 rw [hx,hy] at h
 exact wPt h
theorem OKS.flMono {i:Nat} {s t:Sch} {σ:Env} {w:World} (hst:∀ σ,OKS N P l Q D ks s σ w->OKS N P l Q D ks t σ w) (h:OKS N P l Q D ks (.fl i s) σ w):OKS N P l Q D ks (.fl i t) σ w:=by
 obtain ⟨o,ho,hN,h1 | h1⟩:=h
 ·obtain ⟨h1,v,h2,h3,h4⟩:=h1
  exact ⟨o,ho,hN,.inl ⟨h1,v,h2,h3,hst _ h4⟩⟩
 ·exact ⟨o,ho,hN,.inr ⟨h1.1,hst _ h1.2⟩⟩
theorem OKS.flsMono {s t:Sch} {w:World} (hst:∀ σ,OKS N P l Q D ks s σ w->OKS N P l Q D ks t σ w):∀ (pend:List Nat) (σ:Env),OKS N P l Q D ks (fls s pend) σ w->OKS N P l Q D ks (fls t pend) σ w
 | [],σ,h=>hst σ h
 | _ :: pend,_,h=>OKS.flMono (fun σ=>OKS.flsMono hst pend σ) h
theorem OKS.frontF {i:Nat} {s:Sch} {w:World} {ys:List Nat}:∀ (xs:List Nat) (σ:Env),(∀ x ∈ xs,apI l x i=true)->OKS N P l Q D ks (fls s (xs ++ i :: ys)) σ w->OKS N P l Q D ks (.fl i (fls s (xs ++ ys))) σ w
 | [],_,_,h=>h
 | x :: xs,_,ha,h=>OKS.swapF (wMQ (ha x (by simp))) (OKS.flMono (fun σ hσ=>OKS.frontF xs σ (fun y hy=>ha y (by simp [hy])) hσ) h)
theorem OKS.frontX {i:Nat} {s:Sch} {w:World}:∀ (xs:List Nat) (σ:Env),(∀ x ∈ xs,apI l x i=true/\(kOf ks i=2 \/ kOf ks x=3 \/ (kOf ks x=1004/\kOf ks i=1005)))->OKS N P l Q D ks (fls (.fx i s .stop) xs) σ w->OKS N P l Q D ks (.fx i (fls s xs) .stop) σ w
 | [],_,_,h=>h
 | x :: xs,_,ha,h=>OKS.swapX (wMQ (ha x (by simp)).1) (ha x (by simp)).2 (OKS.flMono (fun σ hσ=>OKS.frontX xs σ (fun y hy=>ha y (by simp [hy])) hσ) h)
structure wQz (l:List Oper) (ks F X:List Nat) (i:Nat):Prop where
 fl:wQy ks i=false
 lt:i < l.length
 nx:i ∉ X
 pr:∀ x ∈ F,(apI l x i=true/\(kOf ks i=2 \/ kOf ks x=3 \/ (kOf ks x=1004/\kOf ks i=1005))) \/ wJD l 12 x i=true
theorem wLY {m:Bool} {F X:List Nat} {i:Nat} {s a:Sch} (h:wKS l ks m F X (.fx i s a)=true) :
  wQz l ks F X i/\wKS l ks false F (i :: X) s=true/\wKS l ks true F X a=true/\(m=false->∀ y,y < l.length->y ∈ F \/ y ∈ X \/ y ∈ wNG (.fx i s a) \/ wTx l ks F X y=true):=by
 have h:((m || (nq l.length).all fun y=>F.contains y || X.contains y || (wNG (.fx i s a)).contains y || wTx l ks F X y) &&
   !wQy ks i && nI i l.length && !X.contains i && F.all (fun x=>(apI l x i && (kOf ks i == 2 || (kOf ks x == 3 || (kOf ks x == 1004 && kOf ks i == 1005)))) || wJD l 12 x i) && wKS l ks false F (i :: X) s && wKS l ks true F X a)=true:=by
  cases m <;> exact h
 simp only [nR,nS,nO,kH,beq_iff_eq,nU,decide_eq_true_eq,decide_eq_false_iff_not,nZ] at h
 obtain ⟨⟨⟨⟨⟨⟨h1,h2⟩,h3⟩,h4⟩,h5⟩,h6⟩,h7⟩:=h
 refine ⟨⟨h2,h3,h4,h5⟩,h6,h7,fun e y hy=>?_⟩
 subst e
 rcases h1 with h1 | h1
 ·cases h1
 ·rcases h1 y (kO.2 hy) with ((h | h) | h) | h
  ·exact .inl h
  ·exact .inr (.inl h)
  ·exact .inr (.inr (.inl h))
  ·exact .inr (.inr (.inr h))
theorem wRl {F X:List Nat} {i:Nat} {s:Sch} (h:wKS l ks false F X (.fl i s)=true) :
  wQy ks i=true/\i < l.length/\i ∉ F/\(∀ x ∈ F,apI l x i=true \/ wJD l 12 x i=true)/\wKS l ks false (F ++ [i]) X s=true:=by
 simp only [wKS,nR,nS,nO,kH,nU,decide_eq_false_iff_not,nZ] at h
 obtain ⟨⟨⟨⟨h1,h2⟩,h3⟩,h4⟩,h5⟩:=h
 exact ⟨h1,h2,h3,h4,h5⟩
theorem wKW {F X:List Nat} {i:Nat}:∀ (c:Sch),wKS l ks true F X c=true->i ∈ wNG c ->
  ∃ s,wQz l ks F X i/\wKS l ks false F (i :: X) s=true/\∀ σ w,OKS N P l Q D ks c σ w->OKS N P l Q D ks (.fx i s .stop) σ w
 | .nil,h,_=>by cases h
 | .stop,_,hi=>by cases hi
 | .fl _ _,h,_=>by cases h
 | .fx j s a,h,hi=>by
  obtain ⟨g1,g2,g3,_⟩:=wLY h
  rcases nH.1 hi with e | hi
  ·subst e;exact ⟨s,g1,g2,fun σ w hO=>⟨hO.1,trivial⟩⟩
  ·obtain ⟨s',a1,a2,a3⟩:=wKW a g3 hi
   exact ⟨s',a1,a2,fun σ w hO=>a3 σ w hO.2⟩
structure Inv (l:List Oper) (ks:List Nat) (listed:Array Bool) (F X pend:List Nat) (s:Sch):Prop where
 g:wKS l ks false F X s=true
 on:∀ i,i < l.length->(listed.getD i false=true ↔ (i ∈ F/\i ∉ pend) \/ i ∈ X)
 sub:∀ x ∈ pend,x ∈ F/\x < l.length
 nd:pend.Nodup
 pw:pend.Pairwise fun x y=>apI l x y=true \/ wJD l 12 x y=true
 dc:∀ i,i < l.length->listed.getD i false=true->∀ j ∈ prI l i,listed.getD j false=true
 fF:∀ x ∈ F,wQy ks x=true
 fX:∀ x ∈ X,wQy ks x=false
def wRm:Sch->Bool
 | .fl _ _=>false
 | _=>true
theorem wNs {listed:Array Bool} {X:List Nat} {σ:Env} {w:World}:∀ (s:Sch) (F pend:List Nat),Inv l ks listed F X pend s->OKS N P l Q D ks (fls s pend) σ w ->
  ∃ F' pend' s',wRm s'=true/\Inv l ks listed F' X pend' s'/\OKS N P l Q D ks (fls s' pend') σ w
 | .nil,F,pend,h,hO=>⟨F,pend,.nil,rfl,h,hO⟩
 | .stop,F,pend,h,hO=>⟨F,pend,.stop,rfl,h,hO⟩
 | .fx i s a,F,pend,h,hO=>⟨F,pend,.fx i s a,rfl,h,hO⟩
 | .fl i s,F,pend,h,hO=>by
  obtain ⟨g1,g2,g3,g4,g5⟩:=wRl h.g
  refine wNs s (F ++ [i]) (pend ++ [i]) ⟨g5,fun j hj=>?_,fun x hx=>?_,?_,?_,h.dc,fun x hx=>?_,h.fX⟩ (by simpa [fls] using hO)
  ·rw [h.on j hj]
   simp only [nb,nm]
   constructor
   ·rintro (⟨h1,h2⟩ | h1)
    ·exact .inl ⟨.inl h1,fun hc=>hc.elim h2 fun e=>g3 (e ▸ h1)⟩
    ·exact .inr h1
   ·rintro (⟨h1 | h1,h2⟩ | h1)
    ·exact .inl ⟨h1,fun hc=>h2 (.inl hc)⟩
    ·exact absurd (.inr h1) h2
    ·exact .inr h1
  ·simp only [nb,nm] at hx ⊢
   rcases hx with hx | rfl
   ·exact ⟨.inl (h.sub x hx).1,(h.sub x hx).2⟩
   ·exact ⟨.inr rfl,g2⟩
  ·rw [ke]
   refine ⟨h.nd,by simp,fun x hx y hy e=>?_⟩
   simp only [nm] at hy
   subst hy;subst e
   exact g3 (h.sub _ hx).1
  ·rw [kE]
   refine ⟨h.pw,by simp,fun x hx y hy=>?_⟩
   simp only [nm] at hy
   subst hy
   exact g4 x (h.sub x hx).1
  ·simp only [nb,nm] at hx
   rcases hx with hx | rfl
   ·exact h.fF x hx
   ·exact g1
theorem Rep.put' {a:Act} {σ:Env} (h:Rep N D a σ) {o:Oper} (hd:∀ d,o.dst=some d->d < N) (v:Value):Rep N D (a.put o.dst v) (KL.put' σ o v):=by
 unfold KL.put'
 cases ho:o.dst with
 | none=>exact h
 | some d=>exact h.put (hd d ho) v
theorem wIN {i:Nat} {o:Oper} {Q:Exit->Act->World->Prop} {K:Act->World->Prop} {a:Act} {w:World} {σ:Env} (hi:l[i]?=some o) (ha:Rep N D a σ) {R:Value->World->Prop} (hd:∀ d,o.dst=some d->d < N)
  (h:Step1 P l o σ w R) (hK:∀ v w' a',Rep N D a' (KL.put' σ o v)->R v w'->K a' w'):wpOpIn (WF r) 0 P l.toArray Q i K a w:=by
 unfold wpOpIn
 simp only [ni,hi]
 rcases h with ⟨hw,h⟩ | ⟨hw,hR⟩
 ·simp only [wEf ha l o hw,if_true]
  refine ⟨fun _ _=>trivial,?_⟩
  rcases h with ⟨hdn,w',hr,hR⟩ | ⟨v,w',hr,hR⟩ | ⟨f,args,R',he,hg,hR⟩ | ⟨y1,l',f,t,as,b,y2,y3⟩
  ·rw [semAt_eq _ _ _ hr.1,ha.eval,hr.2]
   simp only [Oper.uponIn]
   exact hK undef w' _ (ha.put' hd undef) hR
  ·rw [semAt_eq _ _ _ hr.1,ha.eval,hr.2]
   simp only [Oper.uponIn]
   exact hK v w' _ (ha.put' hd v) hR
  ·rw [semAt_eq _ _ _ he.1,ha.eval,he.2]
   simp only [Oper.uponIn]
   refine ⟨fun h=>(by cases h),?_⟩
   refine CallsIn.mono (hg.callsIn r) ?_
   rintro e w' ⟨v,rfl,hv⟩
   exact hK v w' _ (ha.put' hd v) (hR v w' hv)
  ·rw [semAt_eq _ _ _ y1,ha.eval,y2]
   simp only [Oper.uponIn]
   refine ⟨fun h=>(by cases h),?_⟩
   refine RoundIn.mono (wGi y3 r) ?_
   rintro e w' ⟨v,rfl,hv⟩
   exact hK v w' _ (ha.put' hd v) hv
 ·simp only [wGh ha l o hw,kK,if_false]
  refine ⟨fun _ _=>trivial,?_⟩
  exact hK _ w _ (ha.put' hd _) hR
theorem wJN {listed:Array Bool} (hpr:∀ i,i < l.length->∀ j ∈ prI l i,j < i) (hdc:∀ i,i < l.length->listed.getD i false=true->∀ j ∈ prI l i,listed.getD j false=true) :
  ∀ (n x i:Nat),i < l.length->wJD l n x i=true->(∀ j ∈ prI l i,listed.getD j false=true)->listed.getD x false=true
 | 0,_,_,_,h,_=>by cases h
 | n + 1,x,i,hi,h,hp=>by
  simp only [wJD,kH,nU,decide_eq_true_eq,List.any_eq_true] at h
  rcases h with h | ⟨p,hp1,hp2⟩
  ·exact hp x h
  ·have hplt:=aI (hpr i hi p hp1) hi
   exact wJN hpr hdc n x p hplt hp2 (hdc p hplt (hp p hp1))
theorem wEz {listed:Array Bool} (hsz:listed.size=l.length) {i:Nat}:i ∈ Region.ready .any l.toArray listed ↔ i < l.length/\listed.getD i false=false/\∀ j ∈ prI l i,listed.getD j false=true:=by
 unfold Region.ready prI wTu
 simp only [kq,kO,aN,nR,nS]
 have gd:i < l.length->listed.getD i true=listed.getD i false:=by
  intro h2
  simp only [nL]
  rw [ki (by omega)]
  rfl
 constructor
 ·rintro ⟨hlt,h1,h2⟩
  have hi:l[i]?=some (l[i]'hlt):=nD hlt
  refine ⟨hlt,(gd hlt) ▸ h1,?_⟩
  rw [hi]
  simp only [ni,hi,kJ,kS,kU] at h2
  intro j hj
  simp only [kY,kq] at hj
  obtain ⟨e,⟨he,hb⟩,rfl⟩:=hj
  have:=h2 e (by simpa using he)
  simpa [hb] using this
 ·rintro ⟨hlt,h1,h2⟩
  have hi:l[i]?=some (l[i]'hlt):=nD hlt
  refine ⟨hlt,(gd hlt).trans h1,?_⟩
  rw [hi] at h2
  simp only [ni,hi,kJ,kS,kU]
  intro e he
  cases hb:Region.binds .any e with
  | false=>rfl
  | true =>
   have:=h2 e.on (by simp only [kY,kq];exact ⟨e,⟨by simpa using he,hb⟩,rfl⟩)
   simp [this]
theorem wGy {listed:Array Bool} {i j:Nat} (h:i < listed.size):(listed.setIfInBounds i true).getD j false=true ↔ (j=i \/ listed.getD j false=true):=by
 simp only [nL,Array.getElem?_setIfInBounds]
 by_cases e:i=j
 ·subst e;simp [h]
 ·simp [e,Ne.symm e]
theorem wGz (listed:Array Bool) (i:Nat) (hi:i < listed.size) (hl:listed.getD i false=false):((listed.setIfInBounds i true).toList.filter (! ·)).length < (listed.toList.filter (! ·)).length:=by
 have hi':i < listed.toList.length:=by simpa using hi
 have hl':listed.toList[i]=false:=by
  simp only [nL] at hl
  rw [ki hi] at hl
  simpa using hl
 rw [Array.toList_setIfInBounds]
 generalize listed.toList=L at *
 clear hl hi
 induction L generalizing i with
 | nil=>simp at hi'
 | cons b L ih =>
  cases i with
  | zero=>simp only [List.getElem_cons_zero] at hl';subst hl';simp
  | succ i =>
   have:=ih i (by simpa using hi') (by simpa using hl')
   simp only [aJ,List.filter_cons]
   split <;> simp <;> exact this
theorem CK.anyOrd {id:Nat} {σ:Env} {w:World} (hm:P.follows .mixedOrders=true) (ks:List Nat) (s:Sch) (hc:wNr l ks s=true)
  (h:OKS N P l Q D ks s σ { w with drawn:=w.drawn + 1 }):CK r N P (.region id l.toArray true) Q D σ w:=by
 unfold wNr at hc
 simp only [nR,nO,kO,nZ] at hc
 obtain ⟨hpr,hg⟩:=hc
 intro a ha
 refine wpIn_region_any hm ?_
 have fin:∀ (listed:Array Bool) (σ:Env) (a:Act) (w:World) (F X pend:List Nat) (s:Sch),listed.size=l.length->(∀ i,i < l.length->listed.getD i false=true)->Rep N D a σ->wRm s=true->Inv l ks listed F X pend s ->
   OKS N P l Q D ks (fls s pend) σ w->wJC N Q .normal a w:=by
  intro listed σ a w F X pend s hsz hall hr hn hI hO
  have hp:pend=[]:=by
   cases pend with
   | nil=>rfl
   | cons x pend =>
    have hx:=hI.sub x (by simp)
    rcases (hI.on x hx.2).1 (hall x hx.2) with h | h
    ·exact absurd (by simp) h.2
    ·have h1:=hI.fX x h;rw [hI.fF x hx.1] at h1;cases h1
  subst hp
  cases s with
  | nil=>exact ⟨σ,D,hr,hO⟩
  | stop=>have:=hI.g;cases this
  | fl i s=>cases hn
  | fx i s a =>
   obtain ⟨g1,_⟩:=wLY hI.g
   rcases (hI.on i g1.lt).1 (hall i g1.lt) with h | h
   ·have h1:=hI.fF i h.1;rw [g1.fl] at h1;cases h1
   ·exact absurd h g1.nx
 have core:∀ (fuel:Nat) (listed:Array Bool) (σ:Env) (a:Act) (w:World) (F X pend:List Nat) (s:Sch),listed.size=l.length->Rep N D a σ->wRm s=true->Inv l ks listed F X pend s ->
   OKS N P l Q D ks (fls s pend) σ w->(listed.toList.filter (! ·)).length <= fuel->wpAnyIn (WF r) 0 P .any l.toArray (wJC N Q) fuel listed a w:=by
  intro fuel
  have prog:∀ (listed:Array Bool),listed.size=l.length->Region.ready .any l.toArray listed=[]->∀ i,i < l.length->listed.getD i false=true:=by
   intro listed hsz hnil i
   induction i using Nat.strongRecOn with
   | _ i ih =>
    intro hi
    cases hb:listed.getD i false with
    | true=>rfl
    | false =>
     have:i ∈ Region.ready .any l.toArray listed:=(wEz hsz).2 ⟨hi,hb,fun j hj=>ih j (hpr i hi j hj) (aI (hpr i hi j hj) hi)⟩
     rw [hnil] at this;cases this
  induction fuel with
  | zero =>
   intro listed σ a w F X pend s hsz hr hn hI hO hf
   have hall:∀ i,i < l.length->listed.getD i false=true:=by
    intro i hi
    cases hb:listed.getD i false with
    | true=>rfl
    | false=>have:=wGz listed i (by omega) hb;omega
   refine ⟨?_,fin listed σ a w F X pend s hsz hall hr hn hI hO⟩
   cases hr:Region.ready .any l.toArray listed with
   | nil=>rfl
   | cons x xs =>
    have hx:x ∈ Region.ready .any l.toArray listed:=by rw [hr];simp
    obtain ⟨h1,h2,_⟩:=(wEz hsz).1 hx
    rw [hall x h1] at h2;cases h2
  | succ fuel ih =>
   intro listed σ a w F X pend s hsz hr hn hI hO hf
   refine ⟨fun hnil=>fin listed σ a w F X pend s hsz (prog listed hsz hnil) hr hn hI hO,fun i hi=>?_⟩
   obtain ⟨hlt,hun,hpi⟩:=(wEz hsz).1 hi
   have hsz':(listed.setIfInBounds i true).size=l.length:=by simpa using hsz
   have hf':((listed.setIfInBounds i true).toList.filter (! ·)).length <= fuel:=by have:=wGz listed i (by omega) hun;omega
   have hnot:¬ ((i ∈ F/\i ∉ pend) \/ i ∈ X):=fun hc=>by rw [(hI.on i hlt).2 hc] at hun;cases hun
   have hlate:¬ wTx l ks F X i=true:=by
    intro hL
    unfold wTx at hL
    rw [List.any_eq_true] at hL
    obtain ⟨p,hp,hq⟩:=hL
    have hlp:=hpi p hp
    have hplt:p < l.length:=aI (hpr i hlt p hp) hlt
    have:=(hI.on p hplt).1 hlp
    split at hq
    ·rename_i hfl
     simp only [nS,nU,decide_eq_false_iff_not] at hq
     rcases this with h | h
     ·exact hq h.1
     ·have:=hI.fX p h;rw [hfl] at this;cases this
    ·rename_i hfl
     simp only [nS,nU,decide_eq_false_iff_not] at hq
     rcases this with h | h
     ·exact hfl (hI.fF p h.1)
     ·exact hq h
   have hpend:∀ x ∈ pend,wJD l 12 x i ≠ true:=by
    intro x hx hxi
    have h1:=wJN hpr hI.dc 12 x i hlt hxi hpi
    have hs:=hI.sub x hx
    rcases (hI.on x hs.2).1 h1 with h | h
    ·exact h.2 hx
    ·have:=hI.fX x h;rw [hI.fF x hs.1] at this;cases this
   have dc':∀ k,k < l.length->(listed.setIfInBounds i true).getD k false=true->∀ j ∈ prI l k,(listed.setIfInBounds i true).getD j false=true:=by
    intro k hk hkl j hj
    rw [wGy (by omega)] at hkl ⊢
    rcases hkl with rfl | hkl
    ·exact .inr (hpi j hj)
    ·exact .inr (hI.dc k hk hkl j hj)
   by_cases hF:i ∈ F
   ·have hip:i ∈ pend:=by
     refine Classical.byContradiction fun hc=>hnot (.inl ⟨hF,hc⟩)
    obtain ⟨xs,ys,rfl⟩:=List.append_of_mem hip
    have hap:∀ x ∈ xs,apI l x i=true:=by
     intro x hx
     rcases (kE.1 hI.pw).2.2 x hx i (by simp) with h | h
     ·exact h
     ·exact absurd h (hpend x (by simp [hx]))
    have hO':=OKS.frontF xs σ hap hO
    obtain ⟨o,ho,hN,hfl⟩:=hO'
    refine wIN ho hr hN hfl.step1 ?_
    rintro v w' a' hr' ⟨rfl,hO2⟩
    have hnd:=hI.nd
    rw [ke] at hnd
    have hixs:i ∉ xs:=fun hc=>hnd.2.2 i hc i (by simp) rfl
    have hiys:i ∉ ys:=(kr.1 hnd.2.1).1
    refine ih _ (KL.put' σ o v) a' w' F X (xs ++ ys) s hsz' hr' hn ⟨hI.g,fun j hj=>?_,fun x hx=>hI.sub x ?_,?_,?_,dc',hI.fF,hI.fX⟩ hO2 hf'
    ·rw [wGy (by omega),hI.on j hj]
     simp only [nb,nH]
     constructor
     ·rintro (rfl | ⟨h1,h2⟩ | h1)
      ·exact .inl ⟨hF,fun hc=>hc.elim hixs hiys⟩
      ·exact .inl ⟨h1,fun hc=>h2 (hc.imp (fun h=>h) .inr)⟩
      ·exact .inr h1
     ·rintro (⟨h1,h2⟩ | h1)
      ·by_cases e:j=i
       ·exact .inl e
       ·exact .inr (.inl ⟨h1,fun hc=>hc.elim (fun h=>h2 (.inl h)) fun h=>h.elim e fun h=>h2 (.inr h)⟩)
      ·exact .inr (.inr h1)
    ·simp only [nb,nH] at hx ⊢;exact hx.imp (fun h=>h) .inr
    ·rw [ke]
     exact ⟨hnd.1,(kr.1 hnd.2.1).2,fun x hx y hy=>hnd.2.2 x hx y (by simp [hy])⟩
    ·have hpw:=kE.1 hI.pw
     rw [kE]
     exact ⟨hpw.1,(kM.1 hpw.2.1).2,fun x hx y hy=>hpw.2.2 x hx y (by simp [hy])⟩
   ·cases s with
    | nil =>
     have hg:=hI.g
     simp only [wKS,nO,kO,kH,nU,decide_eq_true_eq] at hg
     rcases hg i hlt with h | h
     ·exact absurd h hF
     ·exact absurd (.inr h) hnot
    | stop=>have:=hI.g;cases this
    | fl i s=>cases hn
    | fx j s alt =>
     obtain ⟨_,_,_,gn⟩:=wLY hI.g
     have hh:i ∈ wNG (.fx j s alt):=by
      rcases gn rfl i hlt with h | h | h | h
      ·exact absurd h hF
      ·exact absurd (.inr h) hnot
      ·exact h
      ·exact absurd h hlate
     have hgt:wKS l ks true F X (.fx j s alt)=true:=by
      have hg:=hI.g
      simp only [wKS,nR,kH,Bool.true_or,kK,false_or,true_and] at hg ⊢
      exact ⟨⟨⟨⟨⟨hg.1.1.1.1.1.2,hg.1.1.1.1.2⟩,hg.1.1.1.2⟩,hg.1.1.2⟩,hg.1.2⟩,hg.2⟩
     obtain ⟨si,hd,hgi,hw⟩:=wKW (N:=N) (P:=P) (Q:=Q) (D:=D) _ hgt hh
     have hO1:=OKS.flsMono (fun σ=>hw σ w) pend σ hO
     have hO2:=OKS.frontX pend σ (fun x hx=>by
      rcases hd.pr x (hI.sub x hx).1 with h | h
      ·exact h
      ·exact absurd h (hpend x hx)) hO1
     obtain ⟨⟨o,ho,hN,hst⟩,_⟩:=hO2
     refine wIN ho hr hN hst ?_
     rintro v w' a' hr' ⟨_,hO3⟩
     have hinv:Inv l ks (listed.setIfInBounds i true) F (i :: X) pend si:=by
      refine ⟨hgi,fun j hj=>?_,hI.sub,hI.nd,hI.pw,dc',hI.fF,fun x hx=>?_⟩
      ·rw [wGy (by omega),hI.on j hj]
       simp only [nH]
       constructor
       ·rintro (rfl | h1 | h1)
        ·exact .inr (.inl rfl)
        ·exact .inl h1
        ·exact .inr (.inr h1)
       ·rintro (h1 | rfl | h1)
        ·exact .inr (.inl h1)
        ·exact .inl rfl
        ·exact .inr (.inr h1)
      ·rcases nH.1 hx with rfl | hx
       ·exact hd.fl
       ·exact hI.fX x hx
     obtain ⟨F',pend',s',hn',hI',hO'⟩:=wNs si F pend hinv hO3
     exact ih _ _ a' w' F' (i :: X) pend' s' hsz' hr' hn' hI' hO' hf'
 have rep:∀ (n j:Nat),(ko n false).getD j false=false:=by
  intro n j
  simp only [nL,kj];split <;> rfl
 obtain ⟨F',pend',s',hn',hI',hO'⟩:=wNs (N:=N) (P:=P) (Q:=Q) (D:=D) (listed:=ko l.length false) (X:=[]) (σ:=σ) (w:={ w with drawn:=w.drawn + 1 }) s [] []
  ⟨hg,fun i hi=>by rw [rep];simp,by simp,by simp,by simp,fun i hi h=>(by rw [rep] at h;cases h),by simp,by simp⟩ h
 exact core _ _ σ a _ F' [] pend' s' (by simp) ha hn' hI' hO' (by simp)
end
abbrev PHeap:=Nat->Option Obj
inductive Res
 | blk (b:Nat) (T:TypeId) (cs:List Value)
 | row (A:Option Addr) (c:Nat) (T:TypeId) (sz:Nat) (cs:List Value)
 | obj (b:Nat) (o:Obj)
 | abs (fp:Nat->Prop) (P:World->Prop)
def Res.has:Res->Nat->Prop
 | .blk b _ _,x=>b=x
 | .row A _ _ _ _,x=>A.map (·.block)=some x
 | .obj b _,x=>b=x
 | .abs fp _,x=>fp x
def RowAt (w:World) (A:Option Addr) (c:Nat) (T:TypeId) (sz:Nat) (cs:List Value):Prop :=
 (A=none/\c=0/\cs=[]) \/ ∃ b cur,A=some ⟨b,0,none⟩/\w.heap[b]?=some (.cells cur T (0,0))/\cs.length <= c * sz/\c <= maxLen/\cur.size=c * sz/\cur.toList.take cs.length=cs
def Res.At (w:World):Res->Prop
 | .blk b T cs=>w.heap[b]?=some (.cells cs.toArray T (0,0))
 | .row A c T sz cs=>RowAt w A c T sz cs
 | .obj b o=>w.heap[b]?=some o
 | .abs fp P=>P w/\(∀ b,fp b->b < w.heap.size)/\∀ w2:World,(∀ b,fp b->w2.heap[b]?=w.heap[b]?)->P w2
structure Base where
 w:World
 own:List Res
 U:PHeap
def Base.mine (B:Base) (b:Nat):Prop:=B.w.heap.size <= b \/ ∃ r ∈ B.own,r.has b
structure St (B:Base) (U:PHeap) (L:List Res) (w:World):Prop where
 os:w.os=B.w.os
 tape:TapeLe B.w w
 output:w.output=B.w.output
 size:B.w.heap.size <= w.heap.size
 old:∀ b,b < B.w.heap.size->¬ B.mine b->w.heap[b]?=B.w.heap[b]?
 fro:∀ b o,U b=some o->w.heap[b]?=some o
 le:∀ b o,B.U b=some o->U b=some o
 src:∀ b o,U b=some o->B.U b=some o \/ B.mine b
 at_:∀ r ∈ L,r.At w
 own:∀ r ∈ L,∀ b,r.has b->U b=none/\B.mine b
 dj:∀ (i j:Nat) (r s:Res) (b:Nat),L[i]?=some r->L[j]?=some s->r.has b->s.has b->i=j
theorem wAi {w:World} {b:Nat} {o:Obj} (h:w.heap[b]?=some o):b < w.heap.size:=by
 rcases nX b w.heap.size with hlt | hge
 ·exact hlt
 ·rw [nz hge] at h;cases h
theorem Res.At.lt {w:World} {r:Res} (h:r.At w) {b:Nat} (hb:r.has b):b < w.heap.size:=by
 cases r with
 | blk b' T cs=>cases hb;exact wAi h
 | obj b' o=>cases hb;exact wAi h
 | abs fp P=>exact h.2.1 b hb
 | row A c T sz cs =>
  rcases h with ⟨rfl,_⟩ | ⟨b',cur,rfl,h1,_⟩
  ·cases hb
  ·cases hb;exact wAi h1
theorem Res.At.keep {w w':World} {X:Nat->Prop} {r:Res} (h:r.At w) (k:Keep w w' X) (hx:∀ b,r.has b->¬ X b):r.At w':=by
 have hl:=fun b hb=>h.lt (b:=b) hb
 cases r with
 | blk b' T cs=>exact (k.block _ (hl _ rfl) (hx _ rfl)).trans h
 | obj b' o=>exact (k.block _ (hl _ rfl) (hx _ rfl)).trans h
 | abs fp P =>
  have e:∀ b,fp b->w'.heap[b]?=w.heap[b]?:=fun b hb=>k.block b (h.2.1 b hb) (hx b hb)
  exact ⟨h.2.2 w' e,fun b hb=>nj (h.2.1 b hb) k.size,fun w2 h2=>h.2.2 w2 fun b hb=>(h2 b hb).trans (e b hb)⟩
 | row A c T sz cs =>
  rcases h with h | ⟨b',cur,rfl,h1,h2⟩
  ·exact .inl h
  ·exact .inr ⟨b',cur,rfl,(k.block _ (hl _ rfl) (hx _ rfl)).trans h1,h2⟩
section
variable {B:Base} {U U':PHeap} {L:List Res} {w w':World}
theorem St.grow (h:St B U L w) (k:Keep w w' Non):St B U L w' :=
  ⟨k.os.trans h.os,k.tape.trans h.tape,k.output.trans h.output,nc h.size k.size,fun b hb hm=>(k.block b (nj hb h.size) id).trans (h.old b hb hm),
   fun b o hb=>(k.block b (wAi (h.fro b o hb)) id).trans (h.fro b o hb),h.le,h.src,fun r hr=>(h.at_ r hr).keep k fun _ _ h=>h,h.own,h.dj⟩
theorem St.drew (h:St B U L w):St B U L { w with drawn:=w.drawn + 1 }:=h.grow (Keep.drew w)
theorem St.new (h:St B U L w) (k:Keep w w' Non) {r:Res} (hr:r.At w') {b:Nat} (_:r.has b) (hn:w.heap.size <= b) (ho:∀ c,r.has c->c=b:=by intro c hc;cases hc;rfl):St B U (r :: L) w':=by
 have h':=h.grow k
 have hU:U b=none:=by
  cases e:U b with
  | none=>rfl
  | some o=>have:=wAi (h.fro b o e);omega
 refine ⟨h'.os,h'.tape,h'.output,h'.size,h'.old,h'.fro,h'.le,h'.src,?_,?_,?_⟩
 ·intro s hs
  rcases nH.1 hs with rfl | hs
  ·exact hr
  ·exact h'.at_ s hs
 ·intro s hs c hc
  rcases nH.1 hs with rfl | hs
  ·obtain rfl:=ho c hc
   exact ⟨hU,.inl (nc h.size hn)⟩
  ·exact h'.own s hs c hc
 ·intro i j s t c hi hj hs ht
  have old:∀ (i:Nat) (s:Res),L[i]?=some s->s.has c->c < w.heap.size:=fun i s hi hs=>(h.at_ s (nA hi)).lt hs
  cases i with
  | zero =>
   simp only [nQ,nK] at hi;subst hi
   obtain rfl:=ho c hs
   cases j with
   | zero=>rfl
   | succ j=>have:=old j t (by simpa using hj) ht;omega
  | succ i =>
   have h1:=old i s (by simpa using hi) hs
   cases j with
   | zero =>
    simp only [nQ,nK] at hj;subst hj
    obtain rfl:=ho c ht;omega
   | succ j=>rw [h.dj i j s t c (by simpa using hi) (by simpa using hj) hs ht]
theorem St.addNone (h:St B U L w) {r:Res} (hr:r.At w) (hb:∀ b,¬ r.has b:=by intro b h;cases h):St B U (r :: L) w:=by
 refine ⟨h.os,h.tape,h.output,h.size,h.old,h.fro,h.le,h.src,?_,?_,?_⟩
 ·intro s hs
  rcases nH.1 hs with rfl | hs
  ·exact hr
  ·exact h.at_ s hs
 ·intro s hs c hc
  rcases nH.1 hs with rfl | hs
  ·exact absurd hc (hb c)
  ·exact h.own s hs c hc
 ·intro i j s t c hi hj hs ht
  cases i with
  | zero=>simp only [nQ,nK] at hi;subst hi;exact absurd hs (hb c)
  | succ i =>
   cases j with
   | zero=>simp only [nQ,nK] at hj;subst hj;exact absurd ht (hb c)
   | succ j=>rw [h.dj i j s t c (by simpa using hi) (by simpa using hj) hs ht]
theorem St.nilrow (h:St B U L w) (T:TypeId) (sz:Nat):St B U (.row none 0 T sz [] :: L) w:=h.addNone (.inl ⟨rfl,rfl,rfl⟩)
theorem St.set (h:St B U L w) {k:Nat} {r r':Res} (hk:L[k]?=some r) (K:Keep w w' fun b=>r.has b) (hr:r'.At w') (hb:∀ b,r'.has b->r.has b \/ w.heap.size <= b):St B U (L.set k r') w':=by
 have hkl:k < L.length:=(nB.1 hk).1
 have hrm:=nA hk
 have mine:∀ b,r.has b->U b=none/\B.mine b:=fun b hb=>h.own r hrm b hb
 have get:∀ (i:Nat) (s:Res),(L.set k r')[i]?=some s->(i=k/\s=r') \/ (i ≠ k/\L[i]?=some s):=by
  intro i s hi
  rw [aO] at hi
  by_cases e:k=i
  ·subst e;rw [if_pos rfl,if_pos hkl] at hi;cases hi;exact .inl ⟨rfl,rfl⟩
  ·rw [if_neg e] at hi;exact .inr ⟨fun h=>e h.symm,hi⟩
 have oth:∀ (i:Nat) (s:Res) (b:Nat),i ≠ k->L[i]?=some s->s.has b->¬ r.has b:=fun i s b hne hi hs hrb=>hne (h.dj i k s r b hi hk hs hrb)
 have hw:∀ b,r'.has b->U b=none/\B.mine b:=by
  intro b hb'
  rcases hb b hb' with h1 | h1
  ·exact mine b h1
  ·refine ⟨?_,.inl (nc h.size h1)⟩
   cases e:U b with
   | none=>rfl
   | some o=>have:=wAi (h.fro b o e);omega
 refine ⟨K.os.trans h.os,K.tape.trans h.tape,K.output.trans h.output,nc h.size K.size,?_,?_,h.le,h.src,?_,?_,?_⟩
 ·intro b hb hm
  exact (K.block b (nj hb h.size) fun hrb=>hm (mine b hrb).2).trans (h.old b hb hm)
 ·intro b o hb
  exact (K.block b (wAi (h.fro b o hb)) fun hrb=>by have:=(mine b hrb).1;rw [hb] at this;cases this).trans (h.fro b o hb)
 ·intro s hs
  obtain ⟨i,hi⟩:=nJ hs
  rcases get i s hi with ⟨_,rfl⟩ | ⟨hne,hi⟩
  ·exact hr
  ·exact (h.at_ s (nA hi)).keep K fun b hs=>oth i s b hne hi hs
 ·intro s hs b hb'
  obtain ⟨i,hi⟩:=nJ hs
  rcases get i s hi with ⟨_,rfl⟩ | ⟨hne,hi⟩
  ·exact hw b hb'
  ·exact h.own s (nA hi) b hb'
 ·intro i j s t b hi hj hs ht
  have ltn:∀ (i:Nat) (s:Res),L[i]?=some s->s.has b->b < w.heap.size:=fun i s hi hs=>(h.at_ s (nA hi)).lt hs
  rcases get i s hi with ⟨e1,e2⟩ | ⟨hne,hi'⟩
  ·subst e1 e2
   rcases get j t hj with ⟨e1,e2⟩ | ⟨hne,hj'⟩
   ·exact e1.symm
   ·rcases hb b hs with h1 | h1
    ·exact absurd h1 (oth j t b hne hj' ht)
    ·have:=ltn j t hj' ht;omega
  ·rcases get j t hj with ⟨e1,e2⟩ | ⟨hne',hj'⟩
   ·subst e1 e2
    rcases hb b ht with h1 | h1
    ·exact absurd h1 (oth i s b hne hi' hs)
    ·have:=ltn i s hi' hs;omega
   ·exact h.dj i j s t b hi' hj' hs ht
theorem wHA {α:Type} {L:List α} {k i:Nat} {s:α} (hi:(L.eraseIdx k)[i]?=some s):L[if i < k then i else i + 1]?=some s:=by
 rw [List.getElem?_eraseIdx] at hi
 split
 ·rename_i h;rw [if_pos h] at hi;exact hi
 ·rename_i h;rw [if_neg h] at hi;exact hi
theorem St.drop (h:St B U L w) (k:Nat):St B U (L.eraseIdx k) w:=by
 refine ⟨h.os,h.tape,h.output,h.size,h.old,h.fro,h.le,h.src,fun r hr=>h.at_ r (nv hr),fun r hr=>h.own r (nv hr),?_⟩
 intro i j r s b hi hj hr hs
 have:=h.dj _ _ r s b (wHA hi) (wHA hj) hr hs
 split at this <;> split at this <;> omega
theorem St.front (h:St B U L w) {k:Nat} {r:Res} (hk:L[k]?=some r):St B U (r :: L.eraseIdx k) w:=by
 refine ⟨h.os,h.tape,h.output,h.size,h.old,h.fro,h.le,h.src,fun s hs=>?_,fun s hs=>?_,?_⟩
 ·rcases nH.1 hs with rfl | hs
  ·exact h.at_ s (nA hk)
  ·exact h.at_ s (nv hs)
 ·rcases nH.1 hs with rfl | hs
  ·exact h.own s (nA hk)
  ·exact h.own s (nv hs)
 intro i j s t b hi hj hs ht
 have get:∀ (i:Nat) (s:Res),(r :: L.eraseIdx k)[i]?=some s->L[if i=0 then k else if i - 1 < k then i - 1 else i]?=some s:=by
  intro i s hi
  cases i with
  | zero=>simpa using hk.trans (by simpa using hi)
  | succ i =>
   have:=wHA (L:=L) (k:=k) (i:=i) (s:=s) (by simpa using hi)
   rw [if_neg (by omega)]
   simpa using this
 have:=h.dj _ _ s t b (get i s hi) (get j t hj) hs ht
 split at this <;> split at this <;> (try split at this) <;> (try split at this) <;> omega
structure Sl (U:PHeap) (sz:Nat) (A:Option Addr) (c n:Nat) (cs:List Value):Prop where
 len:cs.length=n * sz
 cap:n <= c
 mem:n=0 \/ ∃ b off arr T fr,A=some ⟨b,off,none⟩/\U b=some (.cells arr T fr)/\(arr.toList.drop off).take (n * sz)=cs
def PHeap.Le (U U':PHeap):Prop:=∀ b o,U b=some o->U' b=some o
theorem Sl.le {sz c n:Nat} {A:Option Addr} {cs:List Value} (h:Sl U sz A c n cs) (hl:PHeap.Le U U'):Sl U' sz A c n cs :=
 ⟨h.len,h.cap,h.mem.imp id fun ⟨b,off,arr,T,fr,h1,h2,h3⟩=>⟨b,off,arr,T,fr,h1,hl _ _ h2,h3⟩⟩
theorem PHeap.Le.refl (U:PHeap):PHeap.Le U U:=fun _ _ h=>h
theorem PHeap.Le.trans {U1 U2 U3:PHeap} (h:PHeap.Le U1 U2) (h':PHeap.Le U2 U3):PHeap.Le U1 U3:=fun b o hb=>h' b o (h b o hb)
theorem Sl.nil (U:PHeap) (sz:Nat) (A:Option Addr) (c:Nat):Sl U sz A c 0 []:=⟨by simp,ky _,.inl rfl⟩
theorem St.freezeB (h:St B U L w) {k b:Nat} (hk:∃ r,L[k]?=some r/\r.has b):∃ U',PHeap.Le U U'/\U' b=w.heap[b]?/\St B U' (L.eraseIdx k) w:=by
 obtain ⟨r,hk,hb⟩:=hk
 have hr:=nA hk
 have hn:=h.own r hr b hb
 refine ⟨fun x=>if x=b then w.heap[b]? else U x,fun x o hx=>?_,by simp,?_⟩
 ·by_cases e:x=b
  ·subst e;rw [hn.1] at hx;cases hx
  ·simp [e,hx]
 ·have hd:=h.drop k
  refine ⟨h.os,h.tape,h.output,h.size,h.old,?_,?_,?_,hd.at_,?_,hd.dj⟩
  ·intro x o hx
   split at hx
   ·rename_i e;subst e;exact hx
   ·exact h.fro x o hx
  ·intro x o hx
   have:=h.le x o hx
   by_cases e:x=b
   ·subst e;rw [hn.1] at this;cases this
   ·simp [e,this]
  ·intro x o hx
   split at hx
   ·rename_i e;subst e;exact .inr hn.2
   ·exact h.src x o hx
  ·intro s hs c hc
   have hs':=hd.own s hs c hc
   refine ⟨?_,hs'.2⟩
   obtain ⟨i,hi⟩:=nJ hs
   have hne:c ≠ b:=by
    rintro rfl
    have:=h.dj _ _ s r c (wHA hi) hk hc hb
    split at this <;> omega
   simp [hne,hs'.1]
theorem St.freeze (h:St B U L w) {k b:Nat} {T:TypeId} {cs:List Value} (hk:L[k]?=some (.blk b T cs)) :
  ∃ U',PHeap.Le U U'/\U' b=some (.cells cs.toArray T (0,0))/\St B U' (L.eraseIdx k) w:=by
 obtain ⟨U',h1,h2,h3⟩:=h.freezeB ⟨_,hk,rfl⟩
 have:=h.at_ _ (nA hk)
 exact ⟨U',h1,h2.trans this,h3⟩
theorem St.freezeO (h:St B U L w) {k b:Nat} {o:Obj} (hk:L[k]?=some (.obj b o)) :
  ∃ U',PHeap.Le U U'/\U' b=some o/\St B U' (L.eraseIdx k) w:=by
 obtain ⟨U',h1,h2,h3⟩:=h.freezeB ⟨_,hk,rfl⟩
 have:=h.at_ _ (nA hk)
 exact ⟨U',h1,h2.trans this,h3⟩
theorem St.freezeR (h:St B U L w) {k c n T sz:Nat} {A:Option Addr} {cs:List Value} (hk:L[k]?=some (.row A c T sz cs)) (hn:cs.length=n * sz) (hz:0 < sz) :
  ∃ U',PHeap.Le U U'/\Sl U' sz A c n cs/\St B U' (L.eraseIdx k) w:=by
 have hr:=h.at_ _ (nA hk)
 rcases hr with ⟨rfl,rfl,rfl⟩ | ⟨b,cur,rfl,h1,h2,h3,h4,h5⟩
 ·have:n=0:=by
   simp only [List.length_nil] at hn
   rcases nY n with e | e
   ·exact e
   ·have:=kR e hz;omega
  subst this
  exact ⟨U,PHeap.Le.refl U,Sl.nil _ _ _ _,h.drop k⟩
 ·obtain ⟨U',g1,g2,g3⟩:=h.freezeB ⟨_,hk,rfl⟩
  refine ⟨U',g1,⟨hn,?_,.inr ⟨b,0,cur,T,(0,0),rfl,g2.trans h1,?_⟩⟩,g3⟩
  ·rw [hn] at h2;exact nh h2 hz
  ·rw [<- hn];simpa using h5
theorem St.blkAt (h:St B U L w) {k b:Nat} {T:TypeId} {cs:List Value} (hk:L[k]?=some (.blk b T cs)):Blk w b T cs:=h.at_ _ (nA hk)
theorem St.enter (h:St B U L w) (own:List Res) (hs:∃ f:Nat->Nat,(∀ i r,own[i]?=some r->L[f i]?=some r)/\∀ i j,i < own.length->j < own.length->f i=f j->i=j):St ⟨w,own,U⟩ U own w:=by
 obtain ⟨f,hf,hi⟩:=hs
 have mem:∀ r ∈ own,r ∈ L:=fun r hr=>by
  obtain ⟨i,hi⟩:=nJ hr
  exact nA (hf i r hi)
 refine ⟨rfl,TapeLe.refl w,rfl,nN _,fun _ _ _=>rfl,h.fro,fun _ _ h=>h,fun _ _ h=>.inl h,fun r hr=>h.at_ r (mem r hr),fun r hr b hb=>⟨(h.own r (mem r hr) b hb).1,.inr ⟨r,hr,hb⟩⟩,?_⟩
 intro i j r s b hi' hj hr hs
 have h1:=(nB.1 hi').1
 have h2:=(nB.1 hj).1
 exact hi i j h1 h2 (h.dj _ _ r s b (hf i r hi') (hf j s hj) hr hs)
theorem St.enterH (h:St B U L w) (n:Nat):St ⟨w,L.take n,U⟩ U (L.take n) w:=by
 refine h.enter _ ⟨id,fun i r hi=>?_,fun _ _ _ _ e=>e⟩
 rw [nM] at hi
 split at hi
 ·exact hi
 ·cases hi
theorem St.enterT (h:St B U L w) (n:Nat):St ⟨w,L.drop n,U⟩ U (L.drop n) w:=by
 refine h.enter _ ⟨fun i=>n + i,fun i r hi=>?_,fun _ _ _ _ e=>by simpa using e⟩
 rwa [nP] at hi
theorem St.kp {own:List Res} (h:St ⟨w,own,U⟩ U' L w'):Keep w w' fun b=>∃ r ∈ own,r.has b :=
 ⟨h.os,h.tape,h.output,h.size,fun b hb hx=>h.old b hb fun hm=>hm.elim (fun h=>absurd hb (aS.2 h)) hx⟩
theorem St.kp0 (h:St ⟨w,[],U⟩ U' L w'):Keep w w' Non:=h.kp.weak fun b _ ⟨r,hr,_⟩=>by cases hr
theorem St.back {X own own':List Res} (h:St B U L w) (hL:(∀ r ∈ X,r ∈ L)/\(∀ r ∈ own,r ∈ L)/\(∀ (i j:Nat) (r s:Res) (b:Nat),X[i]?=some r->X[j]?=some s->r.has b->s.has b->i=j)/\(∀ r ∈ X,∀ s ∈ own,∀ b,r.has b->¬ s.has b))
  (h':St ⟨w,own,U⟩ U' own' w'):St B U' (own' ++ X) w'/\St B U' (X ++ own') w'/\PHeap.Le U U':=by
 obtain ⟨hX,hO,hd,ho⟩:=hL
 have k:=h'.kp
 have own_mine:∀ b,(∃ r ∈ own,r.has b)->B.mine b/\U b=none:=fun b ⟨r,hr,hb⟩=>⟨(h.own r (hO r hr) b hb).2,(h.own r (hO r hr) b hb).1⟩
 have mine':∀ b,Base.mine ⟨w,own,U⟩ b->B.mine b:=fun b hb=>by
  rcases hb with hb | hb
  ·exact .inl (nc h.size hb)
  ·exact (own_mine b hb).1
 have Xlt:∀ r ∈ X,∀ b,r.has b->b < w.heap.size/\¬ Base.mine ⟨w,own,U⟩ b:=fun r hr b hb=>by
  have hlt:=(h.at_ r (hX r hr)).lt hb
  exact ⟨hlt,fun hm=>hm.elim (fun h=>absurd hlt (aS.2 h)) fun ⟨s,hs,hsb⟩=>ho r hr s hs b hb hsb⟩
 have base:∀ Y:List Res,(∀ r ∈ Y,r ∈ own' \/ r ∈ X)->(∀ (i j:Nat) (r s:Res) (b:Nat),Y[i]?=some r->Y[j]?=some s->r.has b->s.has b->i=j)->St B U' Y w':=by
  intro Y hY hdY
  refine ⟨k.os.trans h.os,k.tape.trans h.tape,k.output.trans h.output,nc h.size k.size,?_,h'.fro,fun b o hb=>h'.le b o (h.le b o hb),?_,?_,?_,hdY⟩
  ·intro b hb hm
   exact (k.block b (nj hb h.size) fun hx=>hm (own_mine b hx).1).trans (h.old b hb hm)
  ·intro b o hb
   rcases h'.src b o hb with h1 | h1
   ·exact h.src b o h1
   ·exact .inr (mine' b h1)
  ·intro r hr
   rcases hY r hr with hr | hr
   ·exact h'.at_ r hr
   ·exact (h.at_ r (hX r hr)).keep k fun b hb=>fun hx=>(Xlt r hr b hb).2 (.inr hx)
  ·intro r hr b hb
   rcases hY r hr with hr | hr
   ·exact ⟨(h'.own r hr b hb).1,mine' b (h'.own r hr b hb).2⟩
   ·refine ⟨?_,(h.own r (hX r hr) b hb).2⟩
    cases e:U' b with
    | none=>rfl
    | some o =>
     rcases h'.src b o e with h1 | h1
     ·have h1:U b=some o:=h1
      have:=(h.own r (hX r hr) b hb).1;rw [h1] at this;cases this
     ·exact absurd h1 (Xlt r hr b hb).2
 have cross:∀ r ∈ own',∀ s ∈ X,∀ b,r.has b->¬ s.has b:=fun r hr s hs b hb hsb=>(Xlt s hs b hsb).2 (h'.own r hr b hb).2
 have dj2:∀ Y Z:List Res,(∀ r ∈ Y,∀ s ∈ Z,∀ b,r.has b->¬ s.has b)->(∀ (i j:Nat) (r s:Res) (b:Nat),Y[i]?=some r->Y[j]?=some s->r.has b->s.has b->i=j) ->
   (∀ (i j:Nat) (r s:Res) (b:Nat),Z[i]?=some r->Z[j]?=some s->r.has b->s.has b->i=j)->∀ (i j:Nat) (r s:Res) (b:Nat),(Y ++ Z)[i]?=some r->(Y ++ Z)[j]?=some s->r.has b->s.has b->i=j:=by
  intro Y Z hc hY hZ i j r s b hi hj hr hs
  rcases nX i Y.length with h1 | h1
  ·rw [nG h1] at hi
   rcases nX j Y.length with h2 | h2
   ·rw [nG h2] at hj;exact hY i j r s b hi hj hr hs
   ·rw [nE h2] at hj
    exact absurd hs (hc r (nA hi) s (nA hj) b hr)
  ·rw [nE h1] at hi
   rcases nX j Y.length with h2 | h2
   ·rw [nG h2] at hj
    exact absurd hr (hc s (nA hj) r (nA hi) b hs)
   ·rw [nE h2] at hj
    have:=hZ _ _ r s b hi hj hr hs;omega
 refine ⟨base _ (fun r hr=>nb.1 hr) (dj2 _ _ cross h'.dj hd),base _ (fun r hr=>(nb.1 hr).symm) (dj2 _ _ (fun r hr s hs b hb hsb=>cross s hs r hr b hsb hb) hd h'.dj),fun b o hb=>h'.le b o hb⟩
theorem St.backH (h:St B U L w) (n:Nat) {own':List Res} (h':St ⟨w,L.take n,U⟩ U' own' w'):St B U' (own' ++ L.drop n) w'/\PHeap.Le U U':=by
 have:=h.back (X:=L.drop n) ⟨fun r hr=>aC hr,fun r hr=>aD hr,fun i j r s b hi hj hr hs=>by
  rw [nP] at hi hj
  have:=h.dj _ _ r s b hi hj hr hs;omega,fun r hr s hs b hb hsb=>by
  obtain ⟨i,hi⟩:=nJ hr
  obtain ⟨j,hj⟩:=nJ hs
  rw [nP] at hi
  rw [nM] at hj
  split at hj
  ·have:=h.dj _ _ r s b hi hj hb hsb;omega
  ·cases hj⟩ h'
 exact ⟨this.1,this.2.2⟩
theorem St.backT (h:St B U L w) (n:Nat) {own':List Res} (h':St ⟨w,L.drop n,U⟩ U' own' w'):St B U' (L.take n ++ own') w'/\PHeap.Le U U':=by
 have:=h.back (X:=L.take n) ⟨fun r hr=>aD hr,fun r hr=>aC hr,fun i j r s b hi hj hr hs=>by
  rw [nM] at hi hj
  (split at hi <;> split at hj <;> first | exact h.dj _ _ r s b hi hj hr hs | (cases hi;done) | (cases hj;done)),fun r hr s hs b hb hsb=>by
  obtain ⟨i,hi⟩:=nJ hr
  obtain ⟨j,hj⟩:=nJ hs
  rw [nP] at hj
  rw [nM] at hi
  split at hi
  ·have:=h.dj _ _ r s b hi hj hb hsb;omega
  ·cases hi⟩ h'
 exact ⟨this.2.1,this.2.2⟩
end
def w64 (x:Int):Int:=(x + 9223372036854775808) % 18446744073709551616 - 9223372036854775808
def wGB (x:Int):Int:=x % 4294967296
theorem wAT {x:Int} (h1:-9223372036854775808 <= x) (h2:x <= 9223372036854775807):w64 x=x:=by unfold w64;omega
theorem wTy (x:Int):w64 x <= 9223372036854775807:=by unfold w64;omega
def chk (i:Int) (n:Nat):Option Unit:=if 0 <= i/\i < n then some () else none
def idx {α:Type} (l:List α) (i:Int):Option α:=if 0 <= i then l[i.toNat]? else none
def quo (a b:Int):Option Int:=if b=0 then none else some (w64 (a.tdiv b))
def rem (a b:Int):Option Int:=if b=0 then none else some (a.tmod b)
def app {α:Type} (bytes:Nat) (l m:List α):Option (List α):=if (l.length + m.length) * bytes <= 140737488355328 then some (l ++ m) else none
structure Arr (α:Type) (n:Nat) where
 l:List α
 h:l.length=n
deriving DecidableEq
namespace Arr
variable {α:Type} {n:Nat}
def fill (n:Nat) (x:α):Arr α n:=⟨np n x,by simp⟩
def set (a:Arr α n) (i:Nat) (x:α):Arr α n:=⟨a.l.set i x,by simp [a.h]⟩
def get [Inhabited α] (a:Arr α n) (i:Nat):α:=a.l.getD i default
end Arr
def forN {S B:Type} (body:Nat->S->Option (S ⊕ B)):Nat->Nat->S->Option (S ⊕ B)
 | 0,_,s=>some (.inl s)
 | m + 1,k,s=>match body k s with
  | none=>none
  | some (.inl s')=>forN body m (k + 1) s'
  | some (.inr b)=>some (.inr b)
def wGa {S B:Type} (lo hi:Int) (body:Nat->S->Option (S ⊕ B)) (s:S):Option (S ⊕ B):=if hi <= 9223372036854775807 then forN body (hi - lo).toNat 0 s else none
def forN' {S:Type} (body:Nat->S->Option S):Nat->Nat->S->Option S
 | 0,_,s=>some s
 | m + 1,k,s=>match body k s with
  | none=>none
  | some s'=>forN' body m (k + 1) s'
def wCs {S:Type} (lo hi:Int) (body:Nat->S->Option S) (s:S):Option S:=if hi <= 9223372036854775807 then forN' body (hi - lo).toNat 0 s else none
def big:Nat:=18446744073709551616
def iter {S B:Type} (body:S->Option (S ⊕ B)):Nat->S->Option B
 | 0,_=>none
 | m + 1,s=>match body s with
  | none=>none
  | some (.inl s')=>iter body m s'
  | some (.inr b)=>some b
theorem bnd {α β:Type} {x:Option α} {f:α->Option β} {b:β} (h:x.bind f=some b):∃ a,x=some a/\f a=some b:=by
 cases x with
 | none=>cases h
 | some a=>exact ⟨a,rfl,h⟩
theorem wBk {i:Int} {n:Nat} {u:Unit} (h:chk i n=some u):0 <= i:=by unfold chk at h;split at h <;> simp_all
theorem wBl {i:Int} {n:Nat} {u:Unit} (h:chk i n=some u):i < n:=by unfold chk at h;split at h <;> simp_all
theorem wAR {i:Int} {n:Nat} {u:Unit} (h:chk i n=some u):i.toNat < n:=by have:=wBk h;have:=wBl h;omega
theorem wDA {i:Int} {n:Nat} (h0:0 <= i) (h1:i < n):chk i n=some ():=if_pos ⟨h0,h1⟩
theorem wFJ {α:Type} {l:List α} {i:Int} {x:α} (h:idx l i=some x):0 <= i:=by unfold idx at h;split at h <;> simp_all
theorem wBD {α:Type} {l:List α} {i:Int} {x:α} (h:idx l i=some x):l[i.toNat]?=some x:=by unfold idx at h;split at h <;> simp_all
theorem wDB {α:Type} {l:List α} {i:Int} {x:α} (h:idx l i=some x):i.toNat < l.length:=(nB.1 (wBD h)).1
theorem wFT {α:Type} {l:List α} {i:Int} {x:α} (h:idx l i=some x):i < l.length:=by have:=wDB h;have:=wFJ h;omega
theorem wJe {α:Type} {l:List α} {k:Nat}:idx l (k:Int)=l[k]?:=by simp [idx]
theorem wNt {α:Type} {bytes:Nat} {l m r:List α} (h:app bytes l m=some r):r=l ++ m/\(l.length + m.length) * bytes <= 140737488355328:=by
 unfold app at h;split at h
 ·rename_i h';injection h with h;exact ⟨h.symm,h'⟩
 ·cases h
theorem wTz {a b r:Int} (h:rem a b=some r):b ≠ 0/\a.tmod b=r:=by unfold rem at h;split at h <;> simp_all
theorem wUA {a b r:Int} (h:quo a b=some r):b ≠ 0/\w64 (a.tdiv b)=r:=by unfold quo at h;split at h <;> simp_all
theorem wDn {S B:Type} {lo hi:Int} {body:Nat->S->Option (S ⊕ B)} {s:S} {b:S ⊕ B} (h:wGa lo hi body s=some b):hi <= 9223372036854775807/\forN body (hi - lo).toNat 0 s=some b:=by
 unfold wGa at h;split at h
 ·rename_i h';exact ⟨h',h⟩
 ·cases h
theorem wBr {S:Type} {lo hi:Int} {body:Nat->S->Option S} {s:S} {b:S} (h:wCs lo hi body s=some b):hi <= 9223372036854775807/\forN' body (hi - lo).toNat 0 s=some b:=by
 unfold wCs at h;split at h
 ·rename_i h';exact ⟨h',h⟩
 ·cases h
def esc {S R:Type} (x:Option R):Option (S ⊕ R):=match x with
 | none=>none
 | some v=>some (.inr v)
theorem wAS {S R:Type} {x:Option R} {y:S ⊕ R} (h:esc x=some y):∃ v,x=some v/\y=.inr v:=by
 cases x with
 | none=>cases h
 | some v=>exact ⟨v,rfl,(ku h).symm⟩
def jn {S R:Type} (x:Option (S ⊕ R)) (k:S->Option R):Option R:=match x with
 | none=>none
 | some (.inl s)=>k s
 | some (.inr v)=>some v
theorem wDo {S R:Type} {x:Option (S ⊕ R)} {k:S->Option R} {v:R} (h:jn x k=some v):∃ r,x=some r:=by
 cases x with
 | none=>cases h
 | some r=>exact ⟨r,rfl⟩
theorem wEt {S R:Type} {x:Option (S ⊕ R)} {k:S->Option R} {v:R} {s:S} {r:S ⊕ R} (h:jn x k=some v) (hx:x=some r) (hr:r=.inl s):k s=some v:=by subst hx hr;exact h
theorem wCa {S R:Type} {x:Option (S ⊕ R)} {k:S->Option R} {v u:R} {r:S ⊕ R} (h:jn x k=some v) (hx:x=some r) (hr:r=.inr u):u=v:=by subst hx hr;exact ku h
@[simp] theorem wPu {S R:Type} (v:R):(esc (some v):Option (S ⊕ R))=some (.inr v):=rfl
@[simp] theorem esc_none {S R:Type}:(esc (none:Option R):Option (S ⊕ R))=none:=rfl
@[simp] theorem wRn {S R:Type} (s:S) (k:S->Option R):jn (some (.inl s)) k=k s:=rfl
@[simp] theorem wLZ {S R:Type} (v:R) (k:S->Option R):jn (some (.inr v)) k=some v:=rfl
@[simp] theorem jn_none {S R:Type} (k:S->Option R):jn none k=none:=rfl
theorem Arr.at_ {α:Type} [Inhabited α] {n:Nat} (a:Arr α n) {k:Nat} (h:k < n):a.l[k]?=some (a.get k):=by
 unfold Arr.get
 rw [kb,nD (by rw [a.h];exact h)]
 rfl
instance {α:Type} {n:Nat} [Inhabited α]:Inhabited (Arr α n):=⟨.fill n default⟩
def gd {α:Type} [Inhabited α] (l:List α) (k:Nat):α:=l.getD k default
theorem wBt {α:Type} [Inhabited α] {xs:List α} {k:Nat} (h:k < xs.length):xs[k]?=some (gd xs k):=by
 unfold gd
 rw [kb,nD h]
 rfl
structure Hid (p:Prop):Prop where
 mk :: out:p
theorem wBq {hi:Int} {k:Nat} (h:k < (hi - 0).toNat):(↑k:Int) < hi:=by omega
theorem lp_le {lo hi:Int} {k:Nat} (h:k < (hi + 1 - lo).toNat):lo + ↑k <= hi:=by omega
theorem wBH {hi:Int}:¬ ((↑(hi - 0).toNat:Int) < hi):=by omega
theorem wNu {lo hi:Int}:¬ (lo + ↑(hi + 1 - lo).toNat <= hi):=by omega
section
variable {K V:Type} [DecidableEq K]
def wGV:List (K × V)->K->Option V
 | [],_=>none
 | (a,v) :: l,x=>if x=a then some v else wGV l x
def mput:List (K × V)->K->V->List (K × V)
 | [],x,v=>[(x,v)]
 | (a,u) :: l,x,v=>if x=a then (x,v) :: l else (a,u) :: mput l x v
def mdel:List (K × V)->K->List (K × V)
 | [],_=>[]
 | (a,u) :: l,x=>if x=a then l else (a,u) :: mdel l x
def wKT (l:List (K × V)) (x:K):Bool:=(wGV l x).isSome
def wAk (l:List (K × V)) (x:K) (z:V):V:=(wGV l x).getD z
def wEB:List (K × V)->K->Nat->Option (Nat × V)
 | [],_,_=>none
 | (a,v) :: l,x,i=>if x=a then some (i,v) else wEB l x (i + 1)
theorem wFc (l:List (K × V)) (x:K) (i:Nat):(wEB l x i).map (·.2)=wGV l x:=by
 induction l generalizing i with
 | nil=>rfl
 | cons p l ih=>obtain ⟨a,v⟩:=p;simp only [wEB,wGV];split <;> simp [ih]
theorem wGj {l:List (K × V)} {x:K} {i:Nat} (h:wEB l x i=none) (v:V):mput l x v=l ++ [(x,v)]/\mdel l x=l:=by
 induction l generalizing i with
 | nil=>exact ⟨rfl,rfl⟩
 | cons p l ih =>
  obtain ⟨a,u⟩:=p
  rw [wEB] at h
  split at h
  ·cases h
  ·rename_i hne
   obtain ⟨h1,h2⟩:=ih h
   simp [mput,mdel,hne,h1,h2]
theorem wGk {l:List (K × V)} {x:K} {i j:Nat} {u:V} (h:wEB l x i=some (j,u)) (v:V):i <= j/\l[j - i]?=some (x,u)/\mput l x v=l.set (j - i) (x,v)/\mdel l x=l.eraseIdx (j - i):=by
 induction l generalizing i with
 | nil=>cases h
 | cons p l ih =>
  obtain ⟨a,u'⟩:=p
  rw [wEB] at h
  split at h
  ·rename_i e;subst e
   simp only [nK,kc] at h
   obtain ⟨rfl,rfl⟩:=h
   simp [mput,mdel]
  ·rename_i hne
   obtain ⟨h1,h2,h3,h4⟩:=ih h
   have e:j - i=(j - (i + 1)) + 1:=by omega
   refine ⟨by omega,by rw [e];simpa using h2,?_,?_⟩
   ·rw [e];simp [mput,hne,h3]
   ·rw [e];simp [mdel,hne,h4]
end
def mkz {α:Type} (by_:Nat) (n:Int) (z:α):Option (List α):=if 0 <= n/\n <= 16777216/\(by_:Int) * n <= 281474976710656 then some (np n.toNat z) else none
def cut {α:Type} (l:List α) (a b:Int):Option (List α):=if 0 <= a/\a <= b/\b <= l.length then some ((l.drop a.toNat).take (b.toNat - a.toNat)) else none
def cpy {α:Type} (m:List α) (a:Nat) (ys:List α):List α:=m.take a ++ ys.take (m.length - a) ++ m.drop (a + ys.length)
def wPp {α:Type} (m:List α) (a:Int) (ys:List α):Option (List α):=if 0 <= a/\a <= m.length then some (cpy m a.toNat ys) else none
theorem wGE (n:Int):IntKind.i64.wrap n=w64 n:=by rw [IntKind.wrap_i64];unfold w64;omega
theorem wHa (n:Int):IntKind.u32.wrap n=wGB n:=by rw [IntKind.wrap_u32];rfl
section
variable {N:Nat} {P:Program} {l:List Oper} {Q:wDr} {D:List Deferred} {ks:List Nat} {σ:Env} {w:World} {i d:Nat} {s:Sch} {o:Oper} {B:Base} {U:PHeap} {L:List Res}
theorem wEK {o:Oper} {d:Nat} (hd:o.dst=some d) (σ:Env) (v:Value):put' σ o v=upd σ d v:=by unfold put';rw [hd]
theorem wKX {o:Oper} (hd:o.dst=none) (σ:Env) (v:Value):put' σ o v=σ:=by unfold put';rw [hd]
theorem dlt {o:Oper} {d N:Nat} (hd:o.dst=some d) (hN:nI d N=true):∀ e,o.dst=some e->e < N:=by
 intro e he;rw [hd] at he;cases he;simpa [nZ] using hN
theorem dno {o:Oper} {N:Nat} (hd:o.dst=none):∀ e,o.dst=some e->e < N:=by intro e he;rw [hd] at he;cases he
theorem OKS.r {v:Value} (ho:l[i]?=some o) (hd:o.dst=some d) (hN:nI d N=true) (hw:wanted l σ o=true) (hr:∀ w',Runs P σ w' o v w')
  (k:OKS N P l Q D ks s (upd σ d v) w):OKS N P l Q D ks (.fl i s) σ w :=
 ⟨o,ho,dlt hd hN,.inl ⟨hw,v,fun w' _=>hr w',⟨fun _=>hr,fun _ w' _=>hr w'⟩,by rw [wEK hd];exact k⟩⟩
theorem OKS.m {v:Value} (ho:l[i]?=some o) (hd:o.dst=some d) (hN:nI d N=true) (hw:wanted l σ o=true) (hr:wFb P σ w o v) (hk:wTv (kOf ks i)=false)
  (k:OKS N P l Q D ks s (upd σ d v) w):OKS N P l Q D ks (.fl i s) σ w :=
 ⟨o,ho,dlt hd hN,.inl ⟨hw,v,hr,⟨fun e=>(by rw [e] at hk;cases hk),fun e=>(by rw [e] at hk;cases hk)⟩,(by rw [wEK hd];exact k)⟩⟩
theorem OKS.p (ho:l[i]?=some o) (hd:o.dst=some d) (hN:nI d N=true) (hw:wanted l σ o=false)
  (k:OKS N P l Q D ks s (upd σ d undef) w):OKS N P l Q D ks (.fl i s) σ w :=
 ⟨o,ho,dlt hd hN,.inr ⟨hw,by rw [wEK hd];exact k⟩⟩
theorem OKS.px (ho:l[i]?=some o) (hd:o.dst=some d) (hN:nI d N=true) (hw:wanted l σ o=false)
  (k:OKS N P l Q D ks s (upd σ d undef) w):OKS N P l Q D ks (.fx i s .stop) σ w :=
 ⟨⟨o,ho,dlt hd hN,.inr ⟨hw,KeepD.refl l ks i w,by rw [wEK hd];exact k⟩⟩,trivial⟩
theorem OKS.v {v:Value} {w':World} (ho:l[i]?=some o) (hd:o.dst=some d) (hN:nI d N=true) (hw:wanted l σ o=true) (hr:Runs P σ w o v w') (hk:wGD (kOf ks i)=false \/ Keep w w' Non)
  (k:OKS N P l Q D ks s (upd σ d v) w'):OKS N P l Q D ks (.fx i s .stop) σ w :=
 ⟨⟨o,ho,dlt hd hN,.inl ⟨hw,.inr (.inl ⟨v,w',hr,KeepD.of hk,by rw [wEK hd];exact k⟩)⟩⟩,trivial⟩
theorem OKS.u {w':World} (ho:l[i]?=some o) (hd:o.dst=none) (hw:wanted l σ o=true) (hr:Does P σ w o w') (hk:wGD (kOf ks i)=false \/ Keep w w' Non)
  (k:OKS N P l Q D ks s σ w'):OKS N P l Q D ks (.fx i s .stop) σ w :=
 ⟨⟨o,ho,dno hd,.inl ⟨hw,.inl ⟨hd,w',hr,KeepD.of hk,by rw [wKX hd];exact k⟩⟩⟩,trivial⟩
theorem OKS.vn {v:Value} {w':World} (ho:l[i]?=some o) (hd:o.dst=none) (hw:wanted l σ o=true) (hr:Runs P σ w o v w') (hk:wGD (kOf ks i)=false \/ Keep w w' Non)
  (k:OKS N P l Q D ks s σ w'):OKS N P l Q D ks (.fx i s .stop) σ w :=
 ⟨⟨o,ho,dno hd,.inl ⟨hw,.inr (.inl ⟨v,w',hr,KeepD.of hk,by rw [wKX hd];exact k⟩)⟩⟩,trivial⟩
def wBW (w:World) (own:List Res) (U:PHeap) (wDr:PHeap->List Res->Value->Prop):Value->World->Prop:=fun v w'=>∃ U' L',St ⟨w,own,U⟩ U' L' w'/\wDr U' L' v
theorem OKS.callH {f:FuncId} {args:List Value} {wDr:PHeap->List Res->Value->Prop} (n:Nat) (ho:l[i]?=some o) (hd:o.dst=some d) (hN:nI d N=true) (hw:wanted l σ o=true) (he:Enters P σ w o f args) (hS:St B U L w)
  (hf:St ⟨w,L.take n,U⟩ U (L.take n) w->Gv P f args w (wBW w (L.take n) U wDr)) (hk:wGD (kOf ks i)=false \/ n=0)
  (k:∀ U' L' v w',PHeap.Le U U'->St B U' (L' ++ L.drop n) w'->wDr U' L' v->OKS N P l Q D ks s (upd σ d v) w'):OKS N P l Q D ks (.fx i s .stop) σ w:=by
 refine ⟨⟨o,ho,dlt hd hN,.inl ⟨hw,.inr (.inr (.inl ⟨f,args,_,he,hf (hS.enterH n),?_⟩))⟩⟩,trivial⟩
 rintro v w' ⟨U',L',h1,h2⟩
 obtain ⟨h3,h4⟩:=hS.backH n h1
 refine ⟨KeepD.of ?_,by rw [wEK hd];exact k U' L' v w' h4 h3 h2⟩
 rcases hk with hk | rfl
 ·exact .inl hk
 ·exact .inr <| h1.kp.weak fun b _ ⟨r,hr,_⟩=>by simp at hr
theorem wJf {j d:Nat} {b:Bool} (hg:o.guard=some (j,b)) (hd:(l[j]?).bind (·.dst)=some d) (h:σ d=.bool b):wanted l σ o=true:=by
 simp [wanted,hg,hd,h]
theorem wBb {j d:Nat} {b:Bool} (hg:o.guard=some (j,b)) (hd:(l[j]?).bind (·.dst)=some d) (h:σ d=undef):wanted l σ o=false:=by
 simp [wanted,hg,hd,h,undef]
theorem wIO {j d:Nat} {b b':Bool} (hg:o.guard=some (j,b)) (hd:(l[j]?).bind (·.dst)=some d) (h:σ d=.bool b') (hne:(b' == b)=false):wanted l σ o=false:=by
 simp [wanted,hg,hd,h,hne]
theorem Runs.addw {t u:TypeId} {x y:Operand} {m n:Int} (ho:o.op=.binOp .add t x y u) (hx:ev σ x=.int .i64 m) (hy:ev σ y=.int .i64 n):Runs P σ w o (.int .i64 (w64 (m + n))) w :=
 ⟨by rw [ho];rfl,by simp [execOp,ho,hx,hy,binOp,eqGuard,Op.intArith,wGE]⟩
theorem Runs.subw {t u:TypeId} {x y:Operand} {m n:Int} (ho:o.op=.binOp .sub t x y u) (hx:ev σ x=.int .i64 m) (hy:ev σ y=.int .i64 n):Runs P σ w o (.int .i64 (w64 (m - n))) w :=
 ⟨by rw [ho];rfl,by simp [execOp,ho,hx,hy,binOp,eqGuard,Op.intArith,wGE]⟩
theorem Runs.mulw {t u:TypeId} {x y:Operand} {m n:Int} (ho:o.op=.binOp .mul t x y u) (hx:ev σ x=.int .i64 m) (hy:ev σ y=.int .i64 n):Runs P σ w o (.int .i64 (w64 (m * n))) w :=
 ⟨by rw [ho];rfl,by simp [execOp,ho,hx,hy,binOp,eqGuard,Op.intArith,wGE]⟩
theorem Runs.addu {t u:TypeId} {x y:Operand} {m n:Int} (ho:o.op=.binOp .add t x y u) (hx:ev σ x=.int .u32 m) (hy:ev σ y=.int .u32 n):Runs P σ w o (.int .u32 (wGB (m + n))) w :=
 ⟨by rw [ho];rfl,by simp [execOp,ho,hx,hy,binOp,eqGuard,Op.intArith,wHa]⟩
theorem Runs.mulu {t u:TypeId} {x y:Operand} {m n:Int} (ho:o.op=.binOp .mul t x y u) (hx:ev σ x=.int .u32 m) (hy:ev σ y=.int .u32 n):Runs P σ w o (.int .u32 (wGB (m * n))) w :=
 ⟨by rw [ho];rfl,by simp [execOp,ho,hx,hy,binOp,eqGuard,Op.intArith,wHa]⟩
theorem Runs.rem {k:IntKind} {t u:TypeId} {x y:Operand} {m n r:Int} (ho:o.op=.binOp .rem t x y u) (hx:ev σ x=.int k m) (hy:ev σ y=.int k n) (h:KL.rem m n=some r):Runs P σ w o (.int k r) w:=by
 obtain ⟨h1,rfl⟩:=wTz h
 exact ⟨by rw [ho];rfl,by simp [execOp,ho,hx,hy,binOp,eqGuard,Op.intDiv,h1]⟩
theorem Runs.quo {t u:TypeId} {x y:Operand} {m n r:Int} (ho:o.op=.binOp .quo t x y u) (hx:ev σ x=.int .i64 m) (hy:ev σ y=.int .i64 n) (h:KL.quo m n=some r):Runs P σ w o (.int .i64 r) w:=by
 obtain ⟨h1,rfl⟩:=wUA h
 exact ⟨by rw [ho];rfl,by simp [execOp,ho,hx,hy,binOp,eqGuard,Op.intDiv,h1,wGE]⟩
theorem Runs.cvw {s' t:TypeId} {k:IntKind} {x:Operand} {m:Int} {u u2:TypeDesc} (ho:o.op=.convert s' t x) (hx:ev σ x=.int k m) (hs:∀ w,(underlying s').run P w=.ok u2 w) (ht:∀ w,(underlying t).run P w=.ok u w) (hu2:u2=.int k) (hu:u=.int .i64):Runs P σ w o (.int .i64 (w64 m)) w :=
 ⟨by rw [ho];rfl,by subst hu hu2;simp [execOp,ho,hx,convert,hs,ht,Conv.intToInt,wGE]⟩
theorem Runs.cvu {s' t:TypeId} {k:IntKind} {x:Operand} {m:Int} {u u2:TypeDesc} (ho:o.op=.convert s' t x) (hx:ev σ x=.int k m) (hs:∀ w,(underlying s').run P w=.ok u2 w) (ht:∀ w,(underlying t).run P w=.ok u w) (hu2:u2=.int k) (hu:u=.int .u32):Runs P σ w o (.int .u32 (wGB m)) w :=
 ⟨by rw [ho];rfl,by subst hu hu2;simp [execOp,ho,hx,convert,hs,ht,Conv.intToInt,wHa]⟩
theorem Runs.min {x y:Operand} {m n:Int} {ty:Array TypeId} (ho:o.op=.call { callee:=.builtin .min,args:=#[x,y],argTypes:=ty }) (hx:ev σ x=.int .i64 m) (hy:ev σ y=.int .i64 n):Runs P σ w o (.int .i64 (Min.min m n)) w :=
 ⟨by rw [ho];rfl,by
  have:(if n < m then n else m)=Min.min m n:=by rw [Int.min_def];split <;> split <;> omega
  simp [execOp,ho,resolve,invoke,builtin,Builtin.min_,Builtin.min2,hx,hy,this]⟩
theorem Runs.max {x y:Operand} {m n:Int} {ty:Array TypeId} (ho:o.op=.call { callee:=.builtin .max,args:=#[x,y],argTypes:=ty }) (hx:ev σ x=.int .i64 m) (hy:ev σ y=.int .i64 n):Runs P σ w o (.int .i64 (Max.max m n)) w :=
 ⟨by rw [ho];rfl,by
  have:(if m < n then n else m)=Max.max m n:=by rw [Int.max_def];split <;> split <;> omega
  simp [execOp,ho,resolve,invoke,builtin,Builtin.max_,Builtin.max2,hx,hy,this]⟩
theorem wRA {t:TypeId} (ht:∀ w,(underlying t).run P w=.ok .bool w) (m n:Bool) (w:World):(Op.equal t (.bool m) (.bool n)).run P w=.ok (m == n) w:=by
 unfold Op.equal Op.maxDepth
 rw [show (10000:Nat)=9999 + 1 from rfl,Op.equalIn]
 simp only [Sem.run_bind,ht,Result.andThen_ok,Sem.run_pure]
theorem Runs.eqB {t u:TypeId} {x y:Operand} {m n:Bool} (ho:o.op=.binOp .eql t x y u) (hx:ev σ x=.bool m) (hy:ev σ y=.bool n) (ht:∀ w,(underlying t).run P w=.ok .bool w):Runs P σ w o (.bool (m == n)) w :=
 ⟨by rw [ho];rfl,by simp [execOp,ho,hx,hy,binOp,eqGuard,wRA ht]⟩
theorem Runs.neB {t u:TypeId} {x y:Operand} {m n:Bool} (ho:o.op=.binOp .neq t x y u) (hx:ev σ x=.bool m) (hy:ev σ y=.bool n) (ht:∀ w,(underlying t).run P w=.ok .bool w):Runs P σ w o (.bool (!(m == n))) w :=
 ⟨by rw [ho];rfl,by simp [execOp,ho,hx,hy,binOp,eqGuard,wRA ht]⟩
def EqT {α:Type} [DecidableEq α] (P:Program) (t:TypeId) (enc:α->List Value):Prop :=
 ∀ x y w,(Op.equal t (.agg (enc x).toArray) (.agg (enc y).toArray)).run P w=.ok (decide (x=y)) w
theorem Runs.eqS {α:Type} [DecidableEq α] {t u:TypeId} {x y:Operand} {enc:α->List Value} {a b:α} (ho:o.op=.binOp .eql t x y u) (hx:ev σ x=.agg (enc a).toArray) (hy:ev σ y=.agg (enc b).toArray) (hE:EqT P t enc) (hg:P.eqGuardType P.depth t=false):Runs P σ w o (.bool (decide (a=b))) w :=
 ⟨by rw [ho];rfl,by simp [execOp,ho,hx,hy,binOp,eqGuard,hE a b,hg]⟩
theorem Runs.neS {α:Type} [DecidableEq α] {t u:TypeId} {x y:Operand} {enc:α->List Value} {a b:α} (ho:o.op=.binOp .neq t x y u) (hx:ev σ x=.agg (enc a).toArray) (hy:ev σ y=.agg (enc b).toArray) (hE:EqT P t enc) (hg:P.eqGuardType P.depth t=false):Runs P σ w o (.bool (!decide (a=b))) w :=
 ⟨by rw [ho];rfl,by simp [execOp,ho,hx,hy,binOp,eqGuard,hE a b,hg]⟩
theorem OKS.alloc {t:TypeId} {z:Value} {cs:List Value} (ho:l[i]?=some o) (hd:o.dst=some d) (hN:nI d N=true) (hw:wanted l σ o=true) (hop:o.op=.alloc t) (hz:∀ w,(zeroValue t).run P w=.ok z w) (hc:z.cells=cs.toArray) (hS:St B U L w)
  (k:∀ w' b,St B U (.blk b t cs :: L) w'->OKS N P l Q D ks s (upd σ d (.pointer (some ⟨b,0,none⟩))) w'):OKS N P l Q D ks (.fx i s .stop) σ w:=by
 refine OKS.v (v:=.pointer (some ⟨w.heap.size,0,none⟩)) (w':=w.alloc (.cells cs.toArray t)) ho hd hN hw ⟨by rw [hop];rfl,?_⟩ (.inr (wAq w _)) (k _ _ (hS.new (wAq w _) (wEg w cs t) rfl (nN _)))
 simp [execOp,hop,Instr.alloc,hz,newVar,newRow,newObj,hc,Sem.run]
theorem OKS.box {t:TypeId} {x:Operand} {v:Value} {cs:List Value} (ho:l[i]?=some o) (hd:o.dst=some d) (hN:nI d N=true) (hw:wanted l σ o=true) (hop:o.op=.box t x) (hx:ev σ x=v) (hc:v.cells=cs.toArray) (hS:St B U L w)
  (k:∀ w' b,St B U (.blk b t cs :: L) w'->OKS N P l Q D ks s (upd σ d (.pointer (some ⟨b,0,none⟩))) w'):OKS N P l Q D ks (.fx i s .stop) σ w:=by
 subst hx
 refine OKS.v (v:=.pointer (some ⟨w.heap.size,0,none⟩)) (w':=w.alloc (.cells cs.toArray t)) ho hd hN hw ⟨by rw [hop];rfl,?_⟩ (.inr (wAq w _)) (k _ _ (hS.new (wAq w _) (wEg w cs t) rfl (nN _)))
 simp [execOp,hop,Instr.box,newVar,newRow,newObj,hc,Sem.run]
theorem OKS.st {t T:TypeId} {x y:Operand} {j b off:Nat} {v:Value} {vs cs cs':List Value} (ho:l[i]?=some o) (hd:o.dst=none) (hw:wanted l σ o=true) (hop:o.op=.store t x y) (hS:St B U L w) (hk:L[j]?=some (.blk b T cs))
  (hx:ev σ x=.pointer (some ⟨b,off,none⟩)) (hy:ev σ y=v) (hc:v.cells=vs.toArray) (hsz:∀ w,(sizeOf t).run P w=.ok vs.length w) (hlt:off + vs.length <= cs.length) (h1:vs.all one=true) (hcs:wEw cs off vs=cs') (hne:wGD (kOf ks i)=false)
  (k:∀ w',St B U (L.set j (.blk b T cs')) w'->OKS N P l Q D ks s σ w'):OKS N P l Q D ks (.fx i s .stop) σ w:=by
 subst hy hcs
 obtain ⟨w',h2,h3,h4,h5⟩:=wDG (P:=P) (T:=T) off vs 0 cs w (hS.blkAt hk) hlt (nO.1 h1)
 refine OKS.u (w':=w') ho hd hw ⟨by rw [hop];rfl,?_⟩ (.inl hne) (k w' (hS.set hk (h4.weak fun x _ e=>by rw [e];rfl) h3 fun b hb=>.inl hb))
 simp [execOp,hop,Instr.storeAt,hx,Instr.sureAddr,storeVar,hc,hsz,h2]
theorem RowAt.cells {w:World} {c T sz b:Nat} {cs:List Value} (h:RowAt w (some ⟨b,0,none⟩) c T sz cs):∃ cur,w.heap[b]?=some (.cells cur T (0,0))/\cs.length <= c * sz/\c <= maxLen/\cur.size=c * sz/\cur.toList.take cs.length=cs:=by
 rcases h with ⟨h,_⟩ | ⟨b',cur,h,h1⟩
 ·cases h
 ·cases h;exact ⟨cur,h1⟩
theorem wIP (vs:List Value):∀ (l:List Value) (off n:Nat),off + vs.length <= n->(wEw l off vs).take n=wEw (l.take n) off vs:=by
 induction vs with
 | nil=>intro l off n _;rfl
 | cons v vs ih =>
  intro l off n h
  simp only [wEw]
  rw [ih _ _ _ (by simp at h;omega),List.take_set]
theorem OKS.stR {t T:TypeId} {x y:Operand} {j b c sz off:Nat} {A:Option Addr} {v:Value} {vs cs cs':List Value} (ho:l[i]?=some o) (hd:o.dst=none) (hw:wanted l σ o=true) (hop:o.op=.store t x y) (hS:St B U L w) (hk:L[j]?=some (.row A c T sz cs)) (hA:A=some ⟨b,0,none⟩)
  (hx:ev σ x=.pointer (some ⟨b,off,none⟩)) (hy:ev σ y=v) (hc:v.cells=vs.toArray) (hsz:∀ w,(sizeOf t).run P w=.ok vs.length w) (hlt:off + vs.length <= cs.length) (h1:vs.all one=true) (hcs:wEw cs off vs=cs') (hne:wGD (kOf ks i)=false)
  (k:∀ w',St B U (L.set j (.row A c T sz cs')) w'->OKS N P l Q D ks s σ w'):OKS N P l Q D ks (.fx i s .stop) σ w:=by
 subst hA
 subst hy hcs
 obtain ⟨cur,g1,g2,g3,g4,g5⟩:=RowAt.cells (hS.at_ _ (nA hk))
 have hB:Blk w b T cur.toList:=by unfold Blk;rw [g1]
 have hcl:cs.length <= cur.toList.length:=by rw [<- g5];simp;omega
 obtain ⟨w',h2,h3,h4,h5⟩:=wDG (P:=P) (T:=T) off vs 0 cur.toList w hB (by omega) (nO.1 h1)
 refine OKS.u (w':=w') ho hd hw ⟨by rw [hop];rfl,?_⟩ (.inl hne) (k w' (hS.set hk (h4.weak fun x _ e=>by rw [e];rfl) (.inr ⟨b,(wEw cur.toList (off + 0) vs).toArray,rfl,h3,?_,g3,?_,?_⟩) fun b hb=>.inl hb))
 ·simp [execOp,hop,Instr.storeAt,hx,Instr.sureAddr,storeVar,hc,hsz,h2]
 ·rw [wCS];exact g2
 ·simp [wCS,g4]
 ·rw [wCS,aH]
  show (wEw cur.toList off vs).take cs.length=_
  rw [wIP _ _ _ _ hlt,g5]
theorem St.ldB {t T:TypeId} {x:Operand} {j b off:Nat} {cs:List Value} {v:Value} (hS:St B U L w) (hk:L[j]?=some (.blk b T cs)) (hop:o.op=.load t x) (hx:ev σ x=.pointer (some ⟨b,off,none⟩)) (hag:∀ w,(isAgg t).run P w=.ok false w) (hv:cs[off]?=some v):wFb P σ w o v :=
 fun _ k=>Runs.ldB hop hx hag ((hS.grow k).blkAt hk) hv
theorem St.ldBA {t T:TypeId} {x:Operand} {j b off n:Nat} {cs vs:List Value} (hS:St B U L w) (hk:L[j]?=some (.blk b T cs)) (hop:o.op=.load t x) (hx:ev σ x=.pointer (some ⟨b,off,none⟩)) (hag:∀ w,(isAgg t).run P w=.ok true w) (hsz:∀ w,(sizeOf t).run P w=.ok n w) (hv:(cs.drop off).take n=vs) (hn:vs.length=n):wFb P σ w o (.agg vs.toArray) :=
 fun _ k=>Runs.ldBA hop hx hag hsz ((hS.grow k).blkAt hk) hv hn
theorem St.rowCell {j b c T sz off:Nat} {cs:List Value} {v:Value} (hS:St B U L w) (hk:L[j]?=some (.row (some ⟨b,0,none⟩) c T sz cs)) (hv:cs[off]?=some v):w.cell? ⟨b,off,none⟩=some v:=by
 obtain ⟨cur,g1,g2,g3,g4,g5⟩:=RowAt.cells (hS.at_ _ (nA hk))
 have:cur[off]?=some v:=by
  rw [<- g5,nM] at hv
  split at hv
  ·simpa using hv
  ·cases hv
 simp [World.cell?,g1,this]
theorem St.ldR {t T:TypeId} {x:Operand} {j b off c sz:Nat} {A:Option Addr} {cs:List Value} {v:Value} (hS:St B U L w) (hk:L[j]?=some (.row A c T sz cs)) (hA:A=some ⟨b,0,none⟩) (hop:o.op=.load t x) (hx:ev σ x=.pointer (some ⟨b,off,none⟩)) (hag:∀ w,(isAgg t).run P w=.ok false w) (hv:cs[off]?=some v):wFb P σ w o v :=
 fun _ k=>Runs.ld hop hx hag ((hS.grow k).rowCell (hA ▸ hk) hv)
theorem wGF {cs vs:List Value} {off n:Nat} (hv:(cs.drop off).take n=vs):∀ j v,vs[j]?=some v->cs[off + j]?=some v:=by
 intro j v hj
 subst hv
 rw [nM] at hj
 split at hj
 ·rwa [nP] at hj
 ·cases hj
theorem St.ldRA {t T:TypeId} {x:Operand} {j b off c sz n:Nat} {A:Option Addr} {cs vs:List Value} (hS:St B U L w) (hk:L[j]?=some (.row A c T sz cs)) (hA:A=some ⟨b,0,none⟩) (hop:o.op=.load t x) (hx:ev σ x=.pointer (some ⟨b,off,none⟩)) (hag:∀ w,(isAgg t).run P w=.ok true w) (hsz:∀ w,(sizeOf t).run P w=.ok n w) (hv:(cs.drop off).take n=vs) (hn:vs.length=n):wFb P σ w o (.agg vs.toArray) :=
 fun _ k=>Runs.ldA hop hx hag hsz hn fun j v hj=>(hS.grow k).rowCell (hA ▸ hk) (wGF hv j v hj)
def Cl (U:PHeap) (b off:Nat) (vs:List Value):Prop:=∃ arr T fr,U b=some (.cells arr T fr)/\∀ j v,vs[j]?=some v->arr[off + j]?=some v
theorem Cl.le {U U':PHeap} {b off:Nat} {vs:List Value} (h:Cl U b off vs) (hl:PHeap.Le U U'):Cl U' b off vs:=by
 obtain ⟨arr,T,fr,h1,h2⟩:=h
 exact ⟨arr,T,fr,hl _ _ h1,h2⟩
theorem Cl.cell {b off f:Nat} {vs:List Value} {v:Value} (h:Cl U b off vs) (hS:St B U L w) (hv:vs[f]?=some v):w.cell? ⟨b,off + f,none⟩=some v:=by
 obtain ⟨arr,T,fr,h1,h2⟩:=h
 simp [World.cell?,hS.fro _ _ h1,h2 f v hv]
theorem Cl.of {b:Nat} {T:TypeId} {cs:List Value} (h:U b=some (.cells cs.toArray T (0,0))):Cl U b 0 cs:=⟨_,_,_,h,fun j v hv=>by simpa using hv⟩
theorem St.ldC {t:TypeId} {x:Operand} {b off f:Nat} {vs:List Value} {v:Value} (hS:St B U L w) (hC:Cl U b off vs) (hop:o.op=.load t x) (hx:ev σ x=.pointer (some ⟨b,off + f,none⟩)) (hag:∀ w,(isAgg t).run P w=.ok false w) (hv:vs[f]?=some v):wFb P σ w o v :=
 fun _ k=>Runs.ld hop hx hag (hC.cell (hS.grow k) hv)
theorem St.ldCA {t:TypeId} {x:Operand} {b off f n:Nat} {vs us:List Value} (hS:St B U L w) (hC:Cl U b off vs) (hop:o.op=.load t x) (hx:ev σ x=.pointer (some ⟨b,off + f,none⟩)) (hag:∀ w,(isAgg t).run P w=.ok true w) (hsz:∀ w,(sizeOf t).run P w=.ok n w) (hv:(vs.drop f).take n=us) (hn:us.length=n):wFb P σ w o (.agg us.toArray) :=
 fun _ k=>Runs.ldA hop hx hag hsz hn fun j v hj=>by
  rw [Nat.add_assoc];exact hC.cell (hS.grow k) (wGF hv j v hj)
theorem wFA {α:Type} {f:α->List Value} {sz:Nat} (hf:∀ x,(f x).length=sz):∀ (l:List α) (i j:Nat) (x:α) (v:Value),l[i]?=some x->(f x)[j]?=some v->(l.flatMap f)[i * sz + j]?=some v
 | [],i,j,x,v,hi,hj=>by simp at hi
 | y :: l,0,j,x,v,hi,hj=>by
  simp at hi;subst hi
  have:j < (f y).length:=by
   rcases nX j (f y).length with h | h
   ·exact h
   ·rw [kB h] at hj;cases hj
  simp only [nV,kl,kZ]
  rw [nG this];exact hj
 | y :: l,i + 1,j,x,v,hi,hj=>by
  have ih:=wFA hf l i j x v (by simpa using hi) hj
  simp only [nV]
  rw [nE (by rw [hf,ng];omega),hf,show (i + 1) * sz + j - sz=i * sz + j from by rw [ng];omega]
  exact ih
theorem wAF {α:Type} {f:α->List Value} {sz:Nat} (hf:∀ x,(f x).length=sz) (l:List α):(l.flatMap f).length=l.length * sz:=by
 induction l with
 | nil=>simp
 | cons x l ih=>simp [ih,hf,ng];omega
theorem Sl.el {α:Type} {sz c:Nat} {A:Option Addr} {enc:α->List Value} {xs:List α} (h:Sl U sz A c xs.length (xs.flatMap enc)) (hf:∀ x,(enc x).length=sz) {k:Nat} {x:α} (hx:xs[k]?=some x) :
  ∃ b off,A=some ⟨b,off,none⟩/\Cl U b (off + k * sz) (enc x):=by
 have hlt:=(nB.1 hx).1
 rcases h.mem with h0 | ⟨b,off,arr,T,fr,hA,h2,h3⟩
 ·omega
 ·refine ⟨b,off,hA,arr,T,fr,h2,fun j v hj=>?_⟩
  have:=wFA hf xs k j x v hx hj
  rw [<- h3,nM] at this
  split at this
  ·rw [nP] at this
   rw [show off + k * sz + j=off + (k * sz + j) from by omega]
   simpa using this
  ·cases this
theorem St.rowSome {j c T sz:Nat} {A:Option Addr} {cs:List Value} (hS:St B U L w) (hk:L[j]?=some (.row A c T sz cs)) (hn:0 < cs.length):∃ b,A=some ⟨b,0,none⟩:=by
 rcases hS.at_ _ (nA hk) with ⟨_,_,rfl⟩ | ⟨b,cur,h,_⟩
 ·simp at hn
 ·exact ⟨b,h⟩
theorem wFU (vs:List Value):∀ (p l:List Value) (off:Nat),wEw (p ++ l) (p.length + off) vs=p ++ wEw l off vs:=by
 induction vs with
 | nil=>intro p l off;rfl
 | cons v vs ih =>
  intro p l off
  simp only [wEw]
  rw [aB _ _ (by omega),show p.length + off - p.length=off from by omega,show p.length + off + 1=p.length + (off + 1) from by omega,ih]
theorem wHr (vs:List Value):∀ (p l:List Value) (off:Nat),off + vs.length <= p.length->wEw (p ++ l) off vs=wEw p off vs ++ l:=by
 induction vs with
 | nil=>intro p l off _;rfl
 | cons v vs ih =>
  intro p l off h
  simp only [wEw]
  simp only [kD] at h
  rw [List.set_append_left _ _ (by omega),ih _ _ _ (by simp;omega)]
theorem wGG {α:Type} {f:α->List Value} {sz:Nat} (hf:∀ x,(f x).length=sz) {vs:List Value} {off:Nat}:∀ (l:List α) (k:Nat) (x y:α),l[k]?=some x->off + vs.length <= sz->wEw (f x) off vs=f y->wEw (l.flatMap f) (k * sz + off) vs=(l.set k y).flatMap f
 | [],k,x,y,hk,_,_=>by simp at hk
 | z :: l,0,x,y,hk,ho,hs=>by
  simp at hk;subst hk
  simp only [kl,kZ,nV,aK]
  rw [wHr _ _ _ _ (by rw [hf];exact ho),hs]
 | z :: l,k + 1,x,y,hk,ho,hs=>by
  have ih:=wGG hf l k x y (by simpa using hk) ho hs
  simp only [nV,aJ]
  rw [show (k + 1) * sz + off=(f z).length + (k * sz + off) from by rw [hf,ng];omega,wFU,ih]
theorem wKY {w w':World} {c c2 n m:Nat} {A:Option Addr} {a:Addr} {t ty e:TypeId} {inf:TypeInfo} {z v':Value} {cs news:List Value} (ht:P.underlying t=some (.slice e)) (hi:P.info? e=some inf) (hz:inf.zero=some z)
  (hown:w.ownsRow 0 e inf.size (.slice A n c) n cs) (hl:news.length=m * inf.size) (hnews:∀ j u,news[j]?=some u->w.cell? (a.add j)=some u) (h1:∀ u ∈ news,u.oneCell'=true) (h63:n + m <= maxLen) (hbytes:(n + m) * inf.bytes <= 140737488355328)
  (hr:(Builtin.append_ #[t,t] ty #[.slice A n c,.slice (some a) m c2]).run P w=.ok v' w'):w.drawn <= w'.drawn:=by
 have hsmall:n + m <= 9223372036854775807:=by simp only [maxLen] at h63;omega
 rcases hown.2 with ⟨h0,rfl⟩ | ⟨g,cap,cur,h0,hbg,hg,hnc,hcm,hcs,htake⟩
 ·cases h0
  by_cases hm:m=0
  ·subst hm
   simp [Builtin.append_,run_underlying ht,sizeOf,typeInfo,hi,Builtin.lenOf,Builtin.firstCells,loadCells,loadCellsFrom] at hr
   rw [<- hr.2]
   exact nN _
  ·have hr2:=run_append_nil (P:=P) w t ty e inf z ht hi hz a m c2 news hl hnews (by omega) (by omega) (by have hb:=hbytes;simp only [kZ] at hb;omega)
   rw [hr2] at hr
   cases hr
   exact aQ _
 ·cases h0
  by_cases hroom:n + m <= c
  ·have hfit:n * inf.size + news.length <= cur.size:=by rw [hl,hcs,<- ng];exact na _ hroom
   have hr2:=run_append_room (P:=P) w t ty e inf ht hi g n c cur hg a m c2 news hl hnews h1 hroom hfit
   rw [hr2] at hr
   cases hr
   exact nN _
  ·have holds:∀ j u,cs[j]?=some u->w.cell? ((⟨g,0,none⟩:Addr).add j)=some u:=hown.cells (g:=g) rfl
   have hr2:=run_append_grow (P:=P) w t ty e inf z ht hi hz ⟨g,0,none⟩ n c cs hown.1 holds a m c2 news hl hnews (by omega) (by omega) (growslice_fits (by omega) hbytes)
   rw [hr2] at hr
   cases hr
   exact aQ _
theorem wEd {w:World} {A A2:Option Addr} {c c2 n m sz:Nat} {t ty e:TypeId} {inf:TypeInfo} {z:Value} {cs news:List Value} (ht:P.underlying t=some (.slice e)) (hi:P.info? e=some inf) (hz:inf.zero=some z)
  (hsize:inf.size=sz) (hzs:z.cells.size=sz) (hsz:0 < sz) (hrow:RowAt w A c e sz cs) (hn:cs.length=n * sz) (hl:news.length=m * sz)
  (hnews:m=0 \/ ∃ a,A2=some a/\∀ j u,news[j]?=some u->w.cell? (a.add j)=some u) (h1:∀ u ∈ news,u.oneCell'=true) (hb:(n + m) * inf.bytes <= 140737488355328) (hby:0 < inf.bytes) :
  ∃ A' c' w',(Builtin.append_ #[t,t] ty #[.slice A n c,.slice A2 m c2]).run P w=.ok (.slice A' (n + m) c') w'/\RowAt w' A' c' e sz (cs ++ news)/\Keep w w' (fun b=>A.map (·.block)=some b) /\
   (∀ b,A'.map (·.block)=some b->A.map (·.block)=some b \/ w.heap.size <= b):=by
 have own:w.ownsRow 0 e sz (.slice A n c) n cs:=by
  refine ⟨hn,?_⟩
  rcases hrow with ⟨rfl,rfl,rfl⟩ | ⟨b,cur,rfl,h1,h2,h3,h4,h5⟩
  ·have:n=0:=by
    rcases nY n with h | h
    ·exact h
    ·have:=kR h hsz;simp at hn;omega
   subst this;exact .inl ⟨rfl,rfl⟩
  ·exact .inr ⟨b,c,cur,rfl,ky _,h1,nh (hn ▸ h2) hsz,h3,h4,by rw [<- hn];exact h5⟩
 have hnm:n + m <= maxLen:=by
  have:n + m <= (n + m) * inf.bytes:=km _ hby
  have:(140737488355328:Nat) <= maxLen:=by decide
  omega
 have fin:∀ (a:Addr),(∀ j u,news[j]?=some u->w.cell? (a.add j)=some u)->∃ A' c' w',(Builtin.append_ #[t,t] ty #[.slice A n c,.slice (some a) m c2]).run P w=.ok (.slice A' (n + m) c') w'/\RowAt w' A' c' e sz (cs ++ news)/\Keep w w' (fun b=>A.map (·.block)=some b) /\
   (∀ b,A'.map (·.block)=some b->A.map (·.block)=some b \/ w.heap.size <= b):=by
  intro a ha
  obtain ⟨v',w',hr,hown,hg,_,hbk⟩:=run_append_own_at (P:=P) (w:=w) 0 t ty e inf z sz inf.bytes ht hi hz hsize rfl hzs hsz (.slice A n c) n cs own a m c2 news hl ha h1 hnm hb (ky _)
  have ob:∀ {A:Option Addr} {n c:Nat},(kz A n c).ownBlock=A.map (·.block):=by intro A n c;cases A <;> rfl
  have hlen:(cs ++ news).length=(n + m) * sz:=by simp [hn,hl,ng]
  have hv:∃ A' c',v'=.slice A' (n + m) c'/\RowAt w' A' c' e sz (cs ++ news):=by
   rcases hown.2 with ⟨h1,h2⟩ | ⟨g,cap,cur,h1,h2,h3,h4,h5,h6,h7⟩
   ·refine ⟨none,0,by rw [h1];simp;omega,.inl ⟨rfl,rfl,?_⟩⟩
    rw [h2,kl] at hlen;exact kA hlen
   ·exact ⟨some ⟨g,0,none⟩,cap,h1,.inr ⟨g,cur,rfl,h3,by rw [hlen];exact na _ h4,h5,h6,by rw [hlen];exact h7⟩⟩
  obtain ⟨A',c',rfl,hrow'⟩:=hv
  rw [ob,ob] at hbk
  refine ⟨A',c',w',hr,hrow',⟨hg.os,⟨hg.tape,wKY (A:=A) (a:=a) ht hi hz (hsize ▸ own) (hsize ▸ hl) ha h1 hnm hb hr⟩,hg.output,hg.size,fun k hk hx=>hg.block k hk fun e=>hx ?_⟩,fun b hb=>?_⟩
  ·rw [ob] at e;exact e.symm
  ·rcases hbk with h | h
   ·rw [h] at hb;exact .inl hb
   ·rw [h] at hb;cases hb;exact .inr (nN _)
 cases A2 with
 | some a =>
  rcases hnews with h0 | ⟨a',ha,hh⟩
  ·subst h0
   have:news=[]:=by simp at hl;exact hl
   subst this
   exact fin a (fun j u h=>by simp at h)
  ·cases ha;exact fin a hh
 | none =>
  rcases hnews with h0 | ⟨a',ha,hh⟩
  ·subst h0
   have:news=[]:=by simp at hl;exact hl
   subst this
   have hle:n <= c:=by
    rcases hrow with ⟨rfl,rfl,rfl⟩ | ⟨b,cur,rfl,h1,h2,h3,h4,h5⟩
    ·have:n=0:=by
      rcases nY n with h | h
      ·exact h
      ·have:=kR h hsz;simp at hn;omega
     omega
    ·exact nh (hn ▸ h2) hsz
   refine ⟨A,c,w,?_,by simpa using hrow,Keep.refl w _,fun b hb=>.inl hb⟩
   have hsz2:∀ w,(sizeOf e).run P w=.ok sz w:=by
    intro w;simp [sizeOf,typeInfo,hi,hsize]
   have hu:∀ w,(underlying t).run P w=.ok (.slice e) w:=by intro w;simp [underlying,ht]
   cases A with
   | none=>simp [Builtin.append_,hu,hsz2,Builtin.lenOf,Builtin.firstCells,hle]
   | some a=>simp [Builtin.append_,hu,hsz2,Builtin.lenOf,Builtin.firstCells,hle,storeCells]
  ·cases ha
end
section
variable {P:Program} {σ:Env} {w:World} {o:Oper}
theorem Runs.iaN {t e:TypeId} {x y:Operand} {A:Option Addr} {b off len cap sz k:Nat} (ho:o.op=.indexAddr t x y) (hx:ev σ x=.slice A len cap) (hA:A=some ⟨b,off,none⟩) (hy:ev σ y=.int .i64 (k:Int))
  (ht:∀ w,(underlying t).run P w=.ok (.slice e) w) (hsz:∀ w,(sizeOf e).run P w=.ok sz w) (h1:k < len):Runs P σ w o (.pointer (some ⟨b,off + k * sz,none⟩)) w:=by
 subst hA
 have:=Runs.ia (P:=P) (w:=w) ho hx hy ht hsz (by omega) (by omega)
 simpa using this
theorem Runs.iaI {t e:TypeId} {x y:Operand} {A:Option Addr} {b off len cap sz:Nat} {i:Int} (ho:o.op=.indexAddr t x y) (hx:ev σ x=.slice A len cap) (hA:A=some ⟨b,off,none⟩) (hy:ev σ y=.int .i64 i)
  (ht:∀ w,(underlying t).run P w=.ok (.slice e) w) (hsz:∀ w,(sizeOf e).run P w=.ok sz w) (h0:0 <= i) (h1:i < len):Runs P σ w o (.pointer (some ⟨b,off + i.toNat * sz,none⟩)) w:=by
 subst hA
 exact Runs.ia ho hx hy ht hsz h0 h1
theorem wAb:nt (fun (p:Nat × Operand)=>(p.1,ev σ p.2)) []=[]:=rfl
theorem wAK {i:Nat} {x:Operand} {l:List (Nat × Operand)} {v:Value} {vs:List (Nat × Value)} (h:ev σ x=v) (ht:nt (fun (p:Nat × Operand)=>(p.1,ev σ p.2)) l=vs) :
  nt (fun (p:Nat × Operand)=>(p.1,ev σ p.2)) ((i,x) :: l)=(i,v) :: vs:=by rw [ka,h,ht]
def lay (place:Nat->Option (Nat × Nat)):List Value->List (Nat × Value)->Option (List Value)
 | cells,[]=>some cells
 | cells,(i,v) :: rest =>
  match place i with
  | none=>none
  | some (off,size)=>if v.cells.size == size && Nat.ble (off + size) cells.length then lay place (wEw cells off v.cells.toList) rest else none
theorem wNv (vs:List Value):∀ (l:List Value) (off j:Nat),(vs.zipIdx j).foldl (fun (cs:Array Value) (c,i)=>cs.setIfInBounds (off + i) c) l.toArray=(wEw l (off + j) vs).toArray:=by
 induction vs with
 | nil=>intro l off j;rfl
 | cons v vs ih =>
  intro l off j
  simp only [List.zipIdx_cons,List.foldl_cons,List.setIfInBounds_toArray]
  rw [ih]
  simp [wEw,Nat.add_assoc]
theorem wFd (place:Nat->Option (Nat × Nat)) (parts:List (Nat × Value)):∀ (cells:List Value) (cs:List Value),lay place cells parts=some cs->Instr.fill place cells.toArray parts=some cs.toArray:=by
 induction parts with
 | nil=>intro cells cs h;simp only [lay,nK] at h;subst h;rfl
 | cons p rest ih =>
  intro cells cs h
  obtain ⟨i,v⟩:=p
  unfold lay at h
  unfold Instr.fill
  cases hp:place i with
  | none=>simp [hp] at h
  | some q =>
   obtain ⟨off,size⟩:=q
   simp only [hp] at h ⊢
   split at h
   ·rename_i hc
    simp only [nR,beq_iff_eq] at hc
    have hle:=kX hc.2
    have hc1:=hc.1
    rw [if_neg (by rw [hc1];simp;exact hle)]
    rw [<- ih _ _ h]
    congr 1
    rw [<- Array.foldl_toList,Array.toList_zipIdx]
    have:=wNv v.cells.toList cells off 0
    simpa using this
   ·cases h
def wRB (P:Program) (fs:Array Field) (pl:List (Nat × Nat)):Prop:=∀ w,((fs.mapM fun f=>do pure (f.offset,<- sizeOf f.type):Sem (Array (Nat × Nat)))).run P w=.ok pl.toArray w
def wEo (P:Program) (t:TypeId) (pl:List (Nat × Nat)):Prop:=∃ fs,(∀ w,(underlying t).run P w=.ok (.struct fs) w)/\wRB P fs pl
theorem Runs.build {t:TypeId} {ps:List (Nat × Operand)} {pv:List (Nat × Value)} {zv:Value} {z cs:List Value} {pl:List (Nat × Nat)} (ho:o.op=.build t ps.toArray)
  (hp:nt (fun (p:Nat × Operand)=>(p.1,ev σ p.2)) ps=pv) (hz:∀ w,(zeroValue t).run P w=.ok zv w) (hT:wEo P t pl)
  (hzc:zv.cells=z.toArray) (hl:lay (fun i=>pl[i]?) z pv=some cs):Runs P σ w o (.agg cs.toArray) w:=by
 refine ⟨by rw [ho];rfl,?_⟩
 have hf:=wFd _ _ _ _ hl
 obtain ⟨fs,hs,hpl⟩:=hT
 have hpl':=hpl w
 subst hp
 simp only [execOp,ho,Instr.build,Sem.run_bind,hz,Result.andThen_ok,hs,hpl',hzc,kV,ni,hf,Sem.run_pure]
theorem Runs.buildA {t e n sz:Nat} {ps:List (Nat × Operand)} {pv:List (Nat × Value)} {zv:Value} {z cs:List Value} (ho:o.op=.build t ps.toArray)
  (hp:nt (fun (p:Nat × Operand)=>(p.1,ev σ p.2)) ps=pv) (hz:∀ w,(zeroValue t).run P w=.ok zv w) (hs:∀ w,(underlying t).run P w=.ok (.array n e) w) (hsz:∀ w,(sizeOf e).run P w=.ok sz w)
  (hzc:zv.cells=z.toArray) (hl:lay (fun i=>some (i * sz,sz)) z pv=some cs):Runs P σ w o (.agg cs.toArray) w:=by
 refine ⟨by rw [ho];rfl,?_⟩
 have hf:=wFd _ _ _ _ hl
 subst hp
 simp only [execOp,ho,Instr.build,Sem.run_bind,hz,Result.andThen_ok,hs,hsz,hzc,kV,hf,Sem.run_pure]
end
def wTi (P:Program) (w:World) (σ:Env):List ResultVar->List Value->Prop
 | [],[]=>True
 | .tmp t :: rs,v :: vs=>σ t=v/\wTi P w σ rs vs
 | .cell a t :: rs,v :: vs=>(∃ ad,σ a=.pointer (some ad)/\(loadVar t ad).run P w=.ok v w)/\wTi P w σ rs vs
 | _,_=>False
theorem wKZ {P:Program} {w:World} {σ:Env}:∀ (rs:List ResultVar) (vs:List Value),wTi P w σ rs vs ->
  (rs.mapM (wGw σ)).run P w=.ok vs w:=by
 intro rs
 induction rs with
 | nil=>intro vs h;cases vs with
  | nil=>simp
  | cons v vs=>exact h.elim
 | cons r rs ih =>
  intro vs h
  cases vs with
  | nil=>cases r <;> exact h.elim
  | cons v vs =>
   cases r with
   | tmp t =>
    obtain ⟨h1,h2⟩:=h
    simp [List.mapM_cons,ih vs h2,wGw,h1]
   | cell a t =>
    obtain ⟨⟨ad,h0,h1⟩,h2⟩:=h
    simp [List.mapM_cons,ih vs h2,wGw,h0,asAddr,h1]
theorem wJg {P:Program} {w:World} {σ:Env} {r:ResultVar} {v:Value} (h:wTi P w σ [r] [v]):(wDm #[r] σ).run P w=.ok v w:=by
 have:=wKZ _ _ h
 rw [show (#[r]:Array ResultVar)=[r].toArray from rfl]
 simp only [wDm,aP,Sem.run_bind,Sem.run_map,this,Result.andThen_ok]
 simp
theorem wHs {P:Program} {w:World} {σ:Env} {rs:List ResultVar} {vs:List Value} (h:wTi P w σ rs vs) (hn:(vs.length == 1)=false):(wDm rs.toArray σ).run P w=.ok (.tuple vs.toArray) w:=by
 have:=wKZ _ _ h
 simp only [wDm,aP]
 simp [this]
 exact fun e=>by rw [e] at hn;cases hn
theorem wEL {P:Program} {w:World} {t T:TypeId} {b off n:Nat} {l vs:List Value} (hag:∀ w,(isAgg t).run P w=.ok true w) (hsz:∀ w,(sizeOf t).run P w=.ok n w) (hB:Blk w b T l)
  (hv:(l.drop off).take n=vs) (hn:vs.length=n):(loadVar t ⟨b,off,none⟩).run P w=.ok (.agg vs.toArray) w:=by
 simp [loadVar,hag,hsz,run_loadCells vs hn (hB.cells hv)]
section
variable {N:Nat} {P:Program} {l:List Oper} {Q:wDr} {D:List Deferred} {ks:List Nat} {σ:Env} {w:World} {i d:Nat} {s:Sch} {o:Oper} {B:Base} {U:PHeap} {L:List Res}
theorem OKS.buildSlice {t e n sz:Nat} {ps:List (Nat × Operand)} {pv:List (Nat × Value)} {z:Value} {zs cs:List Value} (ho:l[i]?=some o) (hd:o.dst=some d) (hN:nI d N=true) (hw:wanted l σ o=true) (hop:o.op=.buildSlice t n ps.toArray)
  (hp:nt (fun (p:Nat × Operand)=>(p.1,ev σ p.2)) ps=pv) (ht:∀ w,(underlying t).run P w=.ok (.slice e) w) (hs:∀ w,(sizeOf e).run P w=.ok sz w) (hz:∀ w,(zeroValue e).run P w=.ok z w)
  (hn:Nat.ble (n * sz) 16777216=true) (hn0:nI 0 (n * sz)=true)
  (hzs:(nq (n * sz)).map (fun i=>z.cells[i % z.cells.size]!)=zs) (hl:lay (fun i=>some (i * sz,sz)) zs pv=some cs) (hlen:cs.length=n * sz) (hS:St B U L w)
  (k:∀ w' b,St B U (.row (some ⟨b,0,none⟩) n e sz cs :: L) w'->OKS N P l Q D ks s (upd σ d (.slice (some ⟨b,0,none⟩) n n)) w'):OKS N P l Q D ks (.fx i s .stop) σ w:=by
 have hle:=kX hn
 have hn':¬ n * sz > 2 ^ 24:=by omega
 have hsz0:0 < n * sz:=by simpa [nZ] using hn0
 have hn0':¬ n * sz=0:=by omega
 have hf:=wFd _ _ _ _ hl
 have hzs:(Array.range (n * sz)).map (z.cells[· % z.cells.size]!)=zs.toArray:=by rw [<- List.toArray_range,kV,hzs]
 subst hp
 have hmax:n <= maxLen:=by
  have h1:0 < sz:=by
   rcases nY sz with h | h
   ·subst h;omega
   ·exact h
  have:=km n h1
  have:(16777216:Nat) <= maxLen:=by decide
  omega
 refine OKS.v (v:=.slice (some ⟨w.heap.size,0,none⟩) n n) (w':=w.alloc (.cells cs.toArray e)) ho hd hN hw ⟨by rw [hop];rfl,?_⟩ (.inr (wAq w _))
  (k _ _ (hS.new (wAq w _) (.inr ⟨_,cs.toArray,rfl,wEg w cs e,by rw [hlen];exact nN _,hmax,by simp [hlen],by simp⟩) rfl (nN _)))
 simp only [execOp,hop,Instr.buildSlice,Sem.run_bind,ht,hs,hz,Result.andThen_ok,kV,if_neg hn',if_neg hn0',Sem.run_pure,hzs,hf]
 simp [newRow,newObj,Sem.run,Result.andThen]
theorem OKS.buildSlice0 {t e:Nat} (sz:Nat) (ho:l[i]?=some o) (hd:o.dst=some d) (hN:nI d N=true) (hw:wanted l σ o=true) (hop:o.op=.buildSlice t 0 #[])
  (ht:∀ w,(underlying t).run P w=.ok (.slice e) w) (hs:∀ w,(sizeOf e).run P w=.ok sz w) (hS:St B U L w)
  (k:∀ w' b,St B U (.row (some ⟨b,0,none⟩) 0 e sz [] :: L) w'->OKS N P l Q D ks s (upd σ d (.slice (some ⟨b,0,none⟩) 0 0)) w'):OKS N P l Q D ks (.fx i s .stop) σ w:=by
 refine OKS.v (v:=.slice (some ⟨w.heap.size,0,none⟩) 0 0) (w':=w.alloc (.cells #[] e)) ho hd hN hw ⟨by rw [hop];rfl,?_⟩ (.inr (wAq w _))
  (k _ _ (hS.new (wAq w _) (.inr ⟨_,#[],rfl,wEg w [] e,by simp,ky _,by simp,by simp⟩) rfl (nN _)))
 simp [execOp,hop,Instr.buildSlice,ht,hs,newRow,newObj,Sem.run,Result.andThen,Instr.fill]
 rw [show (Array.range 0)=#[] from rfl,Array.map_empty]
theorem St.srcR {j c T sz m:Nat} {A:Option Addr} {cs:List Value} (hS:St B U L w) (hk:L[j]?=some (.row A c T sz cs)) (hz:0 < sz) (hn:cs.length=m * sz):m=0 \/ ∃ a,A=some a/\∀ j u,cs[j]?=some u->w.cell? (a.add j)=some u:=by
 rcases hS.at_ _ (nA hk) with ⟨_,_,rfl⟩ | ⟨b,cur,rfl,h1,h2,h3,h4,h5⟩
 ·left
  rcases nY m with h | h
  ·exact h
  ·have:=kR h hz;simp at hn;omega
 ·right
  refine ⟨_,rfl,fun j u hj=>?_⟩
  rw [wFa,kZ]
  exact hS.rowCell hk hj
theorem St.srcS {sz c m:Nat} {A:Option Addr} {cs:List Value} (hS:St B U L w) (h:Sl U sz A c m cs):m=0 \/ ∃ a,A=some a/\∀ j u,cs[j]?=some u->w.cell? (a.add j)=some u:=by
 rcases h.mem with h0 | ⟨b,off,arr,T,fr,rfl,h2,h3⟩
 ·exact .inl h0
 ·right
  refine ⟨_,rfl,fun j u hj=>?_⟩
  rw [wFa]
  rw [<- h3,nM] at hj
  split at hj
  ·rw [nP] at hj
   simpa [World.cell?,hS.fro _ _ h2] using hj
  ·cases hj
theorem St.pick (h:St B U L w) (js:List Nat) (L':List Res) (hn:js.Nodup) (hL:js.map (fun j=>L[j]?)=L'.map some):St B U L' w:=by
 have hlen:js.length=L'.length:=by have:=congrArg List.length hL;simpa using this
 have get:∀ (i:Nat) (r:Res),L'[i]?=some r->∃ j,js[i]?=some j/\L[j]?=some r:=by
  intro i r hi
  have h1:(L'.map some)[i]?=some (some r):=by rw [nW,hi];rfl
  rw [<- hL,nW] at h1
  cases hj:js[i]? with
  | none=>rw [hj] at h1;cases h1
  | some j=>rw [hj] at h1;simp only [kJ,nK] at h1;exact ⟨j,rfl,h1⟩
 have mem:∀ r ∈ L',r ∈ L:=fun r hr=>by
  obtain ⟨i,hi⟩:=nJ hr
  obtain ⟨j,_,h2⟩:=get i r hi
  exact nA h2
 refine ⟨h.os,h.tape,h.output,h.size,h.old,h.fro,h.le,h.src,fun r hr=>h.at_ r (mem r hr),fun r hr=>h.own r (mem r hr),?_⟩
 intro i j r s b hi hj hr hs
 obtain ⟨i',h1,h2⟩:=get i r hi
 obtain ⟨j',h3,h4⟩:=get j s hj
 have:=h.dj _ _ r s b h2 h4 hr hs
 subst this
 exact (List.getElem?_inj (nB.1 h1).1 hn).1 (h1.trans h3.symm)
theorem wIQ {α:Type} {enc:α->List Value} (h:∀ x,(enc x).all (·.oneCell')=true) (xs:List α):∀ u ∈ xs.flatMap enc,u.oneCell'=true:=by
 intro u hu
 obtain ⟨x,_,hx⟩:=List.mem_flatMap.1 hu
 exact nO.1 (h x) u hx
theorem OKS.append {α:Type} {t e sz j c c2 bytes:Nat} {A A2:Option Addr} {inf:TypeInfo} {z:Value} {x y:Operand} {enc:α->List Value} {xs ys zs:List α}
  (ho:l[i]?=some o) (hd:o.dst=some d) (hN:nI d N=true) (hw:wanted l σ o=true) (hop:o.op=.call { callee:=.builtin .append,args:=#[x,y],argTypes:=#[t,t] })
  (ht:P.underlying t=some (.slice e)) (hi:P.info? e=some inf) (hz:inf.zero=some z) (hsize:inf.size=sz) (hzs:z.cells.size=sz) (hsz:nI 0 sz=true) (hby:inf.bytes=bytes) (hb0:nI 0 bytes=true)
  (hS:St B U L w) (hk:L[j]?=some (.row A c e sz (xs.flatMap enc))) (hx:ev σ x=.slice A xs.length c) (hy:ev σ y=.slice A2 ys.length c2)
  (hsrc:ys.length=0 \/ ∃ a,A2=some a/\∀ j u,(ys.flatMap enc)[j]?=some u->w.cell? (a.add j)=some u) (hel:∀ x,(enc x).length=sz) (h1:∀ x,(enc x).all (·.oneCell')=true)
  (happ:app bytes xs ys=some zs) (hne:wGD (kOf ks i)=false)
  (k:∀ A' c' w',St B U (L.set j (.row A' c' e sz (zs.flatMap enc))) w'->OKS N P l Q D ks s (upd σ d (.slice A' zs.length c')) w'):OKS N P l Q D ks (.fx i s .stop) σ w:=by
 obtain ⟨rfl,hb⟩:=wNt happ
 have hb0':0 < bytes:=by simpa [nZ] using hb0
 have hsz':0 < sz:=by simpa [nZ] using hsz
 obtain ⟨A',c',w',r1,r2,r3,r4⟩:=wEd (P:=P) (ty:=o.type) (c2:=c2) ht hi hz hsize hzs hsz' (hS.at_ _ (nA hk)) (wAF hel xs) (wAF hel ys) hsrc (wIQ h1 ys) (by rw [hby];exact hb) (by rw [hby];exact hb0')
 refine OKS.v (v:=.slice A' (xs ++ ys).length c') (w':=w') ho hd hN hw ⟨by rw [hop];rfl,?_⟩ (.inl hne) (k A' c' w' (hS.set hk r3 ?_ r4))
 ·rw [nr]
  simp [execOp,hop,resolve,invoke,builtin,hx,hy,r1,Result.andThen]
 ·rw [ny];exact r2
theorem OKS.appendC {t e sz j c c2 bytes n m:Nat} {A A2:Option Addr} {inf:TypeInfo} {z:Value} {x y:Operand} {cs news:List Value}
  (ho:l[i]?=some o) (hd:o.dst=some d) (hN:nI d N=true) (hw:wanted l σ o=true) (hop:o.op=.call { callee:=.builtin .append,args:=#[x,y],argTypes:=#[t,t] })
  (ht:P.underlying t=some (.slice e)) (hi:P.info? e=some inf) (hz:inf.zero=some z) (hsize:inf.size=sz) (hzs:z.cells.size=sz) (hsz:nI 0 sz=true) (hby:inf.bytes=bytes) (hb0:nI 0 bytes=true)
  (hS:St B U L w) (hk:L[j]?=some (.row A c e sz cs)) (hx:ev σ x=.slice A n c) (hn:cs.length=n * sz) (hy:ev σ y=.slice A2 m c2) (hm:news.length=m * sz)
  (hsrc:m=0 \/ ∃ a,A2=some a/\∀ j u,news[j]?=some u->w.cell? (a.add j)=some u) (h1:∀ u ∈ news,u.oneCell'=true)
  (hb:(n + m) * bytes <= 140737488355328) (hne:wGD (kOf ks i)=false)
  (k:∀ A' c' w',St B U (L.set j (.row A' c' e sz (cs ++ news))) w'->OKS N P l Q D ks s (upd σ d (.slice A' (n + m) c')) w'):OKS N P l Q D ks (.fx i s .stop) σ w:=by
 have hb0':0 < bytes:=by simpa [nZ] using hb0
 have hsz':0 < sz:=by simpa [nZ] using hsz
 obtain ⟨A',c',w',r1,r2,r3,r4⟩:=wEd (P:=P) (ty:=o.type) (c2:=c2) ht hi hz hsize hzs hsz' (hS.at_ _ (nA hk)) hn hm hsrc h1 (by rw [hby];exact hb) (by rw [hby];exact hb0')
 refine OKS.v (v:=.slice A' (n + m) c') (w':=w') ho hd hN hw ⟨by rw [hop];rfl,?_⟩ (.inl hne) (k A' c' w' (hS.set hk r3 r2 r4))
 simp [execOp,hop,resolve,invoke,builtin,hx,hy,r1,Result.andThen]
end
section
variable {r:Option Nat} {N:Nat} {P:Program} {Q:wDr} {D:List Deferred} {σ:Env} {w:World}
theorem CK.forN {S B:Type} {c:Code} {body:Nat->S->Option (S ⊕ B)} {n:Nat} {s0:S} {b:S ⊕ B} (I:Nat->S->Env->World->Prop) (hm:forN body n 0 s0=some b) (h0:I 0 s0 σ w)
  (hs:∀ k s x σ w,k < n->I k s σ w->body k s=some x->(∀ b',x=.inr b'->b=.inr b')->CK r N P c (wGC (fun D' σ' w'=>D'=D/\∃ s',x=.inl s'/\I (k + 1) s' σ' w') Q) D σ w)
  (he:∀ s σ w,I n s σ w->b=.inl s->CK r N P c (wGC (fun _ _ _=>False) Q) D σ w):CK r N P (.loop c) Q D σ w:=by
 refine CK.loopM (fun m σ w=>∃ k s,k + m=n/\KL.forN body m k s=some b/\I k s σ w) (m:=n) ⟨0,s0,by omega,hm,h0⟩ ?_
 rintro m σ w ⟨k,s,hk,hf,hI⟩
 cases m with
 | zero =>
  have e:k=n:=by omega
  subst e
  simp only [KL.forN,nK] at hf
  refine (he s σ w hI hf.symm).mono fun D' e σ' w' hq=>?_
  cases e with
  | normal=>exact hq.elim
  | _=>exact hq
 | succ m =>
  rw [KL.forN] at hf
  cases hx:body k s with
  | none=>rw [hx] at hf;cases hf
  | some x =>
   rw [hx] at hf
   refine (hs k s x σ w (by omega) hI hx ?_).mono fun D' e σ' w' hq=>?_
   ·rintro b' rfl;injection hf with hf;exact hf.symm
   ·cases e with
    | normal =>
     obtain ⟨rfl,s',rfl,hI'⟩:=hq
     exact ⟨rfl,m,by omega,k + 1,s',by omega,hf,hI'⟩
    | _=>exact hq
theorem CK.forN' {S:Type} {c:Code} {body:Nat->S->Option S} {n:Nat} {s0 b:S} (I:Nat->S->Env->World->Prop) (hm:forN' body n 0 s0=some b) (h0:I 0 s0 σ w)
  (hs:∀ k s x σ w,k < n->I k s σ w->body k s=some x->CK r N P c (wGC (fun D' σ' w'=>D'=D/\I (k + 1) x σ' w') Q) D σ w)
  (he:∀ σ w,I n b σ w->CK r N P c (wGC (fun _ _ _=>False) Q) D σ w):CK r N P (.loop c) Q D σ w:=by
 refine CK.loopM (fun m σ w=>∃ k s,k + m=n/\KL.forN' body m k s=some b/\I k s σ w) (m:=n) ⟨0,s0,by omega,hm,h0⟩ ?_
 rintro m σ w ⟨k,s,hk,hf,hI⟩
 cases m with
 | zero =>
  have e:k=n:=by omega
  subst e
  simp only [KL.forN',nK] at hf
  subst hf
  refine (he σ w hI).mono fun D' e σ' w' hq=>?_
  cases e with
  | normal=>exact hq.elim
  | _=>exact hq
 | succ m =>
  rw [KL.forN'] at hf
  cases hx:body k s with
  | none=>rw [hx] at hf;cases hf
  | some x =>
   rw [hx] at hf
   refine (hs k s x σ w (by omega) hI hx).mono fun D' e σ' w' hq=>?_
   cases e with
   | normal =>
    obtain ⟨rfl,hI'⟩:=hq
    exact ⟨rfl,m,by omega,k + 1,x,by omega,hf,hI'⟩
   | _=>exact hq
theorem CK.iter {S B:Type} {c:Code} {body:S->Option (S ⊕ B)} {n:Nat} {s0:S} {b:B} (I:S->Env->World->Prop) (hm:iter body n s0=some b) (h0:I s0 σ w)
  (hs:∀ s x σ w,I s σ w->body s=some x->(∀ b',x=.inr b'->b=b')->CK r N P c (wGC (fun D' σ' w'=>D'=D/\∃ s',x=.inl s'/\I s' σ' w') Q) D σ w):CK r N P (.loop c) Q D σ w:=by
 refine CK.loopM (fun m σ w=>∃ s,KL.iter body m s=some b/\I s σ w) (m:=n) ⟨s0,hm,h0⟩ ?_
 rintro m σ w ⟨s,hf,hI⟩
 cases m with
 | zero=>cases hf
 | succ m =>
  rw [KL.iter] at hf
  cases hx:body s with
  | none=>rw [hx] at hf;cases hf
  | some x =>
   rw [hx] at hf
   refine (hs s x σ w hI hx ?_).mono fun D' e σ' w' hq=>?_
   ·rintro b' rfl;injection hf with hf;exact hf.symm
   ·cases e with
    | normal =>
     obtain ⟨rfl,s',rfl,hI'⟩:=hq
     exact ⟨rfl,m,by omega,s',hf,hI'⟩
    | _=>exact hq
end
def encI (x:Int):List Value:=[.int .i64 x]
def encB8 (x:Int):List Value:=[.int .u8 x]
theorem OKS.e {N:Nat} {P:Program} {l:List Oper} {Q:wDr} {D:List Deferred} {ks:List Nat} {σ:Env} {w:World} (h:Q D .normal σ w):OKS N P l Q D ks .nil σ w:=h
theorem Runs.notT {P:Program} {σ:Env} {w:World} {o:Oper} {t:TypeId} {x:Operand} {b:Bool} (ho:o.op=.unOp .not t x) (hx:ev σ x=.bool b):Runs P σ w o (.bool !b) w:=Runs.not ho hx
section
variable {α:Type} {f:α->List Value} {sz:Nat}
theorem wAs (hf:∀ x,(f x).length=sz) (l:List α) (k j:Nat) (x:α) {off:Nat} {v:Value} (hx:l[k]?=some x) (ho:off=k * sz + j) (hv:(f x)[j]?=some v):(l.flatMap f)[off]?=some v:=by
 subst ho;exact wFA hf l k j x v hx hv
theorem wNH (hf:∀ x,(f x).length=sz) (l:List α) (k j:Nat) (x:α) {v:Value} (hx:l[k]?=some x) (hv:(f x)[j]?=some v):(l.flatMap f)[k * sz + j]?=some v:=wFA hf l k j x v hx hv
theorem wDR (hf:∀ x,(f x).length=sz) (l:List α) (k:Nat) (x:α) {off:Nat} {vs:List Value} (hx:l[k]?=some x) (ho:off=k * sz) (hv:f x=vs):((l.flatMap f).drop off).take sz=vs:=by
 subst ho hv
 have hlt:=(nB.1 hx).1
 have hle:k * sz + sz <= (l.flatMap f).length:=by
  rw [wAF hf,<- aL];exact na _ hlt
 apply kf
 intro j
 rw [nM]
 by_cases hj:j < sz
 ·rw [if_pos hj,nP]
  have:j < (f x).length:=by rw [hf];exact hj
  rw [wFA hf l k j x _ hx (nD this),nD this]
 ·rw [if_neg hj,kB (by rw [hf];omega)]
theorem wJO {p rest:List Value} {n r:Nat} {v:Value} (hp:p.length=n) (hr:rest[r]?=some v):(p ++ rest)[n + r]?=some v:=by
 subst hp;rw [nE (by omega),show p.length + r - p.length=r from by omega];exact hr
theorem wIR {b x y:Nat} (h:x=y):Value.pointer (some ⟨b,x,none⟩)=.pointer (some ⟨b,y,none⟩):=by rw [h]
theorem wEW (hf:∀ x,(f x).length=sz) {fo:Nat} (l:List α) (k:Nat) (x y:α) {off:Nat} {vs:List Value} (hx:l[k]?=some x) (ho:off=k * sz + fo) (hle:fo + vs.length <= sz) (hs:wEw (f x) fo vs=f y):wEw (l.flatMap f) off vs=(l.set k y).flatMap f:=by
 subst ho;exact wGG hf l k x y hx hle hs
theorem setN0 (hf:∀ x,(f x).length=sz) {fo:Nat} (l:List α) (k:Nat) (x y:α) {vs:List Value} (hx:l[k]?=some x) (hle:fo + vs.length <= sz) (hs:wEw (f x) fo vs=f y):wEw (l.flatMap f) (k * sz + fo) vs=(l.set k y).flatMap f:=wGG hf l k x y hx hle hs
theorem wPv {p rest rest':List Value} {n r:Nat} {vs:List Value} (hp:p.length=n) (hs:wEw rest r vs=rest'):wEw (p ++ rest) (n + r) vs=p ++ rest':=by
 subst hp hs;exact wFU vs p rest r
theorem wUB {n N:Nat} (m:Arr α n) (hf:∀ x,(f x).length=sz) (h:n * sz=N):((m.l.flatMap f).drop 0).take N=m.l.flatMap f:=by
 rw [List.drop_zero]
 exact List.take_of_length_le (by rw [wAF hf,m.h,h];exact nN _)
theorem wBu {n N:Nat} (m:Arr α n) (hf:∀ x,(f x).length=sz) (h:n * sz=N):(m.l.flatMap f).length=N:=by rw [wAF hf,m.h,h]
theorem wFK (h:∀ x,(f x).all one=true) (l:List α):(l.flatMap f).all one=true:=by
 rw [nO];intro u hu
 obtain ⟨x,_,hx⟩:=List.mem_flatMap.1 hu
 exact nO.1 (h x) u hx
theorem wIF (vs:List Value):∀ (l:List Value),vs.length=l.length->wEw l 0 vs=vs:=by
 have key:∀ (vs p l:List Value),vs.length=l.length->wEw (p ++ l) p.length vs=p ++ vs:=by
  intro vs
  induction vs with
  | nil=>intro p l h;simp at h;have:l=[]:=kA h.symm;subst this;rfl
  | cons v vs ih =>
   intro p l h
   cases l with
   | nil=>simp at h
   | cons u l =>
    simp only [wEw]
    rw [aB _ _ (nN _),Nat.sub_self,aK]
    have:=ih (p ++ [v]) l (by simpa using h)
    simpa using this
 intro l h
 have:=key vs [] l h
 simpa using this
end
section
variable {N:Nat} {P:Program} {l:List Oper} {Q:wDr} {D:List Deferred} {ks:List Nat} {σ:Env} {w:World} {i d:Nat} {s:Sch} {o:Oper} {B:Base} {U:PHeap} {L:List Res}
def InT (ts:List Nat) (L:List Res):List Nat->Prop
 | []=>True
 | b :: T=>(∃ t,ts.contains t=true/\∃ r,L[t]?=some r/\r.has b)/\InT ts L T
def OutT (T:List Nat):List Res->Prop
 | []=>True
 | r :: rs=>(∀ b,r.has b->b ∈ T)/\OutT T rs
theorem InT.mem {ts:List Nat}:∀ {T:List Nat},InT ts L T->∀ b ∈ T,∃ t ∈ ts,∃ r,L[t]?=some r/\r.has b
 | [],_,_,h=>by cases h
 | c :: T,⟨⟨t,h1,r,h2,h3⟩,h⟩,b,hb=>by
  rcases nH.1 hb with rfl | hb
  ·exact ⟨t,by simpa using h1,r,h2,h3⟩
  ·exact InT.mem h b hb
theorem OutT.mem {T:List Nat}:∀ {L:List Res},OutT T L->∀ r ∈ L,∀ b,r.has b->b ∈ T
 | [],_,_,h=>by cases h
 | c :: L,⟨h1,h2⟩,r,hr=>by
  rcases nH.1 hr with rfl | hr
  ·exact h1
  ·exact OutT.mem h2 r hr
theorem St.keepT {T ts ix:List Nat} {L':List Res} {w2:World} (h:St B U L w) (hT:InT ts L T) (hn:ix.Nodup) (hp:ix.map (fun j=>L[j]?)=L'.map some) (hx:(ix.all fun i=>!ts.contains i)=true) (k:Keep w w2 (InL T)):St B U L' w2:=by
 have h':=h.pick ix L' hn hp
 have own:∀ b ∈ T,U b=none/\B.mine b:=fun b hb=>by
  obtain ⟨t,_,r,h2,h3⟩:=hT.mem b hb
  exact h.own r (nA h2) b h3
 refine ⟨k.os.trans h.os,k.tape.trans h.tape,k.output.trans h.output,nc h.size k.size,fun b hb hm=>?_,fun b o hb=>?_,h.le,h.src,fun r hr=>?_,h'.own,h'.dj⟩
 ·exact (k.block b (nj hb h.size) fun hc=>hm (own b hc).2).trans (h.old b hb hm)
 ·refine (k.block b (wAi (h.fro b o hb)) fun hc=>?_).trans (h.fro b o hb)
  rw [(own b hc).1] at hb;cases hb
 ·refine (h'.at_ r hr).keep k fun b hb hc=>?_
  obtain ⟨t,h1,q,h2,h3⟩:=hT.mem b hc
  obtain ⟨n,hn1⟩:=nJ hr
  have e:(L'.map some)[n]?=some (some r):=by rw [nW,hn1];rfl
  rw [<- hp,nW] at e
  cases hi:ix[n]? with
  | none=>rw [hi] at e;cases e
  | some m =>
   rw [hi] at e
   simp only [kJ,nK] at e
   have:=h.dj m t r q b e h2 hb h3
   subst this
   have hm:=nO.1 hx m (nA hi)
   simp [h1] at hm
theorem OKS.mt {v:Value} {T:List Nat} (ts ix:List Nat) (L':List Res) (ho:l[i]?=some o) (hd:o.dst=some d) (hN:nI d N=true) (hw:wanted l σ o=true) (hS:St B U L w) (hc:chg l ks=InL T) (hT:InT ts L T)
  (hn:ix.Nodup) (hp:ix.map (fun j=>L[j]?)=L'.map some) (hx:(ix.all fun i=>!ts.contains i)=true) (hr:∀ w2,St B U L' w2->wFb P σ w2 o v) (hk:kG (kOf ks i) 3=false)
  (k:OKS N P l Q D ks s (upd σ d v) w):OKS N P l Q D ks (.fl i s) σ w :=
 ⟨o,ho,dlt hd hN,.inl ⟨hw,v,hr w (hS.pick ix L' hn hp),⟨fun e=>(by rw [e] at hk;cases hk),fun _ w2 k2=>hr w2 (hS.keepT hT hn hp hx (hc ▸ k2)) w2 (Keep.refl w2 _)⟩,(by rw [wEK hd];exact k)⟩⟩
theorem OKS.callHT {f:FuncId} {args:List Value} {wDr:PHeap->List Res->Value->Prop} {T:List Nat} (n:Nat) (ho:l[i]?=some o) (hd:o.dst=some d) (hN:nI d N=true) (hw:wanted l σ o=true) (he:Enters P σ w o f args) (hS:St B U L w)
  (hf:St ⟨w,L.take n,U⟩ U (L.take n) w->Gv P f args w (wBW w (L.take n) U wDr)) (hk:kG (kOf ks i) 2=false) (hc:chg l ks=InL T) (hT:OutT T (L.take n))
  (k:∀ U' L' v w',PHeap.Le U U'->St B U' (L' ++ L.drop n) w'->wDr U' L' v->OKS N P l Q D ks s (upd σ d v) w'):OKS N P l Q D ks (.fx i s .stop) σ w:=by
 refine ⟨⟨o,ho,dlt hd hN,.inl ⟨hw,.inr (.inr (.inl ⟨f,args,_,he,hf (hS.enterH n),?_⟩))⟩⟩,trivial⟩
 rintro v w' ⟨U',L',h1,h2⟩
 obtain ⟨h3,h4⟩:=hS.backH n h1
 exact ⟨⟨fun e=>(by rw [e] at hk;cases hk),fun _=>h1.kp.weak fun b _ ⟨r,hr,hb⟩=>(by rw [hc];exact hT.mem r hr b hb)⟩,by rw [wEK hd];exact k U' L' v w' h4 h3 h2⟩
end
def FnOK {X Y:Type} (P:Program) (U:PHeap) (v:Value) (AR:PHeap->X->List Value->Prop) (RR:PHeap->List Res->Value->Y->Prop) (h:X->Option Y):Prop :=
 ∃ fid fst cap,v=.func (.func fid) (List.toArray fst) (List.toArray cap)/\(∀ (args:Array Value) (w:World),(callFunc fid args).run P w=.ok (.enter fid args) w) /\
 ∀ U1 w1 x y vs,PHeap.Le U U1->St ⟨w1,[],U1⟩ U1 [] w1->AR U1 x vs->h x=some y->Gv P fid (fst ++ vs ++ cap) w1 (wBW w1 [] U1 fun U_ L_ v=>RR U_ L_ v y)
section
variable {N:Nat} {P:Program} {l:List Oper} {Q:wDr} {D:List Deferred} {ks:List Nat} {σ:Env} {w:World} {i d:Nat} {s:Sch} {o:Oper} {B:Base} {U:PHeap} {L:List Res}
theorem FnOK.le {X Y:Type} {U U':PHeap} {v:Value} {AR:PHeap->X->List Value->Prop} {RR:PHeap->List Res->Value->Y->Prop} {h:X->Option Y} (hF:FnOK P U v AR RR h) (hl:PHeap.Le U U'):FnOK P U' v AR RR h:=by
 obtain ⟨fid,fst,cap,e,hc,hg⟩:=hF
 exact ⟨fid,fst,cap,e,hc,fun U1 w1 x y vs h1=>hg U1 w1 x y vs (hl.trans h1)⟩
theorem FnOK.cells {X Y:Type} {v:Value} {AR:PHeap->X->List Value->Prop} {RR:PHeap->List Res->Value->Y->Prop} {h:X->Option Y} (hF:FnOK P U v AR RR h):v.cells=[v].toArray:=by
 obtain ⟨fid,fst,cap,rfl,_⟩:=hF;rfl
theorem OKS.callV {X Y:Type} {x:Operand} {al:List Operand} {ty:Array TypeId} {v:Value} {vs:List Value} {AR:PHeap->X->List Value->Prop} {RR:PHeap->List Res->Value->Y->Prop} {h:X->Option Y} {a:X} {y:Y}
  (ho:l[i]?=some o) (hd:o.dst=some d) (hN:nI d N=true) (hw:wanted l σ o=true) (hop:o.op=.call { callee:=.value x,args:=al.toArray,argTypes:=ty }) (hx:ev σ x=v) (hl:nt (ev σ) al=vs)
  (hS:St B U L w) (hF:FnOK P U v AR RR h) (hA:AR U a vs) (hm:h a=some y)
  (k:∀ U' L' v w',PHeap.Le U U'->St B U' (L' ++ L) w'->RR U' L' v y->OKS N P l Q D ks s (upd σ d v) w'):OKS N P l Q D ks (.fx i s .stop) σ w:=by
 obtain ⟨fid,fst,cap,rfl,hc,hg⟩:=hF
 exact OKS.callH 0 ho hd hN hw (Enters.mk hop hx hc hl rfl) hS (fun hs=>hg U w a y vs (PHeap.Le.refl U) hs hA hm) (.inr rfl) k
theorem Sl.nilA {sz c n:Nat} {cs:List Value} (h:Sl U sz none c n cs):n=0:=by
 rcases h.mem with h | ⟨b,off,arr,T,fr,h,_⟩
 ·exact h
 ·cases h
theorem nilSl {t:TypeId} {u:TypeDesc} (ht:∀ w,(underlying t).run P w=.ok u w) {e:TypeId} (hu:u=.slice e) (A:Option Addr) (n c:Nat) (w:World):(Op.equal t (.slice A n c) (.slice none 0 0)).run P w=.ok A.isNone w:=by
 unfold Op.equal Op.maxDepth
 subst hu
 rw [show (10000:Nat)=9999 + 1 from rfl,Op.equalIn]
 simp only [Sem.run_bind,ht,Result.andThen_ok]
 cases A <;> rfl
theorem Runs.eqNil {t u:TypeId} {x y:Operand} {A:Option Addr} {n c e:Nat} (ho:o.op=.binOp .eql t x y u) (hx:ev σ x=.slice A n c) (hy:ev σ y=.slice none 0 0) (ht:∀ w,(underlying t).run P w=.ok (.slice e) w):Runs P σ w o (.bool A.isNone) w :=
 ⟨by rw [ho];rfl,by simp [execOp,ho,hx,hy,binOp,eqGuard,nilSl ht rfl A n c]⟩
structure Rl (α:Type) where
 sz:Nat
 r:PHeap->α->List Value->Prop
 mono:∀ U U' x vs,r U x vs->PHeap.Le U U'->r U' x vs
 len:∀ U x vs,r U x vs->vs.length=sz
 one:∀ U x vs,r U x vs->vs.all (·.oneCell')=true
def RlL {α:Type} (U:PHeap) (R:Rl α) (xs:List α) (cs:List Value):Prop :=
 ∃ vss:List (List Value),vss.length=xs.length/\(∀ (i:Nat) (x:α) (vs:List Value),xs[i]?=some x->vss[i]?=some vs->R.r U x vs)/\cs=vss.flatten
theorem RlL.le {α:Type} {U U':PHeap} {R:Rl α} {xs:List α} {cs:List Value} (h:RlL U R xs cs) (hl:PHeap.Le U U'):RlL U' R xs cs:=by
 obtain ⟨vss,h1,h2,h3⟩:=h
 exact ⟨vss,h1,fun i x vs hx hv=>R.mono U U' x vs (h2 i x vs hx hv) hl,h3⟩
theorem wLa {vss:List (List Value)} {sz:Nat} (h:∀ vs ∈ vss,vs.length=sz):vss.flatten.length=vss.length * sz:=by
 induction vss with
 | nil=>simp
 | cons v l ih=>rw [kg,nr,ih fun vs hv=>h vs (by simp [hv]),h v (by simp),kD,ng];omega
theorem wHb {sz:Nat}:∀ {vss:List (List Value)} (_:∀ vs ∈ vss,vs.length=sz) (i j:Nat) (vs:List Value) (v:Value),vss[i]?=some vs->vs[j]?=some v->vss.flatten[i * sz + j]?=some v
 | [],_,i,j,vs,v,hi,_=>by simp at hi
 | u :: l,h,0,j,vs,v,hi,hj=>by
  simp at hi;subst hi
  rw [kg,kl,kZ,nG (nB.1 hj).1];exact hj
 | u :: l,h,i + 1,j,vs,v,hi,hj=>by
  have ih:=wHb (vss:=l) (fun vs hv=>h vs (by simp [hv])) i j vs v (by simpa using hi) hj
  have hu:=h u (by simp)
  rw [kg,nE (by rw [hu,ng];omega),hu,show (i + 1) * sz + j - sz=i * sz + j from by rw [ng];omega]
  exact ih
theorem RlL.each {α:Type} {R:Rl α} {xs:List α} {vss:List (List Value)} (h1:vss.length=xs.length) (h2:∀ (i:Nat) (x:α) (vs:List Value),xs[i]?=some x->vss[i]?=some vs->R.r U x vs):∀ vs ∈ vss,∃ x,R.r U x vs:=by
 intro vs hv
 obtain ⟨i,hi⟩:=nJ hv
 have hlt:=(nB.1 hi).1
 exact ⟨xs[i]'(by omega),h2 i _ vs (nD (by omega)) hi⟩
theorem RlL.len {α:Type} {R:Rl α} {xs:List α} {cs:List Value} (h:RlL U R xs cs):cs.length=xs.length * R.sz:=by
 obtain ⟨vss,h1,h2,rfl⟩:=h
 rw [wLa (sz:=R.sz) fun vs hv=>by obtain ⟨x,hx⟩:=RlL.each h1 h2 vs hv;exact R.len _ _ _ hx,h1]
theorem RlL.one {α:Type} {R:Rl α} {xs:List α} {cs:List Value} (h:RlL U R xs cs):∀ u ∈ cs,u.oneCell'=true:=by
 obtain ⟨vss,h1,h2,rfl⟩:=h
 intro u hu
 obtain ⟨vs,hv,hu⟩:=List.mem_flatten.1 hu
 obtain ⟨x,hx⟩:=RlL.each h1 h2 vs hv
 exact nO.1 (R.one _ _ _ hx) u hu
theorem RlL.nil {α:Type} {R:Rl α}:RlL U R ([]:List α) []:=⟨[],rfl,fun i x vs hx=>by simp at hx,rfl⟩
theorem RlL.append {α:Type} {R:Rl α} {xs ys:List α} {cs ds:List Value} (h:RlL U R xs cs) (h':RlL U R ys ds):RlL U R (xs ++ ys) (cs ++ ds):=by
 obtain ⟨vss,h1,h2,rfl⟩:=h
 obtain ⟨uss,g1,g2,rfl⟩:=h'
 refine ⟨vss ++ uss,by simp [h1,g1],fun i x vs hx hv=>?_,by simp⟩
 rcases nX i xs.length with hi | hi
 ·rw [nG hi] at hx
  rw [nG (by omega)] at hv
  exact h2 i x vs hx hv
 ·rw [nE hi] at hx
  rw [nE (by omega),h1] at hv
  exact g2 _ x vs hx hv
theorem RlL.cons {α:Type} {R:Rl α} {x:α} {xs:List α} {vs cs:List Value} (h0:R.r U x vs) (h:RlL U R xs cs):RlL U R (x :: xs) (vs ++ cs):=by
 obtain ⟨vss,h1,h2,rfl⟩:=h
 refine ⟨vs :: vss,by simp [h1],fun i y us hy hu=>?_,by simp⟩
 cases i with
 | zero=>simp at hy hu;subst hy hu;exact h0
 | succ i=>exact h2 i y us (by simpa using hy) (by simpa using hu)
def SlR {α:Type} (U:PHeap) (R:Rl α) (A:Option Addr) (c:Nat) (xs:List α):Prop:=∃ cs,Sl U R.sz A c xs.length cs/\RlL U R xs cs
theorem SlR.le {α:Type} {U U':PHeap} {R:Rl α} {A:Option Addr} {c:Nat} {xs:List α} (h:SlR U R A c xs) (hl:PHeap.Le U U'):SlR U' R A c xs:=by
 obtain ⟨cs,h1,h2⟩:=h;exact ⟨cs,h1.le hl,h2.le hl⟩
theorem SlR.nil {α:Type} {R:Rl α} {A:Option Addr} {c:Nat}:SlR U R A c ([]:List α):=⟨[],Sl.nil _ _ _ _,RlL.nil⟩
theorem SlR.cap {α:Type} {R:Rl α} {A:Option Addr} {c:Nat} {xs:List α} (h:SlR U R A c xs):xs.length <= c:=by obtain ⟨cs,h1,_⟩:=h;exact h1.cap
theorem SlR.el {α:Type} {R:Rl α} {A:Option Addr} {c:Nat} {xs:List α} (h:SlR U R A c xs) {k:Nat} {x:α} (hx:xs[k]?=some x) :
  ∃ b off vs,A=some ⟨b,off,none⟩/\Cl U b (off + k * R.sz) vs/\R.r U x vs:=by
 obtain ⟨cs,h1,vss,g1,g2,rfl⟩:=h
 have hlt:=(nB.1 hx).1
 have hv:vss[k]?=some (vss[k]'(by omega)):=nD (by omega)
 rcases h1.mem with h0 | ⟨b,off,arr,T,fr,hA,h2,h3⟩
 ·omega
 ·refine ⟨b,off,vss[k]'(by omega),hA,⟨arr,T,fr,h2,fun j v hj=>?_⟩,g2 k x _ hx hv⟩
  have:=wHb (sz:=R.sz) (fun vs hv=>by obtain ⟨y,hy⟩:=RlL.each g1 g2 vs hv;exact R.len _ _ _ hy) k j _ v hv hj
  rw [<- h3,nM] at this
  split at this
  ·rw [nP] at this
   rw [show off + k * R.sz + j=off + (k * R.sz + j) from by omega]
   simpa using this
  ·cases this
theorem St.freezeRR {α:Type} {R:Rl α} {k c T sz:Nat} {A:Option Addr} {cs:List Value} {xs:List α} (h:St B U L w) (hk:L[k]?=some (.row A c T sz cs)) (hr:RlL U R xs cs) (hsz:R.sz=sz) (hz:0 < sz) :
  ∃ U',PHeap.Le U U'/\SlR U' R A c xs/\St B U' (L.eraseIdx k) w:=by
 subst hsz
 obtain ⟨U',h1,h2,h3⟩:=h.freezeR (n:=xs.length) hk hr.len hz
 exact ⟨U',h1,⟨cs,h2,hr.le h1⟩,h3⟩
theorem SlR.src {α:Type} {R:Rl α} {A:Option Addr} {c:Nat} {xs:List α} (hS:St B U L w) (h:SlR U R A c xs):∃ cs,RlL U R xs cs/\(xs.length=0 \/ ∃ a,A=some a/\∀ j u,cs[j]?=some u->w.cell? (a.add j)=some u):=by
 obtain ⟨cs,h1,h2⟩:=h;exact ⟨cs,h2,hS.srcS h1⟩
theorem OKS.appendR {α:Type} {R:Rl α} {t e sz j c c2 bytes:Nat} {A A2:Option Addr} {inf:TypeInfo} {z:Value} {x y:Operand} {xs ys zs:List α} {cs ds:List Value}
  (ho:l[i]?=some o) (hd:o.dst=some d) (hN:nI d N=true) (hw:wanted l σ o=true) (hop:o.op=.call { callee:=.builtin .append,args:=#[x,y],argTypes:=#[t,t] })
  (ht:P.underlying t=some (.slice e)) (hi:P.info? e=some inf) (hz:inf.zero=some z) (hsize:inf.size=sz) (hzs:z.cells.size=sz) (hsz:nI 0 sz=true) (hby:inf.bytes=bytes) (hb0:nI 0 bytes=true) (hR:R.sz=sz)
  (hS:St B U L w) (hk:L[j]?=some (.row A c e sz cs)) (hx:ev σ x=.slice A xs.length c) (hy:ev σ y=.slice A2 ys.length c2) (hc:RlL U R xs cs) (hd':RlL U R ys ds)
  (hsrc:ys.length=0 \/ ∃ a,A2=some a/\∀ j u,ds[j]?=some u->w.cell? (a.add j)=some u) (happ:app bytes xs ys=some zs) (hne:wGD (kOf ks i)=false)
  (k:∀ A' c' cs' w',St B U (L.set j (.row A' c' e sz cs')) w'->RlL U R zs cs'->OKS N P l Q D ks s (upd σ d (.slice A' zs.length c')) w'):OKS N P l Q D ks (.fx i s .stop) σ w:=by
 obtain ⟨rfl,hb⟩:=wNt happ
 refine OKS.appendC (n:=xs.length) (m:=ys.length) (news:=ds) ho hd hN hw hop ht hi hz hsize hzs hsz hby hb0 hS hk hx (by rw [<- hR];exact hc.len) hy (by rw [<- hR];exact hd'.len) hsrc hd'.one hb hne ?_
 intro A' c' w' hS'
 have:=k A' c' (cs ++ ds) w' hS' (hc.append hd')
 rwa [nr] at this
end
end Go.KL
namespace Go
section
variable {F:Fence} {n:Nat} {P:Program} {b:Frame} {a:Act} {k:List Item} {cs:List Frame} {w:World} {Q:Exit->Act->World->Prop}
theorem wEX {c:Code}:step P (lone (b.atR a (.code (.scope c) :: k)) cs w)=.next (lone (b.atR a (.code c :: .inScope c :: k)) cs w) :=
 step_lone_go (by simp [stepG,stepG.exec,Frame.atR])
theorem wJh {c:Code}:step P (lone (b.atR a (.inScope c :: k)) cs w)=.next (lone (b.atR a k) cs w) :=
 step_lone_go (by simp [stepG,stepG.exec,Frame.atR])
theorem wGl {c:Code} (h:c.wpIn F n P (fun e a w=>match e with | .goto _=>False | e=>Q e a w) a w):(Code.scope c).wpIn F n P Q a w:=by
 intro b k cs hro hb hr
 have h0:(lone (b.atR a (.code (.scope c) :: k)) cs w).fenced P F:=fenced_calm hb hr rfl
 obtain ⟨e,a₁,w₁,hq,harr⟩:=h b (.inScope c :: k) cs hro hb hr
 cases e with
 | normal=>exact ⟨.normal,a₁,w₁,hq,.head h0 wEX (StepsIn.trans harr (.one (fenced_calm hb hr rfl) wJh))⟩
 | exit id' =>
  have hx:exitTo id' (.inScope c :: k)=exitTo id' k:=by simp [exitTo]
  exact ⟨.exit id',a₁,w₁,hq,fun k' hk=>.head h0 wEX (harr.1 k' (by rw [hx];exact hk)),
   fun hr' hk=>let ⟨k₁,h1,h2⟩:=harr.2 hr' (by rw [hx];exact hk);⟨k₁,h1,.head h0 wEX h2⟩⟩
 | goto l=>exact hq.elim
 | ret=>exact ⟨_,a₁,w₁,hq,.of_steps (.one h0 wEX) harr⟩
 | panic ch=>exact ⟨_,a₁,w₁,hq,.of_steps (.one h0 wEX) harr⟩
 | outgrown=>exact ⟨_,a₁,w₁,hq,.of_steps (.one h0 wEX) harr⟩
end
end Go
namespace Go.KL
open Go.RowKit
def wRC (Q:wDr):wDr:=fun D e σ w=>match e with
 | .goto _=>False
 | e=>Q D e σ w
section
variable {r:Option Nat} {N:Nat} {P:Program} {Q:wDr} {D:List Deferred} {σ:Env} {w:World}
theorem CK.scope {c:Code} (h:CK r N P c (wRC Q) D σ w):CK r N P (.scope c) Q D σ w:=by
 intro a ha
 refine wGl (wpIn_mono (h a ha) ?_)
 rintro e a w ⟨σ,D,hr,q⟩
 cases e with
 | goto l=>exact q.elim
 | _=>exact ⟨σ,D,hr,q⟩
theorem wIG (h:Q D .ret σ w):wRC Q D .ret σ w:=h
end
def MpR {K V:Type} (es:Array MapEntry) (mk:K->Value) (mv:V->Value) (l:List (K × V)):Prop:=es.toList.map (fun e=>(e.key,e.val))=l.map fun p=>(mk p.1,mv p.2)
structure KeyR {K:Type} [DecidableEq K] (P:Program) (kt:TypeId) (mk:K->Value):Prop where
 chk:∀ em x w,(Instr.checkKey em 10000 kt (mk x)).run P w=.ok () w
 same:∀ x,Instr.sameBits 10000 (mk x) (mk x)=true
 find:∀ {V:Type} (mv:V->Value) (es:List MapEntry) (l:List (K × V)) x w,es.map (fun e=>(e.key,e.val))=l.map (fun p=>(mk p.1,mv p.2))->(Instr.findKey kt (mk x) es).run P w=.ok ((wEB l x 0).map fun p=>(p.1,mv p.2)) w
theorem MpR.nil {K V:Type} (mk:K->Value) (mv:V->Value):MpR #[] mk mv ([]:List (K × V)):=rfl
section
variable {K V:Type} [DecidableEq K]
theorem wJE {P:Program} {kt:TypeId} {mk:K->Value} {mv:V->Value} (heq:∀ x y w,(Op.equal kt (mk x) (mk y)).run P w=.ok (decide (x=y)) w) (l:List (K × V)) (x:K) (w:World) :
  ∀ (es:List MapEntry) (i:Nat),es.map (fun e=>(e.key,e.val))=l.map (fun p=>(mk p.1,mv p.2))->(Instr.findAsking kt (mk x) es i).run P w=.ok ((wEB l x i).map fun p=>(p.1,mv p.2)) w:=by
 induction l with
 | nil=>intro es i h;cases es with
  | nil=>rfl
  | cons e es=>cases h
 | cons p l ih =>
  intro es i h
  cases es with
  | nil=>cases h
  | cons e es =>
   simp only [ka,kv,kc] at h
   obtain ⟨⟨h1,h2⟩,h3⟩:=h
   obtain ⟨a,v⟩:=p
   simp only at h1 h2
   simp only [Instr.findAsking,Sem.run_bind,h1,heq,Result.andThen,wEB]
   by_cases e:x=a <;> simp [e,h2,ih es (i + 1) h3]
theorem KeyR.ofStruct {P:Program} {kt:TypeId} {mk:K->Value} {fs:Array Field} (hu:P.underlying kt=some (.struct fs)) (hc:∀ em x w,(Instr.checkKey em 10000 kt (mk x)).run P w=.ok () w) (hs:∀ x,Instr.sameBits 10000 (mk x) (mk x)=true)
  (heq:∀ x y w,(Op.equal kt (mk x) (mk y)).run P w=.ok (decide (x=y)) w):KeyR P kt mk:=by
 refine ⟨hc,hs,fun mv es l x w h=>?_⟩
 simp only [Instr.findKey,Sem.run_bind,run_underlying hu,Result.andThen]
 have hf:=wJE heq l x w es 0 h
 cases es with
 | nil=>cases l with
  | nil=>simp [Instr.findNow,wEB]
  | cons p l=>cases h
 | cons e es =>
  simp only [Instr.findNow,Instr.sameNow]
  exact hf
theorem KeyR.ofInt {P:Program} {kt:TypeId} {k:IntKind} (hu:P.underlying kt=some (.int k)):KeyR P kt (fun n:Int=>aM k n):=by
 refine ⟨fun em x w=>?_,fun x=>by simp [Instr.sameBits],fun {V} mv es l x w h=>?_⟩
 ·rw [show (10000:Nat)=9999 + 1 from rfl,Instr.checkKey]
  simp only [Sem.run_bind,run_underlying hu,Result.andThen]
  rfl
 ·have key:∀ (l:List (Int × V)) (es:List MapEntry) (i:Nat),es.map (fun e=>(e.key,e.val))=l.map (fun p=>(aM k p.1,mv p.2))->Instr.findNow (.int k) (.int k x) es i=some ((wEB l x i).map fun p=>(p.1,mv p.2)):=by
   intro l
   induction l with
   | nil=>intro es i h;cases es with
    | nil=>rfl
    | cons e es=>cases h
   | cons p l ih =>
    intro es i h
    cases es with
    | nil=>cases h
    | cons e es =>
     simp only [ka,kv,kc] at h
     obtain ⟨⟨h1,h2⟩,h3⟩:=h
     obtain ⟨a,v⟩:=p
     simp only at h1 h2
     simp only [Instr.findNow,h1,Instr.sameNow,wEB,if_true]
     by_cases e:x=a
     ·subst e;simp [h2]
     ·have hb:(x == a)=false:=by simpa using e
      simp [e,hb,ih es (i + 1) h3]
  simp only [Instr.findKey,Sem.run_bind,run_underlying hu,Result.andThen,key l es 0 h]
  rfl
variable {N:Nat} {P:Program} {l:List Oper} {Q:wDr} {D:List Deferred} {ks:List Nat} {σ:Env} {w:World} {i d:Nat} {s:Sch} {o:Oper} {B:Base} {U:PHeap} {L:List Res}
omit [DecidableEq K] in
theorem OKS.both {alt:Sch} (h1:OKS N P l Q D ks (.fx i s .stop) σ w) (h2:OKS N P l Q D ks alt σ w):OKS N P l Q D ks (.fx i s alt) σ w:=⟨h1.1,h2⟩
theorem OKS.makeMap {t:TypeId} (ho:l[i]?=some o) (hd:o.dst=some d) (hN:nI d N=true) (hw:wanted l σ o=true) (hop:o.op=.makeMap t none) (hS:St B U L w)
  (k:∀ w' m,St B U (.obj m (.map #[] 0) :: L) w'->OKS N P l Q D ks s (upd σ d (.map (some m))) w'):OKS N P l Q D ks (.fx i s .stop) σ w:=by
 refine OKS.v (v:=.map (some w.heap.size)) (w':=w.alloc (.map #[] 0)) ho hd hN hw ⟨by rw [hop];rfl,?_⟩ (.inr (wAq w _)) (k _ _ (hS.new (wAq w _) (r:=.obj w.heap.size (.map #[] 0)) (heap_alloc_new w _) rfl (nN _)))
 simp [execOp,hop,Instr.makeMap,newObj,Sem.run,Result.andThen]
theorem St.objAt {j b:Nat} {o:Obj} (h:St B U L w) (hk:L[j]?=some (.obj b o)):w.heap[b]?=some o:=h.at_ _ (nA hk)
theorem St.lookup2 {mt kt et:TypeId} {x y:Operand} {j m ck:Nat} {es:Array MapEntry} {mk:K->Value} {mv:V->Value} {t:List (K × V)} {a:K} {z:V} (hS:St B U L w) (hk:L[j]?=some (.obj m (.map es ck))) (hop:o.op=.lookup mt x y true) (hx:ev σ x=.map (some m)) (hy:ev σ y=mk a)
  (hu:P.underlying mt=some (.map kt et)) (R:KeyR P kt mk) (hz:∀ w,(zeroValue et).run P w=.ok (mv z) w) (h:MpR es mk mv t):wFb P σ w o (.tuple #[mv (wAk t a z),.bool (wKT t a)]):=by
 intro w' kw
 refine ⟨by rw [hop];rfl,?_⟩
 have hf:=R.find mv es.toList t a w' h
 have hm:=(hS.grow kw).objAt hk
 have hg:=wFc t a 0
 unfold wAk wKT
 simp [execOp,hop,hx,hy,Instr.lookup,run_underlying hu,MapKept.run_getObj_map hm,R.chk,hf,Result.andThen,<- hg]
 cases e:wEB t a 0 <;> simp [hz,Result.andThen]
theorem St.lookup1 {mt kt et:TypeId} {x y:Operand} {j m ck:Nat} {es:Array MapEntry} {mk:K->Value} {mv:V->Value} {t:List (K × V)} {a:K} {z:V} (hS:St B U L w) (hk:L[j]?=some (.obj m (.map es ck))) (hop:o.op=.lookup mt x y false) (hx:ev σ x=.map (some m)) (hy:ev σ y=mk a)
  (hu:P.underlying mt=some (.map kt et)) (R:KeyR P kt mk) (hz:∀ w,(zeroValue et).run P w=.ok (mv z) w) (h:MpR es mk mv t):wFb P σ w o (mv (wAk t a z)):=by
 intro w' kw
 refine ⟨by rw [hop];rfl,?_⟩
 have hf:=R.find mv es.toList t a w' h
 have hm:=(hS.grow kw).objAt hk
 have hg:=wFc t a 0
 unfold wAk
 simp [execOp,hop,hx,hy,Instr.lookup,run_underlying hu,MapKept.run_getObj_map hm,R.chk,hf,Result.andThen,<- hg]
 cases e:wEB t a 0 <;> simp [hz,Result.andThen]
theorem wCf (w:World) (r:Nat) (o:Obj):Keep w (w.putObj r o) (·=r):=⟨rfl,⟨rfl,nN _⟩,rfl,by simp,fun k _ hx=>World.putObj_heap_other hx⟩
theorem wGm {w:World} {m:Nat} (o:Obj) (h:m < w.heap.size):(w.putObj m o).heap[m]?=some o:=by
 simp [World.putObj,h]
theorem OKS.mapPut {mt kt et:TypeId} {x y z:Operand} {j m ck:Nat} {es:Array MapEntry} {mk:K->Value} {mv:V->Value} {t:List (K × V)} {a:K} {v:V} (ho:l[i]?=some o) (hd:o.dst=none) (hw:wanted l σ o=true) (hop:o.op=.mapUpdate mt x y z \/ o.op=.insert mt x y z) (hS:St B U L w) (hk:L[j]?=some (.obj m (.map es ck)))
  (hx:ev σ x=.map (some m)) (hy:ev σ y=mk a) (hv:ev σ z=mv v) (hu:P.underlying mt=some (.map kt et)) (R:KeyR P kt mk) (h:MpR es mk mv t) (hne:wGD (kOf ks i)=false)
  (k:∀ es' ck' w',MpR es' mk mv (mput t a v)->St B U (L.set j (.obj m (.map es' ck'))) w'->OKS N P l Q D ks s σ w'):OKS N P l Q D ks (.fx i s .stop) σ w:=by
 have hm:=hS.objAt hk
 have hlt:=wAi hm
 have hf:=R.find mv es.toList t a w h
 have fin:∀ (es':Array MapEntry) (ck':Nat),MpR es' mk mv (mput t a v)->(Instr.mapUpdate mt (.map (some m)) (mk a) (mv v)).run P w=.ok () (w.putObj m (.map es' ck'))->OKS N P l Q D ks (.fx i s .stop) σ w:=by
  intro es' ck' h1 h2
  refine OKS.u (w':=w.putObj m (.map es' ck')) ho hd hw ⟨by rcases hop with e | e <;> (rw [e];rfl),?_⟩ (.inl hne)
   (k es' ck' _ h1 (hS.set hk ((wCf w m _).weak fun b _ e=>by rw [e];rfl) (wGm _ hlt) fun b hb=>.inl hb))
  rcases hop with e | e <;> simp [execOp,e,hx,hy,hv,h2,Result.andThen]
 cases e:wEB t a 0 with
 | none =>
  obtain ⟨e1,_⟩:=wGj e v
  refine fin (es.push { key:=mk a,val:=mv v,born:=ck }) (ck + 1) ?_ ?_
  ·unfold MpR at h ⊢;rw [e1];simp [h]
  ·simp [Instr.mapUpdate,run_underlying hu,MapKept.run_getObj_map hm,R.chk,hf,e,Result.andThen,MapKept.run_setObj_map _ hm]
   rfl
 | some p =>
  obtain ⟨q,u⟩:=p
  obtain ⟨_,h2,h3,_⟩:=wGk e v
  rw [Nat.sub_zero] at h2 h3
  have hq:q < t.length:=(nB.1 h2).1
  have hl:es.size=t.length:=by have:=congrArg List.length h;simpa using this
  have hkq:((es[q]?).map (·.key)).getD (mk a)=mk a:=by
   have h4:(es.toList.map (fun e=>(e.key,e.val)))[q]?=some (mk a,mv u):=by rw [h,nW,h2];rfl
   rw [nW] at h4
   cases h5:es.toList[q]? with
   | none=>rw [h5] at h4;cases h4
   | some e =>
    rw [h5] at h4
    simp only [kJ,nK,kc] at h4
    have h6:es[q]?=some e:=by simpa using h5
    rw [h6];simp [h4.1]
  refine fin (es.modify q fun e=>{ e with key:=mk a,val:=mv v }) ck ?_ ?_
  ·unfold MpR at h ⊢
   rw [h3]
   apply kf
   intro n
   have hn:=congrArg (·[n]?) h
   simp only [nW] at hn ⊢
   rw [aO]
   simp only [Array.toList_modify,List.getElem?_modify]
   by_cases hqn:q=n
   ·subst hqn
    have h5:es.toList[q]?=some (es.toList[q]'(by simpa [hl] using hq)):=nD _
    simp [h5,hq]
   ·simp only [hqn,if_false]
    simpa [hqn] using hn
  ·simp [Instr.mapUpdate,run_underlying hu,MapKept.run_getObj_map hm,R.chk,hf,e,Result.andThen,MapKept.run_setObj_map _ hm,Instr.keyThatStays,hkq,R.same]
   rfl
omit [DecidableEq K] in
theorem wFe {α β:Type} (f:α->β):∀ (l:List α) (q:Nat),(l.map f).eraseIdx q=(l.eraseIdx q).map f
 | [],_=>rfl
 | _ :: _,0=>rfl
 | a :: l,q + 1=>by simp [wFe f l q]
end
section
variable {P:Program} {t ti:TypeId} {f g:Field} {k:IntKind}
structure Two (P:Program) (t ti:TypeId) (f g:Field) (k:IntKind):Prop where
 str:P.underlying t=some (.struct #[f,g])
 f1:f.type=ti
 f2:f.offset=0
 f3 : f.name ≠ "_"
 g1:g.type=ti
 g2:g.offset=1
 g3 : g.name ≠ "_"
 int:P.underlying ti=some (.int k)
 agg:∀ w,(isAgg ti).run P w=.ok false w
 held:P.stoodInHeld t=false
theorem Two.eq (h:Two P t ti f g k) (a b c d:Int) (w:World):(Op.equalIn 10000 t (.agg #[.int k a,.int k b]) (.agg #[.int k c,.int k d])).run P w=.ok (decide (a=c/\b=d)) w:=by
 have hf:P.fieldsOf t=#[f,g]:=by unfold Program.fieldsOf;rw [h.str]
 rw [show (10000:Nat)=9999 + 1 from rfl,run_equalIn_agg w 9999 t _ _ (by rw [hf];exact h.str) h.held,hf]
 simp [Op.eqFields,h.f1,h.f2,h.f3,h.g1,h.g2,h.g3,part,h.agg,run_equalIn_int w 9998 ti k k _ _ h.int,Result.andThen]
 by_cases h1:a=c <;> by_cases h2:b=d <;> simp [h1,h2,h.agg,run_equalIn_int w 9998 ti k k _ _ h.int]
theorem Two.chk (h:Two P t ti f g k) (em:Bool) (a b:Int) (w:World):(Instr.checkKey em 10000 t (.agg #[.int k a,.int k b])).run P w=.ok () w:=by
 rw [show (10000:Nat)=9998 + 1 + 1 from rfl,Instr.checkKey]
 simp only [Sem.run_bind,run_underlying h.str,Result.andThen]
 have hi:∀ v,(Instr.checkKey em (9998 + 1) ti (.int k v)).run P w=.ok () w:=by
  intro v
  rw [Instr.checkKey]
  simp only [Sem.run_bind,run_underlying h.int,Result.andThen]
  rfl
 have hp:∀ i v,(#[aM k a,aM k b]:Array Value)[i]?=some v->(part ti #[.int k a,.int k b] i).run P w=.ok v w:=by
  intro i v hv
  simp [part,h.agg,hv,Result.andThen]
 simp [h.f1,h.f2,h.f3,h.g1,h.g2,h.g3,hp 0 _ rfl,hp 1 _ rfl,hi,Result.andThen]
theorem Two.keyR {α:Type} [DecidableEq α] (h:Two P t ti f g k) (e:α->Value) (p q:α->Int) (he:∀ x,e x=.agg #[.int k (p x),.int k (q x)]) (hx:∀ x y,p x=p y->q x=q y->x=y):KeyR P t e:=by
 refine KeyR.ofStruct h.str (fun em x w=>?_) (fun x=>?_) (fun x y w=>?_)
 ·rw [he];exact h.chk em _ _ w
 ·rw [he];simp [Instr.sameBits]
 ·rw [he,he];unfold Op.equal Op.maxDepth;rw [h.eq]
  congr 1
  exact decide_eq_decide.2 ⟨fun h=>hx x y h.1 h.2,fun h=>by subst h;exact ⟨rfl,rfl⟩⟩
end
theorem wDO {P:Program} {t:TypeId} {d:TypeDesc} (h:∀ w:World,(underlying t).run P w=.ok d w):P.underlying t=some d:=by
 have h0:=h (default:World)
 cases e:P.underlying t with
 | none=>simp [underlying,e] at h0
 | some d' =>
  have h1:=run_underlying e (default:World)
  rw [h1] at h0
  injection h0 with h2 h3
  rw [h2]
theorem wGn {P:Program} {t:TypeId} {fs:Array Field} (h:∀ w:World,(underlying t).run P w=.ok (.struct fs) w):P.fieldsOf t=fs:=by
 unfold Program.fieldsOf;rw [wDO h]
theorem wJP {P:Program} {t:TypeId} {fs:Array Field} (h:∀ w:World,(underlying t).run P w=.ok (.struct fs) w):P.underlying t=some (.struct (P.fieldsOf t)):=by
 rw [wGn h];exact wDO h
section
variable {N:Nat} {P:Program} {l:List Oper} {Q:wDr} {D:List Deferred} {ks:List Nat} {σ:Env} {w:World} {i d:Nat} {s:Sch} {o:Oper} {B:Base} {U:PHeap} {L:List Res}
theorem wHB (v:Value) (n:Nat):madeCells #[v] n=(np n v).toArray:=by
 apply Array.ext'
 simp [madeCells,Nat.mod_one,kx]
theorem wHC {α:Type} {enc:α->List Value} {z:α} {v:Value} (h:enc z=[v]) (n:Nat):nT enc (np n z)=np n v:=by
 induction n with
 | zero=>rfl
 | succ n ih=>rw [List.replicate_succ,nV,ih,h];rfl
theorem OKS.makeSlice {α:Type} {t e:TypeId} {inf:TypeInfo} {x y:Operand} {n:Int} {v:Value} {enc:α->List Value} {z:α} {xs:List α} (ho:l[i]?=some o) (hd:o.dst=some d) (hN:nI d N=true) (hw:wanted l σ o=true) (hop:o.op=.makeSlice t x y)
  (ht:P.underlying t=some (.slice e)) (hi:P.info? e=some inf) (hz:inf.zero=some v) (hc:v.cells=#[v]) (hs:inf.size=1) (henc:enc z=[v]) (hx:ev σ x=.int .i64 n) (hy:ev σ y=.int .i64 n) (hm:mkz inf.bytes n z=some xs) (hS:St B U L w)
  (k:∀ w' b,St B U (.row (some ⟨b,0,none⟩) xs.length e 1 (nT enc xs) :: L) w'->OKS N P l Q D ks s (upd σ d (.slice (some ⟨b,0,none⟩) xs.length xs.length)) w'):OKS N P l Q D ks (.fx i s .stop) σ w:=by
 unfold mkz at hm
 split at hm
 ·rename_i h
  obtain ⟨h0,h1,h2⟩:=h
  cases hm
  obtain ⟨m,rfl⟩:=kP h0
  have hr:=run_makeSlice (P:=P) w t e inf _ ht hi hz .i64 .i64 (m:Int) (m:Int) (by omega) (by omega) (by rw [hs,kQ];omega) h2 (by omega)
  simp only [hs,kQ,Nat.mul_one,hc,wHB] at hr
  simp only [kQ,List.length_replicate,wHC henc] at k
  have hmax:m <= maxLen:=by
   have h16:(16777216:Nat) <= maxLen:=by decide
   omega
  refine OKS.v (v:=.slice (some ⟨w.heap.size,0,none⟩) m m) (w':=w.alloc (.cells (np m v).toArray e)) ho hd hN hw ⟨by rw [hop];rfl,?_⟩ (.inr (wAq w _))
   (k _ _ (hS.new (wAq w _) (.inr ⟨_,(np m v).toArray,rfl,wEg w _ e,by simp,hmax,by simp,by simp⟩) rfl (nN _)))
  simp [execOp,hop,hx,hy,hr,Result.andThen]
 ·cases hm
theorem Sl.cut {sz c n a b:Nat} {A:Option Addr} {cs:List Value} (h:Sl U sz A c n cs) (hab:a <= b) (hb:b <= n) :
  Sl U sz (if c=a then A else A.map (·.add (a * sz))) (c - a) (b - a) ((cs.drop (a * sz)).take ((b - a) * sz)):=by
 have hcap:=h.cap
 have hl:=h.len
 have h1:(b - a) * sz=b * sz - a * sz:=Nat.sub_mul _ _ _
 have h2:a * sz <= b * sz:=na _ hab
 have h3:b * sz <= n * sz:=na _ hb
 refine ⟨by rw [nw,kW,hl];omega,by omega,?_⟩
 rcases h.mem with h0 | ⟨g,off,arr,T,fr,rfl,hp,hcs⟩
 ·left;omega
 ·by_cases hba:b=a
  ·left;omega
  ·right
   have hca:¬ c=a:=by omega
   refine ⟨g,off + a * sz,arr,T,fr,by rw [if_neg hca];simp [Addr.add],hp,?_⟩
   rw [<- hcs,<- List.drop_drop,List.drop_take,List.take_take]
   congr 1
   omega
theorem wGH {α:Type} {f:α->List Value} {sz:Nat} (hf:∀ a,(f a).length=sz):∀ (l:List α) (k:Nat),(nT f l).drop (k * sz)=nT f (l.drop k)
 | l,0=>by simp
 | [],k + 1=>by simp
 | a :: l,k + 1=>by
  rw [nV,List.drop_succ_cons,<- wGH hf l k,aL,Nat.add_comm,<- hf a,<- List.drop_drop,List.drop_left]
theorem wEh {α:Type} {f:α->List Value} {sz:Nat} (hf:∀ a,(f a).length=sz):∀ (l:List α) (k:Nat),(nT f l).take (k * sz)=nT f (l.take k)
 | l,0=>by simp
 | [],k + 1=>by simp
 | a :: l,k + 1=>by
  rw [nV,List.take_succ_cons,nV,<- wEh hf l k,aL,Nat.add_comm]
  conv=>lhs;rw [<- hf a]
  rw [List.take_length_add_append,hf a]
theorem Sl.cutM {α:Type} {f:α->List Value} {sz c:Nat} {a b:Int} {A:Option Addr} {m xs:List α} (h:Sl U sz A c m.length (nT f m)) (hf:∀ a,(f a).length=sz) (hm:Go.KL.cut m a b=some xs) :
  Sl U sz (if c=a.toNat then A else A.map (·.add (a.toNat * sz))) (c - a.toNat) xs.length (nT f xs)/\0 <= a/\a <= b/\b <= m.length/\xs.length=b.toNat - a.toNat:=by
 unfold Go.KL.cut at hm
 split at hm
 ·rename_i h0
  obtain ⟨h1,h2,h3⟩:=h0
  cases hm
  have hl:((m.drop a.toNat).take (b.toNat - a.toNat)).length=b.toNat - a.toNat:=by rw [nw,kW];omega
  have:=h.cut (a:=a.toNat) (b:=b.toNat) (by omega) (by omega)
  rw [wGH hf,wEh hf] at this
  rw [hl]
  exact ⟨this,h1,h2,h3,rfl⟩
 ·cases hm
theorem Runs.slc {t e sz n c:Nat} {x:Operand} {lo hi:Option Operand} {a b:Int} {A:Option Addr} (hop:o.op=.slice t x lo hi none) (hx:ev σ x=.slice A n c)
  (hlo:(∃ y,lo=some y/\ev σ y=.int .i64 a) \/ (lo=none/\a=0)) (hhi:(∃ y,hi=some y/\ev σ y=.int .i64 b) \/ (hi=none/\b=n))
  (ht:∀ w,(underlying t).run P w=.ok (.slice e) w) (hs:∀ w,(sizeOf e).run P w=.ok sz w) (h0:0 <= a) (h1:a <= b) (h2:b <= n) (h3:n <= c) :
  Runs P σ w o (.slice (if c=a.toNat then A else A.map (·.add (a.toNat * sz))) (b.toNat - a.toNat) (c - a.toNat)) w:=by
 have hb0:0 <= b:=by omega
 obtain ⟨b,rfl⟩:=kP hb0
 obtain ⟨a,rfl⟩:=kP h0
 have g1:a <= b:=by omega
 have g2:b <= c:=by omega
 have g3:a <= n:=by omega
 simp only [kQ]
 refine ⟨by rw [hop];rfl,?_⟩
 rcases hlo with ⟨y,rfl,hy⟩ | ⟨rfl,ha⟩ <;> rcases hhi with ⟨z,rfl,hz⟩ | ⟨rfl,hb⟩
 ·simp [execOp,hop,hx,hy,hz,ht,hs,g1,g2,g3,Instr.sliceAt,Instr.slice,Instr.sliceBounds,Instr.sliceBound,asIntOf,Result.andThen]
 ·have hb':b=n:=by omega
  subst hb'
  simp [execOp,hop,hx,hy,ht,hs,g1,g2,g3,Instr.sliceAt,Instr.slice,Instr.sliceBounds,Instr.sliceBound,asIntOf,Result.andThen]
 ·have ha':a=0:=by omega
  subst ha'
  simp [execOp,hop,hx,hz,ht,hs,g1,g2,g3,Instr.sliceAt,Instr.slice,Instr.sliceBounds,Instr.sliceBound,asIntOf,Result.andThen]
 ·have ha':a=0:=by omega
  have hb':b=n:=by omega
  subst ha' hb'
  simp [execOp,hop,hx,ht,hs,Instr.sliceAt,Instr.slice,Instr.sliceBounds,Instr.sliceBound,asIntOf,Result.andThen]
theorem setN_eq (vs:List Value):∀ (l:List Value) (off:Nat),off + vs.length <= l.length->wEw l off vs=l.take off ++ vs ++ l.drop (off + vs.length):=by
 induction vs with
 | nil=>intro l off _;simp [wEw]
 | cons v vs ih =>
  intro l off h
  simp only [kD] at h
  show wEw (l.set off v) (off + 1) vs=_
  rw [ih _ _ (by rw [List.length_set];omega)]
  have hlt:off < l.length:=by omega
  rw [List.drop_set_of_lt (by omega),List.take_add_one,List.getElem?_set_self hlt,List.take_set_of_le (nN _)]
  rw [kD,show off + (vs.length + 1)=off + 1 + vs.length from by omega]
  simp
theorem wPw {α:Type} {f:α->List Value} {sz:Nat} (hf:∀ x,(f x).length=sz) (m ys:List α) (a:Nat) (h:a + min (m.length - a) ys.length <= m.length) :
  wEw (m.flatMap f) (a * sz) ((ys.take (m.length - a)).flatMap f)=(cpy m a ys).flatMap f:=by
 have hl:((ys.take (m.length - a)).flatMap f).length=min (m.length - a) ys.length * sz:=by rw [wAF hf,nw]
 rw [setN_eq _ _ _ (by rw [hl,wAF hf,<- ng];exact na _ h),hl,<- ng,wEh hf,wGH hf]
 unfold cpy
 rw [ny,ny]
 congr 2
 by_cases q:ys.length <= m.length - a
 ·rw [Nat.min_eq_right q]
 ·rw [Nat.min_eq_left (by omega),aA (by omega),aA (by omega)]
theorem OKS.copyR {x y:Operand} {tys:Array TypeId} {t e sz sz0 n c m c2 k off b0 j c0 T:Nat} {A A1 A2:Option Addr} {cs cs' NS:List Value} (ho:l[i]?=some o) (hd:o.dst=some d) (hN:nI d N=true) (hw:wanted l σ o=true)
  (hop:o.op=.call { callee:=.builtin .copy,args:=#[x,y],argTypes:=tys }) (ht0:tys[0]?=some t) (ht:∀ w,(underlying t).run P w=.ok (.slice e) w) (hsz:∀ w,(sizeOf e).run P w=.ok sz w) (hS:St B U L w) (hk:L[j]?=some (.row A c0 T sz0 cs)) (hA:A=some ⟨b0,0,none⟩)
  (hx:ev σ x=.slice A1 n c) (hA1:n=0 \/ A1=some ⟨b0,off,none⟩) (hy:ev σ y=.slice A2 m c2) (hkk:min m n=k) (hNS:NS.length=k * sz) (hsrc:k=0 \/ ∃ a,A2=some a/\∀ j u,NS[j]?=some u->w.cell? (a.add j)=some u)
  (h1:NS.all one=true) (hlt:off + NS.length <= cs.length) (hcs:wEw cs off NS=cs') (hne:wGD (kOf ks i)=false)
  (kk:∀ w',St B U (L.set j (.row A c0 T sz0 cs')) w'->OKS N P l Q D ks s (upd σ d (.int .i64 k)) w'):OKS N P l Q D ks (.fx i s .stop) σ w:=by
 have hj:j < L.length:=(nB.1 hk).1
 rcases nY k with h0 | h0
 ·have hN0:NS=[]:=kA (by rw [hNS,h0];simp)
  subst hN0 h0 hcs
  refine OKS.v ho hd hN hw (w':=w) (v:=.int .i64 ((0:Nat):Int)) ⟨by rw [hop];rfl,?_⟩ (.inl hne) (kk w (by
   have:L.set j (.row A c0 T sz0 (wEw cs off []))=L:=by
    show L.set j (.row A c0 T sz0 cs)=L
    obtain ⟨_,he⟩:=nB.1 hk
    rw [<- he,List.set_getElem_self]
   rw [this];exact hS))
  have hmin:Nat.min m n=0:=hkk
  have hf0:∀ w1:World,(Builtin.firstCells sz 0 (.slice A2 m c2)).run P w1=.ok #[] w1:=by
   intro w1
   cases A2 with
   | none=>simp [Builtin.firstCells]
   | some ad=>simpa using run_firstCells_some (P:=P) w1 sz 0 ad m c2 [] (by simp) (by simp)
  cases A1 with
  | none=>simp [execOp,hop,ht0,resolve,invoke,builtin,Builtin.copy_,ht,hx,hy,Builtin.lenOf,hmin,hsz,hf0,storeCells,goInt,Result.andThen]
  | some a1=>simp [execOp,hop,ht0,resolve,invoke,builtin,Builtin.copy_,ht,hx,hy,Builtin.lenOf,hmin,hsz,hf0,storeCells,goInt,Result.andThen]
 ·have hn0:n ≠ 0:=by intro q;subst q;simp at hkk;omega
  have hA1:=hA1.resolve_left hn0
  subst hA hA1 hcs
  obtain ⟨a2,rfl,hcell⟩:=hsrc.resolve_left (by omega)
  obtain ⟨cur,g1,g2,g3,g4,g5⟩:=RowAt.cells (hS.at_ _ (nA hk))
  have hB:Blk w b0 T cur.toList:=by unfold Blk;rw [g1]
  have hcl:cs.length <= cur.toList.length:=by rw [<- g5];simp;omega
  obtain ⟨w',h2,h3,h4,h5⟩:=wDG (P:=P) (T:=T) off NS 0 cur.toList w hB (by omega) (nO.1 h1)
  have hmin:Nat.min m n=k:=hkk
  have hf:=run_firstCells_some (P:=P) w sz k a2 m c2 NS hNS hcell
  refine OKS.v (w':=w') (v:=.int .i64 (k:Int)) ho hd hN hw ⟨by rw [hop];rfl,?_⟩ (.inl hne) (kk w' (hS.set hk (h4.weak fun x _ e=>by rw [e];rfl) (.inr ⟨b0,(wEw cur.toList (off + 0) NS).toArray,rfl,h3,?_,g3,?_,?_⟩) fun b hb=>.inl hb))
  ·simp [execOp,hop,ht0,resolve,invoke,builtin,Builtin.copy_,ht,hx,hy,Builtin.lenOf,hmin,hsz,hf,h2,goInt,Result.andThen]
  ·rw [wCS];exact g2
  ·simp [wCS,g4]
  ·rw [wCS,aH]
   show (wEw cur.toList off NS).take cs.length=_
   rw [wIP _ _ _ _ hlt,g5]
theorem wLb {α:Type} {m ys z:List α} {a:Int} (h:wPp m a ys=some z):0 <= a/\a <= m.length/\z=cpy m a.toNat ys:=by
 unfold wPp at h
 split at h
 ·rename_i q;cases h;exact ⟨q.1,q.2,rfl⟩
 ·cases h
theorem wMR {α:Type} {m ys z:List α} {a:Int} (h:wPp m a ys=some z):z.length=m.length:=by
 obtain ⟨h0,h1,rfl⟩:=wLb h
 unfold cpy
 simp only [nr,nw,kW]
 omega
theorem wMS {α:Type} {m xs:List α} {a b:Int} (h:cut m a b=some xs):0 <= a/\a <= b/\b <= m.length/\xs=(m.drop a.toNat).take (b.toNat - a.toNat)/\xs.length=b.toNat - a.toNat:=by
 unfold cut at h
 split at h
 ·rename_i q;cases h;exact ⟨q.1,q.2.1,q.2.2,rfl,by rw [nw,kW];omega⟩
 ·cases h
theorem St.rowCap {j c T sz n:Nat} {A:Option Addr} {cs:List Value} (hS:St B U L w) (hk:L[j]?=some (.row A c T sz cs)) (hz:0 < sz) (hn:cs.length=n * sz):n <= c:=by
 rcases hS.at_ _ (nA hk) with ⟨_,_,rfl⟩ | ⟨b,cur,_,_,h2,_⟩
 ·rcases nY n with h | h
  ·omega
  ·have:=kR h hz;simp at hn;omega
 ·rw [hn] at h2
  exact nh h2 hz
theorem OKS.copyM {α:Type} {f:α->List Value} {x y:Operand} {tys:Array TypeId} {t e sz n c c2 b0 j c0 T:Nat} {A A1 A2:Option Addr} {m ys z:List α} {a:Int} (ho:l[i]?=some o) (hd:o.dst=some d) (hN:nI d N=true) (hw:wanted l σ o=true)
  (hop:o.op=.call { callee:=.builtin .copy,args:=#[x,y],argTypes:=tys }) (ht0:tys[0]?=some t) (ht:∀ w,(underlying t).run P w=.ok (.slice e) w) (hsz:∀ w,(sizeOf e).run P w=.ok sz w) (hS:St B U L w) (hk:L[j]?=some (.row A c0 T sz (m.flatMap f)))
  (hf:∀ x,(f x).length=sz) (h1:∀ x,(f x).all one=true) (hA:A=some ⟨b0,0,none⟩) (hz:wPp m a ys=some z) (hx:ev σ x=.slice A1 n c) (hn:n=m.length - a.toNat) (hA1:n=0 \/ A1=some ⟨b0,a.toNat * sz,none⟩) (hy:ev σ y=.slice A2 ys.length c2)
  (hsrc:ys.length=0 \/ ∃ a,A2=some a/\∀ j u,(ys.flatMap f)[j]?=some u->w.cell? (a.add j)=some u) (hne:wGD (kOf ks i)=false)
  (kk:∀ w',St B U (L.set j (.row A c0 T sz (z.flatMap f))) w'->z.length=m.length->OKS N P l Q D ks s (upd σ d (.int .i64 ((min ys.length n:Nat):Int))) w'):OKS N P l Q D ks (.fx i s .stop) σ w:=by
 have hzl:=wMR hz
 obtain ⟨g0,g1,rfl⟩:=wLb hz
 subst hn
 have hl:((ys.take (m.length - a.toNat)).flatMap f).length=min ys.length (m.length - a.toNat) * sz:=by rw [wAF hf,nw,Nat.min_comm]
 refine OKS.copyR (cs:=m.flatMap f) (NS:=(ys.take (m.length - a.toNat)).flatMap f) (off:=a.toNat * sz) ho hd hN hw hop ht0 ht hsz hS hk hA hx hA1 hy rfl hl ?_ ?_ ?_ (wPw hf m ys a.toNat (by omega)) hne fun w' h'=>kk w' h' hzl
 ·rcases hsrc with h | ⟨ad,h,h'⟩
  ·left;rw [h,Nat.zero_min]
  ·right
   refine ⟨ad,h,fun q u hu=>h' q u ?_⟩
   rw [<- wEh hf,nM] at hu
   split at hu
   ·exact hu
   ·cases hu
 ·rw [List.all_flatMap]
  exact nO.2 fun x _=>h1 x
 ·rw [hl,wAF hf,<- ng]
  exact na _ (by omega)
end
section
variable {r:Option Nat} {N:Nat} {P:Program} {Q:wDr} {D:List Deferred} {σ:Env} {w:World} {c:Code}
def CKR (r:Option Nat) (N:Nat) (P:Program) (c:Code) (Q:wDr) (m:Nat) (D:List Deferred) (σ:Env) (w:World):Prop:=∀ a,Rep N D a σ->Code.roundsIn (WF r) 0 P c (wJC N Q) m a w
theorem CK.unroll (m:Nat) (h:CKR r N P c Q m D σ w):CK r N P (.loop c) Q D σ w:=fun a ha=>wpIn_loop_rounds m (h a ha)
theorem CKR.succ {m:Nat} (h:CK r N P c (wGC (fun D' σ' w'=>CKR r N P c Q m D' σ' w') Q) D σ w):CKR r N P c Q (m + 1) D σ w:=by
 intro a ha
 rw [roundsIn_succ]
 refine wpIn_mono (h a ha) ?_
 rintro e a' w' ⟨σ',D',hr,q⟩
 cases e with
 | normal=>exact q a' hr
 | _=>exact ⟨σ',D',hr,q⟩
end
open Go.ChangeShapes Go.WideShapes Go.ChangeAt Go.RowKit
variable {H:Type} {enc:TypeId × Value->H} {P:Program}
theorem St.start (W:World):St ⟨W,[],fun b=>W.heap[b]?⟩ (fun b=>W.heap[b]?) [] W where
 os:=rfl
 tape:=TapeLe.refl W
 output:=rfl
 size:=nN _
 old:=fun _ _ _=>rfl
 fro:=fun _ _ h=>h
 le:=fun _ _ h=>h
 src:=fun _ _ h=>.inl h
 at_:=fun _ h=>by cases h
 own:=fun _ h=>by cases h
 dj:=fun i j r s b h=>by simp at h
theorem wHD (hl:laidOutB P=true) {W W':World} (hb:Below W.heap.size W W') {sp:Nat->Bool}:∀ {ts:List TypeId} {vs:List Value} {ds:List (DataW H)} {ps:List MemPlace},
  (∀ t ∈ ts,P.readableRec t=true/\t < P.types.size)->DataW.TrodAll enc P W 0 (fun _=>true) true ts vs ds ps->(∀ p ∈ ps,p.block < W.heap.size)->(∀ p ∈ ps,sp p.block=true)->DataW.TrodAll enc P W' 0 sp true ts vs ds ps
 | [],[],[],_,_,h,_,_=>h
 | _ :: _,_ :: _,_ :: _,_,hT,⟨p,q,h1,h2,e⟩,hlt,hs =>
  ⟨p,q,WideElems.Trod_stays hl (hT _ (nH.2 (Or.inl rfl))).1 (hT _ (nH.2 (Or.inl rfl))).2 h1 (fun x hx=>hb.same (hlt x (by rw [e];exact nu _ hx))) (fun x hx=>hs x (by rw [e];exact nu _ hx)),
   wHD hl hb (fun t ht=>hT t (nH.2 (Or.inr ht))) h2 (fun x hx=>hlt x (by rw [e];exact kC _ hx)) (fun x hx=>hs x (by rw [e];exact kC _ hx)),e⟩
theorem wNw {f:Func} {s:ChangeSpec} {wPJ fresh handsOn again:Bool} {W W':World} {args:Array Value} {ds gs:List (DataW H)} {before:List MemPlace}
  (hW:DataW.Whole enc P f.params.toList s.vars wPJ W args.toList ds gs before) (hv:s.vars=[]) (hl:laidOutB P=true) (hT:∀ t ∈ f.params.toList,P.readableRec t=true/\t < P.types.size)
  {t:TypeId} (hr:f.resultTypes=#[t]) (ht:P.underlying t=some .bool) (b:Bool) (h1:(s.fn H (ds ++ gs)).results=[.lit (.bool b)]) (h2:(s.fn H (ds ++ gs)).args=ds) (h3:(s.fn H (ds ++ gs)).vars=[])
  (hk:Keep W W' Non):s.post enc P f wPJ fresh handsOn again W args (.bool b) W':=by
 have hlt:=hW.lt
 have hW0:=hW
 obtain ⟨p,q,hA,hV,rfl,hz,hn⟩:=hW
 rw [hv] at hV
 obtain ⟨rfl,rfl⟩:=trodVars_none hV
 simp only [List.append_nil] at hlt hz hn hW0
 have hargs:∀ sp:Nat->Bool,(∀ x ∈ p,sp x.block=true)->DataW.TrodAll enc P W' 0 sp true f.params.toList args.toList (s.fn H (ds ++ [])).args p:=by
  intro sp hsp
  rw [h2]
  exact wHD hl hk.below hT hA hlt hsp
 have hres:∀ (b0:Nat) (sp:Nat->Bool) (hd:Bool),DataW.TrodAll enc P W' b0 sp hd f.resultTypes.toList ((aT b).resultList f.resultTypes.size) (s.fn H (ds ++ [])).results []:=by
  intro b0 sp hd
  rw [h1,hr]
  exact trodAll_mk1 (shut_bool ht b)
 have hvars:∀ sp:Nat->Bool,DataW.TrodVars enc P W' sp s.vars (s.fn H (ds ++ [])).vars []:=by
  intro sp
  rw [h3,hv]
  exact rfl
 have wHm:∀ x ∈ p,(fun b=>decide (b < W.heap.size)) x.block=true:=fun x hx=>by simpa using hlt x hx
 refine ⟨ds,[],p,[],p,[],by simpa using hW0,hres _ _ _,hargs _ wHm,hvars _,hk.below.frame _,fun _=>?_⟩
 refine ⟨ok_one hr rfl (okWide_bool_mk ht b),_,_,[] ++ p ++ [],⟨[] ++ p,[],trodAll_append (hargs _ (fun _ _=>rfl)) (hres _ _ _),hvars _,rfl,?_,?_⟩,?_⟩
 ·intro b' off hp
  have hp':MemPlace.cell b' off ∈ p:=by simpa using hp
  rw [hk.below.frozen (p:=⟨b',off,none⟩) (hlt _ hp')]
  exact hz b' off hp'
 ·intro ha
  simpa using hn ha
 ·intro x hx _
  simpa using hx
theorem wLc {W:World} {a:Addr} {len cap sz:Nat} {cs:List Value} (hsz:0 < sz) (hlen:cs.length=len * sz) (hcap:len <= cap) (hc:∀ (j:Nat) (v:Value),cs[j]?=some v->W.cell? (a.add j)=some v) :
  Sl (fun b=>W.heap[b]?) sz (some a) cap len cs:=by
 by_cases h0:cs=[]
 ·subst h0
  have:len * sz=0:=by simpa using hlen.symm
  rcases Nat.mul_eq_zero.1 this with h | h
  ·exact ⟨hlen,hcap,.inl h⟩
  ·omega
 ·refine ⟨hlen,hcap,.inr ?_⟩
  have hpos:0 < cs.length:=List.length_pos_iff.2 h0
  have g0:=hc 0 _ (nD hpos)
  have ha:a.add 0=a:=by simp [Addr.add]
  rw [ha] at g0
  obtain ⟨b,off,spot⟩:=a
  have hs:=World.cell?_spot g0
  simp only at hs
  subst hs
  unfold World.cell? at g0
  split at g0
  ·rename_i arr T fr hb
   refine ⟨b,off,arr,T,fr,rfl,hb,?_⟩
   apply kf
   intro j
   rw [nM]
   rcases nX j cs.length with hj | hj
   ·rw [if_pos (by omega),nP,Array.getElem?_toList]
    have:=hc j _ (nD hj)
    rw [add_plain] at this
    unfold World.cell? at this
    simp only [hb] at this
    rw [nD hj]
    simpa using this
   ·rw [if_neg (by omega),kB hj]
  ·cases g0
theorem wNx {α:Type} {f:α->List Value} {sz:Nat} (hf:∀ x,(f x).length=sz) (X:Nat->α):∀ (n j:Nat) (v:Value),((nq n).flatMap fun i=>f (X i))[j]?=some v->∃ k i,k < n/\i < sz/\j=k * sz + i/\(f (X k))[i]?=some v
 | 0,j,v,h=>by simp at h
 | n + 1,j,v,h=>by
  rw [List.range_succ,ny] at h
  have hL:((nq n).flatMap fun i=>f (X i)).length=n * sz:=by
   rw [aF]
   simp [hf,kx]
  rcases nX j (n * sz) with hlt | hge
  ·rw [nG (by omega)] at h
   obtain ⟨k,i,h1,h2,h3,h4⟩:=wNx hf X n j v h
   exact ⟨k,i,by omega,h2,h3,h4⟩
  ·rw [nE (by omega),hL] at h
   simp only [nV,List.flatMap_nil,List.append_nil] at h
   have hj:=(nB.1 h).1
   rw [hf] at hj
   exact ⟨n,j - n * sz,by omega,hj,by omega,h⟩
theorem wNI {α:Type} [Inhabited α] {f:α->List Value} {sz:Nat} {t e:TypeId} {W:World} {cs:List Value} {n:Nat} {y:DataW H × List MemPlace} (hsz:0 < sz) (hf:∀ x,(f x).length=sz) (ht:P.underlying t=some (.slice e)) (ce:P.cellsOf e=sz) (Good:α->Prop)
  (hel:∀ n cs y,DataW.trod enc P W 0 (fun _=>true) true n e cs=some y->∃ x,cs=f x/\Good x) (hn:DataW.trod enc P W 0 (fun _=>true) true n t cs=some y) :
  ∃ (A:Option Addr) (c:Nat) (xs:List α),cs=[.slice A xs.length c]/\Sl (fun b=>W.heap[b]?) sz A c xs.length (xs.flatMap f)/\∀ x ∈ xs,Good x:=by
 rcases Deep.open_slice ht hn with ⟨h1,_⟩ | ⟨a',len,cap,m,k,D,Pl,h1,_,hl,_,hm,_,hc⟩
 ·exact ⟨none,0,[],h1,Sl.nil _ _ _ _,fun _ h=>by cases h⟩
 ·simp only [if_true] at hm
  subst hm
  have each:∀ i,i < len->∃ x:α,Good x/\∀ j,j < sz->W.cell? (a'.add (i * sz + j))=(f x)[j]?:=by
   intro i hi
   obtain ⟨cs,c0,t0⟩:=hc i (by omega)
   obtain ⟨x,rfl,hg⟩:=hel _ _ _ t0
   obtain ⟨_,_,hcell⟩:=World.cells?_some c0
   refine ⟨x,hg,fun j hj=>?_⟩
   have:=hcell j (by omega)
   rw [Deep.add_add,ce] at this
   exact this
  obtain ⟨X,hX⟩:=Deep.choose_lt each
  have hlen:((nq len).map X).length=len:=by simp
  refine ⟨some a',m,(nq len).map X,by rw [hlen];exact h1,?_,fun x hx=>?_⟩
  ·rw [hlen]
   have hfl:((nq len).map X).flatMap f=(nq len).flatMap fun i=>f (X i):=by rw [List.flatMap_map]
   rw [hfl]
   refine wLc hsz ?_ hl ?_
   ·rw [aF]
    simp [hf,kx]
   ·intro j v hj
    obtain ⟨k,i,h1,h2,rfl,h4⟩:=wNx hf X len j v hj
    rw [(hX k h1).2 i h2,h4]
  ·obtain ⟨i,hi,rfl⟩:=kY.1 hx
   exact (hX i (kO.1 hi)).1
theorem wKa {α:Type} [Inhabited α] {f:α->List Value} {sz:Nat} {t e:TypeId} {W:World} {v:Value} {d:DataW H} {ps:List MemPlace} (hsz:0 < sz) (hf:∀ x,(f x).length=sz) (ht:P.underlying t=some (.slice e)) (ce:P.cellsOf e=sz) (Good:α->Prop)
  (hel:∀ n cs y,DataW.trod enc P W 0 (fun _=>true) true n e cs=some y->∃ x,cs=f x/\Good x) (h:DataW.Trod enc P W 0 (fun _=>true) true t v d ps) (hv:∃ a len cap,v=.slice a len cap) :
  ∃ (A:Option Addr) (c:Nat) (xs:List α),v=.slice A xs.length c/\Sl (fun b=>W.heap[b]?) sz A c xs.length (xs.flatMap f)/\∀ x ∈ xs,Good x:=by
 obtain ⟨n,hn⟩:=h
 obtain ⟨a,len,cap,rfl⟩:=hv
 have hcs:(kz a len cap).cells.toList=[kz a len cap]:=by simp [Value.cells]
 rw [hcs] at hn
 obtain ⟨A,c,xs,h1,h2,h3⟩:=wNI hsz hf ht ce Good hel hn
 simp only [kv,and_true] at h1
 exact ⟨A,c,xs,h1,h2,h3⟩
def wHc (P:Program) (fn:Func) (s:ChangeSpec) (c:OpenClaim):Bool :=
 c.wf (OpenSpec.ofChange s) &&
 fn.params.all (P.readableRec ·) && namedTie P c.named s.vars &&
 (c.stops == []) && (c.knobs == []) &&
 (c.maps == (fn.params.toList ++ s.plain.varTypes P).any (P.mapsRec ·)) && (c.ifaces == (fn.params.toList ++ s.plain.varTypes P).any (P.ifacesRec ·)) && (c.mapsOut == P.mapsAmong fn.resultTypes.toList) &&
 (c.loops == (fn.params.toList ++ s.plain.varTypes P).any (P.loopsFrom ·)) && (c.wideKeys == (fn.params.toList ++ s.plain.varTypes P ++ fn.resultTypes.toList).any (P.wideKeysFrom ·)) &&
 s.vars.all (P.varReadable ·) && fn.resultTypes.all (fun t=>P.readableRec t && decide (t < P.types.size)) && (c.ifacesOut == fn.resultTypes.toList.any (P.ifacesRec ·)) && (c.loopsOut == fn.resultTypes.toList.any (P.loopsFrom ·)) && c.shortTexts.isNone && (P.make == some c.make) && (c.kinds == (if c.domain.isEmpty then [] else fn.params.toList.map fun t=>match P.underlying t with | some (.int k)=>some k | _=>none)) && (c.pinned == c.pinnedBy) &&
 (c.veiled == (fn.params.toList ++ s.plain.varTypes P ++ fn.resultTypes.toList).any (P.veiledRec ·)) && c.veiledFits P fn.params.toList (fn.params.toList ++ s.plain.varTypes P ++ fn.resultTypes.toList)
theorem wNy {f:FuncId} {fn:Func} {s:ChangeSpec} {c:OpenClaim} (h1:laidOutB P=true) (h2:mapsRowed P=true) (h3:(P.stops == [])=true) (h4:(P.stopKnobs == [])=true) (h5:(c.inPlace == P.inPlace f)=true) (h6:(c.unfollowed == P.unfollowed f)=true) (h7:(c.recurses == P.recurses f)=true)
  (h8:(c.named == P.varsNamed f)=true) (h9:(c.plainKeys == P.plainKeys)=true) (h10:P.stopsHeard=true) (h11:P.mayEnter=true) (h12:(c.lifted == P.liftsFinal)=true) (l:wHc P fn s c=true):joinedFacts P f fn s c=true:=by
 unfold wHc at l
 unfold joinedFacts
 rw [h1,h2,h3,h4,h5,h6,h7,h8,h9,h10,h11,h12]
 simp only [Bool.and_true]
 exact l
end Go.KL
namespace Go.KX
open Go.RowKit Go.KL
def wNz (σ:Env):List Nat->List Value->Env
 | t :: ts,v :: vs=>wNz (upd σ t v) ts vs
 | _,_=>σ
theorem wOA {N:Nat}:∀ (ts:List Nat) (vs:List Value) {tmps:Array Value} {σ:Env},(∀ t ∈ ts,t < N)->Rep N [] { tmps:=tmps,defers:=[] } σ ->
  Rep N [] { tmps:=(ts.zip vs).foldl (fun tmps (x:Nat × Value)=>tmps.setIfInBounds x.1 x.2) tmps,defers:=[] } (wNz σ ts vs)
 | [],vs,tmps,σ,_,h=>by simpa [wNz] using h
 | _ :: _,[],tmps,σ,_,h=>by simpa [wNz] using h
 | t :: ts,v :: vs,tmps,σ,ht,h=>by
  have h':=h.put (ht t (by simp)) v
  have:=wOA ts vs (tmps:=tmps.setIfInBounds t v) (σ:=upd σ t v) (fun x hx=>ht x (by simp [hx])) (by simpa [Act.put] using h')
  simpa [wNz] using this
def LoopAt (w:World) (l N:Nat) (σ:Env) (t:List Nat) (assign body:Code) (rb:Nat) (fn:FuncId) (s:LoopState) (pend:Option Code):Prop :=
 ∃ a D,Rep N D a σ/\w.heap[l]?=some (.loop { state:=s,pending:=pend,fn,tmps:=a.tmps,params:=t.toArray,assign,body,defers:=rb })
def Yd (P:Program) (l:Nat) (v:List Value) (w:World) (R:Bool->World->Prop):Prop :=
 ∃ lr:Loop,w.heap[l]?=some (.loop lr)/\lr.params.size=v.length /\
 RoundIn (WF none) 0 P l lr.fn ((lr.params.zip v.toArray).foldl (fun tmps (t,a)=>tmps.setIfInBounds t a) lr.tmps) lr.assign lr.body w (fun e w'=>∃ b,e=.returned (.bool b)/\R b w')
theorem LoopAt.lt {w:World} {l N:Nat} {σ:Env} {t:List Nat} {assign body:Code} {rb:Nat} {fn:FuncId} {s:LoopState} {pend:Option Code} (h:LoopAt w l N σ t assign body rb fn s pend):l < w.heap.size:=by
 obtain ⟨a,D,_,h⟩:=h
 rcases nX l w.heap.size with hlt | hge
 ·exact hlt
 ·rw [nz hge] at h;cases h
theorem LoopAt.keep {w w':World} {l N:Nat} {σ:Env} {t:List Nat} {assign body:Code} {rb:Nat} {fn:FuncId} {s:LoopState} {pend:Option Code} {X:Nat->Prop} (h:LoopAt w l N σ t assign body rb fn s pend) (k:Keep w w' X) (hx:¬ X l):LoopAt w' l N σ t assign body rb fn s pend:=by
 have hl:=h.lt
 obtain ⟨a,D,hr,h⟩:=h
 exact ⟨a,D,hr,(k.block l hl hx).trans h⟩
section
variable {N:Nat} {P:Program} {Q:wDr} {D:List Deferred} {σ:Env} {w:World}
def wOB (P:Program) (l N:Nat) (σ:Env) (t:List Nat) (assign body:Code) (rb:Nat) (fn:FuncId) (R:Bool->World->Prop):wDr:=fun _ e _ w =>
 match e with
 | .normal=>LoopAt w l N σ t assign body rb fn .busy none/\∀ w',LoopAt w' l N σ t assign body rb fn .ready none->Keep w w' (·=l)->w'.heap.size=w.heap.size->R true w'
 | .ret=>LoopAt w l N σ t assign body rb fn .busy none/\∀ w',LoopAt w' l N σ t assign body rb fn .done (some .ret)->Keep w w' (·=l)->w'.heap.size=w.heap.size->R false w'
 | .exit i=>LoopAt w l N σ t assign body rb fn .busy none/\∀ w',LoopAt w' l N σ t assign body rb fn .done (some (.exit i))->Keep w w' (·=l)->w'.heap.size=w.heap.size->R false w'
 | _=>False
theorem Yd.of {l:Nat} {t:List Nat} {assign body:Code} {rb:Nat} {fn:FuncId} {v:List Value} {R:Bool->World->Prop} (hl:LoopAt w l N σ t assign body rb fn .ready none) (ht:∀ x ∈ t,x < N) (hlen:t.length=v.length)
  (h:∀ σ0,(∀ i,σ0 i=wNz σ t v i)->CK (some l) N P assign (fun D' e σ' w1=>e=.normal/\D'=[]/\LoopAt w1 l N σ t assign body rb fn .ready none /\
   ∀ w2,LoopAt w2 l N σ t assign body rb fn .busy none->Keep w1 w2 (·=l)->w2.heap.size=w1.heap.size->CK (some l) N P body (wOB P l N σ t assign body rb fn R) [] σ' w2) [] σ0 w):Yd P l v w R:=by
 obtain ⟨a,D,hr,hh⟩:=hl
 refine ⟨_,hh,by simpa using hlen,?_⟩
 refine roundIn_of_wpIn (F:=WF none) trivial ?_
 have hrep:Rep N [] { tmps:=((t.toArray.zip v.toArray).foldl (fun tmps (x:Nat × Value)=>tmps.setIfInBounds x.1 x.2) a.tmps),defers:=[] } (wNz σ t v):=by
  have:=wOA t v ht (show Rep N [] { tmps:=a.tmps,defers:=[] } σ from ⟨hr.size,rfl,hr.get⟩)
  simpa using this
 refine wpIn_mono (h _ (fun _=>rfl) _ hrep) ?_
 rintro e a1 w1 ⟨σ',D',hr1,rfl,rfl,hl1,hb⟩
 obtain ⟨a2,D2,hr2,hh2⟩:=hl1
 have hlt:l < w1.heap.size:=LoopAt.lt ⟨a2,D2,hr2,hh2⟩
 refine ⟨_,run_beginRound hh2 rfl,?_⟩
 have hl2:LoopAt (w1.putObj l (.loop { state:=.busy,pending:=none,fn,tmps:=a2.tmps,params:=t.toArray,assign,body,defers:=rb })) l N σ t assign body rb fn .busy none:=⟨a2,D2,hr2,World.putObj_heap_same hlt⟩
 refine wpIn_mono (hb _ hl2 (wCf _ _ _) (by simp) a1 hr1) ?_
 rintro e a3 w3 ⟨σ3,D3,hr3,q⟩
 have fin:∀ (jump:Option Code) (b:Bool),b=jump.isNone->LoopAt w3 l N σ t assign body rb fn .busy none ->
   (∀ w',LoopAt w' l N σ t assign body rb fn (if jump.isNone then .ready else .done) jump->Keep w3 w' (·=l)->w'.heap.size=w3.heap.size->R b w') ->
   ∃ v w',(Instr.endRound l jump).run P w3=.ok v w'/\∃ b,Ending.returned v=.returned (.bool b)/\R b w':=by
  rintro jump b rfl ⟨a4,D4,hr4,hh4⟩ hR
  have hlt3:l < w3.heap.size:=LoopAt.lt ⟨a4,D4,hr4,hh4⟩
  exact ⟨_,_,run_endRound jump hh4,_,rfl,hR _ ⟨a4,D4,hr4,World.putObj_heap_same hlt3⟩ (wCf _ _ _) (by simp)⟩
 cases e with
 | normal=>exact fin none true rfl q.1 q.2
 | ret=>exact fin (some .ret) false rfl q.1 q.2
 | exit i=>exact fin (some (.exit i)) false rfl q.1 q.2
 | goto i=>exact q.elim
 | panic c=>exact q.elim
 | outgrown=>exact q.elim
def mark (rb:Nat):Deferred:={ target:=.collected rb,args:=#[] }
theorem CK.rangeFunc {g:Operand} {t:List Nat} {assign body:Code} {f:FuncId} {fl cl:List Value} (hx:ev σ g=.func (.func f) fl.toArray cl.toArray)
  (hcall:∀ (args:Array Value) (w:World),(callFunc f args).run P w=.ok (.enter f args) w)
  (h:∀ fn l rb w1,rb=w.heap.size->l=w.heap.size + 1->LoopAt w1 l N σ t assign body rb fn .ready none->w1.heap[rb]?=some (.deferred (some []))->Keep w w1 Non->w1.heap.size=w.heap.size + 2 ->
   Gv P f (fl ++ [.func (.yield l) #[] #[]] ++ cl) w1 (fun _ w3 =>
    (LoopAt w3 l N σ t assign body rb fn .ready none/\∀ w4,Keep w3 w4 (·=l)->w4.heap.size=w3.heap.size->Q (mark rb :: D) .normal σ w4) \/
    (∃ e,(e=Exit.ret \/ ∃ i,e=.exit i)/\LoopAt w3 l N σ t assign body rb fn .done (match e with | .ret=>some .ret | .exit i=>some (.exit i) | _=>none)/\∀ w4,Keep w3 w4 (·=l)->w4.heap.size=w3.heap.size->Q (mark rb :: D) e σ w4))) :
  CK none N P (.rangeFunc g t.toArray assign body) Q D σ w:=by
 intro a ha
 refine wpIn_rangeFunc (F:=WF none) fun fn _=>?_
 have hl:LoopAt ((w.alloc (.deferred (some []))).alloc (.loop { state:=.ready,pending:=none,fn,tmps:=a.tmps,params:=t.toArray,assign,body,defers:=w.heap.size })) (w.heap.size + 1) N σ t assign body w.heap.size fn .ready none:=by
  refine ⟨a,D,ha,?_⟩
  have:=heap_alloc_new (w.alloc (.deferred (some []))) (.loop { state:=.ready,pending:=none,fn,tmps:=a.tmps,params:=t.toArray,assign,body,defers:=w.heap.size })
  rwa [World.size_alloc] at this
 have hd:((w.alloc (.deferred (some []))).alloc (.loop { state:=.ready,pending:=none,fn,tmps:=a.tmps,params:=t.toArray,assign,body,defers:=w.heap.size })).heap[w.heap.size]?=some (.deferred (some [])):=by
  rw [Below.heap_alloc _ _ _ (by simp)]
  exact heap_alloc_new w _
 have hG:=h fn _ _ _ rfl rfl hl hd ((wAq w _).non (wAq _ _)) (by simp)
 generalize hW:(w.alloc (.deferred (some []))).alloc (.loop { state:=.ready,pending:=none,fn,tmps:=a.tmps,params:=t.toArray,assign,body,defers:=w.heap.size })=W1 at hl hd hG
 refine ⟨w.heap.size + 1,[{ target:=.collected w.heap.size,args:=#[] }],W1,{ target:=.fn (.func f) cl.toArray,args:=(fl ++ [Value.func (.yield (w.heap.size + 1)) #[] #[]]).toArray },W1,f,(fl ++ [Value.func (.yield (w.heap.size + 1)) #[] #[]] ++ cl).toArray,W1,hW ▸ run_enterLoop_outer fn a.tmps t.toArray assign body,?_,fun _ _=>trivial,?_,fun h=>(by cases h),?_⟩
 ·have he:a.eval g=.func (.func f) fl.toArray cl.toArray:=by rw [ha.eval];exact hx
  have hc:a.eval (.const (.func (.yield (w.heap.size + 1)) #[] #[]))=.func (.yield (w.heap.size + 1)) #[] #[]:=rfl
  simp [resolve,rangeCall,he,hc,Deferred.ofValue]
 ·simp [invoke,hcall]
 ·refine CallsIn.mono (hG.callsIn none) ?_
  rintro e w3 ⟨v,rfl,hv⟩
  have hrep:Rep N (mark w.heap.size :: D) { a with defers:=[{ target:=.collected w.heap.size,args:=#[] }] ++ a.defers } σ:=⟨ha.size,by rw [<- ha.defers];rfl,ha.get⟩
  rcases hv with ⟨hl3,hQ⟩ | ⟨e,he,hl3,hQ⟩
  ·obtain ⟨a3,D3,hr3,hh3⟩:=hl3
   exact ⟨none,_,run_endLoop hh3 (by simp),σ,_,hrep,hQ _ (wCf _ _ _) (by simp)⟩
  ·rcases he with rfl | ⟨i,rfl⟩
   ·obtain ⟨a3,D3,hr3,hh3⟩:=hl3
    exact ⟨some .ret,_,run_endLoop hh3 (by simp),wpIn_ret ⟨σ,_,hrep,hQ _ (wCf _ _ _) (by simp)⟩⟩
   ·obtain ⟨a3,D3,hr3,hh3⟩:=hl3
    exact ⟨some (.exit i),_,run_endLoop hh3 (by simp),wpIn_exit ⟨σ,_,hrep,hQ _ (wCf _ _ _) (by simp)⟩⟩
def Dfr (w:World) (rb:Nat):Prop:=w.heap[rb]?=some (.deferred (some []))
theorem Dfr.lt {w:World} {b:Nat} (h:Dfr w b):b < w.heap.size:=by
 rcases nX b w.heap.size with hlt | hge
 ·exact hlt
 ·unfold Dfr at h;rw [nz hge] at h;cases h
theorem Dfr.keep {w w':World} {b:Nat} {X:Nat->Prop} (h:Dfr w b) (k:Keep w w' X) (hx:¬ X b):Dfr w' b:=(k.block b h.lt hx).trans h
def retM (P:Program) (rs:Array ResultVar) (R:Value->World->Prop):wDr:=fun D e σ w =>
 match e with
 | .normal | .ret=>∃ rbs:List Nat,D=rbs.map mark/\rbs.Nodup/\(∀ rb ∈ rbs,Dfr w rb)/\∀ w',Keep w w' (· ∈ rbs)->w'.heap.size=w.heap.size->∃ v,(wDm rs σ).run P w'=.ok v w'/\R v w'
 | _=>False
theorem Gv.ofM {f:FuncId} {fn:Func} {c:Code} {args:List Value} {R:Value->World->Prop} {rs:Array ResultVar}
  (hf:P.funcs[f]?=some fn) (hb:fn.body=some c) (hN:fn.ntmps=N) (hrs:fn.results=rs) (hle:args.length <= N)
  (h:CK none N P c (retM P rs R) [] (wQx args) w):Gv P f args w R:=by
 refine callsIn_wide.1 (callsIn_of_wp_marks hf hb trivial ?_ (n:=0))
 subst hN hrs
 refine wpIn_mono (h _ (wMP args _ hle)) ?_
 have fin:∀ (σ:Env) (a:Act) (tmps:Array Value),(results fn tmps=wDm fn.results σ)->∀ (rbs:List Nat) (w:World) (u:FrameMode),u=.returning->rbs.Nodup->(∀ rb ∈ rbs,Dfr w rb)->(∀ w',Keep w w' (· ∈ rbs)->w'.heap.size=w.heap.size->∃ v,(wDm fn.results σ).run P w'=.ok v w'/\R v w') ->
   LeavesInM Fence.wide 0 P fn tmps (fun e w'=>∃ v,e=.returned v/\R v w') (rbs.map mark) u w:=by
  intro σ a tmps hres rbs
  induction rbs with
  | nil =>
   intro w u hu _ _ hR
   subst hu
   obtain ⟨v,hv,hRv⟩:=hR w (Keep.refl w _) rfl
   exact ⟨v,by rw [hres];exact hv,v,rfl,hRv⟩
  | cons rb rbs ih =>
   intro w u hu hn hd hR
   subst hu
   obtain ⟨hn1,hn2⟩:=kr.1 hn
   refine ⟨by simp,.inl ⟨rb,_,rfl,run_takeDeferred (hd rb (by simp)),ih _ _ rfl hn2 (fun x hx=>(hd x (by simp [hx])).keep (wCf w rb _) fun e=>hn1 (e ▸ hx)) fun w' K hs=>hR w' ?_ (by rw [hs];simp)⟩⟩
   exact ((wCf w rb _).weak fun i _ e=>by subst e;simp).step K fun i _ hi=>by simp [hi]
 rintro e a w ⟨σ,D,hr,q⟩
 cases e with
 | normal=>obtain ⟨rbs,rfl,h1,h2,h3⟩:=q;show LeavesInM _ _ _ _ _ _ a.defers _ _;rw [hr.defers];exact fin σ a _ (wGx hr fn) rbs w _ rfl h1 h2 h3
 | ret=>obtain ⟨rbs,rfl,h1,h2,h3⟩:=q;show LeavesInM _ _ _ _ _ _ a.defers _ _;rw [hr.defers];exact fin σ a _ (wGx hr fn) rbs w _ rfl h1 h2 h3
 | _=>exact q.elim
end
theorem Yd.rounds {P:Program} {σ:Env} {w:World} {o:Oper} {l:Nat} {x:Operand} {ys:Array Operand} {ty:Array TypeId} {v:List Value} {R:Bool->World->Prop} (ho:o.op=.call { callee:=.value x,args:=ys,argTypes:=ty })
  (hx:ev σ x=.func (.yield l) #[] #[]) (hy:ys.toList.map (ev σ)=v) (hY:Yd P l v w R):Rounds P σ w o fun v w'=>∃ b,v=.bool b/\R b w':=by
 subst hy
 obtain ⟨lr,h1,h2,h3⟩:=hY
 refine ⟨by rw [ho];rfl,l,lr.fn,_,lr.assign,lr.body,?_,h3.mono fun e w' ⟨b,e1,e2⟩=>⟨_,e1,b,rfl,e2⟩⟩
 have e:ys.map (ev σ)=(ys.toList.map (ev σ)).toArray:=by
  rw [<- Array.toList_map]
 have:=run_yield (P:=P) (args:=ys.map (ev σ)) h1 (by simpa using h2.symm)
 rw [<- e]
 simp [execOp,ho,resolve,hx,Deferred.ofValue,invoke,this]
end Go.KX
namespace Go.KL
open Go.RowKit
section
variable {N:Nat} {P:Program} {l:List Oper} {Q:wDr} {D:List Deferred} {ks:List Nat} {σ:Env} {w:World} {i d:Nat} {s:Sch} {o:Oper}
theorem OKS.rm {x:Operand} {v:Value} (ho:l[i]?=some o) (hd:o.dst=some d) (hN:nI d N=true) (hw:wanted l σ o=true) (hm:o.op=.move x) (hx:ev σ x=v)
  (k:OKS N P l Q D ks s (upd σ d v) w):OKS N P l Q D ks (.fl i s) σ w:=OKS.r ho hd hN hw (fun _=>Runs.mv hm hx) k
theorem OKS.ra {x:Operand} {v:Value} (ho:l[i]?=some o) (hd:o.dst=some d) (hN:nI d N=true) (hw:wanted l σ o=true) (hm:o.op=.assign x) (hx:ev σ x=v)
  (k:OKS N P l Q D ks s (upd σ d v) w):OKS N P l Q D ks (.fl i s) σ w:=OKS.r ho hd hN hw (fun _=>Runs.as hm hx) k
theorem OKS.mx2 {v:Value} (ho:l[i]?=some o) (hd:o.dst=some d) (hN:nI d N=true) (hw:wanted l σ o=true) (hr:wFb P σ w o v)
  (k:OKS N P l Q D ks s (upd σ d v) w):OKS N P l Q D ks (.fx i s .stop) σ w:=OKS.v ho hd hN hw (hr w (Keep.refl w _)) (.inr (Keep.refl w _)) k
end
section
variable {B:Base} {U:PHeap} {L:List Res} {w:World}
theorem St.freezeT (h:St B U L w) {k c n T sz:Nat} {A:Option Addr} {cs:List Value} (hk:L[k]?=some (.row A c T sz cs)) (hn:cs.length=n * sz) (hz:0 < sz) :
  ∃ U',PHeap.Le U U'/\Sl U' sz A c n cs/\St B U' (L.eraseIdx k) w/\∀ U2 L2 w2,PHeap.Le U' U2->St B U2 L2 w2->∃ U3,PHeap.Le U U3/\St B U3 (.row A c T sz cs :: L2) w2:=by
 have hr:=h.at_ _ (nA hk)
 rcases hr with ⟨rfl,rfl,rfl⟩ | ⟨b,cur,rfl,h1,h2,h3⟩
 ·have:n=0:=by
   simp only [List.length_nil] at hn
   rcases nY n with e | e
   ·exact e
   ·have:=kR e hz;omega
  subst this
  exact ⟨U,PHeap.Le.refl U,Sl.nil _ _ _ _,h.drop k,fun U2 L2 w2 hl h2=>⟨U2,hl,h2.nilrow T sz⟩⟩
 ·have ho:=h.own _ (nA hk) b rfl
  obtain ⟨U',g1,g2,g3⟩:=h.freezeB ⟨_,hk,rfl⟩
  obtain ⟨_,_,h5⟩:=id h3
  refine ⟨U',g1,⟨hn,?_,.inr ⟨b,0,cur,T,(0,0),rfl,g2.trans h1,?_⟩⟩,g3,fun U2 L2 w2 hl q=>?_⟩
  ·rw [hn] at h2;exact nh h2 hz
  ·rw [<- hn];simpa using h5
  ·have e2:=hl _ _ (g2.trans h1)
   refine ⟨fun x=>if x=b then none else U2 x,fun x o hx=>?_,q.os,q.tape,q.output,q.size,q.old,fun x o hx=>?_,fun x o hx=>?_,fun x o hx=>?_,fun r hr=>?_,fun r hr x hx=>?_,fun i j r s x hi hj hr hs=>?_⟩
   ·have:x ≠ b:=fun e=>by subst e;rw [ho.1] at hx;cases hx
    simp only [if_neg this]
    exact hl _ _ (g1 _ _ hx)
   ·split at hx
    ·cases hx
    ·exact q.fro x o hx
   ·have:x ≠ b:=fun e=>by subst e;have:=h.le x o hx;rw [ho.1] at this;cases this
    simp only [if_neg this]
    exact q.le x o hx
   ·split at hx
    ·cases hx
    ·exact q.src x o hx
   ·rcases nH.1 hr with rfl | hr
    ·exact .inr ⟨b,cur,rfl,q.fro _ _ e2,h2,h3⟩
    ·exact q.at_ r hr
   ·rcases nH.1 hr with rfl | hr
    ·cases hx
     exact ⟨by simp,ho.2⟩
    ·have:=q.own r hr x hx
     refine ⟨?_,this.2⟩
     split
     ·rfl
     ·exact this.1
   ·have no:∀ (i:Nat) (r:Res),L2[i]?=some r->¬ r.has b:=fun i r hi hb=>by
     have:=(q.own r (nA hi) b hb).1
     rw [e2] at this
     cases this
    cases i with
    | zero =>
     simp only [nQ,nK] at hi
     subst hi
     cases hr
     cases j with
     | zero=>rfl
     | succ j=>exact absurd hs (no j s (by simpa using hj))
    | succ i =>
     cases j with
     | zero =>
      simp only [nQ,nK] at hj
      subst hj
      cases hs
      exact absurd hr (no i r (by simpa using hi))
     | succ j=>rw [q.dj i j r s x (by simpa using hi) (by simpa using hj) hr hs]
theorem St.cutRow (h:St B U L w) {k c T sz:Nat} {A:Option Addr} {a d:List Value} (hk:L[k]?=some (.row A c T sz (a ++ d))):St B U (L.set k (.row A c T sz a)) w:=by
 have hr:=h.at_ _ (nA hk)
 refine h.set hk (Keep.refl w _) ?_ (fun b hb=>.inl hb)
 rcases hr with ⟨rfl,rfl,h0⟩ | ⟨b,cur,rfl,h1,h2,h3,h4,h5⟩
 ·exact .inl ⟨rfl,rfl,(List.append_eq_nil_iff.1 h0).1⟩
 ·refine .inr ⟨b,cur,rfl,h1,by rw [nr] at h2;omega,h3,h4,?_⟩
  have:=congrArg (List.take a.length) h5
  rw [List.take_take,nr,Nat.min_eq_left (by omega)] at this
  simpa using this
end
open Go.KX (LoopAt Yd wNz Dfr wOB retM)
section
variable {B:Base} {U U':PHeap} {L M:List Res} {w w':World}
theorem St.keepX (h:St B U L w) {X:Nat->Prop} (K:Keep w w' X) (h1:∀ b,X b->U b=none/\B.mine b) (h2:∀ r ∈ L,∀ b,r.has b->¬ X b):St B U L w' :=
  ⟨K.os.trans h.os,K.tape.trans h.tape,K.output.trans h.output,nc h.size K.size,fun b hb hm=>(K.block b (nj hb h.size) fun hx=>hm (h1 b hx).2).trans (h.old b hb hm),
   fun b o hb=>(K.block b (wAi (h.fro b o hb)) fun hx=>by rw [(h1 b hx).1] at hb;cases hb).trans (h.fro b o hb),h.le,h.src,fun r hr=>(h.at_ r hr).keep K (h2 r hr),h.own,h.dj⟩
theorem St.left (h:St B U (L ++ M) w):St B U L w :=
 ⟨h.os,h.tape,h.output,h.size,h.old,h.fro,h.le,h.src,fun r hr=>h.at_ r (nu _ hr),fun r hr=>h.own r (nu _ hr),fun i j r s b hi hj =>
  h.dj i j r s b (by rw [nG (nB.1 hi).1];exact hi) (by rw [nG (nB.1 hj).1];exact hj)⟩
theorem St.addLast (h:St B U L w) {r:Res} {b:Nat} (hr:r.At w) (hb:r.has b) (hf:U b=none) (hm:B.mine b) (hn:∀ s ∈ L,¬ s.has b) (hu:∀ c,r.has c->c=b:=by intro c hc;cases hc;rfl):St B U (L ++ [r]) w:=by
 refine ⟨h.os,h.tape,h.output,h.size,h.old,h.fro,h.le,h.src,fun s hs=>?_,fun s hs c hc=>?_,fun i j s u c hi hj hs hu'=>?_⟩
 ·rcases nb.1 hs with hs | hs
  ·exact h.at_ s hs
  ·rw [nm.1 hs];exact hr
 ·rcases nb.1 hs with hs | hs
  ·exact h.own s hs c hc
  ·rw [nm.1 hs] at hc
   obtain rfl:=hu c hc
   exact ⟨hf,hm⟩
 ·have at_:∀ (i:Nat) (s:Res),(L ++ [r])[i]?=some s->L[i]?=some s \/ (i=L.length/\s=r):=by
   intro i s hi
   rcases nX i L.length with hl | hl
   ·rw [nG hl] at hi;exact .inl hi
   ·rw [nE hl] at hi
    have hz:i - L.length=0:=by
     have:=(nB.1 hi).1
     simp at this
     omega
    rw [hz] at hi
    simp at hi
    exact .inr ⟨by omega,hi.symm⟩
  rcases at_ i s hi with h1 | ⟨h1,rfl⟩ <;> rcases at_ j u hj with h2 | ⟨h2,rfl⟩
  ·exact h.dj i j s u c h1 h2 hs hu'
  ·obtain rfl:=hu c hu'
   exact absurd hs (hn s (nA h1))
  ·obtain rfl:=hu c hs
   exact absurd hu' (hn u (nA h2))
  ·omega
theorem St.putObj {l:Nat} {o o2:Obj} (h:St B U (.obj l o :: L) w) (K:Keep w w' (·=l)) (h2:w'.heap[l]?=some o2):St B U (.obj l o2 :: L) w' :=
 h.set (k:=0) (r:=.obj l o) (r':=.obj l o2) rfl (K.weak fun b _ e=>by rw [e];rfl) h2 fun b hb=>.inl hb
theorem St.outObj {l:Nat} {o:Obj} (h:St B U (.obj l o :: L) w) (K:Keep w w' (·=l)):St B U L w':=by
 have hm:=h.own (.obj l o) (by simp) l rfl
 have h0:St B U L w:=h.drop 0
 refine h0.keepX K (fun b e=>by rw [e];exact hm) fun r hr b hb e=>?_
 subst e
 obtain ⟨i,hi⟩:=nJ hr
 have:=h.dj 0 (i + 1) (.obj b o) r b rfl (by simpa using hi) rfl hb
 omega
theorem St.outs {rbs:List Nat} {d:Obj} (h:St B U (L ++ rbs.map fun rb=>.obj rb d) w) (K:Keep w w' (· ∈ rbs)):St B U L w':=by
 refine h.left.keepX K (fun b hb=>?_) fun r hr b hb hm=>?_
 ·exact h.own (.obj b d) (kC _ (kY.2 ⟨b,hb,rfl⟩)) b rfl
 ·obtain ⟨i,hi⟩:=nJ hr
  obtain ⟨j,hj⟩:=nJ hm
  have hil:=(nB.1 hi).1
  have:=h.dj i (L.length + j) r (.obj b d) b (by rw [nG hil];exact hi) (by rw [nE (by omega),show L.length + j - L.length=j by omega,nW,hj];rfl) hb rfl
  omega
end
def LR (N:Nat) (σ:Env) (t:List Nat) (asg body:Code) (rb:Nat) (fn:FuncId) (s:LoopState) (pend:Option Code) (o:Obj):Prop :=
 ∃ a D,Rep N D a σ/\o=.loop { state:=s,pending:=pend,fn,tmps:=a.tmps,params:=t.toArray,assign:=asg,body,defers:=rb }
theorem LR.at_ {N:Nat} {σ:Env} {t:List Nat} {asg body:Code} {rb:Nat} {fn:FuncId} {s:LoopState} {pend:Option Code} {o:Obj} {w:World} {l:Nat} (h:LR N σ t asg body rb fn s pend o) (hw:w.heap[l]?=some o):LoopAt w l N σ t asg body rb fn s pend:=by
 obtain ⟨a,D,h1,rfl⟩:=h
 exact ⟨a,D,h1,hw⟩
theorem LR.of {N:Nat} {σ:Env} {t:List Nat} {asg body:Code} {rb:Nat} {fn:FuncId} {s:LoopState} {pend:Option Code} {w:World} {l:Nat} (h:LoopAt w l N σ t asg body rb fn s pend):∃ o,w.heap[l]?=some o/\LR N σ t asg body rb fn s pend o:=by
 obtain ⟨a,D,h1,h2⟩:=h
 exact ⟨_,h2,a,D,h1,rfl⟩
def YOK (P:Program) (l:Nat) {X S E:Type} (ar:PHeap->X->List Value->Prop) (PY:S->PHeap->List Res->Prop) (PE:E->PHeap->List Res->Prop) (f:S->X->Option (S ⊕ E)) (U0:PHeap):Prop :=
 ∀ U w s x vs r L,PHeap.Le U0 U->St ⟨w,L,U⟩ U L w->PY s U L->ar U x vs->f s x=some r ->
  Yd P l vs w fun b w'=>∃ U' L',St ⟨w,L,U⟩ U' L' w'/\(match r with | .inl s'=>b=true/\PY s' U' L' | .inr e=>b=false/\PE e U' L')
def ItS (w:World) (L:List Res) (U:PHeap) {S E:Type} (PY:S->PHeap->List Res->Prop) (PE:E->PHeap->List Res->Prop) (r:S ⊕ E):Value->World->Prop:=fun _ w' =>
 ∃ U' L',St ⟨w,L,U⟩ U' L' w'/\(match r with | .inl s=>PY s U' L' | .inr e=>PE e U' L')
section
variable {r:Option Nat} {N:Nat} {P:Program} {l:List Oper} {Q:wDr} {D:List Deferred} {ks:List Nat} {B:Base} {U:PHeap} {L:List Res} {σ:Env} {w:World} {i d:Nat} {o:Oper} {s:Sch} {X S E:Type} {ar:PHeap->X->List Value->Prop}
 {PY:S->PHeap->List Res->Prop} {PE:E->PHeap->List Res->Prop} {f:S->X->Option (S ⊕ E)}
theorem OKS.yieldT (n:Nat) {y:Nat} {x:Operand} {args:Array Operand} {ty:Array TypeId} {vs:List Value} {st:S} {a:X} {rr:S ⊕ E} {U0:PHeap} (ho:l[i]?=some o) (hd:o.dst=some d) (hN:nI d N=true) (hw:wanted l σ o=true)
  (hop:o.op=.call { callee:=.value x,args:=args,argTypes:=ty }) (hx:ev σ x=.func (.yield y) #[] #[]) (ha:args.toList.map (ev σ)=vs) (hS:St B U L w) (hY:YOK P y ar PY PE f U0) (hle:PHeap.Le U0 U) (hP:PY st U (L.drop n)) (har:ar U a vs) (hf:f st a=some rr) (hk:wGD (kOf ks i)=false)
  (k:∀ U' L' b w',PHeap.Le U U'->St B U' (L.take n ++ L') w'->(match rr with | .inl s'=>b=true/\PY s' U' L' | .inr e=>b=false/\PE e U' L')->OKS N P l Q D ks s (upd σ d (.bool b)) w'):OKS N P l Q D ks (.fx i s .stop) σ w:=by
 have Y:=hY U w st a vs rr _ hle (hS.enterT n) hP har hf
 have R:=Go.KX.Yd.rounds (σ:=σ) hop hx ha Y
 refine ⟨⟨o,ho,dlt hd hN,.inl ⟨hw,.inr (.inr (.inr (R.mono ?_)))⟩⟩,trivial⟩
 rintro v w' ⟨b,rfl,U',L',h1,h2⟩
 obtain ⟨h3,h4⟩:=hS.backT n h1
 exact ⟨KeepD.of (.inl hk),by rw [wEK hd];exact k U' L' b w' h4 h3 h2⟩
def wRD:Exit->Option Code
 | .ret=>some .ret
 | .exit i=>some (.exit i)
 | _=>none
theorem CK.rangeY {g:Operand} {t:List Nat} {asg body:Code} {fi:FuncId} {fl cl:List Value} {s0:S} {rr:S ⊕ E} {exO:E->Exit} (hx:ev σ g=.func (.func fi) fl.toArray cl.toArray)
  (hcall:∀ (args:Array Value) (w:World),(callFunc fi args).run P w=.ok (.enter fi args) w) (hS:St B U L w) (ht:∀ x ∈ t,x < N) (hlen:∀ U x vs,ar U x vs->t.length=vs.length) (hex:∀ e,exO e=.ret \/ ∃ i,exO e=.exit i) (h0:PY s0 U L)
  (hit:∀ (l:Nat) (w1:World) (L1:List Res) (PY':S->PHeap->List Res->Prop) (PE':E->PHeap->List Res->Prop),St ⟨w1,L1,U⟩ U L1 w1->PY' s0 U L1->YOK P l ar PY' PE' f U->Gv P fi (fl ++ [.func (.yield l) #[] #[]] ++ cl) w1 (ItS w1 L1 U PY' PE' rr))
  (hbody:∀ (l rb:Nat) (fn:FuncId) s x vs r U' L' w' o B',PHeap.Le U U'->St B' U' (.obj l o :: L') w'->PY s U' L'->ar U' x vs->f s x=some r->∀ σ0,(∀ i,σ0 i=wNz σ t vs i) ->
   CK (some l) N P asg (fun D' e σ1 w1=>e=.normal/\D'=[]/\∃ U1 L1,St B' U1 (.obj l o :: L1) w1/\∀ w2 o2,St B' U1 (.obj l o2 :: L1) w2 ->
    CK (some l) N P body (fun _ e2 _ w3=>∃ U3 L3,St B' U3 (.obj l o2 :: L3) w3/\(match r with | .inl s'=>e2=.normal/\PY s' U3 L3 | .inr e'=>e2=exO e'/\PE e' U3 L3)) [] σ1 w2) [] σ0 w')
  (hk:∀ rb U' L' w',PHeap.Le U U'->St B U' (L' ++ [.obj rb (.deferred (some []))]) w'->(match rr with | .inl s=>PY s U' L'->Q (Go.KX.mark rb :: D) .normal σ w' | .inr e=>PE e U' L'->Q (Go.KX.mark rb :: D) (exO e) σ w')) :
  CK none N P (.rangeFunc g t.toArray asg body) Q D σ w:=by
 refine Go.KX.CK.rangeFunc hx hcall fun fn l rb w1 e1 e2 hl hd K hs=>?_
 obtain ⟨o,ho,hLR⟩:=LR.of hl
 have hlt:l < w1.heap.size:=wAi ho
 have hS0:=hS.grow K
 have hsz:∀ s ∈ L,∀ b,s.has b->b < w.heap.size:=fun s hs b hb=>(hS.at_ s hs).lt hb
 have hfree:∀ b,w.heap.size <= b->U b=none/\B.mine b:=fun b hb=>by
  refine ⟨?_,.inl (nc hS.size hb)⟩
  cases e:U b with
  | none=>rfl
  | some x=>have:=wAi (hS.fro b x e);omega
 have hS1:St B U (.obj l o :: L) w1:=by
  have h1:=hS0.addLast (r:=.obj l o) (b:=l) ho rfl (hfree l (by omega)).1 (hfree l (by omega)).2 fun s hs' e=>by have:=hsz s hs' l e;omega
  refine ⟨h1.os,h1.tape,h1.output,h1.size,h1.old,h1.fro,h1.le,h1.src,fun r hr=>h1.at_ r ?_,fun r hr=>h1.own r ?_,?_⟩
  ·rcases nH.1 hr with rfl | hr <;> simp [*]
  ·rcases nH.1 hr with rfl | hr <;> simp [*]
  ·intro i j r s b hi hj hr hs'
   cases i with
   | zero =>
    simp only [nQ,nK] at hi;subst hi;cases hr
    cases j with
    | zero=>rfl
    | succ j=>have:=hsz s (nA (by simpa using hj)) _ hs';omega
   | succ i =>
    cases j with
    | zero=>simp only [nQ,nK] at hj;subst hj;cases hs';have:=hsz r (nA (by simpa using hi)) _ hr;omega
    | succ j=>rw [hS0.dj i j r s b (by simpa using hi) (by simpa using hj) hr hs']
 have hS2:St B U ((.obj l o :: L) ++ [.obj rb (.deferred (some []))]) w1:=by
  refine hS1.addLast (b:=rb) hd rfl (hfree rb (by omega)).1 (hfree rb (by omega)).2 fun s hs' e=>?_
  rcases nH.1 hs' with rfl | hs'
  ·cases e;omega
  ·have:=hsz s hs' rb e;omega
 let PYl:S->PHeap->List Res->Prop:=fun s U L=>∃ o L',L=.obj l o :: L'/\LR N σ t asg body rb fn .ready none o/\PY s U L'
 let PEl:E->PHeap->List Res->Prop:=fun e U L=>∃ o L',L=.obj l o :: L'/\LR N σ t asg body rb fn .done (wRD (exO e)) o/\PE e U L'
 have hY:YOK P l ar PYl PEl f U:=by
  rintro U' w' s x vs r L3 hle hSt ⟨o',L',rfl,hLR',hP⟩ har hf
  refine Go.KX.Yd.of (hLR'.at_ (hSt.at_ (.obj l o') (by simp))) ht (hlen _ _ _ har) fun σ0 hσ0=>?_
  refine (hbody l rb fn s x vs r U' L' w' o' _ hle hSt hP har hf σ0 hσ0).mono ?_
  rintro D' e σ1 w1 ⟨rfl,rfl,U1,L1,hS1,hb⟩
  refine ⟨rfl,rfl,hLR'.at_ (hS1.at_ (.obj l o') (by simp)),fun w2 hl2 K2 _=>?_⟩
  obtain ⟨o2,ho2,hLR2⟩:=LR.of hl2
  refine (hb w2 o2 (hS1.putObj K2 ho2)).mono ?_
  rintro D2 e2 σ2 w3 ⟨U3,L3,hS3,hm⟩
  cases r with
  | inl s' =>
   obtain ⟨rfl,hP'⟩:=hm
   refine ⟨hLR2.at_ (hS3.at_ (.obj l o2) (by simp)),fun w4 hl4 K4 _=>?_⟩
   obtain ⟨o4,ho4,hLR4⟩:=LR.of hl4
   exact ⟨U3,_,hS3.putObj K4 ho4,rfl,o4,L3,rfl,hLR4,hP'⟩
  | inr e' =>
   obtain ⟨rfl,hP'⟩:=hm
   have fin:∀ w4 p,p=wRD (exO e')->LoopAt w4 l N σ t asg body rb fn .done p->Keep w3 w4 (·=l)->∃ U'' L'',St ⟨w',.obj l o' :: L',U'⟩ U'' L'' w4/\(false=false/\PEl e' U'' L''):=by
    rintro w4 p rfl hl4 K4
    obtain ⟨o4,ho4,hLR4⟩:=LR.of hl4
    exact ⟨U3,_,hS3.putObj K4 ho4,rfl,o4,L3,rfl,hLR4,hP'⟩
   have hB:=hLR2.at_ (hS3.at_ (.obj l o2) (by simp))
   rcases hex e' with he | ⟨i,he⟩
   ·rw [he] at fin ⊢
    exact ⟨hB,fun w4 hl4 K4 _=>fin w4 _ rfl hl4 K4⟩
   ·rw [he] at fin ⊢
    exact ⟨hB,fun w4 hl4 K4 _=>fin w4 _ rfl hl4 K4⟩
 have hE:St ⟨w1,.obj l o :: L,U⟩ U (.obj l o :: L) w1:=by have:=hS1.enterH (L.length + 1);simpa using this
 refine (hit l w1 (.obj l o :: L) PYl PEl hE ⟨o,L,rfl,hLR,h0⟩ hY).mono ?_
 rintro v w3 ⟨U',L3,g1,g2⟩
 obtain ⟨g3,g4⟩:=hS2.backH (L.length + 1) (own':=L3) (U':=U') (w':=w3) (by simpa using g1)
 have g3:St B U' (L3 ++ [.obj rb (.deferred (some []))]) w3:=by simpa using g3
 have hkk:=hk rb U'
 cases rr with
 | inl s' =>
  obtain ⟨o',L',rfl,hLR',hP⟩:=g2
  refine .inl ⟨hLR'.at_ (g3.at_ (.obj l o') (by simp)),fun w4 K4 _=>hkk L' w4 g4 ?_ hP⟩
  exact St.outObj (L:=L' ++ [.obj rb (.deferred (some []))]) (by simpa using g3) K4
 | inr e' =>
  obtain ⟨o',L',rfl,hLR',hP⟩:=g2
  refine .inr ⟨exO e',hex e',?_,fun w4 K4 _=>hkk L' w4 g4 ?_ hP⟩
  ·have:=hLR'.at_ (g3.at_ (.obj l o') (by simp))
   rcases hex e' with he | ⟨i,he⟩ <;> (rw [he] at this ⊢;exact this)
  ·exact St.outObj (L:=L' ++ [.obj rb (.deferred (some []))]) (by simpa using g3) K4
theorem wLd {rs:Array ResultVar} {R:Value->World->Prop} {rbs:List Nat} {e:Exit} (he:e=.normal \/ e=.ret) (hS:St B U (L ++ rbs.map fun rb=>.obj rb (.deferred (some []))) w)
  (k:∀ w',St B U L w'->∃ v,(wDm rs σ).run P w'=.ok v w'/\R v w'):retM P rs R (rbs.map Go.KX.mark) e σ w:=by
 have hn:rbs.Nodup:=by
  rw [List.Nodup,List.pairwise_iff_getElem]
  intro i j hi hj hij e
  have at_:∀ (i:Nat) (h:i < rbs.length),(L ++ rbs.map fun rb=>Res.obj rb (.deferred (some [])))[L.length + i]?=some (.obj rbs[i] (.deferred (some []))):=fun i h=>by
   rw [nE (by omega),show L.length + i - L.length=i by omega,nW,nD h]
   rfl
  have:=hS.dj _ _ _ _ rbs[i] (at_ i hi) (at_ j hj) rfl (by rw [e];rfl)
  omega
 have fin:∃ rbs':List Nat,rbs.map Go.KX.mark=rbs'.map Go.KX.mark/\rbs'.Nodup/\(∀ rb ∈ rbs',Dfr w rb)/\∀ w',Keep w w' (· ∈ rbs')->w'.heap.size=w.heap.size->∃ v,(wDm rs σ).run P w'=.ok v w'/\R v w' :=
  ⟨rbs,rfl,hn,fun rb hrb=>hS.at_ (.obj rb (.deferred (some []))) (kC _ (kY.2 ⟨rb,hrb,rfl⟩)),fun w' K _=>k w' (hS.outs K)⟩
 rcases he with rfl | rfl
 ·exact fin
 ·exact fin
end
def ins {α:Type} (le:α->α->Bool) (x:α):List α->List α
 | []=>[x]
 | y :: l=>if le x y=true then x :: y :: l else y :: ins le x l
def isrt {α:Type} (le:α->α->Bool):List α->List α
 | []=>[]
 | x :: l=>ins le x (isrt le l)
theorem wJi {α:Type} (le:α->α->Bool) (x:α):∀ l:List α,(ins le x l).Perm (x :: l)
 | []=>.refl _
 | y :: l=>by
  unfold ins
  split
  ·exact .refl _
  ·exact ((wJi le x l).cons y).trans (.swap x y l)
theorem wHE {α:Type} (le:α->α->Bool):∀ l:List α,(isrt le l).Perm l
 | []=>.refl _
 | x :: l=>(wJi le x _).trans ((wHE le l).cons x)
theorem wRE {α:Type} {le:α->α->Bool} {x:α}:∀ {l:List α},(∀ y ∈ l,le x y=true \/ le y x=true)->(∀ y ∈ l,∀ z ∈ l,le x y=true->le y z=true->le x z=true)->l.Pairwise (fun a b=>le a b=true)->(ins le x l).Pairwise fun a b=>le a b=true
 | [],_,_,_=>by simp [ins]
 | y :: l,h1,h2,h=>by
  have hp:=kM.1 h
  unfold ins
  split
  ·rename_i c
   exact kM.2 ⟨fun z hz=>by
    rcases nH.1 hz with rfl | hz
    ·exact c
    ·exact h2 y (.head _) z (.tail _ hz) c (hp.1 z hz),h⟩
  ·rename_i c
   refine kM.2 ⟨fun z hz=>?_,wRE (fun z hz=>h1 z (.tail _ hz)) (fun a ha b hb=>h2 a (.tail _ ha) b (.tail _ hb)) hp.2⟩
   rcases nH.1 ((wJi le x l).mem_iff.1 hz) with rfl | hz
   ·exact (h1 y (.head _)).resolve_left c
   ·exact hp.1 z hz
theorem wOC {α:Type} {le:α->α->Bool} {l:List α} (tot:∀ x ∈ l,∀ y ∈ l,le x y=true \/ le y x=true) (tr:∀ x ∈ l,∀ y ∈ l,∀ z ∈ l,le x y=true->le y z=true->le x z=true) (anti:∀ x ∈ l,∀ y ∈ l,le x y=true->le y x=true->x=y):isrt le l=l.mergeSort le:=by
 have key:∀ k:List α,(∀ x ∈ k,x ∈ l)->(isrt le k).Pairwise fun a b=>le a b=true:=by
  intro k
  induction k with
  | nil=>intro _;exact .nil
  | cons x k ih =>
   intro hk
   have m:∀ y ∈ isrt le k,y ∈ l:=fun y hy=>hk y (.tail _ ((wHE le k).mem_iff.1 hy))
   exact wRE (fun y hy=>tot x (hk x (.head _)) y (m y hy)) (fun y hy z hz=>tr x (hk x (.head _)) y (m y hy) z (m z hz)) (ih fun y hy=>hk y (.tail _ hy))
 have e:l.mergeSort le=(l.attach.mergeSort fun x y=>le x.1 y.1).map (·.1):=by
  rw [List.map_mergeSort (s:=le) (fun a _ b _=>rfl),List.attach_map_subtype_val]
 have pm:(l.mergeSort le).Pairwise fun a b=>le a b=true:=by
  rw [e]
  refine List.Pairwise.map _ (R:=fun (a b:{x:α // x ∈ l})=>le a.1 b.1=true) (fun a b h=>h) (List.pairwise_mergeSort (le:=fun x y:{x:α // x ∈ l}=>le x.1 y.1) (fun a b c=>tr a.1 a.2 b.1 b.2 c.1 c.2) (fun a b=>?_) _)
  rcases tot a.1 a.2 b.1 b.2 with h | h <;> simp [h]
 exact List.Perm.eq_of_pairwise (fun a b ha hb=>anti a ((wHE le l).mem_iff.1 ha) b ((aG l le).mem_iff.1 hb)) (key l fun _ h=>h) pm ((wHE le l).trans (aG l le).symm)
def wPx (l:List Int):Option (List Int):=if l.length < 4611686018427387904 then some (isrt (fun x y=>decide (x <= y)) l) else none
theorem wIS (l:List Int):wPx l=if l.length < 4611686018427387904 then some (l.mergeSort fun x y=>decide (x <= y)) else none:=by
 unfold wPx
 rw [wOC] <;> simp only [decide_eq_true_eq] <;> intros <;> omega
def ltB {α:Type} (h:α × α->Option Int) (x y:α):Bool:=match h (x,y) with
 | some n=>decide (n < 0)
 | none=>false
def Cmp {α:Type} (h:α × α->Option Int) (l:List α):Prop :=
 l.length < 4611686018427387904/\(∀ x ∈ l,∀ y ∈ l,(h (x,y)).isSome=true)/\(∀ x ∈ l,ltB h x x=false)/\(∀ x ∈ l,∀ y ∈ l,∀ z ∈ l,ltB h x y=true->ltB h y z=true->ltB h x z=true) /\
 (∀ x ∈ l,∀ y ∈ l,∀ z ∈ l,ltB h x y=false->ltB h y z=false->ltB h x z=false)/\(∀ x ∈ l,∀ y ∈ l,ltB h x y=false->ltB h y x=false->x=y)
instance {α:Type} [DecidableEq α] (h:α × α->Option Int) (l:List α):Decidable (Cmp h l):=inferInstanceAs (Decidable (_/\_))
def wLe {α:Type} [DecidableEq α] (h:α × α->Option Int) (l:List α):Option (List α):=if Cmp h l then some (isrt (fun x y=>!ltB h y x) l) else none
theorem Cmp.isrt {α:Type} {h:α × α->Option Int} {l:List α} (c:Cmp h l):isrt (fun x y=>!ltB h y x) l=l.mergeSort fun x y=>!ltB h y x:=by
 obtain ⟨_,_,c2,c3,c4,c5⟩:=c
 refine wOC (fun x hx y hy=>?_) (fun x hx y hy z hz=>?_) fun x hx y hy=>?_
 ·cases h1:ltB h y x with
  | false=>exact .inl rfl
  | true =>
   cases h2:ltB h x y with
   | false=>exact .inr rfl
   | true=>have:=c3 x hx y hy x hx h2 h1;rw [c2 x hx] at this;cases this
 ·simp only [nS]
  exact fun h1 h2=>c4 z hz y hy x hx h2 h1
 ·simp only [nS]
  exact fun h1 h2=>c5 x hx y hy h2 h1
theorem wNJ {α:Type} [DecidableEq α] {h:α × α->Option Int} {l r:List α} (e:wLe h l=some r):Cmp h l/\r=l.mergeSort fun x y=>!ltB h y x:=by
 unfold wLe at e
 split at e
 ·rename_i c
  exact ⟨c,(ku e).symm.trans c.isrt⟩
 ·cases e
theorem wPy {α:Type} [DecidableEq α] {h:α × α->Option Int} {l:List α} (c:Cmp h l):wLe h l=some (l.mergeSort fun x y=>!ltB h y x):=(if_pos c).trans (congrArg some c.isrt)
section
variable {B:Base} {U:PHeap} {L:List Res} {w:World}
theorem St.cutRowM {α:Type} {enc:α->List Value} {m:List α} {k c T sz b:Nat} {A:Option Addr} (h:St B U L w) (hk:L[k]?=some (.row A c T sz (nT enc m))):St B U (L.set k (.row A c T sz (nT enc (m.take b)))) w :=
 h.cutRow (a:=nT enc (m.take b)) (d:=nT enc (m.drop b)) (by rw [<- ny,List.take_append_drop];exact hk)
end
section
variable {P:Program} {N:Nat} {l:List Oper} {Q:wDr} {D:List Deferred} {ks:List Nat} {s:Sch} {σ:Env} {w:World} {B:Base} {U:PHeap} {L:List Res} {i d:Nat} {o:Oper}
def wTj {α:Type} (by_:Nat) (n c:Int) (z:α):Option (List α):=if 0 <= n/\n <= c/\c <= 16777216/\(by_:Int) * c <= 281474976710656 then some (np n.toNat z) else none
end
theorem slcK {A:Option Addr} {c n sz:Nat}:kz (if c=(0:Int).toNat then A else A.map (fun q:Addr=>q.add ((0:Int).toNat * sz))) n (c - (0:Int).toNat)=.slice A n c:=by
 have:A.map (fun q:Addr=>q.add ((0:Int).toNat * sz))=A:=by
  cases A with
  | none=>rfl
  | some a=>simp [Addr.add]
 rw [this]
 simp
theorem St.cutRowC {α:Type} {enc:α->List Value} {m xs:List α} {k c T sz:Nat} {b:Int} {A:Option Addr} {B:Base} {U:PHeap} {L:List Res} {w:World} (h:St B U L w) (hk:L[k]?=some (.row A c T sz (nT enc m))) (hc:cut m 0 b=some xs):St B U (L.set k (.row A c T sz (nT enc xs))) w:=by
 obtain ⟨h0,h1,h2,rfl,hn⟩:=wMS hc
 have:=h.cutRowM (b:=b.toNat) hk
 simpa using this
end Go.KL
