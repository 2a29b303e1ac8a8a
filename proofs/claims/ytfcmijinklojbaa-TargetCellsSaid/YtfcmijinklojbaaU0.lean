import Derived.WalkKit
import Derived.TacticsIn
import Derived.OrdersIn
import Derived.RangeFuncIn
import Derived.RangeFuncLeaves
import Derived.LoopNIn
import Derived.Maps.AppendAt
import Derived.MapKept
import Derived.Laws.StructEq
import Derived.WideKeyRuns
import Derived.RangeFuncRecord
import Derived.Laws.MakeOwn
import Derived.ProofKit
import Derived.Deep.SlicePairs
import Derived.JoinedOf
set_option linter.all false
open List renaming mem_of_getElem?->hH,getElem?_eq_some_iff->nA,getElem?_eq_getElem->nE,mem_cons->nI,getElem?_of_mem->nJ,getElem?_take->nL,getElem?_cons_zero->nM,getElem?_append_right->nN,getElem?_drop->nO,all_eq_true->nS,getElem?_append_left->nT,contains_eq_mem->nV,flatMap_cons->nZ,mem_append->na,getElem?_toArray->ng,mem_singleton->ni,getElem?_map->nq,range->nt,map->nu,rec->nv,eq_nil_of_length_eq_zero->nw,getElem?_eq_none->ny,pairwise_append->nz,mem_range->kE,map_toArray->kL,mem_append_left->kO,map_cons->kQ,getD_eq_getElem?_getD->kR,nodup_append->kU,ext_getElem?->kV,drop_eq_getElem_cons->kW,mem_of_mem_eraseIdx->kZ,mem_filter->kh,nodup_cons->ki,set_append_right->ko,mem_append_right->kq,mem_of_mem_drop->kr,mem_of_mem_take->ku,flatMap_append->kv,length_flatMap->kx,mem_map->kz,set_cons_succ->aA,set_cons_zero->aC,length_append->aD,size_toArray->aG,getElem?_set->aH,mapM_toArray->aI,length->aL
open Nat renaming blt->nB,beq->nD,le_refl->nK,ble->nU,lt_or_ge->nW,le_of_mul_le_mul_right->nc,lt_of_lt_of_le->nh,eq_zero_or_pos->nj,blt_eq->nk,le_trans->nl,mul_le_mul_right->kA,mul_pos->kG,add_mul->kH,le_of_ble_eq_true->kM,rec->kP,zero_add->kc,le_mul_of_pos_right->ke,zero_le->kl,lt_trans->ky,zero_mul->aB,succ_mul->aE,le_succ->aJ,not_lt->aN
open Option.some renaming injEq->nG,inj->aP
open Array renaming getD_eq_getD_getElem?->nH,getElem?_eq_none->nr,all_eq_true_iff_forall_mem->kK,getElem?_eq_getElem->kX,getElem?_replicate->kY,replicate->kg
open Bool renaming and_eq_true->nR,not_eq_true'->nY,rec->nf,or_eq_true->kB,false_eq_true->kD
open Option renaming rec->nX,map_some->kC,getD_some->kJ,bind_some->aM
open Prod.mk renaming injEq->kS
open Int renaming eq_ofNat_of_zero_le->kf
open List.cons renaming injEq->kk
open Go.Value renaming int->aF,slice->aK,bool->aO
namespace Go.KL
open Go.RowKit
abbrev Env:=Nat->Value
def upd (σ:Env) (d:Nat) (v:Value):Env:=fun t=>bif nD t d then v else σ t
def ev (σ:Env):Operand->Value
 | .tmp t=>σ t
 | .const v=>v
 | .global g=>.pointer (some ⟨g,0,none⟩)
 | .func f=>.func (.func f) #[] #[]
def WF (r:Option Nat):Fence:={ fn:=fun _=>True,depth:=none,alive:=false,round:=r }
structure Rep (N:Nat) (D:List Deferred) (a:Act) (σ:Env):Prop where
 size:a.tmps.size=N
 defers:a.defers=D
 get:∀ t,a.tmps.getD t undef=σ t
theorem wDB (σ:Env) (d:Nat) (v:Value):upd σ d v d=v:=by simp [upd]
theorem wCV (σ:Env) {d t:Nat} (v:Value) (h:t ≠ d):upd σ d v t=σ t:=by
 unfold upd
 have:nD t d=false:=by
  cases hb:nD t d
  ·rfl
  ·exact absurd (Nat.eq_of_beq_eq_true hb) h
 simp [this]
theorem Rep.eval {N:Nat} {D:List Deferred} {a:Act} {σ:Env} (h:Rep N D a σ):a.eval=ev σ:=by
 funext x
 cases x with
 | tmp t=>exact h.get t
 | const v=>rfl
 | global g=>rfl
 | func f=>rfl
theorem Rep.put {N:Nat} {D:List Deferred} {a:Act} {σ:Env} (h:Rep N D a σ) {d:Nat} (hd:d < N) (v:Value):Rep N D (a.put (some d) v) (upd σ d v):=by
 refine ⟨by simp [Act.put,h.size],h.defers,fun t=>?_⟩
 by_cases e:t=d
 ·subst e
  rw [wDB]
  simp [Act.put,nH,h.size,hd]
 ·rw [wCV _ _ e,<- h.get t]
  simp only [Act.put,nH]
  rw [Array.getElem?_setIfInBounds_ne (fun e'=>e e'.symm)]
abbrev wDc:=List Deferred->Exit->Env->World->Prop
def wIA (N:Nat) (Q:wDc) (e:Exit) (a:Act) (w:World):Prop:=∃ σ D,Rep N D a σ/\Q D e σ w
def OK (r:Option Nat) (N:Nat) (P:Program) (ops:List Oper) (Q:wDc) (l:List Oper) (D:List Deferred) (σ:Env) (w:World):Prop :=
 ∀ a,Rep N D a σ->wpListIn (WF r) 0 P ops.toArray (wIA N Q) l a w
def CK (r:Option Nat) (N:Nat) (P:Program) (c:Code) (Q:wDc) (D:List Deferred) (σ:Env) (w:World):Prop :=
 ∀ a,Rep N D a σ->Code.wpIn (WF r) 0 P c (wIA N Q) a w
def wEI (K:List Deferred->Env->World->Prop) (Q:wDc):wDc:=fun D e σ w =>
 match e with
 | .normal=>K D σ w
 | e=>Q D e σ w
def wIK (id:Nat) (Q:wDc):wDc:=fun D e σ w =>
 match e with
 | .exit i=>if i=id then Q D .normal σ w else Q D (.exit i) σ w
 | e=>Q D e σ w
section rules
variable {r:Option Nat} {N:Nat} {P:Program} {Q:wDc} {D:List Deferred} {σ:Env} {w:World}
theorem CK.mono {c:Code} {Q':wDc} (h:CK r N P c Q D σ w) (hq:∀ D e σ w,Q D e σ w->Q' D e σ w):CK r N P c Q' D σ w :=
 fun a ha=>wpIn_mono (h a ha) fun _ _ _ ⟨σ,D,hr,q⟩=>⟨σ,D,hr,hq _ _ _ _ q⟩
theorem CK.seq {x y:Code} (h:CK r N P x (wEI (fun D σ w=>CK r N P y Q D σ w) Q) D σ w):CK r N P (.seq x y) Q D σ w:=by
 intro a ha
 refine wpIn_seq (wpIn_mono (h a ha) ?_)
 rintro e a w ⟨σ,D,hr,q⟩
 cases e with
 | normal=>exact q a hr
 | _=>exact ⟨σ,D,hr,q⟩
theorem CK.cut {x y:Code} (M:Env->World->Prop) (h1:CK r N P x (wEI (fun D' σ w=>D'=D/\M σ w) Q) D σ w)
  (h2:∀ σ w,M σ w->CK r N P y Q D σ w):CK r N P (.seq x y) Q D σ w:=by
 refine CK.seq (h1.mono ?_)
 intro D' e σ w q
 cases e with
 | normal=>obtain ⟨rfl,hm⟩:=q;exact h2 _ _ hm
 | _=>exact q
theorem CK.skip (h:Q D .normal σ w):CK r N P .skip Q D σ w:=fun _ ha=>wpIn_skip ⟨σ,D,ha,h⟩
theorem CK.label {l:Nat} (h:Q D .normal σ w):CK r N P (.label l) Q D σ w:=fun _ ha=>wpIn_label ⟨σ,D,ha,h⟩
theorem CK.exit {id:Nat} (h:Q D (.exit id) σ w):CK r N P (.exit id) Q D σ w:=fun _ ha=>wpIn_exit ⟨σ,D,ha,h⟩
theorem CK.ret (h:Q D .ret σ w):CK r N P .ret Q D σ w:=fun _ ha=>wpIn_ret ⟨σ,D,ha,h⟩
theorem CK.block {id:Nat} {c:Code} (h:CK r N P c (wIK id Q) D σ w):CK r N P (.block id c) Q D σ w:=by
 intro a ha
 refine wpIn_block (wpIn_mono (h a ha) ?_)
 rintro e a w ⟨σ,D,hr,q⟩
 cases e with
 | exit i =>
  simp only [wIK] at q
  simp only [Exit.inBlock]
  split
  ·rename_i h;rw [if_pos h] at q;exact ⟨σ,D,hr,q⟩
  ·rename_i h;rw [if_neg h] at q;exact ⟨σ,D,hr,q⟩
 | _=>exact ⟨σ,D,hr,q⟩
theorem CK.condT {c:Operand} {x y:Code} (hc:ev σ c=.bool true) (h:CK r N P x Q D σ w):CK r N P (.cond c x y) Q D σ w :=
 fun a ha=>wpIn_cond_true (by rw [ha.eval];exact hc) (h a ha)
theorem CK.condF {c:Operand} {x y:Code} (hc:ev σ c=.bool false) (h:CK r N P y Q D σ w):CK r N P (.cond c x y) Q D σ w :=
 fun a ha=>wpIn_cond_false (by rw [ha.eval];exact hc) (h a ha)
theorem CK.loopM {c:Code} (I:Nat->Env->World->Prop) {m:Nat} (h0:I m σ w)
  (h:∀ m σ w,I m σ w->CK r N P c (wEI (fun D' σ' w'=>D'=D/\∃ m',m' < m/\I m' σ' w') Q) D σ w):CK r N P (.loop c) Q D σ w:=by
 have key:∀ M m σ w,m < M->I m σ w->∀ a,Rep N D a σ->Code.roundsIn (WF r) 0 P c (wIA N Q) M a w:=by
  intro M
  induction M with
  | zero=>intro m _ _ hm;omega
  | succ M ih =>
   intro m σ w hm hI a ha
   rw [roundsIn_succ]
   refine wpIn_mono (h m σ w hI a ha) ?_
   rintro e a' w' ⟨σ',D',hr,q⟩
   cases e with
   | normal =>
    obtain ⟨rfl,m',hlt,hI'⟩:=q
    exact ih m' σ' w' (by omega) hI' a' hr
   | _=>exact ⟨σ',D',hr,q⟩
 exact fun a ha=>wpIn_loop_rounds (m + 1) (key (m + 1) m σ w (by omega) h0 a ha)
theorem wIb {K:List Deferred->Env->World->Prop} (h:K D σ w):wEI K Q D .normal σ w:=h
theorem wMX {K:List Deferred->Env->World->Prop} {i:Nat} (h:Q D (.exit i) σ w):wEI K Q D (.exit i) σ w:=h
theorem wMY {K:List Deferred->Env->World->Prop} (h:Q D .ret σ w):wEI K Q D .ret σ w:=h
theorem wKt {i:Nat} (h:Q D .normal σ w):wIK i Q D .normal σ w:=h
theorem wIc {i:Nat} (h:Q D .normal σ w):wIK i Q D (.exit i) σ w:=by show (if i=i then _ else _);rw [if_pos rfl];exact h
theorem wKu {i j:Nat} (h:Q D (.exit j) σ w) (hne:nD j i=false:=by rfl):wIK i Q D (.exit j) σ w:=by
 have:j ≠ i:=fun e=>by subst e;rw [Nat.beq_refl] at hne;cases hne
 show (if j=i then _ else _);rw [if_neg this];exact h
theorem wKv {i:Nat} (h:Q D .ret σ w):wIK i Q D .ret σ w:=h
theorem CK.region {id:Nat} {l:List Oper} (h:OK r N P l Q l D σ w):CK r N P (.region id l.toArray false) Q D σ w :=
 fun a ha=>wpIn_region_lit (h a ha)
theorem OK.nil {ops:List Oper} (h:Q D .normal σ w):OK r N P ops Q [] D σ w:=fun _ ha=>wpListIn_nil ⟨σ,D,ha,h⟩
theorem CK.fresh {c:Code} {σ:Env} (h:∀ σ',(∀ t,σ' t=σ t)->CK r N P c Q D σ' w):CK r N P c Q D σ w:=h σ fun _=>rfl
end rules
def wanted (ops:List Oper) (σ:Env) (o:Oper):Bool :=
 match o.guard with
 | none=>true
 | some (j,b)=>match (ops[j]?).bind (·.dst) with
  | some d=>match σ d with
   | .bool b'=>b' == b
   | _=>false
  | none=>false
def wFz:Op->Bool
 | .defer _=>false
 | _=>true
theorem wDd {N:Nat} {D:List Deferred} {a:Act} {σ:Env} (h:Rep N D a σ) (ops:List Oper) (o:Oper) (hw:wanted ops σ o=true) :
  Region.wanted o (yielded ops.toArray a.tmps)=true:=by
 unfold wanted at hw
 unfold Region.wanted
 cases hg:o.guard with
 | none=>rfl
 | some g =>
  obtain ⟨j,b⟩:=g
  simp only [hg] at hw ⊢
  unfold yielded
  simp only [ng]
  cases hd:(ops[j]?).bind (·.dst) with
  | none=>simp [hd] at hw
  | some d =>
   simp only [hd] at hw
   have hg':=h.get d
   rw [nH] at hg'
   simp only [aM]
   cases ht:a.tmps[d]? with
   | none =>
    rw [ht] at hg'
    simp only [Option.getD_none] at hg'
    rw [<- hg'] at hw
    simp [undef] at hw
   | some v =>
    rw [ht] at hg'
    simp only [kJ] at hg'
    subst hg'
    cases hv:σ d <;> simp_all
theorem wFe {N:Nat} {D:List Deferred} {a:Act} {σ:Env} (h:Rep N D a σ) (ops:List Oper) (o:Oper) (hw:wanted ops σ o=false) :
  Region.wanted o (yielded ops.toArray a.tmps)=false:=by
 unfold wanted at hw
 unfold Region.wanted
 cases hg:o.guard with
 | none=>simp [hg] at hw
 | some g =>
  obtain ⟨j,b⟩:=g
  simp only [hg] at hw ⊢
  unfold yielded
  simp only [ng]
  cases hd:(ops[j]?).bind (·.dst) with
  | none=>simp
  | some d =>
   simp only [hd] at hw
   have hg':=h.get d
   rw [nH] at hg'
   simp only [aM]
   cases ht:a.tmps[d]? with
   | none=>simp
   | some v =>
    rw [ht] at hg'
    simp only [kJ] at hg'
    subst hg'
    cases hv:σ d <;> simp_all
section ops
variable {r:Option Nat} {N:Nat} {P:Program} {ops:List Oper} {Q:wDc} {D:List Deferred} {σ:Env} {w w':World} {rest:List Oper} {o:Oper} {d:Nat}
def Runs (P:Program) (σ:Env) (w:World) (o:Oper) (v:Value) (w':World):Prop :=
 wFz o.op=true/\(execOp (ev σ) o).run P w=.ok (.value v) w'
def Does (P:Program) (σ:Env) (w:World) (o:Oper) (w':World):Prop :=
 wFz o.op=true/\(execOp (ev σ) o).run P w=.ok .skip w'
theorem semAt_eq (r:Option Nat) (ρ:Operand->Value) (o:Oper) (h:wFz o.op=true):o.semAt r ρ=execOp ρ o :=
 Oper.semAt_eq r ρ o fun c e=>by rw [e] at h;cases h
theorem OK.val {v:Value} (hw:wanted ops σ o=true) (hd:o.dst=some d) (hdN:nB d N=true) (hr:Runs P σ w o v w')
  (k:OK r N P ops Q rest D (upd σ d v) w'):OK r N P ops Q (o :: rest) D σ w:=by
 intro a ha
 have hdN':d < N:=by simpa [nk] using hdN
 simp only [wpListIn,wDd ha ops o hw,if_true]
 refine ⟨fun _ _=>trivial,?_⟩
 rw [semAt_eq _ _ _ hr.1,ha.eval,hr.2]
 simp only [Oper.uponIn,hd]
 exact k _ (ha.put hdN' v)
theorem OK.unit (hw:wanted ops σ o=true) (hd:o.dst=none) (hr:Does P σ w o w')
  (k:OK r N P ops Q rest D σ w'):OK r N P ops Q (o :: rest) D σ w:=by
 intro a ha
 simp only [wpListIn,wDd ha ops o hw,if_true]
 refine ⟨fun _ _=>trivial,?_⟩
 rw [semAt_eq _ _ _ hr.1,ha.eval,hr.2]
 simp only [Oper.uponIn,hd,Act.put]
 exact k _ ha
theorem OK.valn {v:Value} (hw:wanted ops σ o=true) (hd:o.dst=none) (hr:Runs P σ w o v w')
  (k:OK r N P ops Q rest D σ w'):OK r N P ops Q (o :: rest) D σ w:=by
 intro a ha
 simp only [wpListIn,wDd ha ops o hw,if_true]
 refine ⟨fun _ _=>trivial,?_⟩
 rw [semAt_eq _ _ _ hr.1,ha.eval,hr.2]
 simp only [Oper.uponIn,hd,Act.put]
 exact k _ ha
theorem OK.pass (hw:wanted ops σ o=false) (hd:o.dst=some d) (hdN:nB d N=true)
  (k:OK r N P ops Q rest D (upd σ d undef) w):OK r N P ops Q (o :: rest) D σ w:=by
 intro a ha
 have hdN':d < N:=by simpa [nk] using hdN
 simp only [wpListIn,wFe ha ops o hw,kD,if_false]
 refine ⟨fun _ _=>trivial,?_⟩
 rw [hd]
 exact k _ (ha.put hdN' _)
theorem OK.passn (hw:wanted ops σ o=false) (hd:o.dst=none)
  (k:OK r N P ops Q rest D σ w):OK r N P ops Q (o :: rest) D σ w:=by
 intro a ha
 simp only [wpListIn,wFe ha ops o hw,kD,if_false]
 refine ⟨fun _ _=>trivial,?_⟩
 rw [hd]
 exact k _ ha
def Gv (P:Program) (f:FuncId) (args:List Value) (w:World) (R:Value->World->Prop):Prop :=
 Calls P f args.toArray w fun e w'=>∃ v,e=.returned v/\R v w'
theorem Calls.mono' {f:FuncId} {args:Array Value} {R R':Ending->World->Prop} (h:Calls P f args w R) (hr:∀ e w',R e w'->R' e w'):Calls P f args w R' :=
 fun cs=>let ⟨e,w',fr,a,b⟩:=h cs;⟨e,w',fr,hr _ _ a,b⟩
theorem Gv.mono {f:FuncId} {args:List Value} {R R':Value->World->Prop} (h:Gv P f args w R) (hr:∀ v w',R v w'->R' v w'):Gv P f args w R' :=
 Calls.mono' h fun _ _ ⟨v,e,hR⟩=>⟨v,e,hr _ _ hR⟩
theorem wId {F:Fence} {n:Nat} {l:Nat} {f:FuncId} {args:Array Value} {R:Ending->World->Prop} (h:CallsIn F n P f args w R):CallsIn (F.inRound l) n P f args w R:=h
theorem Gv.callsIn {f:FuncId} {args:List Value} {R:Value->World->Prop} (h:Gv P f args w R) (r:Option Nat) :
  CallsIn (WF r) 0 P f args.toArray w fun e w'=>∃ v,e=.returned v/\R v w':=by
 have h':CallsIn Fence.wide 0 P f args.toArray w fun e w'=>∃ v,e=.returned v/\R v w':=callsIn_wide.2 h
 cases r with
 | none=>exact h'
 | some l=>exact wId (l:=l) h'
theorem wPs:nu (ev σ) []=[]:=rfl
theorem wMZ {x:Operand} {l:List Operand} {v:Value} {vs:List Value} (h:ev σ x=v) (ht:nu (ev σ) l=vs):nu (ev σ) (x :: l)=v :: vs:=by
 rw [kQ,h,ht]
def Enters (P:Program) (σ:Env) (w:World) (o:Oper) (f:FuncId) (args:List Value):Prop :=
 wFz o.op=true/\(execOp (ev σ) o).run P w=.ok (.enter f args.toArray) w
theorem Enters.mk {x:Operand} {l:List Operand} {ty:Array TypeId} {f:FuncId} {fl cl vs args:List Value}
  (ho:o.op=.call { callee:=.value x,args:=l.toArray,argTypes:=ty }) (hx:ev σ x=.func (.func f) fl.toArray cl.toArray)
  (hcall:∀ (args:Array Value) (w:World),(callFunc f args).run P w=.ok (.enter f args) w)
  (hl:nu (ev σ) l=vs) (ha:fl ++ vs ++ cl=args):Enters P σ w o f args:=by
 refine ⟨by rw [ho];rfl,?_⟩
 subst ha hl
 simp [execOp,ho,resolve,hx,Deferred.ofValue,invoke,hcall]
theorem OK.call {f:FuncId} {args:List Value} {R:Value->World->Prop} (hw:wanted ops σ o=true) (hd:o.dst=some d) (hdN:nB d N=true)
  (he:Enters P σ w o f args) (hf:Gv P f args w R)
  (k:∀ v w',R v w'->OK r N P ops Q rest D (upd σ d v) w'):OK r N P ops Q (o :: rest) D σ w:=by
 intro a ha
 have hdN':d < N:=by simpa [nk] using hdN
 simp only [wpListIn,wDd ha ops o hw,if_true]
 refine ⟨fun _ _=>trivial,?_⟩
 rw [semAt_eq _ _ _ he.1,ha.eval,he.2]
 simp only [Oper.uponIn,hd]
 refine ⟨fun h=>(by cases h),?_⟩
 refine CallsIn.mono (hf.callsIn r) ?_
 rintro e w' ⟨v,rfl,hR⟩
 exact k v w' hR _ (ha.put hdN' v)
theorem OK.calln {f:FuncId} {args:List Value} {R:Value->World->Prop} (hw:wanted ops σ o=true) (hd:o.dst=none)
  (he:Enters P σ w o f args) (hf:Gv P f args w R)
  (k:∀ v w',R v w'->OK r N P ops Q rest D σ w'):OK r N P ops Q (o :: rest) D σ w:=by
 intro a ha
 simp only [wpListIn,wDd ha ops o hw,if_true]
 refine ⟨fun _ _=>trivial,?_⟩
 rw [semAt_eq _ _ _ he.1,ha.eval,he.2]
 simp only [Oper.uponIn,hd]
 refine ⟨fun h=>(by cases h),?_⟩
 refine CallsIn.mono (hf.callsIn r) ?_
 rintro e w' ⟨v,rfl,hR⟩
 exact k v w' hR _ ha
end ops
def wGA (σ:Env):ResultVar->Sem Value
 | .tmp t=>pure (σ t)
 | .cell a t=>do loadVar t (<- asAddr (σ a))
def wCs (rs:Array ResultVar) (σ:Env):Sem Value:=do
 let vs <- rs.mapM (wGA σ)
 pure (if h:vs.size=1 then vs[0] else .tuple vs)
theorem wGB {N:Nat} {D:List Deferred} {a:Act} {σ:Env} (h:Rep N D a σ) (fn:Func):results fn a.tmps=wCs fn.results σ:=by
 unfold results wCs
 congr 1
 congr 1
 funext x
 cases x with
 | tmp t=>simp only [h.get,wGA]
 | cell a t=>simp only [h.get,wGA]
def retQ (P:Program) (rs:Array ResultVar) (R:Value->World->Prop):wDc:=fun D e σ w =>
 match e with
 | .normal | .ret=>D=[]/\∃ v,(wCs rs σ).run P w=.ok v w/\R v w
 | _=>False
def wPt (args:List Value):Env:=fun t=>(args[t]?).getD undef
theorem wKw (args:List Value) (N:Nat) (h:args.length <= N) :
  Rep N [] { tmps:=args.toArray ++ kg (N - args.toArray.size) undef,defers:=[] } (wPt args):=by
 refine ⟨by simp;omega,rfl,fun t=>?_⟩
 simp only [nH,wPt]
 rw [Array.getElem?_append]
 split
 ·simp
 ·rename_i hge
  simp only [aG,aN] at hge
  rw [ny hge,kY]
  split <;> rfl
theorem Gv.of {P:Program} {f:FuncId} {fn:Func} {c:Code} {args:List Value} {w:World} {R:Value->World->Prop} {N:Nat} {rs:Array ResultVar}
  (hf:P.funcs[f]?=some fn) (hb:fn.body=some c) (hN:fn.ntmps=N) (hrs:fn.results=rs) (hle:nU args.length N=true)
  (h:CK none N P c (retQ P rs R) [] (wPt args) w):Gv P f args w R:=by
 refine callsIn_wide.1 (callsIn_of_wp hf hb trivial ?_ (n:=0))
 subst hN hrs
 refine wpIn_mono (h _ (wKw args _ (kM hle))) ?_
 rintro e a w ⟨σ,D,hr,q⟩
 cases e with
 | normal=>obtain ⟨rfl,v,hv,hR⟩:=q;exact ⟨hr.defers,v,by rw [wGB hr];exact hv,v,rfl,hR⟩
 | ret=>obtain ⟨rfl,v,hv,hR⟩:=q;exact ⟨hr.defers,v,by rw [wGB hr];exact hv,v,rfl,hR⟩
 | _=>exact q.elim
theorem res0 {P:Program} {σ:Env} {w:World}:(wCs #[] σ).run P w=.ok (.tuple #[]) w:=by simp [wCs]
theorem res1 {P:Program} {σ:Env} {w:World} {t:Nat} {v:Value} (h:σ t=v):(wCs #[.tmp t] σ).run P w=.ok v w:=by subst h;simp [wCs,wGA]
theorem wHH {P:Program} {σ:Env} {w:World} {t u:Nat} {x y:Value} (h:σ t=x) (h2:σ u=y):(wCs #[.tmp t,.tmp u] σ).run P w=.ok (.tuple #[x,y]) w:=by subst h h2;simp [wCs,wGA]
theorem wSA {P:Program} {σ:Env} {w:World} {t u s:Nat} {x y z:Value} (h:σ t=x) (h2:σ u=y) (h3:σ s=z):(wCs #[.tmp t,.tmp u,.tmp s] σ).run P w=.ok (.tuple #[x,y,z]) w:=by
 subst h h2 h3;simp [wCs,wGA]
end Go.KL
namespace Go.KL
open Go.RowKit
structure TapeLe (w w':World):Prop where
 eq:w'.tape=w.tape
 le:w.drawn <= w'.drawn
theorem TapeLe.trans {a b c:World} (k:TapeLe b c) (h:TapeLe a b):TapeLe a c:=⟨k.eq.trans h.eq,nl h.le k.le⟩
theorem TapeLe.refl (w:World):TapeLe w w:=⟨rfl,nK _⟩
structure Keep (w w':World) (X:Nat->Prop):Prop where
 os:w'.os=w.os
 tape:TapeLe w w'
 output:w'.output=w.output
 size:w.heap.size <= w'.heap.size
 block:∀ k,k < w.heap.size->¬ X k->w'.heap[k]?=w.heap[k]?
abbrev Non:Nat->Prop:=fun _=>False
theorem Keep.refl (w:World) (X:Nat->Prop):Keep w w X:=⟨rfl,TapeLe.refl w,rfl,nK _,fun _ _ _=>rfl⟩
theorem Keep.step {a b c:World} {X Y:Nat->Prop} (h:Keep a b X) (k:Keep b c Y) (hs:∀ i,i < a.heap.size->Y i->X i):Keep a c X :=
 ⟨k.os.trans h.os,k.tape.trans h.tape,k.output.trans h.output,nl h.size k.size,fun i hi hx =>
  (k.block i (nh hi h.size) (fun hy=>hx (hs i hi hy))).trans (h.block i hi hx)⟩
theorem Keep.non {a b c:World} {X:Nat->Prop} (h:Keep a b X) (k:Keep b c Non):Keep a c X:=h.step k fun _ _ h=>h.elim
theorem Keep.weak {a b:World} {X Y:Nat->Prop} (h:Keep a b Y) (hs:∀ i,i < a.heap.size->Y i->X i):Keep a b X :=
 ⟨h.os,h.tape,h.output,h.size,fun i hi hx=>h.block i hi fun hy=>hx (hs i hi hy)⟩
theorem Keep.below {a b:World} (h:Keep a b Non):Below a.heap.size a b:=⟨h.os,h.tape.eq,h.output,h.size,fun k hk=>h.block k hk id⟩
theorem Keep.drew (w:World):Keep w { w with drawn:=w.drawn + 1 } Non:=⟨rfl,⟨rfl,aJ _⟩,rfl,nK _,fun _ _ _=>rfl⟩
def Blk (w:World) (b:Nat) (T:TypeId) (l:List Value):Prop:=w.heap[b]?=some (.cells l.toArray T (0,0))
theorem Blk.lt {w:World} {b:Nat} {T:TypeId} {l:List Value} (h:Blk w b T l):b < w.heap.size:=by
 rcases nW b w.heap.size with hlt | hge
 ·exact hlt
 ·unfold Blk at h;rw [nr hge] at h;cases h
theorem Blk.keep {w w':World} {b:Nat} {T:TypeId} {l:List Value} {X:Nat->Prop} (h:Blk w b T l) (k:Keep w w' X) (hx:¬ X b):Blk w' b T l:=(k.block b h.lt hx).trans h
theorem Blk.non {w w':World} {b:Nat} {T:TypeId} {l:List Value} (h:Blk w b T l) (k:Keep w w' Non):Blk w' b T l:=h.keep k id
theorem Blk.cell {w:World} {b off:Nat} {T:TypeId} {l:List Value} {v:Value} (h:Blk w b T l) (hv:l[off]?=some v):w.cell? ⟨b,off,none⟩=some v:=by
 unfold Blk at h
 simp [World.cell?,h,hv]
theorem Blk.frozen {w:World} {b off:Nat} {T:TypeId} {l:List Value} (h:Blk w b T l):w.frozen? ⟨b,off,none⟩=false:=by
 unfold Blk at h
 simp [World.frozen?,h]
theorem wBY (w:World) (o:Obj):Keep w (w.alloc o) Non:=⟨rfl,⟨rfl,nK _⟩,rfl,by simp,fun k hk _=>Below.heap_alloc w o k hk⟩
theorem wER (w:World) (l:List Value) (T:TypeId):Blk (w.alloc (.cells l.toArray T)) w.heap.size T l:=by
 unfold Blk
 show (w.heap.push _)[w.heap.size]?=_
 simp
theorem wIL (w:World) (o:Obj):(w.alloc o).heap.size=w.heap.size + 1:=by simp
theorem wJI (w:World) (b off:Nat) (v:Value):Keep w (w.setCell ⟨b,off,none⟩ v) (·=b) :=
 ⟨rfl,⟨rfl,nK _⟩,rfl,by simp [World.setCell],fun k _ hx=>Below.heap_setCell w _ v k hx⟩
theorem wJw {w:World} {b:Nat} {T:TypeId} {l:List Value} (h:Blk w b T l) (off:Nat) (v:Value):Blk (w.setCell ⟨b,off,none⟩ v) b T (l.set off v):=by
 unfold Blk at h ⊢
 simp [World.setCell,Array.getElem?_modify,h]
theorem wJJ (w:World) (a:Addr) (v:Value):(w.setCell a v).heap.size=w.heap.size:=by simp [World.setCell]
def wEJ:List Value->Nat->List Value->List Value
 | l,_,[]=>l
 | l,off,v :: vs=>wEJ (l.set off v) (off + 1) vs
theorem wCq (l:List Value) (off:Nat) (vs:List Value):(wEJ l off vs).length=l.length:=by
 induction vs generalizing l off with
 | nil=>rfl
 | cons v vs ih=>simp [wEJ,ih]
def one (v:Value):Bool :=
 match v with
 | .agg _ | .tuple _=>false
 | _=>true
theorem wLi {P:Program} {w:World} {b off:Nat} {T:TypeId} {l:List Value} {v:Value} (h:Blk w b T l) (hlt:off < l.length) (h1:one v=true) :
  (store ⟨b,off,none⟩ v).run P w=.ok () (w.setCell ⟨b,off,none⟩ v):=by
 have hc:w.cell? ⟨b,off,none⟩=some (l[off]'hlt):=h.cell (nE hlt)
 have hf:=h.frozen (off:=off)
 cases v <;> simp [store,Sem.run,hc,hf,one] at h1 ⊢
theorem wCk {P:Program} {b:Nat} {T:TypeId} (off:Nat) (vs:List Value):∀ (i:Nat) (l:List Value) (w:World),Blk w b T l->off + i + vs.length <= l.length->(∀ v ∈ vs,one v=true) ->
  ∃ w',(storeCells ⟨b,off,none⟩ vs i).run P w=.ok () w'/\Blk w' b T (wEJ l (off + i) vs)/\Keep w w' (·=b)/\w'.heap.size=w.heap.size:=by
 induction vs with
 | nil=>intro i l w h _ _;exact ⟨w,by simp [storeCells],h,Keep.refl _ _,rfl⟩
 | cons v vs ih =>
  intro i l w h hle h1
  have hlt:off + i < l.length:=by simp at hle;omega
  have hs:=wLi (P:=P) h hlt (h1 v (by simp))
  obtain ⟨w',h2,h3,h4,h5⟩:=ih (i + 1) (l.set (off + i) v) _ (wJw h (off + i) v) (by simp at hle ⊢;omega) (fun u hu=>h1 u (by simp [hu]))
  refine ⟨w',?_,h3,(wJI w b (off + i) v).step h4 (fun _ _ h=>h),by rw [h5,wJJ]⟩
  have ha:Addr.add ⟨b,off,none⟩ i=⟨b,off + i,none⟩:=by unfold Addr.add;split <;> simp_all
  simp only [storeCells,Sem.run_bind,ha,hs,Result.andThen_ok]
  exact h2
section
variable {r:Option Nat} {N:Nat} {P:Program} {ops:List Oper} {Q:wDc} {D:List Deferred} {σ:Env} {w w':World} {rest:List Oper} {o:Oper} {d:Nat}
theorem Runs.mv {x:Operand} {v:Value} (ho:o.op=.move x) (hx:ev σ x=v):Runs P σ w o v w:=⟨by rw [ho];rfl,by simp [execOp,ho,hx]⟩
theorem Runs.as {x:Operand} {v:Value} (ho:o.op=.assign x) (hx:ev σ x=v):Runs P σ w o v w:=⟨by rw [ho];rfl,by simp [execOp,ho,hx]⟩
theorem Runs.pickT {c x y:Operand} {v:Value} (ho:o.op=.pick c x y) (hc:ev σ c=.bool true) (hx:ev σ x=v):Runs P σ w o v w:=⟨by rw [ho];rfl,by simp [execOp,ho,hc,hx,asBool]⟩
theorem Runs.pickF {c x y:Operand} {v:Value} (ho:o.op=.pick c x y) (hc:ev σ c=.bool false) (hx:ev σ y=v):Runs P σ w o v w:=⟨by rw [ho];rfl,by simp [execOp,ho,hc,hx,asBool]⟩
theorem Runs.ext {x:Operand} {i:Nat} {vs:Array Value} {v:Value} (ho:o.op=.extract x i) (hx:ev σ x=.tuple vs) (hv:vs[i]?=some v):Runs P σ w o v w :=
 ⟨by rw [ho];rfl,by simp [execOp,ho,Instr.extract,hx,hv]⟩
theorem Runs.nilp {x:Operand} {a:Addr} (ho:o.op=.nilCheck x) (hx:ev σ x=.pointer (some a)):Runs P σ w o (.pointer (some a)) w :=
 ⟨by rw [ho];rfl,by simp [execOp,ho,hx]⟩
theorem Runs.nilf {x:Operand} {f:FuncId} {a b:Array Value} (ho:o.op=.nilCheck x) (hx:ev σ x=.func (.func f) a b):Runs P σ w o (.func (.func f) a b) w :=
 ⟨by rw [ho];rfl,by simp [execOp,ho,hx]⟩
theorem Runs.nily {x:Operand} {f:Nat} {a b:Array Value} (ho:o.op=.nilCheck x) (hx:ev σ x=.func (.yield f) a b):Runs P σ w o (.func (.yield f) a b) w :=
 ⟨by rw [ho];rfl,by simp [execOp,ho,hx]⟩
theorem Runs.mkf {fn:Go.Fn} {fl cl:List Operand} {fv cv:List Value} (ho:o.op=.makeFunc fn fl.toArray cl.toArray) (hf:nu (ev σ) fl=fv) (hc:nu (ev σ) cl=cv):Runs P σ w o (.func fn fv.toArray cv.toArray) w :=
 ⟨by rw [ho];rfl,by subst hf hc;simp [execOp,ho,Instr.makeFunc]⟩
theorem wEY (b off n:Nat):Addr.add ⟨b,off,none⟩ n=⟨b,off + n,none⟩:=by unfold Addr.add;split <;> simp_all
theorem Runs.ld {t:TypeId} {x:Operand} {a:Addr} {v:Value} (ho:o.op=.load t x) (hx:ev σ x=.pointer (some a)) (hag:∀ w,(isAgg t).run P w=.ok false w) (hc:w.cell? a=some v):Runs P σ w o v w :=
 ⟨by rw [ho];rfl,by simp [execOp,ho,Instr.loadAt,hx,Instr.sureAddr,loadVar,hag,load,Sem.run,hc]⟩
theorem wGa {P:Program} {w:World} {b off:Nat} (vs:List Value):∀ (i:Nat) (acc:Array Value),(∀ j v,vs[j]?=some v->w.cell? ⟨b,off + i + j,none⟩=some v) ->
  (loadCellsFrom ⟨b,off,none⟩ i vs.length acc).run P w=.ok (acc ++ vs.toArray) w:=by
 induction vs with
 | nil=>intro i acc _;simp [loadCellsFrom]
 | cons v vs ih =>
  intro i acc h
  have h0:=h 0 v rfl
  simp only [Nat.add_zero] at h0
  have:=ih (i + 1) (acc.push v) (fun j u hu=>by have:=h (j + 1) u (by simpa using hu);rw [show off + (i + 1) + j=off + i + (j + 1) from by omega];exact this)
  simp only [List.length_cons,loadCellsFrom,Sem.run_bind,wEY]
  simp only [load,Sem.run,h0,Result.andThen_ok]
  rw [this]
  simp
theorem run_loadCells {P:Program} {w:World} {b off n:Nat} (vs:List Value) (hn:vs.length=n) (h:∀ j v,vs[j]?=some v->w.cell? ⟨b,off + j,none⟩=some v) :
  (loadCells ⟨b,off,none⟩ n).run P w=.ok vs.toArray w:=by
 subst hn
 have:=wGa (P:=P) (w:=w) (b:=b) (off:=off) vs 0 #[] (by simpa using h)
 simpa [loadCells] using this
theorem Runs.ldA {t:TypeId} {x:Operand} {b off n:Nat} {vs:List Value} (ho:o.op=.load t x) (hx:ev σ x=.pointer (some ⟨b,off,none⟩)) (hag:∀ w,(isAgg t).run P w=.ok true w)
  (hsz:∀ w,(sizeOf t).run P w=.ok n w) (hn:vs.length=n) (h:∀ j v,vs[j]?=some v->w.cell? ⟨b,off + j,none⟩=some v):Runs P σ w o (.agg vs.toArray) w :=
 ⟨by rw [ho];rfl,by simp [execOp,ho,Instr.loadAt,hx,Instr.sureAddr,loadVar,hag,hsz,run_loadCells vs hn h]⟩
theorem Blk.cells {w:World} {b off n:Nat} {T:TypeId} {l vs:List Value} (h:Blk w b T l) (hv:(l.drop off).take n=vs):∀ j v,vs[j]?=some v->w.cell? ⟨b,off + j,none⟩=some v:=by
 intro j v hj
 subst hv
 refine h.cell ?_
 rw [nL] at hj
 split at hj
 ·rwa [nO] at hj
 ·cases hj
theorem Runs.ldB {t T:TypeId} {x:Operand} {b off:Nat} {l:List Value} {v:Value} (ho:o.op=.load t x) (hx:ev σ x=.pointer (some ⟨b,off,none⟩)) (hag:∀ w,(isAgg t).run P w=.ok false w)
  (hB:Blk w b T l) (hv:l[off]?=some v):Runs P σ w o v w:=Runs.ld ho hx hag (hB.cell hv)
theorem Runs.ldBA {t T:TypeId} {x:Operand} {b off n:Nat} {l vs:List Value} (ho:o.op=.load t x) (hx:ev σ x=.pointer (some ⟨b,off,none⟩)) (hag:∀ w,(isAgg t).run P w=.ok true w)
  (hsz:∀ w,(sizeOf t).run P w=.ok n w) (hB:Blk w b T l) (hv:(l.drop off).take n=vs) (hn:vs.length=n):Runs P σ w o (.agg vs.toArray) w :=
 Runs.ldA ho hx hag hsz hn (hB.cells hv)
theorem Runs.fa {s:TypeId} {x:Operand} {i b off n:Nat} {fs:Array Field} {fl:Field} (ho:o.op=.fieldAddr s x i) (hx:ev σ x=.pointer (some ⟨b,off,none⟩))
  (hs:∀ w,(underlying s).run P w=.ok (.struct fs) w) (hf:fs[i]?=some fl) (hsz:∀ w,(sizeOf fl.type).run P w=.ok (n + 1) w):Runs P σ w o (.pointer (some ⟨b,off + fl.offset,none⟩)) w :=
 ⟨by rw [ho];rfl,by simp [execOp,ho,Instr.fieldAt,hs,hf,hx,Instr.sureAddr,fieldPlace,hsz,wEY]⟩
theorem Runs.ia {t e:TypeId} {x y:Operand} {b off len cap sz:Nat} {i:Int} (ho:o.op=.indexAddr t x y) (hx:ev σ x=.slice (some ⟨b,off,none⟩) len cap) (hy:ev σ y=.int .i64 i)
  (ht:∀ w,(underlying t).run P w=.ok (.slice e) w) (hsz:∀ w,(sizeOf e).run P w=.ok sz w) (h0:0 <= i) (h1:i < len):Runs P σ w o (.pointer (some ⟨b,off + i.toNat * sz,none⟩)) w :=
 ⟨by rw [ho];rfl,by simp [execOp,ho,Instr.indexAt,hx,hy,asIntOf,ht,hsz,h0,h1,wEY]⟩
theorem Runs.iaA {t e:TypeId} {x y:Operand} {b off len sz:Nat} {i:Int} (ho:o.op=.indexAddr t x y) (hx:ev σ x=.pointer (some ⟨b,off,none⟩)) (hy:ev σ y=.int .i64 i)
  (ht:∀ w,(underlying t).run P w=.ok (.array len e) w) (hsz:∀ w,(sizeOf e).run P w=.ok sz w) (h0:0 <= i) (h1:i < len):Runs P σ w o (.pointer (some ⟨b,off + i.toNat * sz,none⟩)) w :=
 ⟨by rw [ho];rfl,by simp [execOp,ho,Instr.indexAt,Instr.sureAddr,hx,hy,asIntOf,ht,hsz,h0,h1,wEY]⟩
theorem wIe {P:Program} {w:World} {e n off:Nat} {cs vs:List Value} (hag:∀ w,(isAgg e).run P w=.ok true w) (hsz:∀ w,(sizeOf e).run P w=.ok n w) (hv:(cs.drop off).take n=vs) :
  (part e cs.toArray off).run P w=.ok (.agg vs.toArray) w:=by
 subst hv
 simp [part,hag,hsz,List.extract_eq_take_drop]
theorem wGC {P:Program} {w:World} {e off:Nat} {cs:List Value} {v:Value} (hag:∀ w,(isAgg e).run P w=.ok false w) (hv:cs[off]?=some v) :
  (part e cs.toArray off).run P w=.ok v w:=by
 simp [part,hag,hv]
theorem Runs.ixA {t e:TypeId} {x y:Operand} {len sz:Nat} {i:Int} {cs:List Value} {v:Value} (ho:o.op=.index t x y) (hx:ev σ x=.agg cs.toArray) (hy:ev σ y=.int .i64 i)
  (ht:∀ w,(underlying t).run P w=.ok (.array len e) w) (hsz:∀ w,(sizeOf e).run P w=.ok sz w) (h0:0 <= i) (h1:i < len) (hp:(part e cs.toArray (i.toNat * sz)).run P w=.ok v w):Runs P σ w o v w :=
 ⟨by rw [ho];rfl,by simp [execOp,ho,Instr.index,hx,hy,asIntOf,ht,hsz,h0,h1,hp]⟩
theorem Runs.fld {s:TypeId} {x:Operand} {i:Nat} {fs:Array Field} {fl:Field} {cs:List Value} {v:Value} (ho:o.op=.field s x i) (hx:ev σ x=.agg cs.toArray)
  (hs:∀ w,(underlying s).run P w=.ok (.struct fs) w) (hf:fs[i]?=some fl) (hp:(part fl.type cs.toArray fl.offset).run P w=.ok v w):Runs P σ w o v w :=
 ⟨by rw [ho];rfl,by simp [execOp,ho,Instr.field,hs,hf,hx,asAgg,hp]⟩
theorem Runs.not {t:TypeId} {x:Operand} {b:Bool} (ho:o.op=.unOp .not t x) (hx:ev σ x=.bool b):Runs P σ w o (.bool !b) w :=
 ⟨by rw [ho];rfl,by simp [execOp,ho,hx,Op.unary]⟩
theorem Runs.notP {t:TypeId} {x:Operand} {p:Prop} [Decidable p] (ho:o.op=.unOp .not t x) (hx:ev σ x=.bool (decide p)):Runs P σ w o (.bool (decide (¬ p))) w :=
 ⟨by rw [ho];rfl,by simp [execOp,ho,hx,Op.unary]⟩
theorem Runs.lss {t u:TypeId} {k:IntKind} {x y:Operand} {m n:Int} (ho:o.op=.binOp .lss t x y u) (hx:ev σ x=.int k m) (hy:ev σ y=.int k n):Runs P σ w o (.bool (decide (m < n))) w :=
 ⟨by rw [ho];rfl,by simp [execOp,ho,hx,hy,binOp,eqGuard,Op.intCmp]⟩
theorem Runs.leq {t u:TypeId} {k:IntKind} {x y:Operand} {m n:Int} (ho:o.op=.binOp .leq t x y u) (hx:ev σ x=.int k m) (hy:ev σ y=.int k n):Runs P σ w o (.bool (decide (m <= n))) w :=
 ⟨by rw [ho];rfl,by simp [execOp,ho,hx,hy,binOp,eqGuard,Op.intCmp]⟩
theorem Runs.gtr {t u:TypeId} {k:IntKind} {x y:Operand} {m n:Int} (ho:o.op=.binOp .gtr t x y u) (hx:ev σ x=.int k m) (hy:ev σ y=.int k n):Runs P σ w o (.bool (decide (n < m))) w :=
 ⟨by rw [ho];rfl,by simp [execOp,ho,hx,hy,binOp,eqGuard,Op.intCmp]⟩
theorem Runs.geq {t u:TypeId} {k:IntKind} {x y:Operand} {m n:Int} (ho:o.op=.binOp .geq t x y u) (hx:ev σ x=.int k m) (hy:ev σ y=.int k n):Runs P σ w o (.bool (decide (n <= m))) w :=
 ⟨by rw [ho];rfl,by simp [execOp,ho,hx,hy,binOp,eqGuard,Op.intCmp]⟩
theorem wJx (m n:Int):(m == n)=decide (m=n):=by by_cases h:m=n <;> simp [h]
theorem Runs.eql {t u:TypeId} {k:IntKind} {x y:Operand} {m n:Int} (ho:o.op=.binOp .eql t x y u) (hx:ev σ x=.int k m) (hy:ev σ y=.int k n):Runs P σ w o (.bool (decide (m=n))) w :=
 ⟨by rw [ho];rfl,by simp [execOp,ho,hx,hy,binOp,eqGuard,Op.intCmp,wJx]⟩
theorem Runs.neq {t u:TypeId} {k:IntKind} {x y:Operand} {m n:Int} (ho:o.op=.binOp .neq t x y u) (hx:ev σ x=.int k m) (hy:ev σ y=.int k n):Runs P σ w o (.bool (decide (m ≠ n))) w :=
 ⟨by rw [ho];rfl,by simp [execOp,ho,hx,hy,binOp,eqGuard,Op.intCmp,bne,wJx]⟩
theorem Runs.to {v v':Value} (h:Runs P σ w o v w') (e:v=v'):Runs P σ w o v' w':=e ▸ h
theorem wSK {p:Prop} [Decidable p] (h:p):aO (decide p)=.bool true:=by simp [h]
theorem wSL {p:Prop} [Decidable p] (h:¬ p):aO (decide p)=.bool false:=by simp [h]
theorem Runs.len {t e:TypeId} {x:Operand} {a:Option Addr} {n c:Nat} (ho:o.op=.call { callee:=.builtin .len,args:=#[x],argTypes:=#[t] }) (hx:ev σ x=.slice a n c)
  (ht:∀ w,(underlying t).run P w=.ok (.slice e) w):Runs P σ w o (.int .i64 n) w :=
 ⟨by rw [ho];rfl,by simp [execOp,ho,resolve,invoke,builtin,Builtin.len_,hx,ht,goInt]⟩
end
end Go.KL
namespace Go.KL
open Go.RowKit
def wLj (o:Oper):List Nat:=(o.after.toList.filter (Region.binds .any)).map (·.on)
def Rounds (P:Program) (σ:Env) (w:World) (o:Oper) (R:Value->World->Prop):Prop :=
 wFz o.op=true/\∃ l f tmps asg body,(execOp (ev σ) o).run P w=.ok (.round l f tmps asg body) w/\RoundIn (WF none) 0 P l f tmps asg body w fun e w'=>∃ v,e=.returned v/\R v w'
theorem Rounds.mono {P:Program} {σ:Env} {w:World} {o:Oper} {R R':Value->World->Prop} (h:Rounds P σ w o R) (hR:∀ v w',R v w'->R' v w'):Rounds P σ w o R':=by
 obtain ⟨h1,l,f,t,a,b,h2,h3⟩:=h
 exact ⟨h1,l,f,t,a,b,h2,h3.mono fun e w' ⟨v,e1,e2⟩=>⟨v,e1,hR _ _ e2⟩⟩
theorem wFf {P:Program} {l:Nat} {f:FuncId} {tmps:Array Value} {asg body:Code} {w:World} {R:Ending->World->Prop} (h:RoundIn (WF none) 0 P l f tmps asg body w R) (r:Option Nat):RoundIn (WF r) 0 P l f tmps asg body w R:=h
theorem OK.round {r:Option Nat} {N:Nat} {P:Program} {ops:List Oper} {Q:wDc} {D:List Deferred} {σ:Env} {w:World} {rest:List Oper} {o:Oper} {d:Nat} {R:Value->World->Prop}
  (hw:wanted ops σ o=true) (hd:o.dst=some d) (hdN:nB d N=true) (hr:Rounds P σ w o R) (k:∀ v w',R v w'->OK r N P ops Q rest D (upd σ d v) w'):OK r N P ops Q (o :: rest) D σ w:=by
 intro a ha
 have hdN':d < N:=by simpa [nk] using hdN
 obtain ⟨h1,l,f,t,as,b,h2,h3⟩:=hr
 simp only [wpListIn,wDd ha ops o hw,if_true]
 refine ⟨fun _ _=>trivial,?_⟩
 rw [semAt_eq _ _ _ h1,ha.eval,h2]
 simp only [Oper.uponIn,hd]
 refine ⟨fun h=>(by cases h),?_⟩
 refine RoundIn.mono (wFf h3 r) ?_
 rintro e w' ⟨v,rfl,hR⟩
 exact k v w' hR _ (ha.put hdN' _)
theorem OK.roundn {r:Option Nat} {N:Nat} {P:Program} {ops:List Oper} {Q:wDc} {D:List Deferred} {σ:Env} {w:World} {rest:List Oper} {o:Oper} {R:Value->World->Prop}
  (hw:wanted ops σ o=true) (hd:o.dst=none) (hr:Rounds P σ w o R) (k:∀ v w',R v w'->OK r N P ops Q rest D σ w'):OK r N P ops Q (o :: rest) D σ w:=by
 intro a ha
 obtain ⟨h1,l,f,t,as,b,h2,h3⟩:=hr
 simp only [wpListIn,wDd ha ops o hw,if_true]
 refine ⟨fun _ _=>trivial,?_⟩
 rw [semAt_eq _ _ _ h1,ha.eval,h2]
 simp only [Oper.uponIn,hd]
 refine ⟨fun h=>(by cases h),?_⟩
 refine RoundIn.mono (wFf h3 r) ?_
 rintro e w' ⟨v,rfl,hR⟩
 exact k v w' hR _ ha
def Step1 (P:Program) (ops:List Oper) (o:Oper) (σ:Env) (w:World) (R:Value->World->Prop):Prop :=
 (wanted ops σ o=true/\((o.dst=none/\∃ w',Does P σ w o w'/\R undef w') \/ (∃ v w',Runs P σ w o v w'/\R v w') \/ (∃ f args R',Enters P σ w o f args/\Gv P f args w R'/\∀ v w',R' v w'->R v w') \/ Rounds P σ w o R)) \/
 (wanted ops σ o=false/\R undef w)
theorem Keep.trans' {a b c:World} {X:Nat->Prop} (h:Keep a b X) (k:Keep b c X):Keep a c X:=h.step k fun _ _ h=>h
def put' (σ:Env) (o:Oper) (v:Value):Env :=
 match o.dst with
 | some d=>upd σ d v
 | none=>σ
def wGD (P:Program) (σ:Env) (w:World) (o:Oper) (v:Value):Prop:=∀ w',Keep w w' Non->Runs P σ w' o v w'
inductive Sch
 | nil
 | stop
 | fl (i:Nat) (s:Sch)
 | fx (i:Nat) (s alt:Sch)
def kOf (ks:List Nat) (i:Nat):Nat:=ks.getD i 0
def wPu (ks:List Nat) (i:Nat):Bool:=kOf ks i == 1 || kOf ks i == 3 || kOf ks i == 1004
def InL (T:List Nat) (b:Nat):Prop:=b ∈ T
def OutL (T:List Nat) (b:Nat):Prop:=b ∉ T
def chg (l:List Oper) (ks:List Nat):Nat->Prop:=bif nD (kOf ks (l.length - 1)) 1006 then OutL (ks.drop l.length) else InL (ks.drop l.length)
def wSM (k:Nat):Bool:=nD k 3 || nD k 1004
def wGE (k:Nat):Bool:=nD k 2 || nD k 1005
def KeepD (l:List Oper) (ks:List Nat) (i:Nat) (w w':World):Prop:=(kOf ks i=2->Keep w w' Non)/\(kOf ks i=1005->Keep w w' (chg l ks))
theorem KeepD.of {l:List Oper} {ks:List Nat} {i:Nat} {w w':World} (h:wGE (kOf ks i)=false \/ Keep w w' Non):KeepD l ks i w w':=by
 refine ⟨fun e=>?_,fun e=>?_⟩
 ·rcases h with h | h
  ·rw [e] at h;cases h
  ·exact h
 ·rcases h with h | h
  ·rw [e] at h;cases h
  ·exact h.weak fun _ _ hx=>hx.elim
theorem KeepD.refl (l:List Oper) (ks:List Nat) (i:Nat) (w:World):KeepD l ks i w w:=.of (.inr (Keep.refl w _))
def Fl (P:Program) (l:List Oper) (k:Nat) (T:Nat->Prop) (o:Oper) (σ:Env) (w:World) (K:Env->Prop):Prop :=
 (wanted l σ o=true/\∃ v,(wGD P σ w o v)/\((k=3->∀ w',Runs P σ w' o v w')/\(k=1004->∀ w',Keep w w' T->Runs P σ w' o v w'))/\K (put' σ o v)) \/ (wanted l σ o=false/\K (put' σ o undef))
def OKS (N:Nat) (P:Program) (l:List Oper) (Q:wDc) (D:List Deferred) (ks:List Nat):Sch->Env->World->Prop
 | .nil,σ,w=>Q D .normal σ w
 | .stop,_,_=>True
 | .fl i s,σ,w=>∃ o,l[i]?=some o/\(∀ d,o.dst=some d->d < N)/\Fl P l (kOf ks i) (chg l ks) o σ w fun σ'=>OKS N P l Q D ks s σ' w
 | .fx i s alt,σ,w=>(∃ o,l[i]?=some o/\(∀ d,o.dst=some d->d < N)/\Step1 P l o σ w fun v w'=>KeepD l ks i w w'/\OKS N P l Q D ks s (put' σ o v) w')/\OKS N P l Q D ks alt σ w
section
variable {r:Option Nat} {N:Nat} {P:Program} {Q:wDc} {D:List Deferred} {l:List Oper} {ks:List Nat}
theorem Step1.mono {ops:List Oper} {o:Oper} {σ:Env} {w:World} {R R':Value->World->Prop} (h:Step1 P ops o σ w R) (hR:∀ v w',R v w'->R' v w'):Step1 P ops o σ w R':=by
 rcases h with ⟨h1,⟨h2,w',h3,h4⟩ | ⟨v,w',h3,h4⟩ | ⟨f,args,Q,h3,h4,h5⟩ | hy⟩ | ⟨h1,h2⟩
 ·exact .inl ⟨h1,.inl ⟨h2,w',h3,hR _ _ h4⟩⟩
 ·exact .inl ⟨h1,.inr (.inl ⟨v,w',h3,hR _ _ h4⟩)⟩
 ·exact .inl ⟨h1,.inr (.inr (.inl ⟨f,args,Q,h3,h4,fun v w' h=>hR _ _ (h5 v w' h)⟩))⟩
 ·exact .inl ⟨h1,.inr (.inr (.inr (hy.mono hR)))⟩
 ·exact .inr ⟨h1,hR _ _ h2⟩
theorem OK.step1 {o:Oper} {rest:List Oper} {σ:Env} {w:World} {R:Value->World->Prop} (hdN:∀ d,o.dst=some d->d < N) (h:Step1 P l o σ w R)
  (k:∀ v w',R v w'->OK r N P l Q rest D (put' σ o v) w'):OK r N P l Q (o :: rest) D σ w:=by
 unfold put' at k
 cases hd:o.dst with
 | none =>
  rw [hd] at k
  rcases h with ⟨h1,⟨_,w',h3,h4⟩ | ⟨v,w',h3,h4⟩ | ⟨f,args,Q,h3,h4,h5⟩ | hy⟩ | ⟨h1,h2⟩
  ·exact OK.unit h1 hd h3 (k _ _ h4)
  ·exact OK.valn h1 hd h3 (k _ _ h4)
  ·exact OK.calln h1 hd h3 h4 fun v w' hR=>k _ _ (h5 _ _ hR)
  ·exact OK.roundn h1 hd hy fun v w' hR=>k _ _ hR
  ·exact OK.passn h1 hd (k _ _ h2)
 | some d =>
  rw [hd] at k
  have hb:nB d N=true:=by rw [nk];exact hdN d hd
  rcases h with ⟨h1,⟨h2,w',h3,h4⟩ | ⟨v,w',h3,h4⟩ | ⟨f,args,Q,h3,h4,h5⟩ | hy⟩ | ⟨h1,h2⟩
  ·rw [hd] at h2;cases h2
  ·exact OK.val h1 hd hb h3 (k _ _ h4)
  ·exact OK.call h1 hd hb h3 h4 fun v w' hR=>k _ _ (h5 _ _ hR)
  ·exact OK.round h1 hd hb hy fun v w' hR=>k _ _ hR
  ·exact OK.pass h1 hd hb (k _ _ h2)
theorem Fl.step1 {k:Nat} {T:Nat->Prop} {o:Oper} {σ:Env} {w:World} {K:Env->Prop} (h:Fl P l k T o σ w K):Step1 P l o σ w fun v w'=>w'=w/\K (put' σ o v):=by
 rcases h with ⟨h1,v,h2,_,h3⟩ | ⟨h1,h2⟩
 ·exact .inl ⟨h1,.inr (.inl ⟨v,w,h2 w (Keep.refl w _),rfl,h3⟩)⟩
 ·exact .inr ⟨h1,rfl,h2⟩
def inOrder:Nat->Sch->Nat->Bool
 | p,.nil,n=>p == n
 | _,.stop,_=>false
 | p,.fl i s,n=>i == p && inOrder (p + 1) s n
 | p,.fx i s _,n=>i == p && inOrder (p + 1) s n
theorem OKS.inOrder (s:Sch):∀ (p:Nat) (σ:Env) (w:World),inOrder p s l.length=true->OKS N P l Q D ks s σ w->OK r N P l Q (l.drop p) D σ w:=by
 induction s with
 | nil =>
  intro p σ w hs h
  simp only [KL.inOrder,beq_iff_eq] at hs
  subst hs
  rw [List.drop_length];exact OK.nil h
 | stop=>intro p σ w hs h;cases hs
 | fl i s ih =>
  intro p σ w hs h
  simp only [KL.inOrder,nR,beq_iff_eq] at hs
  obtain ⟨rfl,hs⟩:=hs
  obtain ⟨o,ho,hN,hf⟩:=h
  obtain ⟨hlt,e⟩:=nA.1 ho
  rw [kW hlt,e]
  exact OK.step1 hN hf.step1 fun v w' ⟨e,hk⟩=>e ▸ ih (i + 1) _ _ hs hk
 | fx i s alt ih _ =>
  intro p σ w hs h
  simp only [KL.inOrder,nR,beq_iff_eq] at hs
  obtain ⟨rfl,hs⟩:=hs
  obtain ⟨⟨o,ho,hN,hf⟩,_⟩:=h
  obtain ⟨hlt,e⟩:=nA.1 ho
  rw [kW hlt,e]
  exact OK.step1 hN hf fun v w' ⟨_,hk⟩=>ih (i + 1) _ _ hs hk
theorem CK.reg {id:Nat} {σ:Env} {w:World} (s:Sch) (hs:inOrder 0 s l.length=true) (h:OKS N P l Q D ks s σ w):CK r N P (.region id l.toArray false) Q D σ w :=
 CK.region (by have:=OKS.inOrder (r:=r) s 0 σ w hs h;simpa using this)
def wEv (l:List Oper) (o:Oper):List Nat :=
  (o.op.operands.toList.filterMap fun | .tmp t=>some t | _=>none) ++
  (match o.guard with
   | some (g,_)=>((l[g]?).bind (·.dst)).toList
   | none=>[])
def wCI (o:Oper):Bool:=match o.op with | .select ..=>true | _=>false
def apt (l:List Oper) (x y:Oper):Bool :=
  !wCI x && !wCI y &&
  (match x.dst with
   | some d=>!(wEv l y).contains d && y.dst != some d
   | none=>true) &&
  (match y.dst with
   | some d=>!(wEv l x).contains d
   | none=>true)
structure Apt (l:List Oper) (x y:Oper):Prop where
 sx:wCI x=false
 sy:wCI y=false
 xy:∀ d,x.dst=some d->d ∉ wEv l y
 ne:∀ d,x.dst=some d->y.dst ≠ some d
 yx:∀ d,y.dst=some d->d ∉ wEv l x
theorem wPD {x y:Oper} (h:apt l x y=true):Apt l x y:=by
 unfold apt at h
 simp only [nR,nY] at h
 obtain ⟨⟨⟨h1,h2⟩,h3⟩,h4⟩:=h
 refine ⟨h1,h2,fun d hd=>?_,fun d hd=>?_,fun d hd=>?_⟩
 ·rw [hd] at h3;simp only [nR,nY,nV,decide_eq_false_iff_not] at h3;exact h3.1
 ·rw [hd] at h3;simp only [nR,bne_iff_ne] at h3;exact h3.2
 ·rw [hd] at h4;simp only [nY,nV,decide_eq_false_iff_not] at h4;exact h4
theorem wMa {o:Oper} (h:wCI o=false):∀ cs b,o.op ≠ .select cs b:=by
 intro cs b e;unfold wCI at h;rw [e] at h;cases h
theorem wHI {σ:Env} {o:Oper} {v:Value} {t:Nat} (h:∀ d,o.dst=some d->d ≠ t):put' σ o v t=σ t:=by
 unfold put'
 cases hd:o.dst with
 | none=>rfl
 | some d=>exact wCV _ _ (Ne.symm (h d hd))
theorem wQa {σ:Env} {x o:Oper} {v:Value} (h:∀ d,x.dst=some d->d ∉ wEv l o):∀ y ∈ o.op.operands,ev (put' σ x v) y=ev σ y:=by
 intro y hy
 cases y with
 | tmp t =>
  refine wHI fun d hd e=>h d hd ?_
  subst e
  exact kO _ (List.mem_filterMap.2 ⟨.tmp d,by simpa using hy,rfl⟩)
 | _=>rfl
theorem wDD {σ:Env} {x o:Oper} {v:Value} (h:∀ d,x.dst=some d->d ∉ wEv l o):wanted l (put' σ x v) o=wanted l σ o:=by
 unfold wanted
 cases hg:o.guard with
 | none=>rfl
 | some g =>
  obtain ⟨j,b⟩:=g
  simp only
  cases hd:(l[j]?).bind (·.dst) with
  | none=>rfl
  | some t =>
   simp only
   rw [wHI fun d hx e=>h d hx ?_]
   subst e
   unfold wEv
   rw [hg]
   simp only [hd]
   simp
theorem wGy {σ:Env} {x o:Oper} {v:Value} (hs:wCI o=false) (h:∀ d,x.dst=some d->d ∉ wEv l o):execOp (ev (put' σ x v)) o=execOp (ev σ) o :=
 execOp_congr o (wMa hs) (wQa h)
theorem Runs.put' {σ:Env} {x o:Oper} {u v:Value} {w w':World} (hs:wCI o=false) (h:∀ d,x.dst=some d->d ∉ wEv l o):Runs P (put' σ x u) w o v w' ↔ Runs P σ w o v w':=by
 unfold Runs;rw [wGy hs h]
theorem Does.put' {σ:Env} {x o:Oper} {u:Value} {w w':World} (hs:wCI o=false) (h:∀ d,x.dst=some d->d ∉ wEv l o):Does P (put' σ x u) w o w' ↔ Does P σ w o w':=by
 unfold Does;rw [wGy hs h]
theorem Enters.put' {σ:Env} {x o:Oper} {u:Value} {w:World} {f:FuncId} {args:List Value} (hs:wCI o=false) (h:∀ d,x.dst=some d->d ∉ wEv l o):Enters P (put' σ x u) w o f args ↔ Enters P σ w o f args:=by
 unfold Enters;rw [wGy hs h]
theorem Rounds.put' {σ:Env} {x o:Oper} {u:Value} {w:World} {R:Value->World->Prop} (hs:wCI o=false) (h:∀ d,x.dst=some d->d ∉ wEv l o):Rounds P (put' σ x u) w o R ↔ Rounds P σ w o R:=by
 unfold Rounds;rw [wGy hs h]
theorem Step1.put' {σ:Env} {x o:Oper} {u:Value} {w:World} {R:Value->World->Prop} (hs:wCI o=false) (h:∀ d,x.dst=some d->d ∉ wEv l o):Step1 P l o (put' σ x u) w R->Step1 P l o σ w R:=by
 unfold Step1
 rw [wDD h]
 simp only [Runs.put' hs h,Does.put' hs h,Enters.put' hs h,Rounds.put' hs h]
 exact id
theorem wHJ {σ:Env} {x y:Oper} (u v:Value) (h:∀ d,x.dst=some d->y.dst ≠ some d):KL.put' (KL.put' σ x u) y v=KL.put' (KL.put' σ y v) x u:=by
 unfold KL.put'
 cases hx:x.dst with
 | none=>rfl
 | some d =>
  cases hy:y.dst with
  | none=>rfl
  | some e =>
   have hne:d ≠ e:=fun he=>h d hx (by rw [hy,he])
   show upd (upd σ d u) e v=upd (upd σ e v) d u
   funext t
   by_cases h1:t=d
   ·subst h1;rw [wCV _ _ hne,wDB,wDB]
   ·rw [wCV (upd σ e v) _ h1]
    by_cases h2:t=e
    ·subst h2;rw [wDB,wDB]
    ·rw [wCV _ _ h2,wCV _ _ h2,wCV _ _ h1]
def Over (k:Nat) (T:Nat->Prop) (w w':World):Prop:=k=3 \/ Keep w w' Non \/ (k=1004/\Keep w w' T)
theorem OKS.swapF {i j:Nat} {s:Sch} {σ:Env} {w:World} (hap:∀ x y,l[i]?=some x->l[j]?=some y->Apt l x y)
  (h:OKS N P l Q D ks (.fl i (.fl j s)) σ w):OKS N P l Q D ks (.fl j (.fl i s)) σ w:=by
 obtain ⟨x,hx,hxN,hf⟩:=h
 have key:∀ u,(OKS N P l Q D ks (.fl j s) (put' σ x u) w)->∃ y,l[j]?=some y/\(∀ d,y.dst=some d->d < N)/\Fl P l (kOf ks j) (chg l ks) y σ w (fun σ'=>∃ v,σ'=put' σ y v/\OKS N P l Q D ks s (put' σ' x u) w):=by
  rintro u ⟨y,hy,hyN,hg⟩
  have A:=hap x y hx hy
  refine ⟨y,hy,hyN,?_⟩
  rcases hg with ⟨h1,v,h2,h3,h4⟩ | ⟨h1,h2⟩
  ·exact .inl ⟨by rwa [wDD A.xy] at h1,v,fun w2 k2=>(Runs.put' A.sy A.xy).1 (h2 w2 k2),⟨fun e w2=>(Runs.put' A.sy A.xy).1 (h3.1 e w2),fun e w2 k2=>(Runs.put' A.sy A.xy).1 (h3.2 e w2 k2)⟩,v,rfl,by rw [<- wHJ u v A.ne];exact h4⟩
  ·exact .inr ⟨by rwa [wDD A.xy] at h1,undef,rfl,by rw [<- wHJ u undef A.ne];exact h2⟩
 rcases hf with ⟨h1,u,h2,h3,h4⟩ | ⟨h1,h4⟩
 ·obtain ⟨y,hy,hyN,hg⟩:=key u h4
  have A:=hap x y hx hy
  refine ⟨y,hy,hyN,?_⟩
  have go:∀ v,OKS N P l Q D ks s (put' (put' σ y v) x u) w->OKS N P l Q D ks (.fl i s) (put' σ y v) w:=fun v hv =>
   ⟨x,hx,hxN,.inl ⟨by rw [wDD A.yx];exact h1,u,fun w2 k2=>(Runs.put' A.sx A.yx).2 (h2 w2 k2),⟨fun e w2=>(Runs.put' A.sx A.yx).2 (h3.1 e w2),fun e w2 k2=>(Runs.put' A.sx A.yx).2 (h3.2 e w2 k2)⟩,hv⟩⟩
  rcases hg with ⟨g1,v,g2,g3,v',e,g4⟩ | ⟨g1,v',e,g2⟩
  ·exact .inl ⟨g1,v,g2,g3,go v g4⟩
  ·exact .inr ⟨g1,go undef g2⟩
 ·obtain ⟨y,hy,hyN,hg⟩:=key undef h4
  have A:=hap x y hx hy
  refine ⟨y,hy,hyN,?_⟩
  have go:∀ v,OKS N P l Q D ks s (put' (put' σ y v) x undef) w->OKS N P l Q D ks (.fl i s) (put' σ y v) w:=fun v hv =>
   ⟨x,hx,hxN,.inr ⟨by rw [wDD A.yx];exact h1,hv⟩⟩
  rcases hg with ⟨g1,v,g2,g3,v',e,g4⟩ | ⟨g1,v',e,g2⟩
  ·exact .inl ⟨g1,v,g2,g3,go v g4⟩
  ·exact .inr ⟨g1,go undef g2⟩
theorem OKS.swapX {i j:Nat} {s:Sch} {σ:Env} {w:World} (hap:∀ x y,l[i]?=some x->l[j]?=some y->Apt l x y) (hk:kOf ks j=2 \/ kOf ks i=3 \/ (kOf ks i=1004/\kOf ks j=1005))
  (h:OKS N P l Q D ks (.fl i (.fx j s .stop)) σ w):OKS N P l Q D ks (.fx j (.fl i s) .stop) σ w:=by
 obtain ⟨x,hx,hxN,hf⟩:=h
 have key:∀ u,(OKS N P l Q D ks (.fx j s .stop) (put' σ x u) w)->∃ y,l[j]?=some y/\Apt l x y/\(∀ d,y.dst=some d->d < N)/\Step1 P l y σ w fun v w'=>KeepD l ks j w w'/\OKS N P l Q D ks s (put' (put' σ x u) y v) w':=by
  rintro u ⟨⟨y,hy,hyN,hg⟩,_⟩
  have A:=hap x y hx hy
  exact ⟨y,hy,A,hyN,Step1.put' A.sy A.xy hg⟩
 have fin:∀ u y,l[j]?=some y->Apt l x y->(∀ d,y.dst=some d->d < N)->(Step1 P l y σ w fun v w'=>KeepD l ks j w w'/\OKS N P l Q D ks s (put' (put' σ x u) y v) w') ->
   (∀ v w',Over (kOf ks i) (chg l ks) w w'->OKS N P l Q D ks s (put' (put' σ y v) x u) w'->OKS N P l Q D ks (.fl i s) (put' σ y v) w')->OKS N P l Q D ks (.fx j (.fl i s) .stop) σ w:=by
  intro u y hy A hyN hg hx2
  refine ⟨⟨y,hy,hyN,hg.mono fun v w' ⟨hk',hO⟩=>⟨hk',hx2 v w' ?_ (by rw [<- wHJ u v A.ne];exact hO)⟩⟩,trivial⟩
  rcases hk with e | e | ⟨e,e2⟩
  ·exact .inr (.inl (hk'.1 e))
  ·exact .inl e
  ·exact .inr (.inr ⟨e,hk'.2 e2⟩)
 rcases hf with ⟨h1,u,h2,h3,h4⟩ | ⟨h1,h4⟩
 ·obtain ⟨y,hy,A,hyN,hg⟩:=key u h4
  refine fin u y hy A hyN hg fun v w' hw hO=>⟨x,hx,hxN,.inl ⟨by rw [wDD A.yx];exact h1,u,fun w2 k2=>(Runs.put' A.sx A.yx).2 ?_,⟨fun e w2=>(Runs.put' A.sx A.yx).2 (h3.1 e w2),fun e w2 k2=>(Runs.put' A.sx A.yx).2 ?_⟩,hO⟩⟩
  ·rcases hw with e | hw | ⟨e,hw⟩
   ·exact h3.1 e w2
   ·exact h2 w2 (hw.non k2)
   ·exact h3.2 e w2 (hw.non k2)
  ·rcases hw with e' | hw | ⟨_,hw⟩
   ·exact h3.1 e' w2
   ·exact h3.2 e w2 (Keep.trans' (hw.weak fun _ _ hx=>hx.elim) k2)
   ·exact h3.2 e w2 (Keep.trans' hw k2)
 ·obtain ⟨y,hy,A,hyN,hg⟩:=key undef h4
  exact fin undef y hy A hyN hg fun v w' hw hO=>⟨x,hx,hxN,.inr ⟨by rw [wDD A.yx];exact h1,hO⟩⟩
def apI (l:List Oper) (i j:Nat):Bool:=match l[i]?,l[j]? with | some x,some y=>apt l x y | _,_=>false
def prI (l:List Oper) (i:Nat):List Nat:=match l[i]? with | some o=>wLj o | none=>[]
def wIB (l:List Oper):Nat->Nat->Nat->Bool
 | 0,_,_=>false
 | n + 1,x,i=>(prI l i).contains x || (prI l i).any fun p=>wIB l n x p
def wSN (l:List Oper) (ks F X:List Nat) (y:Nat):Bool:=(prI l y).any fun p=>if wPu ks p then !F.contains p else !X.contains p
def wLk:Sch->List Nat
 | .fx i _ a=>i :: wLk a
 | _=>[]
def wJH (l:List Oper) (ks:List Nat):Bool->List Nat->List Nat->Sch->Bool
 | false,F,X,.nil=>(nt l.length).all fun y=>F.contains y || X.contains y
 | true,_,_,.nil=>false
 | m,_,_,.stop=>m
 | true,_,_,.fl _ _=>false
 | false,F,X,.fl i s=>wPu ks i && nB i l.length && !F.contains i && F.all (fun x=>apI l x i || wIB l 12 x i) && wJH l ks false (F ++ [i]) X s
 | m,F,X,.fx i s a=>(m || (nt l.length).all fun y=>F.contains y || X.contains y || (wLk (.fx i s a)).contains y || wSN l ks F X y) &&
   !wPu ks i && nB i l.length && !X.contains i && F.all (fun x=>(apI l x i && (kOf ks i == 2 || (kOf ks x == 3 || (kOf ks x == 1004 && kOf ks i == 1005)))) || wIB l 12 x i) && wJH l ks false F (i :: X) s && wJH l ks true F X a
def wMb (l:List Oper) (ks:List Nat) (s:Sch):Bool:=(nt l.length).all (fun i=>(prI l i).all (nB · i)) && wJH l ks false [] [] s
def fls (s:Sch) (pend:List Nat):Sch:=pend.foldr Sch.fl s
theorem wKx {i j:Nat} (h:apI l i j=true):∀ x y,l[i]?=some x->l[j]?=some y->Apt l x y:=by
 intro x y hx hy
 unfold apI at h
 rw [hx,hy] at h
 exact wPD h
theorem OKS.flMono {i:Nat} {s t:Sch} {σ:Env} {w:World} (hst:∀ σ,OKS N P l Q D ks s σ w->OKS N P l Q D ks t σ w) (h:OKS N P l Q D ks (.fl i s) σ w):OKS N P l Q D ks (.fl i t) σ w:=by
 obtain ⟨o,ho,hN,h1 | h1⟩:=h
 ·obtain ⟨h1,v,h2,h3,h4⟩:=h1
  exact ⟨o,ho,hN,.inl ⟨h1,v,h2,h3,hst _ h4⟩⟩
 ·exact ⟨o,ho,hN,.inr ⟨h1.1,hst _ h1.2⟩⟩
theorem OKS.flsMono {s t:Sch} {w:World} (hst:∀ σ,OKS N P l Q D ks s σ w->OKS N P l Q D ks t σ w):∀ (pend:List Nat) (σ:Env),OKS N P l Q D ks (fls s pend) σ w->OKS N P l Q D ks (fls t pend) σ w
 | [],σ,h=>hst σ h
 | _ :: pend,_,h=>OKS.flMono (fun σ=>OKS.flsMono hst pend σ) h
theorem OKS.frontF {i:Nat} {s:Sch} {w:World} {ys:List Nat}:∀ (xs:List Nat) (σ:Env),(∀ x ∈ xs,apI l x i=true)->OKS N P l Q D ks (fls s (xs ++ i :: ys)) σ w->OKS N P l Q D ks (.fl i (fls s (xs ++ ys))) σ w
 | [],_,_,h=>h
 | x :: xs,_,ha,h=>OKS.swapF (wKx (ha x (by simp))) (OKS.flMono (fun σ hσ=>OKS.frontF xs σ (fun y hy=>ha y (by simp [hy])) hσ) h)
theorem OKS.frontX {i:Nat} {s:Sch} {w:World}:∀ (xs:List Nat) (σ:Env),(∀ x ∈ xs,apI l x i=true/\(kOf ks i=2 \/ kOf ks x=3 \/ (kOf ks x=1004/\kOf ks i=1005)))->OKS N P l Q D ks (fls (.fx i s .stop) xs) σ w->OKS N P l Q D ks (.fx i (fls s xs) .stop) σ w
 | [],_,_,h=>h
 | x :: xs,_,ha,h=>OKS.swapX (wKx (ha x (by simp)).1) (ha x (by simp)).2 (OKS.flMono (fun σ hσ=>OKS.frontX xs σ (fun y hy=>ha y (by simp [hy])) hσ) h)
structure wPv (l:List Oper) (ks F X:List Nat) (i:Nat):Prop where
 fl:wPu ks i=false
 lt:i < l.length
 nx:i ∉ X
 pr:∀ x ∈ F,(apI l x i=true/\(kOf ks i=2 \/ kOf ks x=3 \/ (kOf ks x=1004/\kOf ks i=1005))) \/ wIB l 12 x i=true
theorem wJy {m:Bool} {F X:List Nat} {i:Nat} {s a:Sch} (h:wJH l ks m F X (.fx i s a)=true) :
  wPv l ks F X i/\wJH l ks false F (i :: X) s=true/\wJH l ks true F X a=true/\(m=false->∀ y,y < l.length->y ∈ F \/ y ∈ X \/ y ∈ wLk (.fx i s a) \/ wSN l ks F X y=true):=by
 have h:((m || (nt l.length).all fun y=>F.contains y || X.contains y || (wLk (.fx i s a)).contains y || wSN l ks F X y) &&
   !wPu ks i && nB i l.length && !X.contains i && F.all (fun x=>(apI l x i && (kOf ks i == 2 || (kOf ks x == 3 || (kOf ks x == 1004 && kOf ks i == 1005)))) || wIB l 12 x i) && wJH l ks false F (i :: X) s && wJH l ks true F X a)=true:=by
  cases m <;> exact h
 simp only [nR,nY,nS,kB,beq_iff_eq,nV,decide_eq_true_eq,decide_eq_false_iff_not,nk] at h
 obtain ⟨⟨⟨⟨⟨⟨h1,h2⟩,h3⟩,h4⟩,h5⟩,h6⟩,h7⟩:=h
 refine ⟨⟨h2,h3,h4,h5⟩,h6,h7,fun e y hy=>?_⟩
 subst e
 rcases h1 with h1 | h1
 ·cases h1
 ·rcases h1 y (kE.2 hy) with ((h | h) | h) | h
  ·exact .inl h
  ·exact .inr (.inl h)
  ·exact .inr (.inr (.inl h))
  ·exact .inr (.inr (.inr h))
theorem wQb {F X:List Nat} {i:Nat} {s:Sch} (h:wJH l ks false F X (.fl i s)=true) :
  wPu ks i=true/\i < l.length/\i ∉ F/\(∀ x ∈ F,apI l x i=true \/ wIB l 12 x i=true)/\wJH l ks false (F ++ [i]) X s=true:=by
 simp only [wJH,nR,nY,nS,kB,nV,decide_eq_false_iff_not,nk] at h
 obtain ⟨⟨⟨⟨h1,h2⟩,h3⟩,h4⟩,h5⟩:=h
 exact ⟨h1,h2,h3,h4,h5⟩
theorem wJK {F X:List Nat} {i:Nat}:∀ (c:Sch),wJH l ks true F X c=true->i ∈ wLk c ->
  ∃ s,wPv l ks F X i/\wJH l ks false F (i :: X) s=true/\∀ σ w,OKS N P l Q D ks c σ w->OKS N P l Q D ks (.fx i s .stop) σ w
 | .nil,h,_=>by cases h
 | .stop,_,hi=>by cases hi
 | .fl _ _,h,_=>by cases h
 | .fx j s a,h,hi=>by
  obtain ⟨g1,g2,g3,_⟩:=wJy h
  rcases nI.1 hi with e | hi
  ·subst e;exact ⟨s,g1,g2,fun σ w hO=>⟨hO.1,trivial⟩⟩
  ·obtain ⟨s',a1,a2,a3⟩:=wJK a g3 hi
   exact ⟨s',a1,a2,fun σ w hO=>a3 σ w hO.2⟩
structure Inv (l:List Oper) (ks:List Nat) (listed:Array Bool) (F X pend:List Nat) (s:Sch):Prop where
 g:wJH l ks false F X s=true
 on:∀ i,i < l.length->(listed.getD i false=true ↔ (i ∈ F/\i ∉ pend) \/ i ∈ X)
 sub:∀ x ∈ pend,x ∈ F/\x < l.length
 nd:pend.Nodup
 pw:pend.Pairwise fun x y=>apI l x y=true \/ wIB l 12 x y=true
 dc:∀ i,i < l.length->listed.getD i false=true->∀ j ∈ prI l i,listed.getD j false=true
 fF:∀ x ∈ F,wPu ks x=true
 fX:∀ x ∈ X,wPu ks x=false
def wQc:Sch->Bool
 | .fl _ _=>false
 | _=>true
theorem wMc {listed:Array Bool} {X:List Nat} {σ:Env} {w:World}:∀ (s:Sch) (F pend:List Nat),Inv l ks listed F X pend s->OKS N P l Q D ks (fls s pend) σ w ->
  ∃ F' pend' s',wQc s'=true/\Inv l ks listed F' X pend' s'/\OKS N P l Q D ks (fls s' pend') σ w
 | .nil,F,pend,h,hO=>⟨F,pend,.nil,rfl,h,hO⟩
 | .stop,F,pend,h,hO=>⟨F,pend,.stop,rfl,h,hO⟩
 | .fx i s a,F,pend,h,hO=>⟨F,pend,.fx i s a,rfl,h,hO⟩
 | .fl i s,F,pend,h,hO=>by
  obtain ⟨g1,g2,g3,g4,g5⟩:=wQb h.g
  refine wMc s (F ++ [i]) (pend ++ [i]) ⟨g5,fun j hj=>?_,fun x hx=>?_,?_,?_,h.dc,fun x hx=>?_,h.fX⟩ (by simpa [fls] using hO)
  ·rw [h.on j hj]
   simp only [na,ni]
   constructor
   ·rintro (⟨h1,h2⟩ | h1)
    ·exact .inl ⟨.inl h1,fun hc=>hc.elim h2 fun e=>g3 (e ▸ h1)⟩
    ·exact .inr h1
   ·rintro (⟨h1 | h1,h2⟩ | h1)
    ·exact .inl ⟨h1,fun hc=>h2 (.inl hc)⟩
    ·exact absurd (.inr h1) h2
    ·exact .inr h1
  ·simp only [na,ni] at hx ⊢
   rcases hx with hx | rfl
   ·exact ⟨.inl (h.sub x hx).1,(h.sub x hx).2⟩
   ·exact ⟨.inr rfl,g2⟩
  ·rw [kU]
   refine ⟨h.nd,by simp,fun x hx y hy e=>?_⟩
   simp only [ni] at hy
   subst hy;subst e
   exact g3 (h.sub _ hx).1
  ·rw [nz]
   refine ⟨h.pw,by simp,fun x hx y hy=>?_⟩
   simp only [ni] at hy
   subst hy
   exact g4 x (h.sub x hx).1
  ·simp only [na,ni] at hx
   rcases hx with hx | rfl
   ·exact h.fF x hx
   ·exact g1
theorem Rep.put' {a:Act} {σ:Env} (h:Rep N D a σ) {o:Oper} (hd:∀ d,o.dst=some d->d < N) (v:Value):Rep N D (a.put o.dst v) (KL.put' σ o v):=by
 unfold KL.put'
 cases ho:o.dst with
 | none=>exact h
 | some d=>exact h.put (hd d ho) v
theorem wHK {i:Nat} {o:Oper} {Q:Exit->Act->World->Prop} {K:Act->World->Prop} {a:Act} {w:World} {σ:Env} (hi:l[i]?=some o) (ha:Rep N D a σ) {R:Value->World->Prop} (hd:∀ d,o.dst=some d->d < N)
  (h:Step1 P l o σ w R) (hK:∀ v w' a',Rep N D a' (KL.put' σ o v)->R v w'->K a' w'):wpOpIn (WF r) 0 P l.toArray Q i K a w:=by
 unfold wpOpIn
 simp only [ng,hi]
 rcases h with ⟨hw,h⟩ | ⟨hw,hR⟩
 ·simp only [wDd ha l o hw,if_true]
  refine ⟨fun _ _=>trivial,?_⟩
  rcases h with ⟨hdn,w',hr,hR⟩ | ⟨v,w',hr,hR⟩ | ⟨f,args,R',he,hg,hR⟩ | ⟨y1,l',f,t,as,b,y2,y3⟩
  ·rw [semAt_eq _ _ _ hr.1,ha.eval,hr.2]
   simp only [Oper.uponIn]
   exact hK undef w' _ (ha.put' hd undef) hR
  ·rw [semAt_eq _ _ _ hr.1,ha.eval,hr.2]
   simp only [Oper.uponIn]
   exact hK v w' _ (ha.put' hd v) hR
  ·rw [semAt_eq _ _ _ he.1,ha.eval,he.2]
   simp only [Oper.uponIn]
   refine ⟨fun h=>(by cases h),?_⟩
   refine CallsIn.mono (hg.callsIn r) ?_
   rintro e w' ⟨v,rfl,hv⟩
   exact hK v w' _ (ha.put' hd v) (hR v w' hv)
  ·rw [semAt_eq _ _ _ y1,ha.eval,y2]
   simp only [Oper.uponIn]
   refine ⟨fun h=>(by cases h),?_⟩
   refine RoundIn.mono (wFf y3 r) ?_
   rintro e w' ⟨v,rfl,hv⟩
   exact hK v w' _ (ha.put' hd v) hv
 ·simp only [wFe ha l o hw,kD,if_false]
  refine ⟨fun _ _=>trivial,?_⟩
  exact hK _ w _ (ha.put' hd _) hR
theorem wIM {listed:Array Bool} (hpr:∀ i,i < l.length->∀ j ∈ prI l i,j < i) (hdc:∀ i,i < l.length->listed.getD i false=true->∀ j ∈ prI l i,listed.getD j false=true) :
  ∀ (n x i:Nat),i < l.length->wIB l n x i=true->(∀ j ∈ prI l i,listed.getD j false=true)->listed.getD x false=true
 | 0,_,_,_,h,_=>by cases h
 | n + 1,x,i,hi,h,hp=>by
  simp only [wIB,kB,nV,decide_eq_true_eq,List.any_eq_true] at h
  rcases h with h | ⟨p,hp1,hp2⟩
  ·exact hp x h
  ·have hplt:=ky (hpr i hi p hp1) hi
   exact wIM hpr hdc n x p hplt hp2 (hdc p hplt (hp p hp1))
theorem wDn {listed:Array Bool} (hsz:listed.size=l.length) {i:Nat}:i ∈ Region.ready .any l.toArray listed ↔ i < l.length/\listed.getD i false=false/\∀ j ∈ prI l i,listed.getD j false=true:=by
 unfold Region.ready prI wLj
 simp only [kh,kE,aG,nR,nY]
 have gd:i < l.length->listed.getD i true=listed.getD i false:=by
  intro h2
  simp only [nH]
  rw [kX (by omega)]
  rfl
 constructor
 ·rintro ⟨hlt,h1,h2⟩
  have hi:l[i]?=some (l[i]'hlt):=nE hlt
  refine ⟨hlt,(gd hlt) ▸ h1,?_⟩
  rw [hi]
  simp only [ng,hi,kC,kJ,kK] at h2
  intro j hj
  simp only [kz,kh] at hj
  obtain ⟨e,⟨he,hb⟩,rfl⟩:=hj
  have:=h2 e (by simpa using he)
  simpa [hb] using this
 ·rintro ⟨hlt,h1,h2⟩
  have hi:l[i]?=some (l[i]'hlt):=nE hlt
  refine ⟨hlt,(gd hlt).trans h1,?_⟩
  rw [hi] at h2
  simp only [ng,hi,kC,kJ,kK]
  intro e he
  cases hb:Region.binds .any e with
  | false=>rfl
  | true =>
   have:=h2 e.on (by simp only [kz,kh];exact ⟨e,⟨by simpa using he,hb⟩,rfl⟩)
   simp [this]
theorem wGF {listed:Array Bool} {i j:Nat} (h:i < listed.size):(listed.setIfInBounds i true).getD j false=true ↔ (j=i \/ listed.getD j false=true):=by
 simp only [nH,Array.getElem?_setIfInBounds]
 by_cases e:i=j
 ·subst e;simp [h]
 ·simp [e,Ne.symm e]
theorem wGG (listed:Array Bool) (i:Nat) (hi:i < listed.size) (hl:listed.getD i false=false):((listed.setIfInBounds i true).toList.filter (! ·)).length < (listed.toList.filter (! ·)).length:=by
 have hi':i < listed.toList.length:=by simpa using hi
 have hl':listed.toList[i]=false:=by
  simp only [nH] at hl
  rw [kX hi] at hl
  simpa using hl
 rw [Array.toList_setIfInBounds]
 generalize listed.toList=L at *
 clear hl hi
 induction L generalizing i with
 | nil=>simp at hi'
 | cons b L ih =>
  cases i with
  | zero=>simp only [List.getElem_cons_zero] at hl';subst hl';simp
  | succ i =>
   have:=ih i (by simpa using hi') (by simpa using hl')
   simp only [aA,List.filter_cons]
   split <;> simp <;> exact this
theorem CK.anyOrd {id:Nat} {σ:Env} {w:World} (hm:P.follows .mixedOrders=true) (ks:List Nat) (s:Sch) (hc:wMb l ks s=true)
  (h:OKS N P l Q D ks s σ { w with drawn:=w.drawn + 1 }):CK r N P (.region id l.toArray true) Q D σ w:=by
 unfold wMb at hc
 simp only [nR,nS,kE,nk] at hc
 obtain ⟨hpr,hg⟩:=hc
 intro a ha
 refine wpIn_region_any hm ?_
 have fin:∀ (listed:Array Bool) (σ:Env) (a:Act) (w:World) (F X pend:List Nat) (s:Sch),listed.size=l.length->(∀ i,i < l.length->listed.getD i false=true)->Rep N D a σ->wQc s=true->Inv l ks listed F X pend s ->
   OKS N P l Q D ks (fls s pend) σ w->wIA N Q .normal a w:=by
  intro listed σ a w F X pend s hsz hall hr hn hI hO
  have hp:pend=[]:=by
   cases pend with
   | nil=>rfl
   | cons x pend =>
    have hx:=hI.sub x (by simp)
    rcases (hI.on x hx.2).1 (hall x hx.2) with h | h
    ·exact absurd (by simp) h.2
    ·have h1:=hI.fX x h;rw [hI.fF x hx.1] at h1;cases h1
  subst hp
  cases s with
  | nil=>exact ⟨σ,D,hr,hO⟩
  | stop=>have:=hI.g;cases this
  | fl i s=>cases hn
  | fx i s a =>
   obtain ⟨g1,_⟩:=wJy hI.g
   rcases (hI.on i g1.lt).1 (hall i g1.lt) with h | h
   ·have h1:=hI.fF i h.1;rw [g1.fl] at h1;cases h1
   ·exact absurd h g1.nx
 have core:∀ (fuel:Nat) (listed:Array Bool) (σ:Env) (a:Act) (w:World) (F X pend:List Nat) (s:Sch),listed.size=l.length->Rep N D a σ->wQc s=true->Inv l ks listed F X pend s ->
   OKS N P l Q D ks (fls s pend) σ w->(listed.toList.filter (! ·)).length <= fuel->wpAnyIn (WF r) 0 P .any l.toArray (wIA N Q) fuel listed a w:=by
  intro fuel
  have prog:∀ (listed:Array Bool),listed.size=l.length->Region.ready .any l.toArray listed=[]->∀ i,i < l.length->listed.getD i false=true:=by
   intro listed hsz hnil i
   induction i using Nat.strongRecOn with
   | _ i ih =>
    intro hi
    cases hb:listed.getD i false with
    | true=>rfl
    | false =>
     have:i ∈ Region.ready .any l.toArray listed:=(wDn hsz).2 ⟨hi,hb,fun j hj=>ih j (hpr i hi j hj) (ky (hpr i hi j hj) hi)⟩
     rw [hnil] at this;cases this
  induction fuel with
  | zero =>
   intro listed σ a w F X pend s hsz hr hn hI hO hf
   have hall:∀ i,i < l.length->listed.getD i false=true:=by
    intro i hi
    cases hb:listed.getD i false with
    | true=>rfl
    | false=>have:=wGG listed i (by omega) hb;omega
   refine ⟨?_,fin listed σ a w F X pend s hsz hall hr hn hI hO⟩
   cases hr:Region.ready .any l.toArray listed with
   | nil=>rfl
   | cons x xs =>
    have hx:x ∈ Region.ready .any l.toArray listed:=by rw [hr];simp
    obtain ⟨h1,h2,_⟩:=(wDn hsz).1 hx
    rw [hall x h1] at h2;cases h2
  | succ fuel ih =>
   intro listed σ a w F X pend s hsz hr hn hI hO hf
   refine ⟨fun hnil=>fin listed σ a w F X pend s hsz (prog listed hsz hnil) hr hn hI hO,fun i hi=>?_⟩
   obtain ⟨hlt,hun,hpi⟩:=(wDn hsz).1 hi
   have hsz':(listed.setIfInBounds i true).size=l.length:=by simpa using hsz
   have hf':((listed.setIfInBounds i true).toList.filter (! ·)).length <= fuel:=by have:=wGG listed i (by omega) hun;omega
   have hnot:¬ ((i ∈ F/\i ∉ pend) \/ i ∈ X):=fun hc=>by rw [(hI.on i hlt).2 hc] at hun;cases hun
   have hlate:¬ wSN l ks F X i=true:=by
    intro hL
    unfold wSN at hL
    rw [List.any_eq_true] at hL
    obtain ⟨p,hp,hq⟩:=hL
    have hlp:=hpi p hp
    have hplt:p < l.length:=ky (hpr i hlt p hp) hlt
    have:=(hI.on p hplt).1 hlp
    split at hq
    ·rename_i hfl
     simp only [nY,nV,decide_eq_false_iff_not] at hq
     rcases this with h | h
     ·exact hq h.1
     ·have:=hI.fX p h;rw [hfl] at this;cases this
    ·rename_i hfl
     simp only [nY,nV,decide_eq_false_iff_not] at hq
     rcases this with h | h
     ·exact hfl (hI.fF p h.1)
     ·exact hq h
   have hpend:∀ x ∈ pend,wIB l 12 x i ≠ true:=by
    intro x hx hxi
    have h1:=wIM hpr hI.dc 12 x i hlt hxi hpi
    have hs:=hI.sub x hx
    rcases (hI.on x hs.2).1 h1 with h | h
    ·exact h.2 hx
    ·have:=hI.fX x h;rw [hI.fF x hs.1] at this;cases this
   have dc':∀ k,k < l.length->(listed.setIfInBounds i true).getD k false=true->∀ j ∈ prI l k,(listed.setIfInBounds i true).getD j false=true:=by
    intro k hk hkl j hj
    rw [wGF (by omega)] at hkl ⊢
    rcases hkl with rfl | hkl
    ·exact .inr (hpi j hj)
    ·exact .inr (hI.dc k hk hkl j hj)
   by_cases hF:i ∈ F
   ·have hip:i ∈ pend:=by
     refine Classical.byContradiction fun hc=>hnot (.inl ⟨hF,hc⟩)
    obtain ⟨xs,ys,rfl⟩:=List.append_of_mem hip
    have hap:∀ x ∈ xs,apI l x i=true:=by
     intro x hx
     rcases (nz.1 hI.pw).2.2 x hx i (by simp) with h | h
     ·exact h
     ·exact absurd h (hpend x (by simp [hx]))
    have hO':=OKS.frontF xs σ hap hO
    obtain ⟨o,ho,hN,hfl⟩:=hO'
    refine wHK ho hr hN hfl.step1 ?_
    rintro v w' a' hr' ⟨rfl,hO2⟩
    have hnd:=hI.nd
    rw [kU] at hnd
    have hixs:i ∉ xs:=fun hc=>hnd.2.2 i hc i (by simp) rfl
    have hiys:i ∉ ys:=(ki.1 hnd.2.1).1
    refine ih _ (KL.put' σ o v) a' w' F X (xs ++ ys) s hsz' hr' hn ⟨hI.g,fun j hj=>?_,fun x hx=>hI.sub x ?_,?_,?_,dc',hI.fF,hI.fX⟩ hO2 hf'
    ·rw [wGF (by omega),hI.on j hj]
     simp only [na,nI]
     constructor
     ·rintro (rfl | ⟨h1,h2⟩ | h1)
      ·exact .inl ⟨hF,fun hc=>hc.elim hixs hiys⟩
      ·exact .inl ⟨h1,fun hc=>h2 (hc.imp (fun h=>h) .inr)⟩
      ·exact .inr h1
     ·rintro (⟨h1,h2⟩ | h1)
      ·by_cases e:j=i
       ·exact .inl e
       ·exact .inr (.inl ⟨h1,fun hc=>hc.elim (fun h=>h2 (.inl h)) fun h=>h.elim e fun h=>h2 (.inr h)⟩)
      ·exact .inr (.inr h1)
    ·simp only [na,nI] at hx ⊢;exact hx.imp (fun h=>h) .inr
    ·rw [kU]
     exact ⟨hnd.1,(ki.1 hnd.2.1).2,fun x hx y hy=>hnd.2.2 x hx y (by simp [hy])⟩
    ·have hpw:=nz.1 hI.pw
     rw [nz]
     exact ⟨hpw.1,(List.pairwise_cons.1 hpw.2.1).2,fun x hx y hy=>hpw.2.2 x hx y (by simp [hy])⟩
   ·cases s with
    | nil =>
     have hg:=hI.g
     simp only [wJH,nS,kE,kB,nV,decide_eq_true_eq] at hg
     rcases hg i hlt with h | h
     ·exact absurd h hF
     ·exact absurd (.inr h) hnot
    | stop=>have:=hI.g;cases this
    | fl i s=>cases hn
    | fx j s alt =>
     obtain ⟨_,_,_,gn⟩:=wJy hI.g
     have hh:i ∈ wLk (.fx j s alt):=by
      rcases gn rfl i hlt with h | h | h | h
      ·exact absurd h hF
      ·exact absurd (.inr h) hnot
      ·exact h
      ·exact absurd h hlate
     have hgt:wJH l ks true F X (.fx j s alt)=true:=by
      have hg:=hI.g
      simp only [wJH,nR,kB,Bool.true_or,kD,false_or,true_and] at hg ⊢
      exact ⟨⟨⟨⟨⟨hg.1.1.1.1.1.2,hg.1.1.1.1.2⟩,hg.1.1.1.2⟩,hg.1.1.2⟩,hg.1.2⟩,hg.2⟩
     obtain ⟨si,hd,hgi,hw⟩:=wJK (N:=N) (P:=P) (Q:=Q) (D:=D) _ hgt hh
     have hO1:=OKS.flsMono (fun σ=>hw σ w) pend σ hO
     have hO2:=OKS.frontX pend σ (fun x hx=>by
      rcases hd.pr x (hI.sub x hx).1 with h | h
      ·exact h
      ·exact absurd h (hpend x hx)) hO1
     obtain ⟨⟨o,ho,hN,hst⟩,_⟩:=hO2
     refine wHK ho hr hN hst ?_
     rintro v w' a' hr' ⟨_,hO3⟩
     have hinv:Inv l ks (listed.setIfInBounds i true) F (i :: X) pend si:=by
      refine ⟨hgi,fun j hj=>?_,hI.sub,hI.nd,hI.pw,dc',hI.fF,fun x hx=>?_⟩
      ·rw [wGF (by omega),hI.on j hj]
       simp only [nI]
       constructor
       ·rintro (rfl | h1 | h1)
        ·exact .inr (.inl rfl)
        ·exact .inl h1
        ·exact .inr (.inr h1)
       ·rintro (h1 | rfl | h1)
        ·exact .inr (.inl h1)
        ·exact .inl rfl
        ·exact .inr (.inr h1)
      ·rcases nI.1 hx with rfl | hx
       ·exact hd.fl
       ·exact hI.fX x hx
     obtain ⟨F',pend',s',hn',hI',hO'⟩:=wMc si F pend hinv hO3
     exact ih _ _ a' w' F' (i :: X) pend' s' hsz' hr' hn' hI' hO' hf'
 have rep:∀ (n j:Nat),(kg n false).getD j false=false:=by
  intro n j
  simp only [nH,kY];split <;> rfl
 obtain ⟨F',pend',s',hn',hI',hO'⟩:=wMc (N:=N) (P:=P) (Q:=Q) (D:=D) (listed:=kg l.length false) (X:=[]) (σ:=σ) (w:={ w with drawn:=w.drawn + 1 }) s [] []
  ⟨hg,fun i hi=>by rw [rep];simp,by simp,by simp,by simp,fun i hi h=>(by rw [rep] at h;cases h),by simp,by simp⟩ h
 exact core _ _ σ a _ F' [] pend' s' (by simp) ha hn' hI' hO' (by simp)
end
end Go.KL
namespace Go.KL
open Go.RowKit
abbrev PHeap:=Nat->Option Obj
inductive Res
 | blk (b:Nat) (T:TypeId) (cs:List Value)
 | row (A:Option Addr) (c:Nat) (T:TypeId) (sz:Nat) (cs:List Value)
 | obj (b:Nat) (o:Obj)
 | abs (fp:Nat->Prop) (P:World->Prop)
def Res.has:Res->Nat->Prop
 | .blk b _ _,x=>b=x
 | .row A _ _ _ _,x=>A.map (·.block)=some x
 | .obj b _,x=>b=x
 | .abs fp _,x=>fp x
def RowAt (w:World) (A:Option Addr) (c:Nat) (T:TypeId) (sz:Nat) (cs:List Value):Prop :=
 (A=none/\c=0/\cs=[]) \/ ∃ b cur,A=some ⟨b,0,none⟩/\w.heap[b]?=some (.cells cur T (0,0))/\cs.length <= c * sz/\c <= maxLen/\cur.size=c * sz/\cur.toList.take cs.length=cs
def Res.At (w:World):Res->Prop
 | .blk b T cs=>w.heap[b]?=some (.cells cs.toArray T (0,0))
 | .row A c T sz cs=>RowAt w A c T sz cs
 | .obj b o=>w.heap[b]?=some o
 | .abs fp P=>P w/\(∀ b,fp b->b < w.heap.size)/\∀ w2:World,(∀ b,fp b->w2.heap[b]?=w.heap[b]?)->P w2
structure Base where
 w:World
 own:List Res
 U:PHeap
def Base.mine (B:Base) (b:Nat):Prop:=B.w.heap.size <= b \/ ∃ r ∈ B.own,r.has b
structure St (B:Base) (U:PHeap) (L:List Res) (w:World):Prop where
 os:w.os=B.w.os
 tape:TapeLe B.w w
 output:w.output=B.w.output
 size:B.w.heap.size <= w.heap.size
 old:∀ b,b < B.w.heap.size->¬ B.mine b->w.heap[b]?=B.w.heap[b]?
 fro:∀ b o,U b=some o->w.heap[b]?=some o
 le:∀ b o,B.U b=some o->U b=some o
 src:∀ b o,U b=some o->B.U b=some o \/ B.mine b
 at_:∀ r ∈ L,r.At w
 own:∀ r ∈ L,∀ b,r.has b->U b=none/\B.mine b
 dj:∀ (i j:Nat) (r s:Res) (b:Nat),L[i]?=some r->L[j]?=some s->r.has b->s.has b->i=j
theorem wAY {w:World} {b:Nat} {o:Obj} (h:w.heap[b]?=some o):b < w.heap.size:=by
 rcases nW b w.heap.size with hlt | hge
 ·exact hlt
 ·rw [nr hge] at h;cases h
theorem Res.At.lt {w:World} {r:Res} (h:r.At w) {b:Nat} (hb:r.has b):b < w.heap.size:=by
 cases r with
 | blk b' T cs=>cases hb;exact wAY h
 | obj b' o=>cases hb;exact wAY h
 | abs fp P=>exact h.2.1 b hb
 | row A c T sz cs =>
  rcases h with ⟨rfl,_⟩ | ⟨b',cur,rfl,h1,_⟩
  ·cases hb
  ·cases hb;exact wAY h1
theorem Res.At.keep {w w':World} {X:Nat->Prop} {r:Res} (h:r.At w) (k:Keep w w' X) (hx:∀ b,r.has b->¬ X b):r.At w':=by
 have hl:=fun b hb=>h.lt (b:=b) hb
 cases r with
 | blk b' T cs=>exact (k.block _ (hl _ rfl) (hx _ rfl)).trans h
 | obj b' o=>exact (k.block _ (hl _ rfl) (hx _ rfl)).trans h
 | abs fp P =>
  have e:∀ b,fp b->w'.heap[b]?=w.heap[b]?:=fun b hb=>k.block b (h.2.1 b hb) (hx b hb)
  exact ⟨h.2.2 w' e,fun b hb=>nh (h.2.1 b hb) k.size,fun w2 h2=>h.2.2 w2 fun b hb=>(h2 b hb).trans (e b hb)⟩
 | row A c T sz cs =>
  rcases h with h | ⟨b',cur,rfl,h1,h2⟩
  ·exact .inl h
  ·exact .inr ⟨b',cur,rfl,(k.block _ (hl _ rfl) (hx _ rfl)).trans h1,h2⟩
section
variable {B:Base} {U U':PHeap} {L:List Res} {w w':World}
theorem St.grow (h:St B U L w) (k:Keep w w' Non):St B U L w' :=
  ⟨k.os.trans h.os,k.tape.trans h.tape,k.output.trans h.output,nl h.size k.size,fun b hb hm=>(k.block b (nh hb h.size) id).trans (h.old b hb hm),
   fun b o hb=>(k.block b (wAY (h.fro b o hb)) id).trans (h.fro b o hb),h.le,h.src,fun r hr=>(h.at_ r hr).keep k fun _ _ h=>h,h.own,h.dj⟩
theorem St.drew (h:St B U L w):St B U L { w with drawn:=w.drawn + 1 }:=h.grow (Keep.drew w)
theorem St.new (h:St B U L w) (k:Keep w w' Non) {r:Res} (hr:r.At w') {b:Nat} (_:r.has b) (hn:w.heap.size <= b) (ho:∀ c,r.has c->c=b:=by intro c hc;cases hc;rfl):St B U (r :: L) w':=by
 have h':=h.grow k
 have hU:U b=none:=by
  cases e:U b with
  | none=>rfl
  | some o=>have:=wAY (h.fro b o e);omega
 refine ⟨h'.os,h'.tape,h'.output,h'.size,h'.old,h'.fro,h'.le,h'.src,?_,?_,?_⟩
 ·intro s hs
  rcases nI.1 hs with rfl | hs
  ·exact hr
  ·exact h'.at_ s hs
 ·intro s hs c hc
  rcases nI.1 hs with rfl | hs
  ·obtain rfl:=ho c hc
   exact ⟨hU,.inl (nl h.size hn)⟩
  ·exact h'.own s hs c hc
 ·intro i j s t c hi hj hs ht
  have old:∀ (i:Nat) (s:Res),L[i]?=some s->s.has c->c < w.heap.size:=fun i s hi hs=>(h.at_ s (hH hi)).lt hs
  cases i with
  | zero =>
   simp only [nM,nG] at hi;subst hi
   obtain rfl:=ho c hs
   cases j with
   | zero=>rfl
   | succ j=>have:=old j t (by simpa using hj) ht;omega
  | succ i =>
   have h1:=old i s (by simpa using hi) hs
   cases j with
   | zero =>
    simp only [nM,nG] at hj;subst hj
    obtain rfl:=ho c ht;omega
   | succ j=>rw [h.dj i j s t c (by simpa using hi) (by simpa using hj) hs ht]
theorem St.addNone (h:St B U L w) {r:Res} (hr:r.At w) (hb:∀ b,¬ r.has b:=by intro b h;cases h):St B U (r :: L) w:=by
 refine ⟨h.os,h.tape,h.output,h.size,h.old,h.fro,h.le,h.src,?_,?_,?_⟩
 ·intro s hs
  rcases nI.1 hs with rfl | hs
  ·exact hr
  ·exact h.at_ s hs
 ·intro s hs c hc
  rcases nI.1 hs with rfl | hs
  ·exact absurd hc (hb c)
  ·exact h.own s hs c hc
 ·intro i j s t c hi hj hs ht
  cases i with
  | zero=>simp only [nM,nG] at hi;subst hi;exact absurd hs (hb c)
  | succ i =>
   cases j with
   | zero=>simp only [nM,nG] at hj;subst hj;exact absurd ht (hb c)
   | succ j=>rw [h.dj i j s t c (by simpa using hi) (by simpa using hj) hs ht]
theorem St.nilrow (h:St B U L w) (T:TypeId) (sz:Nat):St B U (.row none 0 T sz [] :: L) w:=h.addNone (.inl ⟨rfl,rfl,rfl⟩)
theorem St.set (h:St B U L w) {k:Nat} {r r':Res} (hk:L[k]?=some r) (K:Keep w w' fun b=>r.has b) (hr:r'.At w') (hb:∀ b,r'.has b->r.has b \/ w.heap.size <= b):St B U (L.set k r') w':=by
 have hkl:k < L.length:=(nA.1 hk).1
 have hrm:=hH hk
 have mine:∀ b,r.has b->U b=none/\B.mine b:=fun b hb=>h.own r hrm b hb
 have get:∀ (i:Nat) (s:Res),(L.set k r')[i]?=some s->(i=k/\s=r') \/ (i ≠ k/\L[i]?=some s):=by
  intro i s hi
  rw [aH] at hi
  by_cases e:k=i
  ·subst e;rw [if_pos rfl,if_pos hkl] at hi;cases hi;exact .inl ⟨rfl,rfl⟩
  ·rw [if_neg e] at hi;exact .inr ⟨fun h=>e h.symm,hi⟩
 have oth:∀ (i:Nat) (s:Res) (b:Nat),i ≠ k->L[i]?=some s->s.has b->¬ r.has b:=fun i s b hne hi hs hrb=>hne (h.dj i k s r b hi hk hs hrb)
 have hw:∀ b,r'.has b->U b=none/\B.mine b:=by
  intro b hb'
  rcases hb b hb' with h1 | h1
  ·exact mine b h1
  ·refine ⟨?_,.inl (nl h.size h1)⟩
   cases e:U b with
   | none=>rfl
   | some o=>have:=wAY (h.fro b o e);omega
 refine ⟨K.os.trans h.os,K.tape.trans h.tape,K.output.trans h.output,nl h.size K.size,?_,?_,h.le,h.src,?_,?_,?_⟩
 ·intro b hb hm
  exact (K.block b (nh hb h.size) fun hrb=>hm (mine b hrb).2).trans (h.old b hb hm)
 ·intro b o hb
  exact (K.block b (wAY (h.fro b o hb)) fun hrb=>by have:=(mine b hrb).1;rw [hb] at this;cases this).trans (h.fro b o hb)
 ·intro s hs
  obtain ⟨i,hi⟩:=nJ hs
  rcases get i s hi with ⟨_,rfl⟩ | ⟨hne,hi⟩
  ·exact hr
  ·exact (h.at_ s (hH hi)).keep K fun b hs=>oth i s b hne hi hs
 ·intro s hs b hb'
  obtain ⟨i,hi⟩:=nJ hs
  rcases get i s hi with ⟨_,rfl⟩ | ⟨hne,hi⟩
  ·exact hw b hb'
  ·exact h.own s (hH hi) b hb'
 ·intro i j s t b hi hj hs ht
  have ltn:∀ (i:Nat) (s:Res),L[i]?=some s->s.has b->b < w.heap.size:=fun i s hi hs=>(h.at_ s (hH hi)).lt hs
  rcases get i s hi with ⟨e1,e2⟩ | ⟨hne,hi'⟩
  ·subst e1 e2
   rcases get j t hj with ⟨e1,e2⟩ | ⟨hne,hj'⟩
   ·exact e1.symm
   ·rcases hb b hs with h1 | h1
    ·exact absurd h1 (oth j t b hne hj' ht)
    ·have:=ltn j t hj' ht;omega
  ·rcases get j t hj with ⟨e1,e2⟩ | ⟨hne',hj'⟩
   ·subst e1 e2
    rcases hb b ht with h1 | h1
    ·exact absurd h1 (oth i s b hne hi' hs)
    ·have:=ltn i s hi' hs;omega
   ·exact h.dj i j s t b hi' hj' hs ht
theorem wHL {α:Type} {L:List α} {k i:Nat} {s:α} (hi:(L.eraseIdx k)[i]?=some s):L[if i < k then i else i + 1]?=some s:=by
 rw [List.getElem?_eraseIdx] at hi
 split
 ·rename_i h;rw [if_pos h] at hi;exact hi
 ·rename_i h;rw [if_neg h] at hi;exact hi
theorem St.drop (h:St B U L w) (k:Nat):St B U (L.eraseIdx k) w:=by
 refine ⟨h.os,h.tape,h.output,h.size,h.old,h.fro,h.le,h.src,fun r hr=>h.at_ r (kZ hr),fun r hr=>h.own r (kZ hr),?_⟩
 intro i j r s b hi hj hr hs
 have:=h.dj _ _ r s b (wHL hi) (wHL hj) hr hs
 split at this <;> split at this <;> omega
structure Sl (U:PHeap) (sz:Nat) (A:Option Addr) (c n:Nat) (cs:List Value):Prop where
 len:cs.length=n * sz
 cap:n <= c
 mem:n=0 \/ ∃ b off arr T fr,A=some ⟨b,off,none⟩/\U b=some (.cells arr T fr)/\(arr.toList.drop off).take (n * sz)=cs
def PHeap.Le (U U':PHeap):Prop:=∀ b o,U b=some o->U' b=some o
theorem Sl.le {sz c n:Nat} {A:Option Addr} {cs:List Value} (h:Sl U sz A c n cs) (hl:PHeap.Le U U'):Sl U' sz A c n cs :=
 ⟨h.len,h.cap,h.mem.imp id fun ⟨b,off,arr,T,fr,h1,h2,h3⟩=>⟨b,off,arr,T,fr,h1,hl _ _ h2,h3⟩⟩
theorem PHeap.Le.refl (U:PHeap):PHeap.Le U U:=fun _ _ h=>h
theorem PHeap.Le.trans {U1 U2 U3:PHeap} (h:PHeap.Le U1 U2) (h':PHeap.Le U2 U3):PHeap.Le U1 U3:=fun b o hb=>h' b o (h b o hb)
theorem Sl.nil (U:PHeap) (sz:Nat) (A:Option Addr) (c:Nat):Sl U sz A c 0 []:=⟨by simp,kl _,.inl rfl⟩
theorem St.freezeB (h:St B U L w) {k b:Nat} (hk:∃ r,L[k]?=some r/\r.has b):∃ U',PHeap.Le U U'/\U' b=w.heap[b]?/\St B U' (L.eraseIdx k) w:=by
 obtain ⟨r,hk,hb⟩:=hk
 have hr:=hH hk
 have hn:=h.own r hr b hb
 refine ⟨fun x=>if x=b then w.heap[b]? else U x,fun x o hx=>?_,by simp,?_⟩
 ·by_cases e:x=b
  ·subst e;rw [hn.1] at hx;cases hx
  ·simp [e,hx]
 ·have hd:=h.drop k
  refine ⟨h.os,h.tape,h.output,h.size,h.old,?_,?_,?_,hd.at_,?_,hd.dj⟩
  ·intro x o hx
   split at hx
   ·rename_i e;subst e;exact hx
   ·exact h.fro x o hx
  ·intro x o hx
   have:=h.le x o hx
   by_cases e:x=b
   ·subst e;rw [hn.1] at this;cases this
   ·simp [e,this]
  ·intro x o hx
   split at hx
   ·rename_i e;subst e;exact .inr hn.2
   ·exact h.src x o hx
  ·intro s hs c hc
   have hs':=hd.own s hs c hc
   refine ⟨?_,hs'.2⟩
   obtain ⟨i,hi⟩:=nJ hs
   have hne:c ≠ b:=by
    rintro rfl
    have:=h.dj _ _ s r c (wHL hi) hk hc hb
    split at this <;> omega
   simp [hne,hs'.1]
theorem St.freeze (h:St B U L w) {k b:Nat} {T:TypeId} {cs:List Value} (hk:L[k]?=some (.blk b T cs)) :
  ∃ U',PHeap.Le U U'/\U' b=some (.cells cs.toArray T (0,0))/\St B U' (L.eraseIdx k) w:=by
 obtain ⟨U',h1,h2,h3⟩:=h.freezeB ⟨_,hk,rfl⟩
 have:=h.at_ _ (hH hk)
 exact ⟨U',h1,h2.trans this,h3⟩
theorem St.freezeR (h:St B U L w) {k c n T sz:Nat} {A:Option Addr} {cs:List Value} (hk:L[k]?=some (.row A c T sz cs)) (hn:cs.length=n * sz) (hz:0 < sz) :
  ∃ U',PHeap.Le U U'/\Sl U' sz A c n cs/\St B U' (L.eraseIdx k) w:=by
 have hr:=h.at_ _ (hH hk)
 rcases hr with ⟨rfl,rfl,rfl⟩ | ⟨b,cur,rfl,h1,h2,h3,h4,h5⟩
 ·have:n=0:=by
   simp only [List.length_nil] at hn
   rcases nj n with e | e
   ·exact e
   ·have:=kG e hz;omega
  subst this
  exact ⟨U,PHeap.Le.refl U,Sl.nil _ _ _ _,h.drop k⟩
 ·obtain ⟨U',g1,g2,g3⟩:=h.freezeB ⟨_,hk,rfl⟩
  refine ⟨U',g1,⟨hn,?_,.inr ⟨b,0,cur,T,(0,0),rfl,g2.trans h1,?_⟩⟩,g3⟩
  ·rw [hn] at h2;exact nc h2 hz
  ·rw [<- hn];simpa using h5
theorem St.blkAt (h:St B U L w) {k b:Nat} {T:TypeId} {cs:List Value} (hk:L[k]?=some (.blk b T cs)):Blk w b T cs:=h.at_ _ (hH hk)
theorem St.enter (h:St B U L w) (own:List Res) (hs:∃ f:Nat->Nat,(∀ i r,own[i]?=some r->L[f i]?=some r)/\∀ i j,i < own.length->j < own.length->f i=f j->i=j):St ⟨w,own,U⟩ U own w:=by
 obtain ⟨f,hf,hi⟩:=hs
 have mem:∀ r ∈ own,r ∈ L:=fun r hr=>by
  obtain ⟨i,hi⟩:=nJ hr
  exact hH (hf i r hi)
 refine ⟨rfl,TapeLe.refl w,rfl,nK _,fun _ _ _=>rfl,h.fro,fun _ _ h=>h,fun _ _ h=>.inl h,fun r hr=>h.at_ r (mem r hr),fun r hr b hb=>⟨(h.own r (mem r hr) b hb).1,.inr ⟨r,hr,hb⟩⟩,?_⟩
 intro i j r s b hi' hj hr hs
 have h1:=(nA.1 hi').1
 have h2:=(nA.1 hj).1
 exact hi i j h1 h2 (h.dj _ _ r s b (hf i r hi') (hf j s hj) hr hs)
theorem St.enterH (h:St B U L w) (n:Nat):St ⟨w,L.take n,U⟩ U (L.take n) w:=by
 refine h.enter _ ⟨id,fun i r hi=>?_,fun _ _ _ _ e=>e⟩
 rw [nL] at hi
 split at hi
 ·exact hi
 ·cases hi
theorem St.enterT (h:St B U L w) (n:Nat):St ⟨w,L.drop n,U⟩ U (L.drop n) w:=by
 refine h.enter _ ⟨fun i=>n + i,fun i r hi=>?_,fun _ _ _ _ e=>by simpa using e⟩
 rwa [nO] at hi
theorem St.kp {own:List Res} (h:St ⟨w,own,U⟩ U' L w'):Keep w w' fun b=>∃ r ∈ own,r.has b :=
 ⟨h.os,h.tape,h.output,h.size,fun b hb hx=>h.old b hb fun hm=>hm.elim (fun h=>absurd hb (aN.2 h)) hx⟩
theorem St.kp0 (h:St ⟨w,[],U⟩ U' L w'):Keep w w' Non:=h.kp.weak fun b _ ⟨r,hr,_⟩=>by cases hr
theorem St.back {X own own':List Res} (h:St B U L w) (hL:(∀ r ∈ X,r ∈ L)/\(∀ r ∈ own,r ∈ L)/\(∀ (i j:Nat) (r s:Res) (b:Nat),X[i]?=some r->X[j]?=some s->r.has b->s.has b->i=j)/\(∀ r ∈ X,∀ s ∈ own,∀ b,r.has b->¬ s.has b))
  (h':St ⟨w,own,U⟩ U' own' w'):St B U' (own' ++ X) w'/\St B U' (X ++ own') w'/\PHeap.Le U U':=by
 obtain ⟨hX,hO,hd,ho⟩:=hL
 have k:=h'.kp
 have own_mine:∀ b,(∃ r ∈ own,r.has b)->B.mine b/\U b=none:=fun b ⟨r,hr,hb⟩=>⟨(h.own r (hO r hr) b hb).2,(h.own r (hO r hr) b hb).1⟩
 have mine':∀ b,Base.mine ⟨w,own,U⟩ b->B.mine b:=fun b hb=>by
  rcases hb with hb | hb
  ·exact .inl (nl h.size hb)
  ·exact (own_mine b hb).1
 have Xlt:∀ r ∈ X,∀ b,r.has b->b < w.heap.size/\¬ Base.mine ⟨w,own,U⟩ b:=fun r hr b hb=>by
  have hlt:=(h.at_ r (hX r hr)).lt hb
  exact ⟨hlt,fun hm=>hm.elim (fun h=>absurd hlt (aN.2 h)) fun ⟨s,hs,hsb⟩=>ho r hr s hs b hb hsb⟩
 have base:∀ Y:List Res,(∀ r ∈ Y,r ∈ own' \/ r ∈ X)->(∀ (i j:Nat) (r s:Res) (b:Nat),Y[i]?=some r->Y[j]?=some s->r.has b->s.has b->i=j)->St B U' Y w':=by
  intro Y hY hdY
  refine ⟨k.os.trans h.os,k.tape.trans h.tape,k.output.trans h.output,nl h.size k.size,?_,h'.fro,fun b o hb=>h'.le b o (h.le b o hb),?_,?_,?_,hdY⟩
  ·intro b hb hm
   exact (k.block b (nh hb h.size) fun hx=>hm (own_mine b hx).1).trans (h.old b hb hm)
  ·intro b o hb
   rcases h'.src b o hb with h1 | h1
   ·exact h.src b o h1
   ·exact .inr (mine' b h1)
  ·intro r hr
   rcases hY r hr with hr | hr
   ·exact h'.at_ r hr
   ·exact (h.at_ r (hX r hr)).keep k fun b hb=>fun hx=>(Xlt r hr b hb).2 (.inr hx)
  ·intro r hr b hb
   rcases hY r hr with hr | hr
   ·exact ⟨(h'.own r hr b hb).1,mine' b (h'.own r hr b hb).2⟩
   ·refine ⟨?_,(h.own r (hX r hr) b hb).2⟩
    cases e:U' b with
    | none=>rfl
    | some o =>
     rcases h'.src b o e with h1 | h1
     ·have h1:U b=some o:=h1
      have:=(h.own r (hX r hr) b hb).1;rw [h1] at this;cases this
     ·exact absurd h1 (Xlt r hr b hb).2
 have cross:∀ r ∈ own',∀ s ∈ X,∀ b,r.has b->¬ s.has b:=fun r hr s hs b hb hsb=>(Xlt s hs b hsb).2 (h'.own r hr b hb).2
 have dj2:∀ Y Z:List Res,(∀ r ∈ Y,∀ s ∈ Z,∀ b,r.has b->¬ s.has b)->(∀ (i j:Nat) (r s:Res) (b:Nat),Y[i]?=some r->Y[j]?=some s->r.has b->s.has b->i=j) ->
   (∀ (i j:Nat) (r s:Res) (b:Nat),Z[i]?=some r->Z[j]?=some s->r.has b->s.has b->i=j)->∀ (i j:Nat) (r s:Res) (b:Nat),(Y ++ Z)[i]?=some r->(Y ++ Z)[j]?=some s->r.has b->s.has b->i=j:=by
  intro Y Z hc hY hZ i j r s b hi hj hr hs
  rcases nW i Y.length with h1 | h1
  ·rw [nT h1] at hi
   rcases nW j Y.length with h2 | h2
   ·rw [nT h2] at hj;exact hY i j r s b hi hj hr hs
   ·rw [nN h2] at hj
    exact absurd hs (hc r (hH hi) s (hH hj) b hr)
  ·rw [nN h1] at hi
   rcases nW j Y.length with h2 | h2
   ·rw [nT h2] at hj
    exact absurd hr (hc s (hH hj) r (hH hi) b hs)
   ·rw [nN h2] at hj
    have:=hZ _ _ r s b hi hj hr hs;omega
 refine ⟨base _ (fun r hr=>na.1 hr) (dj2 _ _ cross h'.dj hd),base _ (fun r hr=>(na.1 hr).symm) (dj2 _ _ (fun r hr s hs b hb hsb=>cross s hs r hr b hsb hb) hd h'.dj),fun b o hb=>h'.le b o hb⟩
theorem St.backH (h:St B U L w) (n:Nat) {own':List Res} (h':St ⟨w,L.take n,U⟩ U' own' w'):St B U' (own' ++ L.drop n) w'/\PHeap.Le U U':=by
 have:=h.back (X:=L.drop n) ⟨fun r hr=>kr hr,fun r hr=>ku hr,fun i j r s b hi hj hr hs=>by
  rw [nO] at hi hj
  have:=h.dj _ _ r s b hi hj hr hs;omega,fun r hr s hs b hb hsb=>by
  obtain ⟨i,hi⟩:=nJ hr
  obtain ⟨j,hj⟩:=nJ hs
  rw [nO] at hi
  rw [nL] at hj
  split at hj
  ·have:=h.dj _ _ r s b hi hj hb hsb;omega
  ·cases hj⟩ h'
 exact ⟨this.1,this.2.2⟩
theorem St.backT (h:St B U L w) (n:Nat) {own':List Res} (h':St ⟨w,L.drop n,U⟩ U' own' w'):St B U' (L.take n ++ own') w'/\PHeap.Le U U':=by
 have:=h.back (X:=L.take n) ⟨fun r hr=>ku hr,fun r hr=>kr hr,fun i j r s b hi hj hr hs=>by
  rw [nL] at hi hj
  (split at hi <;> split at hj <;> first | exact h.dj _ _ r s b hi hj hr hs | (cases hi;done) | (cases hj;done)),fun r hr s hs b hb hsb=>by
  obtain ⟨i,hi⟩:=nJ hr
  obtain ⟨j,hj⟩:=nJ hs
  rw [nO] at hj
  rw [nL] at hi
  split at hi
  ·have:=h.dj _ _ r s b hi hj hb hsb;omega
  ·cases hi⟩ h'
 exact ⟨this.2.1,this.2.2⟩
end
end Go.KL
namespace Go.KL
def w64 (x:Int):Int:=(x + 9223372036854775808) % 18446744073709551616 - 9223372036854775808
theorem wAM {x:Int} (h1:-9223372036854775808 <= x) (h2:x <= 9223372036854775807):w64 x=x:=by unfold w64;omega
def chk (i:Int) (n:Nat):Option Unit:=if 0 <= i/\i < n then some () else none
def idx {α:Type} (l:List α) (i:Int):Option α:=if 0 <= i then l[i.toNat]? else none
def quo (a b:Int):Option Int:=if b=0 then none else some (w64 (a.tdiv b))
def rem (a b:Int):Option Int:=if b=0 then none else some (a.tmod b)
def app {α:Type} (bytes:Nat) (l m:List α):Option (List α):=if (l.length + m.length) * bytes <= 140737488355328 then some (l ++ m) else none
structure Arr (α:Type) (n:Nat) where
 l:List α
 h:l.length=n
deriving DecidableEq
namespace Arr
variable {α:Type} {n:Nat}
def fill (n:Nat) (x:α):Arr α n:=⟨List.replicate n x,by simp⟩
def set (a:Arr α n) (i:Nat) (x:α):Arr α n:=⟨a.l.set i x,by simp [a.h]⟩
def get [Inhabited α] (a:Arr α n) (i:Nat):α:=a.l.getD i default
end Arr
def forN {S B:Type} (body:Nat->S->Option (S ⊕ B)):Nat->Nat->S->Option (S ⊕ B)
 | 0,_,s=>some (.inl s)
 | m + 1,k,s=>match body k s with
  | none=>none
  | some (.inl s')=>forN body m (k + 1) s'
  | some (.inr b)=>some (.inr b)
def wFy {S B:Type} (lo hi:Int) (body:Nat->S->Option (S ⊕ B)) (s:S):Option (S ⊕ B):=if hi <= 9223372036854775807 then forN body (hi - lo).toNat 0 s else none
def forN' {S:Type} (body:Nat->S->Option S):Nat->Nat->S->Option S
 | 0,_,s=>some s
 | m + 1,k,s=>match body k s with
  | none=>none
  | some s'=>forN' body m (k + 1) s'
def wDJ {S:Type} (lo hi:Int) (body:Nat->S->Option S) (s:S):Option S:=if hi <= 9223372036854775807 then forN' body (hi - lo).toNat 0 s else none
def big:Nat:=18446744073709551616
def iter {S B:Type} (body:S->Option (S ⊕ B)):Nat->S->Option B
 | 0,_=>none
 | m + 1,s=>match body s with
  | none=>none
  | some (.inl s')=>iter body m s'
  | some (.inr b)=>some b
theorem bnd {α β:Type} {x:Option α} {f:α->Option β} {b:β} (h:x.bind f=some b):∃ a,x=some a/\f a=some b:=by
 cases x with
 | none=>cases h
 | some a=>exact ⟨a,rfl,h⟩
theorem wCA {i:Int} {n:Nat} {u:Unit} (h:chk i n=some u):0 <= i:=by unfold chk at h;split at h <;> simp_all
theorem wCB {i:Int} {n:Nat} {u:Unit} (h:chk i n=some u):i < n:=by unfold chk at h;split at h <;> simp_all
theorem wAd {i:Int} {n:Nat} {u:Unit} (h:chk i n=some u):i.toNat < n:=by have:=wCA h;have:=wCB h;omega
theorem wDz {i:Int} {n:Nat} (h0:0 <= i) (h1:i < n):chk i n=some ():=if_pos ⟨h0,h1⟩
theorem wBp {α:Type} {l:List α} {i:Int} {x:α} (h:idx l i=some x):0 <= i:=by unfold idx at h;split at h <;> simp_all
theorem wAV {α:Type} {l:List α} {i:Int} {x:α} (h:idx l i=some x):l[i.toNat]?=some x:=by unfold idx at h;split at h <;> simp_all
theorem wCd {α:Type} {l:List α} {i:Int} {x:α} (h:idx l i=some x):i.toNat < l.length:=(nA.1 (wAV h)).1
theorem wBs {α:Type} {l:List α} {i:Int} {x:α} (h:idx l i=some x):i < l.length:=by have:=wCd h;have:=wBp h;omega
theorem wIf {α:Type} {l:List α} {k:Nat}:idx l (k:Int)=l[k]?:=by simp [idx]
theorem wPw {α:Type} {bytes:Nat} {l m r:List α} (h:app bytes l m=some r):r=l ++ m/\(l.length + m.length) * bytes <= 140737488355328:=by
 unfold app at h;split at h
 ·rename_i h';injection h with h;exact ⟨h.symm,h'⟩
 ·cases h
theorem wSO {a b r:Int} (h:rem a b=some r):b ≠ 0/\a.tmod b=r:=by unfold rem at h;split at h <;> simp_all
theorem wSP {a b r:Int} (h:quo a b=some r):b ≠ 0/\w64 (a.tdiv b)=r:=by unfold quo at h;split at h <;> simp_all
theorem wDK {S B:Type} {lo hi:Int} {body:Nat->S->Option (S ⊕ B)} {s:S} {b:S ⊕ B} (h:wFy lo hi body s=some b):hi <= 9223372036854775807/\forN body (hi - lo).toNat 0 s=some b:=by
 unfold wFy at h;split at h
 ·rename_i h';exact ⟨h',h⟩
 ·cases h
theorem wCQ {S:Type} {lo hi:Int} {body:Nat->S->Option S} {s:S} {b:S} (h:wDJ lo hi body s=some b):hi <= 9223372036854775807/\forN' body (hi - lo).toNat 0 s=some b:=by
 unfold wDJ at h;split at h
 ·rename_i h';exact ⟨h',h⟩
 ·cases h
def esc {S R:Type} (x:Option R):Option (S ⊕ R):=match x with
 | none=>none
 | some v=>some (.inr v)
theorem wAj {S R:Type} {x:Option R} {y:S ⊕ R} (h:esc x=some y):∃ v,x=some v/\y=.inr v:=by
 cases x with
 | none=>cases h
 | some v=>exact ⟨v,rfl,(aP h).symm⟩
def jn {S R:Type} (x:Option (S ⊕ R)) (k:S->Option R):Option R:=match x with
 | none=>none
 | some (.inl s)=>k s
 | some (.inr v)=>some v
theorem wDL {S R:Type} {x:Option (S ⊕ R)} {k:S->Option R} {v:R} (h:jn x k=some v):∃ r,x=some r:=by
 cases x with
 | none=>cases h
 | some r=>exact ⟨r,rfl⟩
theorem wEA {S R:Type} {x:Option (S ⊕ R)} {k:S->Option R} {v:R} {s:S} {r:S ⊕ R} (h:jn x k=some v) (hx:x=some r) (hr:r=.inl s):k s=some v:=by subst hx hr;exact h
theorem wDl {S R:Type} {x:Option (S ⊕ R)} {k:S->Option R} {v u:R} {r:S ⊕ R} (h:jn x k=some v) (hx:x=some r) (hr:r=.inr u):u=v:=by subst hx hr;exact aP h
@[simp] theorem wPE {S R:Type} (v:R):(esc (some v):Option (S ⊕ R))=some (.inr v):=rfl
@[simp] theorem esc_none {S R:Type}:(esc (none:Option R):Option (S ⊕ R))=none:=rfl
@[simp] theorem wHM {S R:Type} (s:S) (k:S->Option R):jn (some (.inl s)) k=k s:=rfl
@[simp] theorem wJz {S R:Type} (v:R) (k:S->Option R):jn (some (.inr v)) k=some v:=rfl
@[simp] theorem jn_none {S R:Type} (k:S->Option R):jn none k=none:=rfl
theorem Arr.at_ {α:Type} [Inhabited α] {n:Nat} (a:Arr α n) {k:Nat} (h:k < n):a.l[k]?=some (a.get k):=by
 unfold Arr.get
 rw [kR,nE (by rw [a.h];exact h)]
 rfl
instance {α:Type} {n:Nat} [Inhabited α]:Inhabited (Arr α n):=⟨.fill n default⟩
def gd {α:Type} [Inhabited α] (l:List α) (k:Nat):α:=l.getD k default
theorem wDV {α:Type} [Inhabited α] {xs:List α} {k:Nat} (h:k < xs.length):xs[k]?=some (gd xs k):=by
 unfold gd
 rw [kR,nE h]
 rfl
structure Hid (p:Prop):Prop where
 mk :: out:p
theorem lp_lt {lo hi:Int} {k:Nat} (h:k < (hi - lo).toNat):lo + ↑k < hi:=by omega
theorem wCO {hi:Int} {k:Nat} (h:k < (hi - 0).toNat):(↑k:Int) < hi:=by omega
theorem wSQ {lo hi:Int}:¬ (lo + ↑(hi - lo).toNat < hi):=by omega
theorem wBi {hi:Int}:¬ ((↑(hi - 0).toNat:Int) < hi):=by omega
section
variable {K V:Type} [DecidableEq K]
def wFK:List (K × V)->K->Option V
 | [],_=>none
 | (a,v) :: l,x=>if x=a then some v else wFK l x
def mput:List (K × V)->K->V->List (K × V)
 | [],x,v=>[(x,v)]
 | (a,u) :: l,x,v=>if x=a then (x,v) :: l else (a,u) :: mput l x v
def mdel:List (K × V)->K->List (K × V)
 | [],_=>[]
 | (a,u) :: l,x=>if x=a then l else (a,u) :: mdel l x
def wQd (l:List (K × V)) (x:K):Bool:=(wFK l x).isSome
def wEr (l:List (K × V)) (x:K) (z:V):V:=(wFK l x).getD z
def wDG:List (K × V)->K->Nat->Option (Nat × V)
 | [],_,_=>none
 | (a,v) :: l,x,i=>if x=a then some (i,v) else wDG l x (i + 1)
theorem wFg (l:List (K × V)) (x:K) (i:Nat):(wDG l x i).map (·.2)=wFK l x:=by
 induction l generalizing i with
 | nil=>rfl
 | cons p l ih=>obtain ⟨a,v⟩:=p;simp only [wDG,wFK];split <;> simp [ih]
theorem wEZ {l:List (K × V)} {x:K} {i:Nat} (h:wDG l x i=none) (v:V):mput l x v=l ++ [(x,v)]/\mdel l x=l:=by
 induction l generalizing i with
 | nil=>exact ⟨rfl,rfl⟩
 | cons p l ih =>
  obtain ⟨a,u⟩:=p
  rw [wDG] at h
  split at h
  ·cases h
  ·rename_i hne
   obtain ⟨h1,h2⟩:=ih h
   simp [mput,mdel,hne,h1,h2]
theorem wEa {l:List (K × V)} {x:K} {i j:Nat} {u:V} (h:wDG l x i=some (j,u)) (v:V):i <= j/\l[j - i]?=some (x,u)/\mput l x v=l.set (j - i) (x,v)/\mdel l x=l.eraseIdx (j - i):=by
 induction l generalizing i with
 | nil=>cases h
 | cons p l ih =>
  obtain ⟨a,u'⟩:=p
  rw [wDG] at h
  split at h
  ·rename_i e;subst e
   simp only [nG,kS] at h
   obtain ⟨rfl,rfl⟩:=h
   simp [mput,mdel]
  ·rename_i hne
   obtain ⟨h1,h2,h3,h4⟩:=ih h
   have e:j - i=(j - (i + 1)) + 1:=by omega
   refine ⟨by omega,by rw [e];simpa using h2,?_,?_⟩
   ·rw [e];simp [mput,hne,h3]
   ·rw [e];simp [mdel,hne,h4]
end
def cut {α:Type} (l:List α) (a b:Int):Option (List α):=if 0 <= a/\a <= b/\b <= l.length then some ((l.drop a.toNat).take (b.toNat - a.toNat)) else none
end Go.KL
namespace Go.KL
open Go.RowKit
theorem wGH (n:Int):IntKind.i64.wrap n=w64 n:=by rw [IntKind.wrap_i64];unfold w64;omega
section
variable {N:Nat} {P:Program} {l:List Oper} {Q:wDc} {D:List Deferred} {ks:List Nat} {σ:Env} {w:World} {i d:Nat} {s:Sch} {o:Oper} {B:Base} {U:PHeap} {L:List Res}
theorem wCy {o:Oper} {d:Nat} (hd:o.dst=some d) (σ:Env) (v:Value):put' σ o v=upd σ d v:=by unfold put';rw [hd]
theorem wJL {o:Oper} (hd:o.dst=none) (σ:Env) (v:Value):put' σ o v=σ:=by unfold put';rw [hd]
theorem dlt {o:Oper} {d N:Nat} (hd:o.dst=some d) (hN:nB d N=true):∀ e,o.dst=some e->e < N:=by
 intro e he;rw [hd] at he;cases he;simpa [nk] using hN
theorem dno {o:Oper} {N:Nat} (hd:o.dst=none):∀ e,o.dst=some e->e < N:=by intro e he;rw [hd] at he;cases he
theorem OKS.r {v:Value} (ho:l[i]?=some o) (hd:o.dst=some d) (hN:nB d N=true) (hw:wanted l σ o=true) (hr:∀ w',Runs P σ w' o v w')
  (k:OKS N P l Q D ks s (upd σ d v) w):OKS N P l Q D ks (.fl i s) σ w :=
 ⟨o,ho,dlt hd hN,.inl ⟨hw,v,fun w' _=>hr w',⟨fun _=>hr,fun _ w' _=>hr w'⟩,by rw [wCy hd];exact k⟩⟩
theorem OKS.m {v:Value} (ho:l[i]?=some o) (hd:o.dst=some d) (hN:nB d N=true) (hw:wanted l σ o=true) (hr:wGD P σ w o v) (hk:wSM (kOf ks i)=false)
  (k:OKS N P l Q D ks s (upd σ d v) w):OKS N P l Q D ks (.fl i s) σ w :=
 ⟨o,ho,dlt hd hN,.inl ⟨hw,v,hr,⟨fun e=>(by rw [e] at hk;cases hk),fun e=>(by rw [e] at hk;cases hk)⟩,(by rw [wCy hd];exact k)⟩⟩
theorem OKS.p (ho:l[i]?=some o) (hd:o.dst=some d) (hN:nB d N=true) (hw:wanted l σ o=false)
  (k:OKS N P l Q D ks s (upd σ d undef) w):OKS N P l Q D ks (.fl i s) σ w :=
 ⟨o,ho,dlt hd hN,.inr ⟨hw,by rw [wCy hd];exact k⟩⟩
theorem OKS.px (ho:l[i]?=some o) (hd:o.dst=some d) (hN:nB d N=true) (hw:wanted l σ o=false)
  (k:OKS N P l Q D ks s (upd σ d undef) w):OKS N P l Q D ks (.fx i s .stop) σ w :=
 ⟨⟨o,ho,dlt hd hN,.inr ⟨hw,KeepD.refl l ks i w,by rw [wCy hd];exact k⟩⟩,trivial⟩
theorem OKS.v {v:Value} {w':World} (ho:l[i]?=some o) (hd:o.dst=some d) (hN:nB d N=true) (hw:wanted l σ o=true) (hr:Runs P σ w o v w') (hk:wGE (kOf ks i)=false \/ Keep w w' Non)
  (k:OKS N P l Q D ks s (upd σ d v) w'):OKS N P l Q D ks (.fx i s .stop) σ w :=
 ⟨⟨o,ho,dlt hd hN,.inl ⟨hw,.inr (.inl ⟨v,w',hr,KeepD.of hk,by rw [wCy hd];exact k⟩)⟩⟩,trivial⟩
theorem OKS.u {w':World} (ho:l[i]?=some o) (hd:o.dst=none) (hw:wanted l σ o=true) (hr:Does P σ w o w') (hk:wGE (kOf ks i)=false \/ Keep w w' Non)
  (k:OKS N P l Q D ks s σ w'):OKS N P l Q D ks (.fx i s .stop) σ w :=
 ⟨⟨o,ho,dno hd,.inl ⟨hw,.inl ⟨hd,w',hr,KeepD.of hk,by rw [wJL hd];exact k⟩⟩⟩,trivial⟩
theorem OKS.vn {v:Value} {w':World} (ho:l[i]?=some o) (hd:o.dst=none) (hw:wanted l σ o=true) (hr:Runs P σ w o v w') (hk:wGE (kOf ks i)=false \/ Keep w w' Non)
  (k:OKS N P l Q D ks s σ w'):OKS N P l Q D ks (.fx i s .stop) σ w :=
 ⟨⟨o,ho,dno hd,.inl ⟨hw,.inr (.inl ⟨v,w',hr,KeepD.of hk,by rw [wJL hd];exact k⟩)⟩⟩,trivial⟩
def wCt (w:World) (own:List Res) (U:PHeap) (wDc:PHeap->List Res->Value->Prop):Value->World->Prop:=fun v w'=>∃ U' L',St ⟨w,own,U⟩ U' L' w'/\wDc U' L' v
theorem OKS.callH {f:FuncId} {args:List Value} {wDc:PHeap->List Res->Value->Prop} (n:Nat) (ho:l[i]?=some o) (hd:o.dst=some d) (hN:nB d N=true) (hw:wanted l σ o=true) (he:Enters P σ w o f args) (hS:St B U L w)
  (hf:St ⟨w,L.take n,U⟩ U (L.take n) w->Gv P f args w (wCt w (L.take n) U wDc)) (hk:wGE (kOf ks i)=false \/ n=0)
  (k:∀ U' L' v w',PHeap.Le U U'->St B U' (L' ++ L.drop n) w'->wDc U' L' v->OKS N P l Q D ks s (upd σ d v) w'):OKS N P l Q D ks (.fx i s .stop) σ w:=by
 refine ⟨⟨o,ho,dlt hd hN,.inl ⟨hw,.inr (.inr (.inl ⟨f,args,_,he,hf (hS.enterH n),?_⟩))⟩⟩,trivial⟩
 rintro v w' ⟨U',L',h1,h2⟩
 obtain ⟨h3,h4⟩:=hS.backH n h1
 refine ⟨KeepD.of ?_,by rw [wCy hd];exact k U' L' v w' h4 h3 h2⟩
 rcases hk with hk | rfl
 ·exact .inl hk
 ·exact .inr <| h1.kp.weak fun b _ ⟨r,hr,_⟩=>by simp at hr
theorem wIg {j d:Nat} {b:Bool} (hg:o.guard=some (j,b)) (hd:(l[j]?).bind (·.dst)=some d) (h:σ d=.bool b):wanted l σ o=true:=by
 simp [wanted,hg,hd,h]
theorem wAG {j d:Nat} {b:Bool} (hg:o.guard=some (j,b)) (hd:(l[j]?).bind (·.dst)=some d) (h:σ d=undef):wanted l σ o=false:=by
 simp [wanted,hg,hd,h,undef]
theorem wHN {j d:Nat} {b b':Bool} (hg:o.guard=some (j,b)) (hd:(l[j]?).bind (·.dst)=some d) (h:σ d=.bool b') (hne:(b' == b)=false):wanted l σ o=false:=by
 simp [wanted,hg,hd,h,hne]
theorem Runs.addw {t u:TypeId} {x y:Operand} {m n:Int} (ho:o.op=.binOp .add t x y u) (hx:ev σ x=.int .i64 m) (hy:ev σ y=.int .i64 n):Runs P σ w o (.int .i64 (w64 (m + n))) w :=
 ⟨by rw [ho];rfl,by simp [execOp,ho,hx,hy,binOp,eqGuard,Op.intArith,wGH]⟩
theorem Runs.subw {t u:TypeId} {x y:Operand} {m n:Int} (ho:o.op=.binOp .sub t x y u) (hx:ev σ x=.int .i64 m) (hy:ev σ y=.int .i64 n):Runs P σ w o (.int .i64 (w64 (m - n))) w :=
 ⟨by rw [ho];rfl,by simp [execOp,ho,hx,hy,binOp,eqGuard,Op.intArith,wGH]⟩
theorem Runs.mulw {t u:TypeId} {x y:Operand} {m n:Int} (ho:o.op=.binOp .mul t x y u) (hx:ev σ x=.int .i64 m) (hy:ev σ y=.int .i64 n):Runs P σ w o (.int .i64 (w64 (m * n))) w :=
 ⟨by rw [ho];rfl,by simp [execOp,ho,hx,hy,binOp,eqGuard,Op.intArith,wGH]⟩
theorem Runs.rem {k:IntKind} {t u:TypeId} {x y:Operand} {m n r:Int} (ho:o.op=.binOp .rem t x y u) (hx:ev σ x=.int k m) (hy:ev σ y=.int k n) (h:KL.rem m n=some r):Runs P σ w o (.int k r) w:=by
 obtain ⟨h1,rfl⟩:=wSO h
 exact ⟨by rw [ho];rfl,by simp [execOp,ho,hx,hy,binOp,eqGuard,Op.intDiv,h1]⟩
theorem Runs.quo {t u:TypeId} {x y:Operand} {m n r:Int} (ho:o.op=.binOp .quo t x y u) (hx:ev σ x=.int .i64 m) (hy:ev σ y=.int .i64 n) (h:KL.quo m n=some r):Runs P σ w o (.int .i64 r) w:=by
 obtain ⟨h1,rfl⟩:=wSP h
 exact ⟨by rw [ho];rfl,by simp [execOp,ho,hx,hy,binOp,eqGuard,Op.intDiv,h1,wGH]⟩
theorem Runs.min {x y:Operand} {m n:Int} {ty:Array TypeId} (ho:o.op=.call { callee:=.builtin .min,args:=#[x,y],argTypes:=ty }) (hx:ev σ x=.int .i64 m) (hy:ev σ y=.int .i64 n):Runs P σ w o (.int .i64 (Min.min m n)) w :=
 ⟨by rw [ho];rfl,by
  have:(if n < m then n else m)=Min.min m n:=by rw [Int.min_def];split <;> split <;> omega
  simp [execOp,ho,resolve,invoke,builtin,Builtin.min_,Builtin.min2,hx,hy,this]⟩
theorem Runs.max {x y:Operand} {m n:Int} {ty:Array TypeId} (ho:o.op=.call { callee:=.builtin .max,args:=#[x,y],argTypes:=ty }) (hx:ev σ x=.int .i64 m) (hy:ev σ y=.int .i64 n):Runs P σ w o (.int .i64 (Max.max m n)) w :=
 ⟨by rw [ho];rfl,by
  have:(if m < n then n else m)=Max.max m n:=by rw [Int.max_def];split <;> split <;> omega
  simp [execOp,ho,resolve,invoke,builtin,Builtin.max_,Builtin.max2,hx,hy,this]⟩
theorem wPx {t:TypeId} (ht:∀ w,(underlying t).run P w=.ok .bool w) (m n:Bool) (w:World):(Op.equal t (.bool m) (.bool n)).run P w=.ok (m == n) w:=by
 unfold Op.equal Op.maxDepth
 rw [show (10000:Nat)=9999 + 1 from rfl,Op.equalIn]
 simp only [Sem.run_bind,ht,Result.andThen_ok,Sem.run_pure]
theorem Runs.eqB {t u:TypeId} {x y:Operand} {m n:Bool} (ho:o.op=.binOp .eql t x y u) (hx:ev σ x=.bool m) (hy:ev σ y=.bool n) (ht:∀ w,(underlying t).run P w=.ok .bool w):Runs P σ w o (.bool (m == n)) w :=
 ⟨by rw [ho];rfl,by simp [execOp,ho,hx,hy,binOp,eqGuard,wPx ht]⟩
theorem Runs.neB {t u:TypeId} {x y:Operand} {m n:Bool} (ho:o.op=.binOp .neq t x y u) (hx:ev σ x=.bool m) (hy:ev σ y=.bool n) (ht:∀ w,(underlying t).run P w=.ok .bool w):Runs P σ w o (.bool (!(m == n))) w :=
 ⟨by rw [ho];rfl,by simp [execOp,ho,hx,hy,binOp,eqGuard,wPx ht]⟩
def EqT {α:Type} [DecidableEq α] (P:Program) (t:TypeId) (enc:α->List Value):Prop :=
 ∀ x y w,(Op.equal t (.agg (enc x).toArray) (.agg (enc y).toArray)).run P w=.ok (decide (x=y)) w
theorem Runs.eqS {α:Type} [DecidableEq α] {t u:TypeId} {x y:Operand} {enc:α->List Value} {a b:α} (ho:o.op=.binOp .eql t x y u) (hx:ev σ x=.agg (enc a).toArray) (hy:ev σ y=.agg (enc b).toArray) (hE:EqT P t enc) (hg:P.eqGuardType P.depth t=false):Runs P σ w o (.bool (decide (a=b))) w :=
 ⟨by rw [ho];rfl,by simp [execOp,ho,hx,hy,binOp,eqGuard,hE a b,hg]⟩
theorem Runs.neS {α:Type} [DecidableEq α] {t u:TypeId} {x y:Operand} {enc:α->List Value} {a b:α} (ho:o.op=.binOp .neq t x y u) (hx:ev σ x=.agg (enc a).toArray) (hy:ev σ y=.agg (enc b).toArray) (hE:EqT P t enc) (hg:P.eqGuardType P.depth t=false):Runs P σ w o (.bool (!decide (a=b))) w :=
 ⟨by rw [ho];rfl,by simp [execOp,ho,hx,hy,binOp,eqGuard,hE a b,hg]⟩
theorem OKS.alloc {t:TypeId} {z:Value} {cs:List Value} (ho:l[i]?=some o) (hd:o.dst=some d) (hN:nB d N=true) (hw:wanted l σ o=true) (hop:o.op=.alloc t) (hz:∀ w,(zeroValue t).run P w=.ok z w) (hc:z.cells=cs.toArray) (hS:St B U L w)
  (k:∀ w' b,St B U (.blk b t cs :: L) w'->OKS N P l Q D ks s (upd σ d (.pointer (some ⟨b,0,none⟩))) w'):OKS N P l Q D ks (.fx i s .stop) σ w:=by
 refine OKS.v (v:=.pointer (some ⟨w.heap.size,0,none⟩)) (w':=w.alloc (.cells cs.toArray t)) ho hd hN hw ⟨by rw [hop];rfl,?_⟩ (.inr (wBY w _)) (k _ _ (hS.new (wBY w _) (wER w cs t) rfl (nK _)))
 simp [execOp,hop,Instr.alloc,hz,newVar,newRow,newObj,hc,Sem.run]
theorem OKS.box {t:TypeId} {x:Operand} {v:Value} {cs:List Value} (ho:l[i]?=some o) (hd:o.dst=some d) (hN:nB d N=true) (hw:wanted l σ o=true) (hop:o.op=.box t x) (hx:ev σ x=v) (hc:v.cells=cs.toArray) (hS:St B U L w)
  (k:∀ w' b,St B U (.blk b t cs :: L) w'->OKS N P l Q D ks s (upd σ d (.pointer (some ⟨b,0,none⟩))) w'):OKS N P l Q D ks (.fx i s .stop) σ w:=by
 subst hx
 refine OKS.v (v:=.pointer (some ⟨w.heap.size,0,none⟩)) (w':=w.alloc (.cells cs.toArray t)) ho hd hN hw ⟨by rw [hop];rfl,?_⟩ (.inr (wBY w _)) (k _ _ (hS.new (wBY w _) (wER w cs t) rfl (nK _)))
 simp [execOp,hop,Instr.box,newVar,newRow,newObj,hc,Sem.run]
theorem OKS.st {t T:TypeId} {x y:Operand} {j b off:Nat} {v:Value} {vs cs cs':List Value} (ho:l[i]?=some o) (hd:o.dst=none) (hw:wanted l σ o=true) (hop:o.op=.store t x y) (hS:St B U L w) (hk:L[j]?=some (.blk b T cs))
  (hx:ev σ x=.pointer (some ⟨b,off,none⟩)) (hy:ev σ y=v) (hc:v.cells=vs.toArray) (hsz:∀ w,(sizeOf t).run P w=.ok vs.length w) (hlt:off + vs.length <= cs.length) (h1:vs.all one=true) (hcs:wEJ cs off vs=cs') (hne:wGE (kOf ks i)=false)
  (k:∀ w',St B U (L.set j (.blk b T cs')) w'->OKS N P l Q D ks s σ w'):OKS N P l Q D ks (.fx i s .stop) σ w:=by
 subst hy hcs
 obtain ⟨w',h2,h3,h4,h5⟩:=wCk (P:=P) (T:=T) off vs 0 cs w (hS.blkAt hk) hlt (nS.1 h1)
 refine OKS.u (w':=w') ho hd hw ⟨by rw [hop];rfl,?_⟩ (.inl hne) (k w' (hS.set hk (h4.weak fun x _ e=>by rw [e];rfl) h3 fun b hb=>.inl hb))
 simp [execOp,hop,Instr.storeAt,hx,Instr.sureAddr,storeVar,hc,hsz,h2]
theorem RowAt.cells {w:World} {c T sz b:Nat} {cs:List Value} (h:RowAt w (some ⟨b,0,none⟩) c T sz cs):∃ cur,w.heap[b]?=some (.cells cur T (0,0))/\cs.length <= c * sz/\c <= maxLen/\cur.size=c * sz/\cur.toList.take cs.length=cs:=by
 rcases h with ⟨h,_⟩ | ⟨b',cur,h,h1⟩
 ·cases h
 ·cases h;exact ⟨cur,h1⟩
theorem wJM (vs:List Value):∀ (l:List Value) (off n:Nat),off + vs.length <= n->(wEJ l off vs).take n=wEJ (l.take n) off vs:=by
 induction vs with
 | nil=>intro l off n _;rfl
 | cons v vs ih =>
  intro l off n h
  simp only [wEJ]
  rw [ih _ _ _ (by simp at h;omega),List.take_set]
theorem OKS.stR {t T:TypeId} {x y:Operand} {j b c sz off:Nat} {A:Option Addr} {v:Value} {vs cs cs':List Value} (ho:l[i]?=some o) (hd:o.dst=none) (hw:wanted l σ o=true) (hop:o.op=.store t x y) (hS:St B U L w) (hk:L[j]?=some (.row A c T sz cs)) (hA:A=some ⟨b,0,none⟩)
  (hx:ev σ x=.pointer (some ⟨b,off,none⟩)) (hy:ev σ y=v) (hc:v.cells=vs.toArray) (hsz:∀ w,(sizeOf t).run P w=.ok vs.length w) (hlt:off + vs.length <= cs.length) (h1:vs.all one=true) (hcs:wEJ cs off vs=cs') (hne:wGE (kOf ks i)=false)
  (k:∀ w',St B U (L.set j (.row A c T sz cs')) w'->OKS N P l Q D ks s σ w'):OKS N P l Q D ks (.fx i s .stop) σ w:=by
 subst hA
 subst hy hcs
 obtain ⟨cur,g1,g2,g3,g4,g5⟩:=RowAt.cells (hS.at_ _ (hH hk))
 have hB:Blk w b T cur.toList:=by unfold Blk;rw [g1]
 have hcl:cs.length <= cur.toList.length:=by rw [<- g5];simp;omega
 obtain ⟨w',h2,h3,h4,h5⟩:=wCk (P:=P) (T:=T) off vs 0 cur.toList w hB (by omega) (nS.1 h1)
 refine OKS.u (w':=w') ho hd hw ⟨by rw [hop];rfl,?_⟩ (.inl hne) (k w' (hS.set hk (h4.weak fun x _ e=>by rw [e];rfl) (.inr ⟨b,(wEJ cur.toList (off + 0) vs).toArray,rfl,h3,?_,g3,?_,?_⟩) fun b hb=>.inl hb))
 ·simp [execOp,hop,Instr.storeAt,hx,Instr.sureAddr,storeVar,hc,hsz,h2]
 ·rw [wCq];exact g2
 ·simp [wCq,g4]
 ·rw [wCq,Nat.add_zero]
  show (wEJ cur.toList off vs).take cs.length=_
  rw [wJM _ _ _ _ hlt,g5]
theorem St.ldB {t T:TypeId} {x:Operand} {j b off:Nat} {cs:List Value} {v:Value} (hS:St B U L w) (hk:L[j]?=some (.blk b T cs)) (hop:o.op=.load t x) (hx:ev σ x=.pointer (some ⟨b,off,none⟩)) (hag:∀ w,(isAgg t).run P w=.ok false w) (hv:cs[off]?=some v):wGD P σ w o v :=
 fun _ k=>Runs.ldB hop hx hag ((hS.grow k).blkAt hk) hv
theorem St.ldBA {t T:TypeId} {x:Operand} {j b off n:Nat} {cs vs:List Value} (hS:St B U L w) (hk:L[j]?=some (.blk b T cs)) (hop:o.op=.load t x) (hx:ev σ x=.pointer (some ⟨b,off,none⟩)) (hag:∀ w,(isAgg t).run P w=.ok true w) (hsz:∀ w,(sizeOf t).run P w=.ok n w) (hv:(cs.drop off).take n=vs) (hn:vs.length=n):wGD P σ w o (.agg vs.toArray) :=
 fun _ k=>Runs.ldBA hop hx hag hsz ((hS.grow k).blkAt hk) hv hn
theorem St.rowCell {j b c T sz off:Nat} {cs:List Value} {v:Value} (hS:St B U L w) (hk:L[j]?=some (.row (some ⟨b,0,none⟩) c T sz cs)) (hv:cs[off]?=some v):w.cell? ⟨b,off,none⟩=some v:=by
 obtain ⟨cur,g1,g2,g3,g4,g5⟩:=RowAt.cells (hS.at_ _ (hH hk))
 have:cur[off]?=some v:=by
  rw [<- g5,nL] at hv
  split at hv
  ·simpa using hv
  ·cases hv
 simp [World.cell?,g1,this]
theorem St.ldR {t T:TypeId} {x:Operand} {j b off c sz:Nat} {A:Option Addr} {cs:List Value} {v:Value} (hS:St B U L w) (hk:L[j]?=some (.row A c T sz cs)) (hA:A=some ⟨b,0,none⟩) (hop:o.op=.load t x) (hx:ev σ x=.pointer (some ⟨b,off,none⟩)) (hag:∀ w,(isAgg t).run P w=.ok false w) (hv:cs[off]?=some v):wGD P σ w o v :=
 fun _ k=>Runs.ld hop hx hag ((hS.grow k).rowCell (hA ▸ hk) hv)
theorem wEw {cs vs:List Value} {off n:Nat} (hv:(cs.drop off).take n=vs):∀ j v,vs[j]?=some v->cs[off + j]?=some v:=by
 intro j v hj
 subst hv
 rw [nL] at hj
 split at hj
 ·rwa [nO] at hj
 ·cases hj
theorem St.ldRA {t T:TypeId} {x:Operand} {j b off c sz n:Nat} {A:Option Addr} {cs vs:List Value} (hS:St B U L w) (hk:L[j]?=some (.row A c T sz cs)) (hA:A=some ⟨b,0,none⟩) (hop:o.op=.load t x) (hx:ev σ x=.pointer (some ⟨b,off,none⟩)) (hag:∀ w,(isAgg t).run P w=.ok true w) (hsz:∀ w,(sizeOf t).run P w=.ok n w) (hv:(cs.drop off).take n=vs) (hn:vs.length=n):wGD P σ w o (.agg vs.toArray) :=
 fun _ k=>Runs.ldA hop hx hag hsz hn fun j v hj=>(hS.grow k).rowCell (hA ▸ hk) (wEw hv j v hj)
def Cl (U:PHeap) (b off:Nat) (vs:List Value):Prop:=∃ arr T fr,U b=some (.cells arr T fr)/\∀ j v,vs[j]?=some v->arr[off + j]?=some v
theorem Cl.le {U U':PHeap} {b off:Nat} {vs:List Value} (h:Cl U b off vs) (hl:PHeap.Le U U'):Cl U' b off vs:=by
 obtain ⟨arr,T,fr,h1,h2⟩:=h
 exact ⟨arr,T,fr,hl _ _ h1,h2⟩
theorem Cl.cell {b off f:Nat} {vs:List Value} {v:Value} (h:Cl U b off vs) (hS:St B U L w) (hv:vs[f]?=some v):w.cell? ⟨b,off + f,none⟩=some v:=by
 obtain ⟨arr,T,fr,h1,h2⟩:=h
 simp [World.cell?,hS.fro _ _ h1,h2 f v hv]
theorem Cl.of {b:Nat} {T:TypeId} {cs:List Value} (h:U b=some (.cells cs.toArray T (0,0))):Cl U b 0 cs:=⟨_,_,_,h,fun j v hv=>by simpa using hv⟩
theorem St.ldC {t:TypeId} {x:Operand} {b off f:Nat} {vs:List Value} {v:Value} (hS:St B U L w) (hC:Cl U b off vs) (hop:o.op=.load t x) (hx:ev σ x=.pointer (some ⟨b,off + f,none⟩)) (hag:∀ w,(isAgg t).run P w=.ok false w) (hv:vs[f]?=some v):wGD P σ w o v :=
 fun _ k=>Runs.ld hop hx hag (hC.cell (hS.grow k) hv)
theorem St.ldCA {t:TypeId} {x:Operand} {b off f n:Nat} {vs us:List Value} (hS:St B U L w) (hC:Cl U b off vs) (hop:o.op=.load t x) (hx:ev σ x=.pointer (some ⟨b,off + f,none⟩)) (hag:∀ w,(isAgg t).run P w=.ok true w) (hsz:∀ w,(sizeOf t).run P w=.ok n w) (hv:(vs.drop f).take n=us) (hn:us.length=n):wGD P σ w o (.agg us.toArray) :=
 fun _ k=>Runs.ldA hop hx hag hsz hn fun j v hj=>by
  rw [Nat.add_assoc];exact hC.cell (hS.grow k) (wEw hv j v hj)
theorem wDo {α:Type} {f:α->List Value} {sz:Nat} (hf:∀ x,(f x).length=sz):∀ (l:List α) (i j:Nat) (x:α) (v:Value),l[i]?=some x->(f x)[j]?=some v->(l.flatMap f)[i * sz + j]?=some v
 | [],i,j,x,v,hi,hj=>by simp at hi
 | y :: l,0,j,x,v,hi,hj=>by
  simp at hi;subst hi
  have:j < (f y).length:=by
   rcases nW j (f y).length with h | h
   ·exact h
   ·rw [ny h] at hj;cases hj
  simp only [nZ,aB,kc]
  rw [nT this];exact hj
 | y :: l,i + 1,j,x,v,hi,hj=>by
  have ih:=wDo hf l i j x v (by simpa using hi) hj
  simp only [nZ]
  rw [nN (by rw [hf,kH];omega),hf,show (i + 1) * sz + j - sz=i * sz + j from by rw [kH];omega]
  exact ih
theorem wAI {α:Type} {f:α->List Value} {sz:Nat} (hf:∀ x,(f x).length=sz) (l:List α):(l.flatMap f).length=l.length * sz:=by
 induction l with
 | nil=>simp
 | cons x l ih=>simp [ih,hf,kH];omega
theorem Sl.el {α:Type} {sz c:Nat} {A:Option Addr} {enc:α->List Value} {xs:List α} (h:Sl U sz A c xs.length (xs.flatMap enc)) (hf:∀ x,(enc x).length=sz) {k:Nat} {x:α} (hx:xs[k]?=some x) :
  ∃ b off,A=some ⟨b,off,none⟩/\Cl U b (off + k * sz) (enc x):=by
 have hlt:=(nA.1 hx).1
 rcases h.mem with h0 | ⟨b,off,arr,T,fr,hA,h2,h3⟩
 ·omega
 ·refine ⟨b,off,hA,arr,T,fr,h2,fun j v hj=>?_⟩
  have:=wDo hf xs k j x v hx hj
  rw [<- h3,nL] at this
  split at this
  ·rw [nO] at this
   rw [show off + k * sz + j=off + (k * sz + j) from by omega]
   simpa using this
  ·cases this
theorem St.rowSome {j c T sz:Nat} {A:Option Addr} {cs:List Value} (hS:St B U L w) (hk:L[j]?=some (.row A c T sz cs)) (hn:0 < cs.length):∃ b,A=some ⟨b,0,none⟩:=by
 rcases hS.at_ _ (hH hk) with ⟨_,_,rfl⟩ | ⟨b,cur,h,_⟩
 ·simp at hn
 ·exact ⟨b,h⟩
theorem wES (vs:List Value):∀ (p l:List Value) (off:Nat),wEJ (p ++ l) (p.length + off) vs=p ++ wEJ l off vs:=by
 induction vs with
 | nil=>intro p l off;rfl
 | cons v vs ih =>
  intro p l off
  simp only [wEJ]
  rw [ko _ _ (by omega),show p.length + off - p.length=off from by omega,show p.length + off + 1=p.length + (off + 1) from by omega,ih]
theorem wEl (vs:List Value):∀ (p l:List Value) (off:Nat),off + vs.length <= p.length->wEJ (p ++ l) off vs=wEJ p off vs ++ l:=by
 induction vs with
 | nil=>intro p l off _;rfl
 | cons v vs ih =>
  intro p l off h
  simp only [wEJ]
  simp only [List.length_cons] at h
  rw [List.set_append_left _ _ (by omega),ih _ _ _ (by simp;omega)]
theorem wEB {α:Type} {f:α->List Value} {sz:Nat} (hf:∀ x,(f x).length=sz) {vs:List Value} {off:Nat}:∀ (l:List α) (k:Nat) (x y:α),l[k]?=some x->off + vs.length <= sz->wEJ (f x) off vs=f y->wEJ (l.flatMap f) (k * sz + off) vs=(l.set k y).flatMap f
 | [],k,x,y,hk,_,_=>by simp at hk
 | z :: l,0,x,y,hk,ho,hs=>by
  simp at hk;subst hk
  simp only [aB,kc,nZ,aC]
  rw [wEl _ _ _ _ (by rw [hf];exact ho),hs]
 | z :: l,k + 1,x,y,hk,ho,hs=>by
  have ih:=wEB hf l k x y (by simpa using hk) ho hs
  simp only [nZ,aA]
  rw [show (k + 1) * sz + off=(f z).length + (k * sz + off) from by rw [hf,kH];omega,wES,ih]
theorem wJN {w w':World} {c c2 n m:Nat} {A:Option Addr} {a:Addr} {t ty e:TypeId} {inf:TypeInfo} {z v':Value} {cs news:List Value} (ht:P.underlying t=some (.slice e)) (hi:P.info? e=some inf) (hz:inf.zero=some z)
  (hown:w.ownsRow 0 e inf.size (.slice A n c) n cs) (hl:news.length=m * inf.size) (hnews:∀ j u,news[j]?=some u->w.cell? (a.add j)=some u) (h1:∀ u ∈ news,u.oneCell'=true) (h63:n + m <= maxLen) (hbytes:(n + m) * inf.bytes <= 140737488355328)
  (hr:(Builtin.append_ #[t,t] ty #[.slice A n c,.slice (some a) m c2]).run P w=.ok v' w'):w.drawn <= w'.drawn:=by
 have hsmall:n + m <= 9223372036854775807:=by simp only [maxLen] at h63;omega
 rcases hown.2 with ⟨h0,rfl⟩ | ⟨g,cap,cur,h0,hbg,hg,hnc,hcm,hcs,htake⟩
 ·cases h0
  by_cases hm:m=0
  ·subst hm
   simp [Builtin.append_,run_underlying ht,sizeOf,typeInfo,hi,Builtin.lenOf,Builtin.firstCells,loadCells,loadCellsFrom] at hr
   rw [<- hr.2]
   exact nK _
  ·have hr2:=run_append_nil (P:=P) w t ty e inf z ht hi hz a m c2 news hl hnews (by omega) (by omega) (by have hb:=hbytes;simp only [kc] at hb;omega)
   rw [hr2] at hr
   cases hr
   exact aJ _
 ·cases h0
  by_cases hroom:n + m <= c
  ·have hfit:n * inf.size + news.length <= cur.size:=by rw [hl,hcs,<- kH];exact kA _ hroom
   have hr2:=run_append_room (P:=P) w t ty e inf ht hi g n c cur hg a m c2 news hl hnews h1 hroom hfit
   rw [hr2] at hr
   cases hr
   exact nK _
  ·have holds:∀ j u,cs[j]?=some u->w.cell? ((⟨g,0,none⟩:Addr).add j)=some u:=hown.cells (g:=g) rfl
   have hr2:=run_append_grow (P:=P) w t ty e inf z ht hi hz ⟨g,0,none⟩ n c cs hown.1 holds a m c2 news hl hnews (by omega) (by omega) (growslice_fits (by omega) hbytes)
   rw [hr2] at hr
   cases hr
   exact aJ _
theorem wEK {w:World} {A A2:Option Addr} {c c2 n m sz:Nat} {t ty e:TypeId} {inf:TypeInfo} {z:Value} {cs news:List Value} (ht:P.underlying t=some (.slice e)) (hi:P.info? e=some inf) (hz:inf.zero=some z)
  (hsize:inf.size=sz) (hzs:z.cells.size=sz) (hsz:0 < sz) (hrow:RowAt w A c e sz cs) (hn:cs.length=n * sz) (hl:news.length=m * sz)
  (hnews:m=0 \/ ∃ a,A2=some a/\∀ j u,news[j]?=some u->w.cell? (a.add j)=some u) (h1:∀ u ∈ news,u.oneCell'=true) (hb:(n + m) * inf.bytes <= 140737488355328) (hby:0 < inf.bytes) :
  ∃ A' c' w',(Builtin.append_ #[t,t] ty #[.slice A n c,.slice A2 m c2]).run P w=.ok (.slice A' (n + m) c') w'/\RowAt w' A' c' e sz (cs ++ news)/\Keep w w' (fun b=>A.map (·.block)=some b) /\
   (∀ b,A'.map (·.block)=some b->A.map (·.block)=some b \/ w.heap.size <= b):=by
 have own:w.ownsRow 0 e sz (.slice A n c) n cs:=by
  refine ⟨hn,?_⟩
  rcases hrow with ⟨rfl,rfl,rfl⟩ | ⟨b,cur,rfl,h1,h2,h3,h4,h5⟩
  ·have:n=0:=by
    rcases nj n with h | h
    ·exact h
    ·have:=kG h hsz;simp at hn;omega
   subst this;exact .inl ⟨rfl,rfl⟩
  ·exact .inr ⟨b,c,cur,rfl,kl _,h1,nc (hn ▸ h2) hsz,h3,h4,by rw [<- hn];exact h5⟩
 have hnm:n + m <= maxLen:=by
  have:n + m <= (n + m) * inf.bytes:=ke _ hby
  have:(140737488355328:Nat) <= maxLen:=by decide
  omega
 have fin:∀ (a:Addr),(∀ j u,news[j]?=some u->w.cell? (a.add j)=some u)->∃ A' c' w',(Builtin.append_ #[t,t] ty #[.slice A n c,.slice (some a) m c2]).run P w=.ok (.slice A' (n + m) c') w'/\RowAt w' A' c' e sz (cs ++ news)/\Keep w w' (fun b=>A.map (·.block)=some b) /\
   (∀ b,A'.map (·.block)=some b->A.map (·.block)=some b \/ w.heap.size <= b):=by
  intro a ha
  obtain ⟨v',w',hr,hown,hg,_,hbk⟩:=run_append_own_at (P:=P) (w:=w) 0 t ty e inf z sz inf.bytes ht hi hz hsize rfl hzs hsz (.slice A n c) n cs own a m c2 news hl ha h1 hnm hb (kl _)
  have ob:∀ {A:Option Addr} {n c:Nat},(aK A n c).ownBlock=A.map (·.block):=by intro A n c;cases A <;> rfl
  have hlen:(cs ++ news).length=(n + m) * sz:=by simp [hn,hl,kH]
  have hv:∃ A' c',v'=.slice A' (n + m) c'/\RowAt w' A' c' e sz (cs ++ news):=by
   rcases hown.2 with ⟨h1,h2⟩ | ⟨g,cap,cur,h1,h2,h3,h4,h5,h6,h7⟩
   ·refine ⟨none,0,by rw [h1];simp;omega,.inl ⟨rfl,rfl,?_⟩⟩
    rw [h2,aB] at hlen;exact nw hlen
   ·exact ⟨some ⟨g,0,none⟩,cap,h1,.inr ⟨g,cur,rfl,h3,by rw [hlen];exact kA _ h4,h5,h6,by rw [hlen];exact h7⟩⟩
  obtain ⟨A',c',rfl,hrow'⟩:=hv
  rw [ob,ob] at hbk
  refine ⟨A',c',w',hr,hrow',⟨hg.os,⟨hg.tape,wJN (A:=A) (a:=a) ht hi hz (hsize ▸ own) (hsize ▸ hl) ha h1 hnm hb hr⟩,hg.output,hg.size,fun k hk hx=>hg.block k hk fun e=>hx ?_⟩,fun b hb=>?_⟩
  ·rw [ob] at e;exact e.symm
  ·rcases hbk with h | h
   ·rw [h] at hb;exact .inl hb
   ·rw [h] at hb;cases hb;exact .inr (nK _)
 cases A2 with
 | some a =>
  rcases hnews with h0 | ⟨a',ha,hh⟩
  ·subst h0
   have:news=[]:=by simp at hl;exact hl
   subst this
   exact fin a (fun j u h=>by simp at h)
  ·cases ha;exact fin a hh
 | none =>
  rcases hnews with h0 | ⟨a',ha,hh⟩
  ·subst h0
   have:news=[]:=by simp at hl;exact hl
   subst this
   have hle:n <= c:=by
    rcases hrow with ⟨rfl,rfl,rfl⟩ | ⟨b,cur,rfl,h1,h2,h3,h4,h5⟩
    ·have:n=0:=by
      rcases nj n with h | h
      ·exact h
      ·have:=kG h hsz;simp at hn;omega
     omega
    ·exact nc (hn ▸ h2) hsz
   refine ⟨A,c,w,?_,by simpa using hrow,Keep.refl w _,fun b hb=>.inl hb⟩
   have hsz2:∀ w,(sizeOf e).run P w=.ok sz w:=by
    intro w;simp [sizeOf,typeInfo,hi,hsize]
   have hu:∀ w,(underlying t).run P w=.ok (.slice e) w:=by intro w;simp [underlying,ht]
   cases A with
   | none=>simp [Builtin.append_,hu,hsz2,Builtin.lenOf,Builtin.firstCells,hle]
   | some a=>simp [Builtin.append_,hu,hsz2,Builtin.lenOf,Builtin.firstCells,hle,storeCells]
  ·cases ha
end
end Go.KL
namespace Go.KL
open Go.RowKit
section
variable {P:Program} {σ:Env} {w:World} {o:Oper}
theorem Runs.iaN {t e:TypeId} {x y:Operand} {A:Option Addr} {b off len cap sz k:Nat} (ho:o.op=.indexAddr t x y) (hx:ev σ x=.slice A len cap) (hA:A=some ⟨b,off,none⟩) (hy:ev σ y=.int .i64 (k:Int))
  (ht:∀ w,(underlying t).run P w=.ok (.slice e) w) (hsz:∀ w,(sizeOf e).run P w=.ok sz w) (h1:k < len):Runs P σ w o (.pointer (some ⟨b,off + k * sz,none⟩)) w:=by
 subst hA
 have:=Runs.ia (P:=P) (w:=w) ho hx hy ht hsz (by omega) (by omega)
 simpa using this
theorem Runs.iaI {t e:TypeId} {x y:Operand} {A:Option Addr} {b off len cap sz:Nat} {i:Int} (ho:o.op=.indexAddr t x y) (hx:ev σ x=.slice A len cap) (hA:A=some ⟨b,off,none⟩) (hy:ev σ y=.int .i64 i)
  (ht:∀ w,(underlying t).run P w=.ok (.slice e) w) (hsz:∀ w,(sizeOf e).run P w=.ok sz w) (h0:0 <= i) (h1:i < len):Runs P σ w o (.pointer (some ⟨b,off + i.toNat * sz,none⟩)) w:=by
 subst hA
 exact Runs.ia ho hx hy ht hsz h0 h1
theorem wAo:nu (fun (p:Nat × Operand)=>(p.1,ev σ p.2)) []=[]:=rfl
theorem wAR {i:Nat} {x:Operand} {l:List (Nat × Operand)} {v:Value} {vs:List (Nat × Value)} (h:ev σ x=v) (ht:nu (fun (p:Nat × Operand)=>(p.1,ev σ p.2)) l=vs) :
  nu (fun (p:Nat × Operand)=>(p.1,ev σ p.2)) ((i,x) :: l)=(i,v) :: vs:=by rw [kQ,h,ht]
def lay (place:Nat->Option (Nat × Nat)):List Value->List (Nat × Value)->Option (List Value)
 | cells,[]=>some cells
 | cells,(i,v) :: rest =>
  match place i with
  | none=>none
  | some (off,size)=>if v.cells.size == size && nU (off + size) cells.length then lay place (wEJ cells off v.cells.toList) rest else none
theorem wMd (vs:List Value):∀ (l:List Value) (off j:Nat),(vs.zipIdx j).foldl (fun (cs:Array Value) (c,i)=>cs.setIfInBounds (off + i) c) l.toArray=(wEJ l (off + j) vs).toArray:=by
 induction vs with
 | nil=>intro l off j;rfl
 | cons v vs ih =>
  intro l off j
  simp only [List.zipIdx_cons,List.foldl_cons,List.setIfInBounds_toArray]
  rw [ih]
  simp [wEJ,Nat.add_assoc]
theorem wDq (place:Nat->Option (Nat × Nat)) (parts:List (Nat × Value)):∀ (cells:List Value) (cs:List Value),lay place cells parts=some cs->Instr.fill place cells.toArray parts=some cs.toArray:=by
 induction parts with
 | nil=>intro cells cs h;simp only [lay,nG] at h;subst h;rfl
 | cons p rest ih =>
  intro cells cs h
  obtain ⟨i,v⟩:=p
  unfold lay at h
  unfold Instr.fill
  cases hp:place i with
  | none=>simp [hp] at h
  | some q =>
   obtain ⟨off,size⟩:=q
   simp only [hp] at h ⊢
   split at h
   ·rename_i hc
    simp only [nR,beq_iff_eq] at hc
    have hle:=kM hc.2
    have hc1:=hc.1
    rw [if_neg (by rw [hc1];simp;exact hle)]
    rw [<- ih _ _ h]
    congr 1
    rw [<- Array.foldl_toList,Array.toList_zipIdx]
    have:=wMd v.cells.toList cells off 0
    simpa using this
   ·cases h
def wPy (P:Program) (fs:Array Field) (pl:List (Nat × Nat)):Prop:=∀ w,((fs.mapM fun f=>do pure (f.offset,<- sizeOf f.type):Sem (Array (Nat × Nat)))).run P w=.ok pl.toArray w
def wFh (P:Program) (t:TypeId) (pl:List (Nat × Nat)):Prop:=∃ fs,(∀ w,(underlying t).run P w=.ok (.struct fs) w)/\wPy P fs pl
theorem Runs.build {t:TypeId} {ps:List (Nat × Operand)} {pv:List (Nat × Value)} {zv:Value} {z cs:List Value} {pl:List (Nat × Nat)} (ho:o.op=.build t ps.toArray)
  (hp:nu (fun (p:Nat × Operand)=>(p.1,ev σ p.2)) ps=pv) (hz:∀ w,(zeroValue t).run P w=.ok zv w) (hT:wFh P t pl)
  (hzc:zv.cells=z.toArray) (hl:lay (fun i=>pl[i]?) z pv=some cs):Runs P σ w o (.agg cs.toArray) w:=by
 refine ⟨by rw [ho];rfl,?_⟩
 have hf:=wDq _ _ _ _ hl
 obtain ⟨fs,hs,hpl⟩:=hT
 have hpl':=hpl w
 subst hp
 simp only [execOp,ho,Instr.build,Sem.run_bind,hz,Result.andThen_ok,hs,hpl',hzc,kL,ng,hf,Sem.run_pure]
theorem Runs.buildA {t e n sz:Nat} {ps:List (Nat × Operand)} {pv:List (Nat × Value)} {zv:Value} {z cs:List Value} (ho:o.op=.build t ps.toArray)
  (hp:nu (fun (p:Nat × Operand)=>(p.1,ev σ p.2)) ps=pv) (hz:∀ w,(zeroValue t).run P w=.ok zv w) (hs:∀ w,(underlying t).run P w=.ok (.array n e) w) (hsz:∀ w,(sizeOf e).run P w=.ok sz w)
  (hzc:zv.cells=z.toArray) (hl:lay (fun i=>some (i * sz,sz)) z pv=some cs):Runs P σ w o (.agg cs.toArray) w:=by
 refine ⟨by rw [ho];rfl,?_⟩
 have hf:=wDq _ _ _ _ hl
 subst hp
 simp only [execOp,ho,Instr.build,Sem.run_bind,hz,Result.andThen_ok,hs,hsz,hzc,kL,hf,Sem.run_pure]
end
def wSB (P:Program) (w:World) (σ:Env):List ResultVar->List Value->Prop
 | [],[]=>True
 | .tmp t :: rs,v :: vs=>σ t=v/\wSB P w σ rs vs
 | .cell a t :: rs,v :: vs=>(∃ ad,σ a=.pointer (some ad)/\(loadVar t ad).run P w=.ok v w)/\wSB P w σ rs vs
 | _,_=>False
theorem wJO {P:Program} {w:World} {σ:Env}:∀ (rs:List ResultVar) (vs:List Value),wSB P w σ rs vs ->
  (rs.mapM (wGA σ)).run P w=.ok vs w:=by
 intro rs
 induction rs with
 | nil=>intro vs h;cases vs with
  | nil=>simp
  | cons v vs=>exact h.elim
 | cons r rs ih =>
  intro vs h
  cases vs with
  | nil=>cases r <;> exact h.elim
  | cons v vs =>
   cases r with
   | tmp t =>
    obtain ⟨h1,h2⟩:=h
    simp [List.mapM_cons,ih vs h2,wGA,h1]
   | cell a t =>
    obtain ⟨⟨ad,h0,h1⟩,h2⟩:=h
    simp [List.mapM_cons,ih vs h2,wGA,h0,asAddr,h1]
theorem wIh {P:Program} {w:World} {σ:Env} {r:ResultVar} {v:Value} (h:wSB P w σ [r] [v]):(wCs #[r] σ).run P w=.ok v w:=by
 have:=wJO _ _ h
 rw [show (#[r]:Array ResultVar)=[r].toArray from rfl]
 simp only [wCs,aI,Sem.run_bind,Sem.run_map,this,Result.andThen_ok]
 simp
theorem wCZ {P:Program} {w:World} {σ:Env} {rs:List ResultVar} {vs:List Value} (h:wSB P w σ rs vs) (hn:(vs.length == 1)=false):(wCs rs.toArray σ).run P w=.ok (.tuple vs.toArray) w:=by
 have:=wJO _ _ h
 simp only [wCs,aI]
 simp [this]
 exact fun e=>by rw [e] at hn;cases hn
theorem wQe {P:Program} {w:World} {t T:TypeId} {b off:Nat} {l:List Value} {v:Value} (hag:∀ w,(isAgg t).run P w=.ok false w) (hB:Blk w b T l) (hv:l[off]?=some v) :
  (loadVar t ⟨b,off,none⟩).run P w=.ok v w:=by
 simp [loadVar,hag,load,Sem.run,hB.cell hv]
theorem wBR {P:Program} {w:World} {t T:TypeId} {b off n:Nat} {l vs:List Value} (hag:∀ w,(isAgg t).run P w=.ok true w) (hsz:∀ w,(sizeOf t).run P w=.ok n w) (hB:Blk w b T l)
  (hv:(l.drop off).take n=vs) (hn:vs.length=n):(loadVar t ⟨b,off,none⟩).run P w=.ok (.agg vs.toArray) w:=by
 simp [loadVar,hag,hsz,run_loadCells vs hn (hB.cells hv)]
section
variable {N:Nat} {P:Program} {l:List Oper} {Q:wDc} {D:List Deferred} {ks:List Nat} {σ:Env} {w:World} {i d:Nat} {s:Sch} {o:Oper} {B:Base} {U:PHeap} {L:List Res}
theorem OKS.buildSlice {t e n sz:Nat} {ps:List (Nat × Operand)} {pv:List (Nat × Value)} {z:Value} {zs cs:List Value} (ho:l[i]?=some o) (hd:o.dst=some d) (hN:nB d N=true) (hw:wanted l σ o=true) (hop:o.op=.buildSlice t n ps.toArray)
  (hp:nu (fun (p:Nat × Operand)=>(p.1,ev σ p.2)) ps=pv) (ht:∀ w,(underlying t).run P w=.ok (.slice e) w) (hs:∀ w,(sizeOf e).run P w=.ok sz w) (hz:∀ w,(zeroValue e).run P w=.ok z w)
  (hn:nU (n * sz) 16777216=true) (hn0:nB 0 (n * sz)=true)
  (hzs:(nt (n * sz)).map (fun i=>z.cells[i % z.cells.size]!)=zs) (hl:lay (fun i=>some (i * sz,sz)) zs pv=some cs) (hlen:cs.length=n * sz) (hS:St B U L w)
  (k:∀ w' b,St B U (.row (some ⟨b,0,none⟩) n e sz cs :: L) w'->OKS N P l Q D ks s (upd σ d (.slice (some ⟨b,0,none⟩) n n)) w'):OKS N P l Q D ks (.fx i s .stop) σ w:=by
 have hle:=kM hn
 have hn':¬ n * sz > 2 ^ 24:=by omega
 have hsz0:0 < n * sz:=by simpa [nk] using hn0
 have hn0':¬ n * sz=0:=by omega
 have hf:=wDq _ _ _ _ hl
 have hzs:(Array.range (n * sz)).map (z.cells[· % z.cells.size]!)=zs.toArray:=by rw [<- List.toArray_range,kL,hzs]
 subst hp
 have hmax:n <= maxLen:=by
  have h1:0 < sz:=by
   rcases nj sz with h | h
   ·subst h;omega
   ·exact h
  have:=ke n h1
  have:(16777216:Nat) <= maxLen:=by decide
  omega
 refine OKS.v (v:=.slice (some ⟨w.heap.size,0,none⟩) n n) (w':=w.alloc (.cells cs.toArray e)) ho hd hN hw ⟨by rw [hop];rfl,?_⟩ (.inr (wBY w _))
  (k _ _ (hS.new (wBY w _) (.inr ⟨_,cs.toArray,rfl,wER w cs e,by rw [hlen];exact nK _,hmax,by simp [hlen],by simp⟩) rfl (nK _)))
 simp only [execOp,hop,Instr.buildSlice,Sem.run_bind,ht,hs,hz,Result.andThen_ok,kL,if_neg hn',if_neg hn0',Sem.run_pure,hzs,hf]
 simp [newRow,newObj,Sem.run,Result.andThen]
theorem OKS.buildSlice0 {t e:Nat} (sz:Nat) (ho:l[i]?=some o) (hd:o.dst=some d) (hN:nB d N=true) (hw:wanted l σ o=true) (hop:o.op=.buildSlice t 0 #[])
  (ht:∀ w,(underlying t).run P w=.ok (.slice e) w) (hs:∀ w,(sizeOf e).run P w=.ok sz w) (hS:St B U L w)
  (k:∀ w' b,St B U (.row (some ⟨b,0,none⟩) 0 e sz [] :: L) w'->OKS N P l Q D ks s (upd σ d (.slice (some ⟨b,0,none⟩) 0 0)) w'):OKS N P l Q D ks (.fx i s .stop) σ w:=by
 refine OKS.v (v:=.slice (some ⟨w.heap.size,0,none⟩) 0 0) (w':=w.alloc (.cells #[] e)) ho hd hN hw ⟨by rw [hop];rfl,?_⟩ (.inr (wBY w _))
  (k _ _ (hS.new (wBY w _) (.inr ⟨_,#[],rfl,wER w [] e,by simp,kl _,by simp,by simp⟩) rfl (nK _)))
 simp [execOp,hop,Instr.buildSlice,ht,hs,newRow,newObj,Sem.run,Result.andThen,Instr.fill]
 rw [show (Array.range 0)=#[] from rfl,Array.map_empty]
theorem St.srcR {j c T sz m:Nat} {A:Option Addr} {cs:List Value} (hS:St B U L w) (hk:L[j]?=some (.row A c T sz cs)) (hz:0 < sz) (hn:cs.length=m * sz):m=0 \/ ∃ a,A=some a/\∀ j u,cs[j]?=some u->w.cell? (a.add j)=some u:=by
 rcases hS.at_ _ (hH hk) with ⟨_,_,rfl⟩ | ⟨b,cur,rfl,h1,h2,h3,h4,h5⟩
 ·left
  rcases nj m with h | h
  ·exact h
  ·have:=kG h hz;simp at hn;omega
 ·right
  refine ⟨_,rfl,fun j u hj=>?_⟩
  rw [wEY,kc]
  exact hS.rowCell hk hj
theorem St.srcS {sz c m:Nat} {A:Option Addr} {cs:List Value} (hS:St B U L w) (h:Sl U sz A c m cs):m=0 \/ ∃ a,A=some a/\∀ j u,cs[j]?=some u->w.cell? (a.add j)=some u:=by
 rcases h.mem with h0 | ⟨b,off,arr,T,fr,rfl,h2,h3⟩
 ·exact .inl h0
 ·right
  refine ⟨_,rfl,fun j u hj=>?_⟩
  rw [wEY]
  rw [<- h3,nL] at hj
  split at hj
  ·rw [nO] at hj
   simpa [World.cell?,hS.fro _ _ h2] using hj
  ·cases hj
theorem St.pick (h:St B U L w) (js:List Nat) (L':List Res) (hn:js.Nodup) (hL:js.map (fun j=>L[j]?)=L'.map some):St B U L' w:=by
 have hlen:js.length=L'.length:=by have:=congrArg aL hL;simpa using this
 have get:∀ (i:Nat) (r:Res),L'[i]?=some r->∃ j,js[i]?=some j/\L[j]?=some r:=by
  intro i r hi
  have h1:(L'.map some)[i]?=some (some r):=by rw [nq,hi];rfl
  rw [<- hL,nq] at h1
  cases hj:js[i]? with
  | none=>rw [hj] at h1;cases h1
  | some j=>rw [hj] at h1;simp only [kC,nG] at h1;exact ⟨j,rfl,h1⟩
 have mem:∀ r ∈ L',r ∈ L:=fun r hr=>by
  obtain ⟨i,hi⟩:=nJ hr
  obtain ⟨j,_,h2⟩:=get i r hi
  exact hH h2
 refine ⟨h.os,h.tape,h.output,h.size,h.old,h.fro,h.le,h.src,fun r hr=>h.at_ r (mem r hr),fun r hr=>h.own r (mem r hr),?_⟩
 intro i j r s b hi hj hr hs
 obtain ⟨i',h1,h2⟩:=get i r hi
 obtain ⟨j',h3,h4⟩:=get j s hj
 have:=h.dj _ _ r s b h2 h4 hr hs
 subst this
 exact (List.getElem?_inj (nA.1 h1).1 hn).1 (h1.trans h3.symm)
theorem wHO {α:Type} {enc:α->List Value} (h:∀ x,(enc x).all (·.oneCell')=true) (xs:List α):∀ u ∈ xs.flatMap enc,u.oneCell'=true:=by
 intro u hu
 obtain ⟨x,_,hx⟩:=List.mem_flatMap.1 hu
 exact nS.1 (h x) u hx
theorem OKS.append {α:Type} {t e sz j c c2 bytes:Nat} {A A2:Option Addr} {inf:TypeInfo} {z:Value} {x y:Operand} {enc:α->List Value} {xs ys zs:List α}
  (ho:l[i]?=some o) (hd:o.dst=some d) (hN:nB d N=true) (hw:wanted l σ o=true) (hop:o.op=.call { callee:=.builtin .append,args:=#[x,y],argTypes:=#[t,t] })
  (ht:P.underlying t=some (.slice e)) (hi:P.info? e=some inf) (hz:inf.zero=some z) (hsize:inf.size=sz) (hzs:z.cells.size=sz) (hsz:nB 0 sz=true) (hby:inf.bytes=bytes) (hb0:nB 0 bytes=true)
  (hS:St B U L w) (hk:L[j]?=some (.row A c e sz (xs.flatMap enc))) (hx:ev σ x=.slice A xs.length c) (hy:ev σ y=.slice A2 ys.length c2)
  (hsrc:ys.length=0 \/ ∃ a,A2=some a/\∀ j u,(ys.flatMap enc)[j]?=some u->w.cell? (a.add j)=some u) (hel:∀ x,(enc x).length=sz) (h1:∀ x,(enc x).all (·.oneCell')=true)
  (happ:app bytes xs ys=some zs) (hne:wGE (kOf ks i)=false)
  (k:∀ A' c' w',St B U (L.set j (.row A' c' e sz (zs.flatMap enc))) w'->OKS N P l Q D ks s (upd σ d (.slice A' zs.length c')) w'):OKS N P l Q D ks (.fx i s .stop) σ w:=by
 obtain ⟨rfl,hb⟩:=wPw happ
 have hb0':0 < bytes:=by simpa [nk] using hb0
 have hsz':0 < sz:=by simpa [nk] using hsz
 obtain ⟨A',c',w',r1,r2,r3,r4⟩:=wEK (P:=P) (ty:=o.type) (c2:=c2) ht hi hz hsize hzs hsz' (hS.at_ _ (hH hk)) (wAI hel xs) (wAI hel ys) hsrc (wHO h1 ys) (by rw [hby];exact hb) (by rw [hby];exact hb0')
 refine OKS.v (v:=.slice A' (xs ++ ys).length c') (w':=w') ho hd hN hw ⟨by rw [hop];rfl,?_⟩ (.inl hne) (k A' c' w' (hS.set hk r3 ?_ r4))
 ·rw [aD]
  simp [execOp,hop,resolve,invoke,builtin,hx,hy,r1,Result.andThen]
 ·rw [kv];exact r2
end
section
variable {r:Option Nat} {N:Nat} {P:Program} {Q:wDc} {D:List Deferred} {σ:Env} {w:World}
theorem CK.forN {S B:Type} {c:Code} {body:Nat->S->Option (S ⊕ B)} {n:Nat} {s0:S} {b:S ⊕ B} (I:Nat->S->Env->World->Prop) (hm:forN body n 0 s0=some b) (h0:I 0 s0 σ w)
  (hs:∀ k s x σ w,k < n->I k s σ w->body k s=some x->(∀ b',x=.inr b'->b=.inr b')->CK r N P c (wEI (fun D' σ' w'=>D'=D/\∃ s',x=.inl s'/\I (k + 1) s' σ' w') Q) D σ w)
  (he:∀ s σ w,I n s σ w->b=.inl s->CK r N P c (wEI (fun _ _ _=>False) Q) D σ w):CK r N P (.loop c) Q D σ w:=by
 refine CK.loopM (fun m σ w=>∃ k s,k + m=n/\KL.forN body m k s=some b/\I k s σ w) (m:=n) ⟨0,s0,by omega,hm,h0⟩ ?_
 rintro m σ w ⟨k,s,hk,hf,hI⟩
 cases m with
 | zero =>
  have e:k=n:=by omega
  subst e
  simp only [KL.forN,nG] at hf
  refine (he s σ w hI hf.symm).mono fun D' e σ' w' hq=>?_
  cases e with
  | normal=>exact hq.elim
  | _=>exact hq
 | succ m =>
  rw [KL.forN] at hf
  cases hx:body k s with
  | none=>rw [hx] at hf;cases hf
  | some x =>
   rw [hx] at hf
   refine (hs k s x σ w (by omega) hI hx ?_).mono fun D' e σ' w' hq=>?_
   ·rintro b' rfl;injection hf with hf;exact hf.symm
   ·cases e with
    | normal =>
     obtain ⟨rfl,s',rfl,hI'⟩:=hq
     exact ⟨rfl,m,by omega,k + 1,s',by omega,hf,hI'⟩
    | _=>exact hq
theorem CK.forN' {S:Type} {c:Code} {body:Nat->S->Option S} {n:Nat} {s0 b:S} (I:Nat->S->Env->World->Prop) (hm:forN' body n 0 s0=some b) (h0:I 0 s0 σ w)
  (hs:∀ k s x σ w,k < n->I k s σ w->body k s=some x->CK r N P c (wEI (fun D' σ' w'=>D'=D/\I (k + 1) x σ' w') Q) D σ w)
  (he:∀ σ w,I n b σ w->CK r N P c (wEI (fun _ _ _=>False) Q) D σ w):CK r N P (.loop c) Q D σ w:=by
 refine CK.loopM (fun m σ w=>∃ k s,k + m=n/\KL.forN' body m k s=some b/\I k s σ w) (m:=n) ⟨0,s0,by omega,hm,h0⟩ ?_
 rintro m σ w ⟨k,s,hk,hf,hI⟩
 cases m with
 | zero =>
  have e:k=n:=by omega
  subst e
  simp only [KL.forN',nG] at hf
  subst hf
  refine (he σ w hI).mono fun D' e σ' w' hq=>?_
  cases e with
  | normal=>exact hq.elim
  | _=>exact hq
 | succ m =>
  rw [KL.forN'] at hf
  cases hx:body k s with
  | none=>rw [hx] at hf;cases hf
  | some x =>
   rw [hx] at hf
   refine (hs k s x σ w (by omega) hI hx).mono fun D' e σ' w' hq=>?_
   cases e with
   | normal =>
    obtain ⟨rfl,hI'⟩:=hq
    exact ⟨rfl,m,by omega,k + 1,x,by omega,hf,hI'⟩
   | _=>exact hq
theorem CK.iter {S B:Type} {c:Code} {body:S->Option (S ⊕ B)} {n:Nat} {s0:S} {b:B} (I:S->Env->World->Prop) (hm:iter body n s0=some b) (h0:I s0 σ w)
  (hs:∀ s x σ w,I s σ w->body s=some x->(∀ b',x=.inr b'->b=b')->CK r N P c (wEI (fun D' σ' w'=>D'=D/\∃ s',x=.inl s'/\I s' σ' w') Q) D σ w):CK r N P (.loop c) Q D σ w:=by
 refine CK.loopM (fun m σ w=>∃ s,KL.iter body m s=some b/\I s σ w) (m:=n) ⟨s0,hm,h0⟩ ?_
 rintro m σ w ⟨s,hf,hI⟩
 cases m with
 | zero=>cases hf
 | succ m =>
  rw [KL.iter] at hf
  cases hx:body s with
  | none=>rw [hx] at hf;cases hf
  | some x =>
   rw [hx] at hf
   refine (hs s x σ w hI hx ?_).mono fun D' e σ' w' hq=>?_
   ·rintro b' rfl;injection hf with hf;exact hf.symm
   ·cases e with
    | normal =>
     obtain ⟨rfl,s',rfl,hI'⟩:=hq
     exact ⟨rfl,m,by omega,s',hf,hI'⟩
    | _=>exact hq
end
def encI (x:Int):List Value:=[.int .i64 x]
def encT (x:Bool):List Value:=[.bool x]
theorem OKS.e {N:Nat} {P:Program} {l:List Oper} {Q:wDc} {D:List Deferred} {ks:List Nat} {σ:Env} {w:World} (h:Q D .normal σ w):OKS N P l Q D ks .nil σ w:=h
theorem Runs.notT {P:Program} {σ:Env} {w:World} {o:Oper} {t:TypeId} {x:Operand} {b:Bool} (ho:o.op=.unOp .not t x) (hx:ev σ x=.bool b):Runs P σ w o (.bool !b) w:=Runs.not ho hx
section
variable {α:Type} {f:α->List Value} {sz:Nat}
theorem wDH (hf:∀ x,(f x).length=sz) (l:List α) (k j:Nat) (x:α) {off:Nat} {v:Value} (hx:l[k]?=some x) (ho:off=k * sz + j) (hv:(f x)[j]?=some v):(l.flatMap f)[off]?=some v:=by
 subst ho;exact wDo hf l k j x v hx hv
theorem wSR (hf:∀ x,(f x).length=sz) (l:List α) (k j:Nat) (x:α) {v:Value} (hx:l[k]?=some x) (hv:(f x)[j]?=some v):(l.flatMap f)[k * sz + j]?=some v:=wDo hf l k j x v hx hv
theorem wIN (hf:∀ x,(f x).length=sz) (l:List α) (k j:Nat) (x:α) {v:Value} {post:List Value} (hx:l[k]?=some x) (hv:(f x)[j]?=some v):(l.flatMap f ++ post)[k * sz + j]?=some v:=by
 have h:=wDo hf l k j x v hx hv
 rw [nT (nA.1 h).1];exact h
theorem wHP (hf:∀ x,(f x).length=sz) (l:List α) (k:Nat) (x:α) {off:Nat} {vs:List Value} (hx:l[k]?=some x) (ho:off=k * sz) (hv:f x=vs):((l.flatMap f).drop off).take sz=vs:=by
 subst ho hv
 have hlt:=(nA.1 hx).1
 have hle:k * sz + sz <= (l.flatMap f).length:=by
  rw [wAI hf,<- aE];exact kA _ hlt
 apply kV
 intro j
 rw [nL]
 by_cases hj:j < sz
 ·rw [if_pos hj,nO]
  have:j < (f x).length:=by rw [hf];exact hj
  rw [wDo hf l k j x _ hx (nE this),nE this]
 ·rw [if_neg hj,ny (by rw [hf];omega)]
theorem wEC {p rest:List Value} {n r:Nat} {v:Value} (hp:p.length=n) (hr:rest[r]?=some v):(p ++ rest)[n + r]?=some v:=by
 subst hp;rw [nN (by omega),show p.length + r - p.length=r from by omega];exact hr
theorem wED {b x y:Nat} (h:x=y):Value.pointer (some ⟨b,x,none⟩)=.pointer (some ⟨b,y,none⟩):=by rw [h]
theorem wEx (hf:∀ x,(f x).length=sz) {fo:Nat} (l:List α) (k:Nat) (x y:α) {off:Nat} {vs:List Value} (hx:l[k]?=some x) (ho:off=k * sz + fo) (hle:fo + vs.length <= sz) (hs:wEJ (f x) fo vs=f y):wEJ (l.flatMap f) off vs=(l.set k y).flatMap f:=by
 subst ho;exact wEB hf l k x y hx hle hs
theorem wSS (hf:∀ x,(f x).length=sz) {fo:Nat} (l:List α) (k:Nat) (x y:α) {vs:List Value} (hx:l[k]?=some x) (hle:fo + vs.length <= sz) (hs:wEJ (f x) fo vs=f y):wEJ (l.flatMap f) (k * sz + fo) vs=(l.set k y).flatMap f:=wEB hf l k x y hx hle hs
theorem wKy (hf:∀ x,(f x).length=sz) {fo:Nat} (l:List α) (k:Nat) (x y:α) {vs post:List Value} (hx:l[k]?=some x) (hle:fo + vs.length <= sz) (hs:wEJ (f x) fo vs=f y):wEJ (l.flatMap f ++ post) (k * sz + fo) vs=(l.set k y).flatMap f ++ post:=by
 have hlt:=(nA.1 hx).1
 have:k * sz + sz <= (l.flatMap f).length:=by rw [wAI hf,<- aE];exact kA _ hlt
 rw [wEl _ _ _ _ (by omega),wEB hf l k x y hx hle hs]
theorem wCn {p rest rest':List Value} {n r:Nat} {vs:List Value} (hp:p.length=n) (hs:wEJ rest r vs=rest'):wEJ (p ++ rest) (n + r) vs=p ++ rest':=by
 subst hp hs;exact wES vs p rest r
theorem wAa {n N:Nat} (m:Arr α n) (hf:∀ x,(f x).length=sz) (h:n * sz=N):(m.l.flatMap f).length=N:=by rw [wAI hf,m.h,h]
theorem wJP (h:∀ x,(f x).all one=true) (l:List α):(l.flatMap f).all one=true:=by
 rw [nS];intro u hu
 obtain ⟨x,_,hx⟩:=List.mem_flatMap.1 hu
 exact nS.1 (h x) u hx
theorem wPF (vs:List Value):∀ (l:List Value),vs.length=l.length->wEJ l 0 vs=vs:=by
 have key:∀ (vs p l:List Value),vs.length=l.length->wEJ (p ++ l) p.length vs=p ++ vs:=by
  intro vs
  induction vs with
  | nil=>intro p l h;simp at h;have:l=[]:=nw h.symm;subst this;rfl
  | cons v vs ih =>
   intro p l h
   cases l with
   | nil=>simp at h
   | cons u l =>
    simp only [wEJ]
    rw [ko _ _ (nK _),Nat.sub_self,aC]
    have:=ih (p ++ [v]) l (by simpa using h)
    simpa using this
 intro l h
 have:=key vs [] l h
 simpa using this
end
section
variable {N:Nat} {P:Program} {l:List Oper} {Q:wDc} {D:List Deferred} {ks:List Nat} {σ:Env} {w:World} {i d:Nat} {s:Sch} {o:Oper} {B:Base} {U:PHeap} {L:List Res}
def InT (ts:List Nat) (L:List Res):List Nat->Prop
 | []=>True
 | b :: T=>(∃ t,ts.contains t=true/\∃ r,L[t]?=some r/\r.has b)/\InT ts L T
def OutT (T:List Nat):List Res->Prop
 | []=>True
 | r :: rs=>(∀ b,r.has b->b ∈ T)/\OutT T rs
theorem InT.mem {ts:List Nat}:∀ {T:List Nat},InT ts L T->∀ b ∈ T,∃ t ∈ ts,∃ r,L[t]?=some r/\r.has b
 | [],_,_,h=>by cases h
 | c :: T,⟨⟨t,h1,r,h2,h3⟩,h⟩,b,hb=>by
  rcases nI.1 hb with rfl | hb
  ·exact ⟨t,by simpa using h1,r,h2,h3⟩
  ·exact InT.mem h b hb
theorem OutT.mem {T:List Nat}:∀ {L:List Res},OutT T L->∀ r ∈ L,∀ b,r.has b->b ∈ T
 | [],_,_,h=>by cases h
 | c :: L,⟨h1,h2⟩,r,hr=>by
  rcases nI.1 hr with rfl | hr
  ·exact h1
  ·exact OutT.mem h2 r hr
theorem St.keepT {T ts ix:List Nat} {L':List Res} {w2:World} (h:St B U L w) (hT:InT ts L T) (hn:ix.Nodup) (hp:ix.map (fun j=>L[j]?)=L'.map some) (hx:(ix.all fun i=>!ts.contains i)=true) (k:Keep w w2 (InL T)):St B U L' w2:=by
 have h':=h.pick ix L' hn hp
 have own:∀ b ∈ T,U b=none/\B.mine b:=fun b hb=>by
  obtain ⟨t,_,r,h2,h3⟩:=hT.mem b hb
  exact h.own r (hH h2) b h3
 refine ⟨k.os.trans h.os,k.tape.trans h.tape,k.output.trans h.output,nl h.size k.size,fun b hb hm=>?_,fun b o hb=>?_,h.le,h.src,fun r hr=>?_,h'.own,h'.dj⟩
 ·exact (k.block b (nh hb h.size) fun hc=>hm (own b hc).2).trans (h.old b hb hm)
 ·refine (k.block b (wAY (h.fro b o hb)) fun hc=>?_).trans (h.fro b o hb)
  rw [(own b hc).1] at hb;cases hb
 ·refine (h'.at_ r hr).keep k fun b hb hc=>?_
  obtain ⟨t,h1,q,h2,h3⟩:=hT.mem b hc
  obtain ⟨n,hn1⟩:=nJ hr
  have e:(L'.map some)[n]?=some (some r):=by rw [nq,hn1];rfl
  rw [<- hp,nq] at e
  cases hi:ix[n]? with
  | none=>rw [hi] at e;cases e
  | some m =>
   rw [hi] at e
   simp only [kC,nG] at e
   have:=h.dj m t r q b e h2 hb h3
   subst this
   have hm:=nS.1 hx m (hH hi)
   simp [h1] at hm
theorem OKS.mt {v:Value} {T:List Nat} (ts ix:List Nat) (L':List Res) (ho:l[i]?=some o) (hd:o.dst=some d) (hN:nB d N=true) (hw:wanted l σ o=true) (hS:St B U L w) (hc:chg l ks=InL T) (hT:InT ts L T)
  (hn:ix.Nodup) (hp:ix.map (fun j=>L[j]?)=L'.map some) (hx:(ix.all fun i=>!ts.contains i)=true) (hr:∀ w2,St B U L' w2->wGD P σ w2 o v) (hk:nD (kOf ks i) 3=false)
  (k:OKS N P l Q D ks s (upd σ d v) w):OKS N P l Q D ks (.fl i s) σ w :=
 ⟨o,ho,dlt hd hN,.inl ⟨hw,v,hr w (hS.pick ix L' hn hp),⟨fun e=>(by rw [e] at hk;cases hk),fun _ w2 k2=>hr w2 (hS.keepT hT hn hp hx (hc ▸ k2)) w2 (Keep.refl w2 _)⟩,(by rw [wCy hd];exact k)⟩⟩
theorem OKS.callHT {f:FuncId} {args:List Value} {wDc:PHeap->List Res->Value->Prop} {T:List Nat} (n:Nat) (ho:l[i]?=some o) (hd:o.dst=some d) (hN:nB d N=true) (hw:wanted l σ o=true) (he:Enters P σ w o f args) (hS:St B U L w)
  (hf:St ⟨w,L.take n,U⟩ U (L.take n) w->Gv P f args w (wCt w (L.take n) U wDc)) (hk:nD (kOf ks i) 2=false) (hc:chg l ks=InL T) (hT:OutT T (L.take n))
  (k:∀ U' L' v w',PHeap.Le U U'->St B U' (L' ++ L.drop n) w'->wDc U' L' v->OKS N P l Q D ks s (upd σ d v) w'):OKS N P l Q D ks (.fx i s .stop) σ w:=by
 refine ⟨⟨o,ho,dlt hd hN,.inl ⟨hw,.inr (.inr (.inl ⟨f,args,_,he,hf (hS.enterH n),?_⟩))⟩⟩,trivial⟩
 rintro v w' ⟨U',L',h1,h2⟩
 obtain ⟨h3,h4⟩:=hS.backH n h1
 exact ⟨⟨fun e=>(by rw [e] at hk;cases hk),fun _=>h1.kp.weak fun b _ ⟨r,hr,hb⟩=>(by rw [hc];exact hT.mem r hr b hb)⟩,by rw [wCy hd];exact k U' L' v w' h4 h3 h2⟩
theorem OKS.cutD {s0:Sch} {σ0:Env} {w0:World} (s:Sch) (M:Env->World->Prop) (h:∀ σ w,M σ w->OKS N P l Q D ks s σ w) (k:(∀ σ w,M σ w->OKS N P l Q D ks s σ w)->OKS N P l Q D ks s0 σ0 w0):OKS N P l Q D ks s0 σ0 w0:=k h
end
end Go.KL
namespace Go.KL
open Go.RowKit
def FnOK {X Y:Type} (P:Program) (U:PHeap) (v:Value) (AR:PHeap->X->List Value->Prop) (RR:PHeap->List Res->Value->Y->Prop) (h:X->Option Y):Prop :=
 ∃ fid fst cap,v=.func (.func fid) (List.toArray fst) (List.toArray cap)/\(∀ (args:Array Value) (w:World),(callFunc fid args).run P w=.ok (.enter fid args) w) /\
  ∀ U1 w1 x y vs,PHeap.Le U U1->St ⟨w1,[],U1⟩ U1 [] w1->AR U1 x vs->h x=some y->Gv P fid (fst ++ vs ++ cap) w1 (wCt w1 [] U1 fun U_ L_ v=>RR U_ L_ v y)
section
variable {N:Nat} {P:Program} {l:List Oper} {Q:wDc} {D:List Deferred} {ks:List Nat} {σ:Env} {w:World} {i d:Nat} {s:Sch} {o:Oper} {B:Base} {U:PHeap} {L:List Res}
theorem FnOK.le {X Y:Type} {U U':PHeap} {v:Value} {AR:PHeap->X->List Value->Prop} {RR:PHeap->List Res->Value->Y->Prop} {h:X->Option Y} (hF:FnOK P U v AR RR h) (hl:PHeap.Le U U'):FnOK P U' v AR RR h:=by
 obtain ⟨fid,fst,cap,e,hc,hg⟩:=hF
 exact ⟨fid,fst,cap,e,hc,fun U1 w1 x y vs h1=>hg U1 w1 x y vs (hl.trans h1)⟩
theorem FnOK.cells {X Y:Type} {v:Value} {AR:PHeap->X->List Value->Prop} {RR:PHeap->List Res->Value->Y->Prop} {h:X->Option Y} (hF:FnOK P U v AR RR h):v.cells=[v].toArray:=by
 obtain ⟨fid,fst,cap,rfl,_⟩:=hF;rfl
theorem OKS.callV {X Y:Type} {x:Operand} {al:List Operand} {ty:Array TypeId} {v:Value} {vs:List Value} {AR:PHeap->X->List Value->Prop} {RR:PHeap->List Res->Value->Y->Prop} {h:X->Option Y} {a:X} {y:Y}
  (ho:l[i]?=some o) (hd:o.dst=some d) (hN:nB d N=true) (hw:wanted l σ o=true) (hop:o.op=.call { callee:=.value x,args:=al.toArray,argTypes:=ty }) (hx:ev σ x=v) (hl:nu (ev σ) al=vs)
  (hS:St B U L w) (hF:FnOK P U v AR RR h) (hA:AR U a vs) (hm:h a=some y)
  (k:∀ U' L' v w',PHeap.Le U U'->St B U' (L' ++ L) w'->RR U' L' v y->OKS N P l Q D ks s (upd σ d v) w'):OKS N P l Q D ks (.fx i s .stop) σ w:=by
 obtain ⟨fid,fst,cap,rfl,hc,hg⟩:=hF
 exact OKS.callH 0 ho hd hN hw (Enters.mk hop hx hc hl rfl) hS (fun hs=>hg U w a y vs (PHeap.Le.refl U) hs hA hm) (.inr rfl) k
theorem Sl.nilA {sz c n:Nat} {cs:List Value} (h:Sl U sz none c n cs):n=0:=by
 rcases h.mem with h | ⟨b,off,arr,T,fr,h,_⟩
 ·exact h
 ·cases h
theorem wST {t:TypeId} {u:TypeDesc} (ht:∀ w,(underlying t).run P w=.ok u w) {e:TypeId} (hu:u=.slice e) (A:Option Addr) (n c:Nat) (w:World):(Op.equal t (.slice A n c) (.slice none 0 0)).run P w=.ok A.isNone w:=by
 unfold Op.equal Op.maxDepth
 subst hu
 rw [show (10000:Nat)=9999 + 1 from rfl,Op.equalIn]
 simp only [Sem.run_bind,ht,Result.andThen_ok]
 cases A <;> rfl
theorem Runs.eqNil {t u:TypeId} {x y:Operand} {A:Option Addr} {n c e:Nat} (ho:o.op=.binOp .eql t x y u) (hx:ev σ x=.slice A n c) (hy:ev σ y=.slice none 0 0) (ht:∀ w,(underlying t).run P w=.ok (.slice e) w):Runs P σ w o (.bool A.isNone) w :=
 ⟨by rw [ho];rfl,by simp [execOp,ho,hx,hy,binOp,eqGuard,wST ht rfl A n c]⟩
theorem Runs.neNil {t u:TypeId} {x y:Operand} {A:Option Addr} {n c e:Nat} (ho:o.op=.binOp .neq t x y u) (hx:ev σ x=.slice A n c) (hy:ev σ y=.slice none 0 0) (ht:∀ w,(underlying t).run P w=.ok (.slice e) w):Runs P σ w o (.bool !A.isNone) w :=
 ⟨by rw [ho];rfl,by simp [execOp,ho,hx,hy,binOp,eqGuard,wST ht rfl A n c]⟩
end
end Go.KL
namespace Go
section
variable {F:Fence} {n:Nat} {P:Program} {b:Frame} {a:Act} {k:List Item} {cs:List Frame} {w:World} {Q:Exit->Act->World->Prop}
theorem wDW {c:Code}:step P (lone (b.atR a (.code (.scope c) :: k)) cs w)=.next (lone (b.atR a (.code c :: .inScope c :: k)) cs w) :=
 step_lone_go (by simp [stepG,stepG.exec,Frame.atR])
theorem wIi {c:Code}:step P (lone (b.atR a (.inScope c :: k)) cs w)=.next (lone (b.atR a k) cs w) :=
 step_lone_go (by simp [stepG,stepG.exec,Frame.atR])
theorem wFi {c:Code} (h:c.wpIn F n P (fun e a w=>match e with | .goto _=>False | e=>Q e a w) a w):(Code.scope c).wpIn F n P Q a w:=by
 intro b k cs hro hb hr
 have h0:(lone (b.atR a (.code (.scope c) :: k)) cs w).fenced P F:=fenced_calm hb hr rfl
 obtain ⟨e,a₁,w₁,hq,harr⟩:=h b (.inScope c :: k) cs hro hb hr
 cases e with
 | normal=>exact ⟨.normal,a₁,w₁,hq,.head h0 wDW (StepsIn.trans harr (.one (fenced_calm hb hr rfl) wIi))⟩
 | exit id' =>
  have hx:exitTo id' (.inScope c :: k)=exitTo id' k:=by simp [exitTo]
  exact ⟨.exit id',a₁,w₁,hq,fun k' hk=>.head h0 wDW (harr.1 k' (by rw [hx];exact hk)),
   fun hr' hk=>let ⟨k₁,h1,h2⟩:=harr.2 hr' (by rw [hx];exact hk);⟨k₁,h1,.head h0 wDW h2⟩⟩
 | goto l=>exact hq.elim
 | ret=>exact ⟨_,a₁,w₁,hq,.of_steps (.one h0 wDW) harr⟩
 | panic ch=>exact ⟨_,a₁,w₁,hq,.of_steps (.one h0 wDW) harr⟩
 | outgrown=>exact ⟨_,a₁,w₁,hq,.of_steps (.one h0 wDW) harr⟩
end
end Go
namespace Go.KL
open Go.RowKit
def wSU (Q:wDc):wDc:=fun D e σ w=>match e with
 | .goto _=>False
 | e=>Q D e σ w
section
variable {r:Option Nat} {N:Nat} {P:Program} {Q:wDc} {D:List Deferred} {σ:Env} {w:World}
theorem CK.scope {c:Code} (h:CK r N P c (wSU Q) D σ w):CK r N P (.scope c) Q D σ w:=by
 intro a ha
 refine wFi (wpIn_mono (h a ha) ?_)
 rintro e a w ⟨σ,D,hr,q⟩
 cases e with
 | goto l=>exact q.elim
 | _=>exact ⟨σ,D,hr,q⟩
end
def MpR {K V:Type} (es:Array MapEntry) (mk:K->Value) (mv:V->Value) (l:List (K × V)):Prop:=es.toList.map (fun e=>(e.key,e.val))=l.map fun p=>(mk p.1,mv p.2)
structure KeyR {K:Type} [DecidableEq K] (P:Program) (kt:TypeId) (mk:K->Value):Prop where
 chk:∀ em x w,(Instr.checkKey em 10000 kt (mk x)).run P w=.ok () w
 same:∀ x,Instr.sameBits 10000 (mk x) (mk x)=true
 find:∀ {V:Type} (mv:V->Value) (es:List MapEntry) (l:List (K × V)) x w,es.map (fun e=>(e.key,e.val))=l.map (fun p=>(mk p.1,mv p.2))->(Instr.findKey kt (mk x) es).run P w=.ok ((wDG l x 0).map fun p=>(p.1,mv p.2)) w
theorem MpR.nil {K V:Type} (mk:K->Value) (mv:V->Value):MpR #[] mk mv ([]:List (K × V)):=rfl
section
variable {K V:Type} [DecidableEq K]
theorem wIC {P:Program} {kt:TypeId} {mk:K->Value} {mv:V->Value} (heq:∀ x y w,(Op.equal kt (mk x) (mk y)).run P w=.ok (decide (x=y)) w) (l:List (K × V)) (x:K) (w:World) :
  ∀ (es:List MapEntry) (i:Nat),es.map (fun e=>(e.key,e.val))=l.map (fun p=>(mk p.1,mv p.2))->(Instr.findAsking kt (mk x) es i).run P w=.ok ((wDG l x i).map fun p=>(p.1,mv p.2)) w:=by
 induction l with
 | nil=>intro es i h;cases es with
  | nil=>rfl
  | cons e es=>cases h
 | cons p l ih =>
  intro es i h
  cases es with
  | nil=>cases h
  | cons e es =>
   simp only [kQ,kk,kS] at h
   obtain ⟨⟨h1,h2⟩,h3⟩:=h
   obtain ⟨a,v⟩:=p
   simp only at h1 h2
   simp only [Instr.findAsking,Sem.run_bind,h1,heq,Result.andThen,wDG]
   by_cases e:x=a <;> simp [e,h2,ih es (i + 1) h3]
theorem KeyR.ofStruct {P:Program} {kt:TypeId} {mk:K->Value} {fs:Array Field} (hu:P.underlying kt=some (.struct fs)) (hc:∀ em x w,(Instr.checkKey em 10000 kt (mk x)).run P w=.ok () w) (hs:∀ x,Instr.sameBits 10000 (mk x) (mk x)=true)
  (heq:∀ x y w,(Op.equal kt (mk x) (mk y)).run P w=.ok (decide (x=y)) w):KeyR P kt mk:=by
 refine ⟨hc,hs,fun mv es l x w h=>?_⟩
 simp only [Instr.findKey,Sem.run_bind,run_underlying hu,Result.andThen]
 have hf:=wIC heq l x w es 0 h
 cases es with
 | nil=>cases l with
  | nil=>simp [Instr.findNow,wDG]
  | cons p l=>cases h
 | cons e es =>
  simp only [Instr.findNow,Instr.sameNow]
  exact hf
theorem KeyR.ofInt {P:Program} {kt:TypeId} {k:IntKind} (hu:P.underlying kt=some (.int k)):KeyR P kt (fun n:Int=>aF k n):=by
 refine ⟨fun em x w=>?_,fun x=>by simp [Instr.sameBits],fun {V} mv es l x w h=>?_⟩
 ·rw [show (10000:Nat)=9999 + 1 from rfl,Instr.checkKey]
  simp only [Sem.run_bind,run_underlying hu,Result.andThen]
  rfl
 ·have key:∀ (l:List (Int × V)) (es:List MapEntry) (i:Nat),es.map (fun e=>(e.key,e.val))=l.map (fun p=>(aF k p.1,mv p.2))->Instr.findNow (.int k) (.int k x) es i=some ((wDG l x i).map fun p=>(p.1,mv p.2)):=by
   intro l
   induction l with
   | nil=>intro es i h;cases es with
    | nil=>rfl
    | cons e es=>cases h
   | cons p l ih =>
    intro es i h
    cases es with
    | nil=>cases h
    | cons e es =>
     simp only [kQ,kk,kS] at h
     obtain ⟨⟨h1,h2⟩,h3⟩:=h
     obtain ⟨a,v⟩:=p
     simp only at h1 h2
     simp only [Instr.findNow,h1,Instr.sameNow,wDG,if_true]
     by_cases e:x=a
     ·subst e;simp [h2]
     ·have hb:(x == a)=false:=by simpa using e
      simp [e,hb,ih es (i + 1) h3]
  simp only [Instr.findKey,Sem.run_bind,run_underlying hu,Result.andThen,key l es 0 h]
  rfl
variable {N:Nat} {P:Program} {l:List Oper} {Q:wDc} {D:List Deferred} {ks:List Nat} {σ:Env} {w:World} {i d:Nat} {s:Sch} {o:Oper} {B:Base} {U:PHeap} {L:List Res}
omit [DecidableEq K] in
theorem OKS.both {alt:Sch} (h1:OKS N P l Q D ks (.fx i s .stop) σ w) (h2:OKS N P l Q D ks alt σ w):OKS N P l Q D ks (.fx i s alt) σ w:=⟨h1.1,h2⟩
theorem OKS.makeMap {t:TypeId} (ho:l[i]?=some o) (hd:o.dst=some d) (hN:nB d N=true) (hw:wanted l σ o=true) (hop:o.op=.makeMap t none) (hS:St B U L w)
  (k:∀ w' m,St B U (.obj m (.map #[] 0) :: L) w'->OKS N P l Q D ks s (upd σ d (.map (some m))) w'):OKS N P l Q D ks (.fx i s .stop) σ w:=by
 refine OKS.v (v:=.map (some w.heap.size)) (w':=w.alloc (.map #[] 0)) ho hd hN hw ⟨by rw [hop];rfl,?_⟩ (.inr (wBY w _)) (k _ _ (hS.new (wBY w _) (r:=.obj w.heap.size (.map #[] 0)) (heap_alloc_new w _) rfl (nK _)))
 simp [execOp,hop,Instr.makeMap,newObj,Sem.run,Result.andThen]
theorem St.objAt {j b:Nat} {o:Obj} (h:St B U L w) (hk:L[j]?=some (.obj b o)):w.heap[b]?=some o:=h.at_ _ (hH hk)
theorem St.lookup1 {mt kt et:TypeId} {x y:Operand} {j m ck:Nat} {es:Array MapEntry} {mk:K->Value} {mv:V->Value} {t:List (K × V)} {a:K} {z:V} (hS:St B U L w) (hk:L[j]?=some (.obj m (.map es ck))) (hop:o.op=.lookup mt x y false) (hx:ev σ x=.map (some m)) (hy:ev σ y=mk a)
  (hu:P.underlying mt=some (.map kt et)) (R:KeyR P kt mk) (hz:∀ w,(zeroValue et).run P w=.ok (mv z) w) (h:MpR es mk mv t):wGD P σ w o (mv (wEr t a z)):=by
 intro w' kw
 refine ⟨by rw [hop];rfl,?_⟩
 have hf:=R.find mv es.toList t a w' h
 have hm:=(hS.grow kw).objAt hk
 have hg:=wFg t a 0
 unfold wEr
 simp [execOp,hop,hx,hy,Instr.lookup,run_underlying hu,MapKept.run_getObj_map hm,R.chk,hf,Result.andThen,<- hg]
 cases e:wDG t a 0 <;> simp [hz,Result.andThen]
theorem wCJ (w:World) (r:Nat) (o:Obj):Keep w (w.putObj r o) (·=r):=⟨rfl,⟨rfl,nK _⟩,rfl,by simp,fun k _ hx=>World.putObj_heap_other hx⟩
theorem wEb {w:World} {m:Nat} (o:Obj) (h:m < w.heap.size):(w.putObj m o).heap[m]?=some o:=by
 simp [World.putObj,h]
theorem OKS.mapPut {mt kt et:TypeId} {x y z:Operand} {j m ck:Nat} {es:Array MapEntry} {mk:K->Value} {mv:V->Value} {t:List (K × V)} {a:K} {v:V} (ho:l[i]?=some o) (hd:o.dst=none) (hw:wanted l σ o=true) (hop:o.op=.mapUpdate mt x y z \/ o.op=.insert mt x y z) (hS:St B U L w) (hk:L[j]?=some (.obj m (.map es ck)))
  (hx:ev σ x=.map (some m)) (hy:ev σ y=mk a) (hv:ev σ z=mv v) (hu:P.underlying mt=some (.map kt et)) (R:KeyR P kt mk) (h:MpR es mk mv t) (hne:wGE (kOf ks i)=false)
  (k:∀ es' ck' w',MpR es' mk mv (mput t a v)->St B U (L.set j (.obj m (.map es' ck'))) w'->OKS N P l Q D ks s σ w'):OKS N P l Q D ks (.fx i s .stop) σ w:=by
 have hm:=hS.objAt hk
 have hlt:=wAY hm
 have hf:=R.find mv es.toList t a w h
 have fin:∀ (es':Array MapEntry) (ck':Nat),MpR es' mk mv (mput t a v)->(Instr.mapUpdate mt (.map (some m)) (mk a) (mv v)).run P w=.ok () (w.putObj m (.map es' ck'))->OKS N P l Q D ks (.fx i s .stop) σ w:=by
  intro es' ck' h1 h2
  refine OKS.u (w':=w.putObj m (.map es' ck')) ho hd hw ⟨by rcases hop with e | e <;> (rw [e];rfl),?_⟩ (.inl hne)
   (k es' ck' _ h1 (hS.set hk ((wCJ w m _).weak fun b _ e=>by rw [e];rfl) (wEb _ hlt) fun b hb=>.inl hb))
  rcases hop with e | e <;> simp [execOp,e,hx,hy,hv,h2,Result.andThen]
 cases e:wDG t a 0 with
 | none =>
  obtain ⟨e1,_⟩:=wEZ e v
  refine fin (es.push { key:=mk a,val:=mv v,born:=ck }) (ck + 1) ?_ ?_
  ·unfold MpR at h ⊢;rw [e1];simp [h]
  ·simp [Instr.mapUpdate,run_underlying hu,MapKept.run_getObj_map hm,R.chk,hf,e,Result.andThen,MapKept.run_setObj_map _ hm]
   rfl
 | some p =>
  obtain ⟨q,u⟩:=p
  obtain ⟨_,h2,h3,_⟩:=wEa e v
  rw [Nat.sub_zero] at h2 h3
  have hq:q < t.length:=(nA.1 h2).1
  have hl:es.size=t.length:=by have:=congrArg aL h;simpa using this
  have hkq:((es[q]?).map (·.key)).getD (mk a)=mk a:=by
   have h4:(es.toList.map (fun e=>(e.key,e.val)))[q]?=some (mk a,mv u):=by rw [h,nq,h2];rfl
   rw [nq] at h4
   cases h5:es.toList[q]? with
   | none=>rw [h5] at h4;cases h4
   | some e =>
    rw [h5] at h4
    simp only [kC,nG,kS] at h4
    have h6:es[q]?=some e:=by simpa using h5
    rw [h6];simp [h4.1]
  refine fin (es.modify q fun e=>{ e with key:=mk a,val:=mv v }) ck ?_ ?_
  ·unfold MpR at h ⊢
   rw [h3]
   apply kV
   intro n
   have hn:=congrArg (·[n]?) h
   simp only [nq] at hn ⊢
   rw [aH]
   simp only [Array.toList_modify,List.getElem?_modify]
   by_cases hqn:q=n
   ·subst hqn
    have h5:es.toList[q]?=some (es.toList[q]'(by simpa [hl] using hq)):=nE _
    simp [h5,hq]
   ·simp only [hqn,if_false]
    simpa [hqn] using hn
  ·simp [Instr.mapUpdate,run_underlying hu,MapKept.run_getObj_map hm,R.chk,hf,e,Result.andThen,MapKept.run_setObj_map _ hm,Instr.keyThatStays,hkq,R.same]
   rfl
omit [DecidableEq K] in
theorem wDM {α β:Type} (f:α->β):∀ (l:List α) (q:Nat),(l.map f).eraseIdx q=(l.eraseIdx q).map f
 | [],_=>rfl
 | _ :: _,0=>rfl
 | a :: l,q + 1=>by simp [wDM f l q]
theorem OKS.mapDel {mt kt et:TypeId} {x y:Operand} {j m ck:Nat} {es:Array MapEntry} {mk:K->Value} {mv:V->Value} {t:List (K × V)} {a:K} (ho:l[i]?=some o) (hd:o.dst=none) (hw:wanted l σ o=true) (hop:o.op=.call { callee:=.builtin .delete,args:=#[x,y],argTypes:=#[mt,kt] }) (hS:St B U L w) (hk:L[j]?=some (.obj m (.map es ck)))
  (hx:ev σ x=.map (some m)) (hy:ev σ y=mk a) (hu:P.underlying mt=some (.map kt et)) (R:KeyR P kt mk) (h:MpR es mk mv t) (v0:V) (hne:wGE (kOf ks i)=false)
  (k:∀ es' ck' w',MpR es' mk mv (mdel t a)->St B U (L.set j (.obj m (.map es' ck'))) w'->OKS N P l Q D ks s σ w'):OKS N P l Q D ks (.fx i s .stop) σ w:=by
 have hm:=hS.objAt hk
 have hlt:=wAY hm
 have hf:=R.find mv es.toList t a w h
 have fin:∀ (es':Array MapEntry) (ck':Nat),MpR es' mk mv (mdel t a)->(Builtin.delete_ #[mt,kt] o.type #[.map (some m),mk a]).run P w=.ok (.tuple #[]) (w.putObj m (.map es' ck'))->OKS N P l Q D ks (.fx i s .stop) σ w:=by
  intro es' ck' h1 h2
  refine OKS.vn (v:=.tuple #[]) (w':=w.putObj m (.map es' ck')) ho hd hw ⟨by rw [hop];rfl,?_⟩ (.inl hne)
   (k es' ck' _ h1 (hS.set hk ((wCJ w m _).weak fun b _ e=>by rw [e];rfl) (wEb _ hlt) fun b hb=>.inl hb))
  simp [execOp,hop,resolve,invoke,builtin,hx,hy,h2,Result.andThen]
 cases e:wDG t a 0 with
 | none =>
  obtain ⟨_,e1⟩:=wEZ e v0
  refine fin es ck (by rw [e1];exact h) ?_
  simp [Builtin.delete_,run_underlying hu,MapKept.run_getObj_map hm,R.chk,hf,e,Result.andThen,MapKept.run_setObj_map _ hm]
  rfl
 | some p =>
  obtain ⟨q,u⟩:=p
  obtain ⟨_,h2,_,h3⟩:=wEa e v0
  rw [Nat.sub_zero] at h2 h3
  refine fin (es.eraseIdxIfInBounds q) ck ?_ ?_
  ·unfold MpR at h ⊢
   rw [h3,<- wDM,<- h,wDM]
   simp
  ·simp [Builtin.delete_,run_underlying hu,MapKept.run_getObj_map hm,R.chk,hf,e,Result.andThen,MapKept.run_setObj_map _ hm]
   rfl
end
section
variable {P:Program} {t ti:TypeId} {f g:Field} {k:IntKind}
structure Two (P:Program) (t ti:TypeId) (f g:Field) (k:IntKind):Prop where
 str:P.underlying t=some (.struct #[f,g])
 f1:f.type=ti
 f2:f.offset=0
 f3 : f.name ≠ "_"
 g1:g.type=ti
 g2:g.offset=1
 g3 : g.name ≠ "_"
 int:P.underlying ti=some (.int k)
 agg:∀ w,(isAgg ti).run P w=.ok false w
 held:P.stoodInHeld t=false
theorem Two.eq (h:Two P t ti f g k) (a b c d:Int) (w:World):(Op.equalIn 10000 t (.agg #[.int k a,.int k b]) (.agg #[.int k c,.int k d])).run P w=.ok (decide (a=c/\b=d)) w:=by
 have hf:P.fieldsOf t=#[f,g]:=by unfold Program.fieldsOf;rw [h.str]
 rw [show (10000:Nat)=9999 + 1 from rfl,run_equalIn_agg w 9999 t _ _ (by rw [hf];exact h.str) h.held,hf]
 simp [Op.eqFields,h.f1,h.f2,h.f3,h.g1,h.g2,h.g3,part,h.agg,run_equalIn_int w 9998 ti k k _ _ h.int,Result.andThen]
 by_cases h1:a=c <;> by_cases h2:b=d <;> simp [h1,h2,h.agg,run_equalIn_int w 9998 ti k k _ _ h.int]
theorem Two.chk (h:Two P t ti f g k) (em:Bool) (a b:Int) (w:World):(Instr.checkKey em 10000 t (.agg #[.int k a,.int k b])).run P w=.ok () w:=by
 rw [show (10000:Nat)=9998 + 1 + 1 from rfl,Instr.checkKey]
 simp only [Sem.run_bind,run_underlying h.str,Result.andThen]
 have hi:∀ v,(Instr.checkKey em (9998 + 1) ti (.int k v)).run P w=.ok () w:=by
  intro v
  rw [Instr.checkKey]
  simp only [Sem.run_bind,run_underlying h.int,Result.andThen]
  rfl
 have hp:∀ i v,(#[aF k a,aF k b]:Array Value)[i]?=some v->(part ti #[.int k a,.int k b] i).run P w=.ok v w:=by
  intro i v hv
  simp [part,h.agg,hv,Result.andThen]
 simp [h.f1,h.f2,h.f3,h.g1,h.g2,h.g3,hp 0 _ rfl,hp 1 _ rfl,hi,Result.andThen]
theorem Two.keyR {α:Type} [DecidableEq α] (h:Two P t ti f g k) (e:α->Value) (p q:α->Int) (he:∀ x,e x=.agg #[.int k (p x),.int k (q x)]) (hx:∀ x y,p x=p y->q x=q y->x=y):KeyR P t e:=by
 refine KeyR.ofStruct h.str (fun em x w=>?_) (fun x=>?_) (fun x y w=>?_)
 ·rw [he];exact h.chk em _ _ w
 ·rw [he];simp [Instr.sameBits]
 ·rw [he,he];unfold Op.equal Op.maxDepth;rw [h.eq]
  congr 1
  exact decide_eq_decide.2 ⟨fun h=>hx x y h.1 h.2,fun h=>by subst h;exact ⟨rfl,rfl⟩⟩
end
theorem wEm {P:Program} {t:TypeId} {d:TypeDesc} (h:∀ w:World,(underlying t).run P w=.ok d w):P.underlying t=some d:=by
 have h0:=h (default:World)
 cases e:P.underlying t with
 | none=>simp [underlying,e] at h0
 | some d' =>
  have h1:=run_underlying e (default:World)
  rw [h1] at h0
  injection h0 with h2 h3
  rw [h2]
theorem wEc {P:Program} {t:TypeId} {fs:Array Field} (h:∀ w:World,(underlying t).run P w=.ok (.struct fs) w):P.fieldsOf t=fs:=by
 unfold Program.fieldsOf;rw [wEm h]
theorem wGb {P:Program} {t:TypeId} {fs:Array Field} (h:∀ w:World,(underlying t).run P w=.ok (.struct fs) w):P.underlying t=some (.struct (P.fieldsOf t)):=by
 rw [wEc h];exact wEm h
end Go.KL
namespace Go.KL
open Go.RowKit
section
variable {N:Nat} {P:Program} {l:List Oper} {Q:wDc} {D:List Deferred} {ks:List Nat} {σ:Env} {w:World} {i d:Nat} {s:Sch} {o:Oper} {B:Base} {U:PHeap} {L:List Res}
theorem wGk {α:Type} {f:α->List Value} {sz:Nat} (hf:∀ a,(f a).length=sz):∀ (l:List α) (k:Nat),(List.flatMap f l).take (k * sz)=List.flatMap f (l.take k)
 | l,0=>by simp
 | [],k + 1=>by simp
 | a :: l,k + 1=>by
  rw [nZ,List.take_succ_cons,nZ,<- wGk hf l k,aE,Nat.add_comm]
  conv=>lhs;rw [<- hf a]
  rw [List.take_length_add_append,hf a]
theorem Runs.slc {t e sz n c:Nat} {x:Operand} {lo hi:Option Operand} {a b:Int} {A:Option Addr} (hop:o.op=.slice t x lo hi none) (hx:ev σ x=.slice A n c)
  (hlo:(∃ y,lo=some y/\ev σ y=.int .i64 a) \/ (lo=none/\a=0)) (hhi:(∃ y,hi=some y/\ev σ y=.int .i64 b) \/ (hi=none/\b=n))
  (ht:∀ w,(underlying t).run P w=.ok (.slice e) w) (hs:∀ w,(sizeOf e).run P w=.ok sz w) (h0:0 <= a) (h1:a <= b) (h2:b <= n) (h3:n <= c) :
  Runs P σ w o (.slice (if c=a.toNat then A else A.map (·.add (a.toNat * sz))) (b.toNat - a.toNat) (c - a.toNat)) w:=by
 have hb0:0 <= b:=by omega
 obtain ⟨b,rfl⟩:=kf hb0
 obtain ⟨a,rfl⟩:=kf h0
 have g1:a <= b:=by omega
 have g2:b <= c:=by omega
 have g3:a <= n:=by omega
 simp only [Int.toNat_natCast]
 refine ⟨by rw [hop];rfl,?_⟩
 rcases hlo with ⟨y,rfl,hy⟩ | ⟨rfl,ha⟩ <;> rcases hhi with ⟨z,rfl,hz⟩ | ⟨rfl,hb⟩
 ·simp [execOp,hop,hx,hy,hz,ht,hs,g1,g2,g3,Instr.sliceAt,Instr.slice,Instr.sliceBounds,Instr.sliceBound,asIntOf,Result.andThen]
 ·have hb':b=n:=by omega
  subst hb'
  simp [execOp,hop,hx,hy,ht,hs,g1,g2,g3,Instr.sliceAt,Instr.slice,Instr.sliceBounds,Instr.sliceBound,asIntOf,Result.andThen]
 ·have ha':a=0:=by omega
  subst ha'
  simp [execOp,hop,hx,hz,ht,hs,g1,g2,g3,Instr.sliceAt,Instr.slice,Instr.sliceBounds,Instr.sliceBound,asIntOf,Result.andThen]
 ·have ha':a=0:=by omega
  have hb':b=n:=by omega
  subst ha' hb'
  simp [execOp,hop,hx,ht,hs,Instr.sliceAt,Instr.slice,Instr.sliceBounds,Instr.sliceBound,asIntOf,Result.andThen]
theorem wPz {α:Type} {m xs:List α} {a b:Int} (h:cut m a b=some xs):0 <= a/\a <= b/\b <= m.length/\xs=(m.drop a.toNat).take (b.toNat - a.toNat)/\xs.length=b.toNat - a.toNat:=by
 unfold cut at h
 split at h
 ·rename_i q;cases h;exact ⟨q.1,q.2.1,q.2.2,rfl,by rw [List.length_take,List.length_drop];omega⟩
 ·cases h
theorem St.rowCap {j c T sz n:Nat} {A:Option Addr} {cs:List Value} (hS:St B U L w) (hk:L[j]?=some (.row A c T sz cs)) (hz:0 < sz) (hn:cs.length=n * sz):n <= c:=by
 rcases hS.at_ _ (hH hk) with ⟨_,_,rfl⟩ | ⟨b,cur,_,_,h2,_⟩
 ·rcases nj n with h | h
  ·omega
  ·have:=kG h hz;simp at hn;omega
 ·rw [hn] at h2
  exact nc h2 hz
end
end Go.KL
namespace Go.KL
open Go.RowKit
section
variable {N:Nat} {P:Program} {l:List Oper} {Q:wDc} {D:List Deferred} {ks:List Nat} {σ:Env} {w:World} {i d:Nat} {s:Sch} {o:Oper} {B:Base} {U:PHeap} {L:List Res}
theorem Runs.slA {t e sz n b off:Nat} {x:Operand} (hop:o.op=.slice t x none none none) (hx:ev σ x=.pointer (some ⟨b,off,none⟩)) (ht:∀ w,(underlying t).run P w=.ok (.array n e) w) (hs:∀ w,(sizeOf e).run P w=.ok sz w):Runs P σ w o (.slice (some ⟨b,off,none⟩) n n) w:=by
 refine ⟨by rw [hop];rfl,?_⟩
 by_cases hn:n=0 <;> simp [execOp,hop,hx,ht,hs,hn,Instr.sliceAt,Instr.sureAddr,Instr.sliceBounds,Result.andThen,Addr.add]
theorem OKS.clearB {t e T:TypeId} {x:Operand} {j b off n m:Nat} {z:Value} {vs cs cs':List Value} (ho:l[i]?=some o) (hd:o.dst=none) (hw:wanted l σ o=true) (hop:o.op=.call { callee:=.builtin .clear,args:=#[x],argTypes:=#[t] }) (hS:St B U L w) (hk:L[j]?=some (.blk b T cs))
  (hx:ev σ x=.slice (some ⟨b,off,none⟩) (n + 1) m) (ht:∀ w,(underlying t).run P w=.ok (.slice e) w) (hz:∀ w,(zeroValue e).run P w=.ok z w) (hv:(Builtin.zeroCells z.cells (n + 1)).toList=vs) (hlt:off + vs.length <= cs.length) (h1:vs.all one=true) (hcs:wEJ cs off vs=cs') (hne:wGE (kOf ks i)=false)
  (k:∀ w',St B U (L.set j (.blk b T cs')) w'->OKS N P l Q D ks s σ w'):OKS N P l Q D ks (.fx i s .stop) σ w:=by
 subst hcs
 obtain ⟨w',h2,h3,h4,h5⟩:=wCk (P:=P) (T:=T) off vs 0 cs w (hS.blkAt hk) hlt (nS.1 h1)
 refine OKS.vn (v:=.tuple #[]) (w':=w') ho hd hw ⟨by rw [hop];rfl,?_⟩ (.inl hne) (k w' (hS.set hk (h4.weak fun x _ e=>by rw [e];rfl) h3 fun b hb=>.inl hb))
 simp [execOp,hop,resolve,invoke,builtin,hx,Builtin.clear_,ht,hz,hv,storeCells,h2,Result.andThen]
end
end Go.KL
namespace Go.KL
open Go.ChangeShapes Go.WideShapes Go.ChangeAt Go.RowKit
variable {H:Type} {enc:TypeId × Value->H} {P:Program}
theorem St.start (W:World):St ⟨W,[],fun b=>W.heap[b]?⟩ (fun b=>W.heap[b]?) [] W where
 os:=rfl
 tape:=TapeLe.refl W
 output:=rfl
 size:=nK _
 old:=fun _ _ _=>rfl
 fro:=fun _ _ h=>h
 le:=fun _ _ h=>h
 src:=fun _ _ h=>.inl h
 at_:=fun _ h=>by cases h
 own:=fun _ h=>by cases h
 dj:=fun i j r s b h=>by simp at h
theorem wGI (hl:laidOutB P=true) {W W':World} (hb:Below W.heap.size W W') {sp:Nat->Bool}:∀ {ts:List TypeId} {vs:List Value} {ds:List (DataW H)} {ps:List MemPlace},
  (∀ t ∈ ts,P.readableRec t=true/\t < P.types.size)->DataW.TrodAll enc P W 0 (fun _=>true) true ts vs ds ps->(∀ p ∈ ps,p.block < W.heap.size)->(∀ p ∈ ps,sp p.block=true)->DataW.TrodAll enc P W' 0 sp true ts vs ds ps
 | [],[],[],_,_,h,_,_=>h
 | _ :: _,_ :: _,_ :: _,_,hT,⟨p,q,h1,h2,e⟩,hlt,hs =>
  ⟨p,q,WideElems.Trod_stays hl (hT _ (nI.2 (Or.inl rfl))).1 (hT _ (nI.2 (Or.inl rfl))).2 h1 (fun x hx=>hb.same (hlt x (by rw [e];exact kO _ hx))) (fun x hx=>hs x (by rw [e];exact kO _ hx)),
   wGI hl hb (fun t ht=>hT t (nI.2 (Or.inr ht))) h2 (fun x hx=>hlt x (by rw [e];exact kq _ hx)) (fun x hx=>hs x (by rw [e];exact kq _ hx)),e⟩
theorem wMe {f:Func} {s:ChangeSpec} {apart fresh handsOn again:Bool} {W W':World} {args:Array Value} {ds gs:List (DataW H)} {before:List MemPlace}
  (hW:DataW.Whole enc P f.params.toList s.vars apart W args.toList ds gs before) (hv:s.vars=[]) (hl:laidOutB P=true) (hT:∀ t ∈ f.params.toList,P.readableRec t=true/\t < P.types.size)
  {t:TypeId} (hr:f.resultTypes=#[t]) (ht:P.underlying t=some .bool) (b:Bool) (h1:(s.fn H (ds ++ gs)).results=[.lit (.bool b)]) (h2:(s.fn H (ds ++ gs)).args=ds) (h3:(s.fn H (ds ++ gs)).vars=[])
  (hk:Keep W W' Non):s.post enc P f apart fresh handsOn again W args (.bool b) W':=by
 have hlt:=hW.lt
 have hW0:=hW
 obtain ⟨p,q,hA,hV,rfl,hz,hn⟩:=hW
 rw [hv] at hV
 obtain ⟨rfl,rfl⟩:=trodVars_none hV
 simp only [List.append_nil] at hlt hz hn hW0
 have hargs:∀ sp:Nat->Bool,(∀ x ∈ p,sp x.block=true)->DataW.TrodAll enc P W' 0 sp true f.params.toList args.toList (s.fn H (ds ++ [])).args p:=by
  intro sp hsp
  rw [h2]
  exact wGI hl hk.below hT hA hlt hsp
 have hres:∀ (b0:Nat) (sp:Nat->Bool) (hd:Bool),DataW.TrodAll enc P W' b0 sp hd f.resultTypes.toList ((aO b).resultList f.resultTypes.size) (s.fn H (ds ++ [])).results []:=by
  intro b0 sp hd
  rw [h1,hr]
  exact trodAll_mk1 (shut_bool ht b)
 have hvars:∀ sp:Nat->Bool,DataW.TrodVars enc P W' sp s.vars (s.fn H (ds ++ [])).vars []:=by
  intro sp
  rw [h3,hv]
  exact rfl
 have hold:∀ x ∈ p,(fun b=>decide (b < W.heap.size)) x.block=true:=fun x hx=>by simpa using hlt x hx
 refine ⟨ds,[],p,[],p,[],by simpa using hW0,hres _ _ _,hargs _ hold,hvars _,hk.below.frame _,fun _=>?_⟩
 refine ⟨ok_one hr rfl (okWide_bool_mk ht b),_,_,[] ++ p ++ [],⟨[] ++ p,[],trodAll_append (hargs _ (fun _ _=>rfl)) (hres _ _ _),hvars _,rfl,?_,?_⟩,?_⟩
 ·intro b' off hp
  have hp':MemPlace.cell b' off ∈ p:=by simpa using hp
  rw [hk.below.frozen (p:=⟨b',off,none⟩) (hlt _ hp')]
  exact hz b' off hp'
 ·intro ha
  simpa using hn ha
 ·intro x hx _
  simpa using hx
theorem wKA {W:World} {a:Addr} {len cap sz:Nat} {cs:List Value} (hsz:0 < sz) (hlen:cs.length=len * sz) (hcap:len <= cap) (hc:∀ (j:Nat) (v:Value),cs[j]?=some v->W.cell? (a.add j)=some v) :
  Sl (fun b=>W.heap[b]?) sz (some a) cap len cs:=by
 by_cases h0:cs=[]
 ·subst h0
  have:len * sz=0:=by simpa using hlen.symm
  rcases Nat.mul_eq_zero.1 this with h | h
  ·exact ⟨hlen,hcap,.inl h⟩
  ·omega
 ·refine ⟨hlen,hcap,.inr ?_⟩
  have hpos:0 < cs.length:=List.length_pos_iff.2 h0
  have g0:=hc 0 _ (nE hpos)
  have ha:a.add 0=a:=by simp [Addr.add]
  rw [ha] at g0
  obtain ⟨b,off,spot⟩:=a
  have hs:=World.cell?_spot g0
  simp only at hs
  subst hs
  unfold World.cell? at g0
  split at g0
  ·rename_i arr T fr hb
   refine ⟨b,off,arr,T,fr,rfl,hb,?_⟩
   apply kV
   intro j
   rw [nL]
   rcases nW j cs.length with hj | hj
   ·rw [if_pos (by omega),nO,Array.getElem?_toList]
    have:=hc j _ (nE hj)
    rw [add_plain] at this
    unfold World.cell? at this
    simp only [hb] at this
    rw [nE hj]
    simpa using this
   ·rw [if_neg (by omega),ny hj]
  ·cases g0
theorem wMf {α:Type} {f:α->List Value} {sz:Nat} (hf:∀ x,(f x).length=sz) (X:Nat->α):∀ (n j:Nat) (v:Value),((nt n).flatMap fun i=>f (X i))[j]?=some v->∃ k i,k < n/\i < sz/\j=k * sz + i/\(f (X k))[i]?=some v
 | 0,j,v,h=>by simp at h
 | n + 1,j,v,h=>by
  rw [List.range_succ,kv] at h
  have hL:((nt n).flatMap fun i=>f (X i)).length=n * sz:=by
   rw [kx]
   simp [hf,List.map_const']
  rcases nW j (n * sz) with hlt | hge
  ·rw [nT (by omega)] at h
   obtain ⟨k,i,h1,h2,h3,h4⟩:=wMf hf X n j v h
   exact ⟨k,i,by omega,h2,h3,h4⟩
  ·rw [nN (by omega),hL] at h
   simp only [nZ,List.flatMap_nil,List.append_nil] at h
   have hj:=(nA.1 h).1
   rw [hf] at hj
   exact ⟨n,j - n * sz,by omega,hj,by omega,h⟩
theorem wFL {α:Type} [Inhabited α] {f:α->List Value} {sz:Nat} {t e:TypeId} {W:World} {cs:List Value} {n:Nat} {y:DataW H × List MemPlace} (hsz:0 < sz) (hf:∀ x,(f x).length=sz) (ht:P.underlying t=some (.slice e)) (ce:P.cellsOf e=sz) (Good:α->Prop)
  (hel:∀ n cs y,DataW.trod enc P W 0 (fun _=>true) true n e cs=some y->∃ x,cs=f x/\Good x) (hn:DataW.trod enc P W 0 (fun _=>true) true n t cs=some y) :
  ∃ (A:Option Addr) (c:Nat) (xs:List α),cs=[.slice A xs.length c]/\Sl (fun b=>W.heap[b]?) sz A c xs.length (xs.flatMap f)/\∀ x ∈ xs,Good x:=by
 rcases Deep.open_slice ht hn with ⟨h1,_⟩ | ⟨a',len,cap,m,k,D,Pl,h1,_,hl,_,hm,_,hc⟩
 ·exact ⟨none,0,[],h1,Sl.nil _ _ _ _,fun _ h=>by cases h⟩
 ·simp only [if_true] at hm
  subst hm
  have each:∀ i,i < len->∃ x:α,Good x/\∀ j,j < sz->W.cell? (a'.add (i * sz + j))=(f x)[j]?:=by
   intro i hi
   obtain ⟨cs,c0,t0⟩:=hc i (by omega)
   obtain ⟨x,rfl,hg⟩:=hel _ _ _ t0
   obtain ⟨_,_,hcell⟩:=World.cells?_some c0
   refine ⟨x,hg,fun j hj=>?_⟩
   have:=hcell j (by omega)
   rw [Deep.add_add,ce] at this
   exact this
  obtain ⟨X,hX⟩:=Deep.choose_lt each
  have hlen:((nt len).map X).length=len:=by simp
  refine ⟨some a',m,(nt len).map X,by rw [hlen];exact h1,?_,fun x hx=>?_⟩
  ·rw [hlen]
   have hfl:((nt len).map X).flatMap f=(nt len).flatMap fun i=>f (X i):=by rw [List.flatMap_map]
   rw [hfl]
   refine wKA hsz ?_ hl ?_
   ·rw [kx]
    simp [hf,List.map_const']
   ·intro j v hj
    obtain ⟨k,i,h1,h2,rfl,h4⟩:=wMf hf X len j v hj
    rw [(hX k h1).2 i h2,h4]
  ·obtain ⟨i,hi,rfl⟩:=kz.1 hx
   exact (hX i (kE.1 hi)).1
theorem wMg {α:Type} [Inhabited α] {f:α->List Value} {sz:Nat} {t e:TypeId} {W:World} {v:Value} {d:DataW H} {ps:List MemPlace} (hsz:0 < sz) (hf:∀ x,(f x).length=sz) (ht:P.underlying t=some (.slice e)) (ce:P.cellsOf e=sz) (Good:α->Prop)
  (hel:∀ n cs y,DataW.trod enc P W 0 (fun _=>true) true n e cs=some y->∃ x,cs=f x/\Good x) (h:DataW.Trod enc P W 0 (fun _=>true) true t v d ps) (hv:∃ a len cap,v=.slice a len cap) :
  ∃ (A:Option Addr) (c:Nat) (xs:List α),v=.slice A xs.length c/\Sl (fun b=>W.heap[b]?) sz A c xs.length (xs.flatMap f)/\∀ x ∈ xs,Good x:=by
 obtain ⟨n,hn⟩:=h
 obtain ⟨a,len,cap,rfl⟩:=hv
 have hcs:(aK a len cap).cells.toList=[aK a len cap]:=by simp [Value.cells]
 rw [hcs] at hn
 obtain ⟨A,c,xs,h1,h2,h3⟩:=wFL hsz hf ht ce Good hel hn
 simp only [kk,and_true] at h1
 exact ⟨A,c,xs,h1,h2,h3⟩
theorem wHQ {w:World} {base:Nat} {spare:Nat->Bool} {held:Bool} {t:TypeId} {fs:Array Field} {fuel:Nat} {cs:List Value} {x:DataW H × List MemPlace} (ht:P.underlying t=some (.struct fs)) (h:DataW.trod enc P w base spare held fuel t cs=some x) :
  cs.length=P.cellsOf t/\∃ n,∀ (i:Nat) (f:Field),fs[i]?=some f->∃ y,DataW.trod enc P w base spare held n f.type ((cs.drop f.offset).take (P.cellsOf f.type))=some y:=by
 obtain ⟨xs,n,_,_,h1,h2,h3⟩:=DataW.trod_struct ht h
 refine ⟨h1,n,fun i f hf=>?_⟩
 have hi:i < fs.size:=by
  rcases nW i fs.size with hlt | hge
  ·exact hlt
  ·rw [nr hge] at hf;cases hf
 exact ⟨xs[i]'(by omega),by rw [h3 i f hf,nE]⟩
def wGc (P:Program) (fn:Func) (s:ChangeSpec) (c:OpenClaim):Bool :=
 c.wf (OpenSpec.ofChange s) &&
 fn.params.all (P.readableRec ·) && namedTie P c.named s.vars &&
 (c.stops == []) && (c.knobs == []) &&
 (c.maps == (fn.params.toList ++ s.plain.varTypes P).any (P.mapsRec ·)) && (c.ifaces == (fn.params.toList ++ s.plain.varTypes P).any (P.ifacesRec ·)) && (c.mapsOut == P.mapsAmong fn.resultTypes.toList) &&
 (c.loops == (fn.params.toList ++ s.plain.varTypes P).any (P.loopsFrom ·)) && (c.wideKeys == (fn.params.toList ++ s.plain.varTypes P ++ fn.resultTypes.toList).any (P.wideKeysFrom ·)) &&
 s.vars.all (P.varReadable ·) && fn.resultTypes.all (fun t=>P.readableRec t && decide (t < P.types.size)) && (c.ifacesOut == fn.resultTypes.toList.any (P.ifacesRec ·)) && (c.loopsOut == fn.resultTypes.toList.any (P.loopsFrom ·)) && c.shortTexts.isNone && (P.make == some c.make) && (c.kinds == (if c.domain.isEmpty then [] else fn.params.toList.map fun t=>match P.underlying t with | some (.int k)=>some k | _=>none)) && (c.pinned == c.pinnedBy) &&
 (c.veiled == (fn.params.toList ++ s.plain.varTypes P ++ fn.resultTypes.toList).any (P.veiledRec ·)) && c.veiledFits P fn.params.toList (fn.params.toList ++ s.plain.varTypes P ++ fn.resultTypes.toList)
theorem wMh {f:FuncId} {fn:Func} {s:ChangeSpec} {c:OpenClaim} (h1:laidOutB P=true) (h2:mapsRowed P=true) (h3:(P.stops == [])=true) (h4:(P.stopKnobs == [])=true) (h5:(c.inPlace == P.inPlace f)=true) (h6:(c.unfollowed == P.unfollowed f)=true) (h7:(c.recurses == P.recurses f)=true)
  (h8:(c.named == P.varsNamed f)=true) (h9:(c.plainKeys == P.plainKeys)=true) (h10:P.stopsHeard=true) (h11:P.mayEnter=true) (h12:(c.lifted == P.liftsFinal)=true) (l:wGc P fn s c=true):joinedFacts P f fn s c=true:=by
 unfold wGc at l
 unfold joinedFacts
 rw [h1,h2,h3,h4,h5,h6,h7,h8,h9,h10,h11,h12]
 simp only [Bool.and_true]
 exact l
end Go.KL
namespace Go.KX
noncomputable section
open Go.RowKit Go.KL
inductive Pos
 | H
 | O (p:Pos)
 | I (p:Pos)
 deriving DecidableEq
def Pos.succ (p:Pos):Pos:=Pos.rec (motive:=fun _=>Pos) (.O .H) (fun q _=>.I q) (fun _ s=>.O s) p
theorem Pos.succ_I (p:Pos):(Pos.I p).succ=.O p.succ:=rfl
def Pos.nat:Pos->Nat
 | .H=>1
 | .O p=>2 * p.nat
 | .I p=>2 * p.nat + 1
def Pos.beq:Pos->Pos->Bool
 | .H,.H=>true
 | .O p,.O q=>p.beq q
 | .I p,.I q=>p.beq q
 | _,_=>false
theorem Pos.nat_succ (p:Pos):p.succ.nat=p.nat + 1:=by
 induction p with
 | H=>rfl
 | O p _=>rfl
 | I p ih=>rw [Pos.succ_I];simp only [Pos.nat,ih];omega
theorem Pos.nat_pos (p:Pos):0 < p.nat:=by
 induction p with
 | H=>decide
 | O p ih=>simp only [Pos.nat];omega
 | I p ih=>simp only [Pos.nat];omega
theorem Pos.nat_inj:∀ {p q:Pos},p.nat=q.nat->p=q
 | .H,.H,_=>rfl
 | .H,.O q,h=>by have:=q.nat_pos;simp only [Pos.nat] at h;omega
 | .H,.I q,h=>by have:=q.nat_pos;simp only [Pos.nat] at h;omega
 | .O p,.H,h=>by have:=p.nat_pos;simp only [Pos.nat] at h;omega
 | .I p,.H,h=>by have:=p.nat_pos;simp only [Pos.nat] at h;omega
 | .O p,.O q,h=>by simp only [Pos.nat] at h;rw [Pos.nat_inj (p:=p) (q:=q) (by omega)]
 | .I p,.I q,h=>by simp only [Pos.nat] at h;rw [Pos.nat_inj (p:=p) (q:=q) (by omega)]
 | .O p,.I q,h=>by simp only [Pos.nat] at h;omega
 | .I p,.O q,h=>by simp only [Pos.nat] at h;omega
theorem Pos.beq_eq:∀ {p q:Pos},p.beq q=true->p=q
 | .H,.H,_=>rfl
 | .O p,.O q,h=>by rw [Pos.beq_eq (p:=p) (q:=q) h]
 | .I p,.I q,h=>by rw [Pos.beq_eq (p:=p) (q:=q) h]
 | .H,.O _,h=>by cases h
 | .H,.I _,h=>by cases h
 | .O _,.H,h=>by cases h
 | .I _,.H,h=>by cases h
 | .O _,.I _,h=>by cases h
 | .I _,.O _,h=>by cases h
def Pos.ltb (e:Bool):Pos->Pos->Bool
 | .H,.H=>e
 | .H,_=>true
 | _,.H=>false
 | .O p,.O q=>Pos.ltb e p q
 | .I p,.I q=>Pos.ltb e p q
 | .O p,.I q=>Pos.ltb true p q
 | .I p,.O q=>Pos.ltb false p q
theorem Pos.ltb_iff:∀ (p q:Pos) (e:Bool),Pos.ltb e p q=true ↔ p.nat < q.nat \/ (e=true/\p.nat=q.nat)
 | .H,.H,e=>by simp [Pos.ltb]
 | .H,.O q,e=>by have:=q.nat_pos;simp only [Pos.ltb,Pos.nat];exact ⟨fun _=>.inl (by omega),fun _=>trivial⟩
 | .H,.I q,e=>by have:=q.nat_pos;simp only [Pos.ltb,Pos.nat];exact ⟨fun _=>.inl (by omega),fun _=>trivial⟩
 | .O p,.H,e=>by have:=p.nat_pos;simp only [Pos.ltb,Pos.nat];constructor <;> intro h <;> first | cases h;done | (exfalso;omega)
 | .I p,.H,e=>by have:=p.nat_pos;simp only [Pos.ltb,Pos.nat];constructor <;> intro h <;> first | cases h;done | (exfalso;omega)
 | .O p,.O q,e=>by rw [Pos.ltb,Pos.ltb_iff p q e];simp only [Pos.nat];cases e <;> simp <;> omega
 | .I p,.I q,e=>by rw [Pos.ltb,Pos.ltb_iff p q e];simp only [Pos.nat];cases e <;> simp <;> omega
 | .O p,.I q,e=>by rw [Pos.ltb,Pos.ltb_iff p q true];simp only [Pos.nat];cases e <;> simp <;> omega
 | .I p,.O q,e=>by rw [Pos.ltb,Pos.ltb_iff p q false];simp only [Pos.nat];cases e <;> simp <;> omega
inductive Tr (α:Type)
 | e
 | n (l:Tr α) (v:Option α) (r:Tr α)
variable {α:Type}
def Tr.get (t:Tr α):Pos->Option α :=
 Tr.rec (motive:=fun _=>Pos->Option α) (fun _=>none) (fun _ v _ gl gr p=>Pos.rec (motive:=fun _=>Option α) v (fun q _=>gl q) (fun q _=>gr q) p) t
def Tr.one (p:Pos) (a:α):Tr α:=Pos.rec (motive:=fun _=>Tr α) (.n .e (some a) .e) (fun _ t=>.n t none .e) (fun _ t=>.n .e none t) p
def Tr.set (t:Tr α) (p:Pos) (a:α):Tr α :=
 Tr.rec (motive:=fun _=>Pos->Tr α) (fun p=>Tr.one p a) (fun l v r sl sr p=>Pos.rec (motive:=fun _=>Tr α) (.n l (some a) r) (fun q _=>.n (sl q) v r) (fun q _=>.n l v (sr q)) p) t p
theorem Tr.get_e (p:Pos):(Tr.e:Tr α).get p=none:=rfl
theorem Tr.get_H (l r:Tr α) (v:Option α):(Tr.n l v r).get .H=v:=rfl
theorem Tr.get_I (l r:Tr α) (v:Option α) (p:Pos):(Tr.n l v r).get (.I p)=r.get p:=rfl
theorem Tr.get_O (l r:Tr α) (v:Option α) (p:Pos):(Tr.n l v r).get (.O p)=l.get p:=rfl
theorem Tr.one_H (a:α):Tr.one .H a=.n .e (some a) .e:=rfl
theorem Tr.one_O (p:Pos) (a:α):Tr.one (.O p) a=.n (Tr.one p a) none .e:=rfl
theorem Tr.one_I (p:Pos) (a:α):Tr.one (.I p) a=.n .e none (Tr.one p a):=rfl
theorem Tr.set_e (p:Pos) (a:α):(Tr.e:Tr α).set p a=Tr.one p a:=rfl
theorem Tr.set_H (l r:Tr α) (v:Option α) (a:α):(Tr.n l v r).set .H a=.n l (some a) r:=rfl
theorem Tr.set_O (l r:Tr α) (v:Option α) (p:Pos) (a:α):(Tr.n l v r).set (.O p) a=.n (l.set p a) v r:=rfl
theorem Tr.set_I (l r:Tr α) (v:Option α) (p:Pos) (a:α):(Tr.n l v r).set (.I p) a=.n l v (r.set p a):=rfl
theorem Tr.get_one:∀ (p q:Pos) (a:α),(Tr.one p a).get q=if q=p then some a else none
 | .H,.H,a=>rfl
 | .H,.O q,a=>by simp [Tr.one_H,Tr.get_O,Tr.get_e]
 | .H,.I q,a=>by simp [Tr.one_H,Tr.get_I,Tr.get_e]
 | .O p,.H,a=>by simp [Tr.one_O,Tr.get_H]
 | .O p,.O q,a=>by simp only [Tr.one_O,Tr.get_O,Tr.get_one p q a,Pos.O.injEq]
 | .O p,.I q,a=>by simp [Tr.one_O,Tr.get_I,Tr.get_e]
 | .I p,.H,a=>by simp [Tr.one_I,Tr.get_H]
 | .I p,.O q,a=>by simp [Tr.one_I,Tr.get_O,Tr.get_e]
 | .I p,.I q,a=>by simp only [Tr.one_I,Tr.get_I,Tr.get_one p q a,Pos.I.injEq]
theorem Tr.get_set:∀ (t:Tr α) (p q:Pos) (a:α),(t.set p a).get q=if q=p then some a else t.get q
 | .e,p,q,a=>by simp only [Tr.set_e,Tr.get_one,Tr.get_e]
 | .n l v r,.H,.H,a=>rfl
 | .n l v r,.H,.O q,a=>by simp [Tr.set_H,Tr.get_O]
 | .n l v r,.H,.I q,a=>by simp [Tr.set_H,Tr.get_I]
 | .n l v r,.O p,.H,a=>by simp [Tr.set_O,Tr.get_H]
 | .n l v r,.O p,.O q,a=>by simp only [Tr.set_O,Tr.get_O,Tr.get_set l p q a,Pos.O.injEq]
 | .n l v r,.O p,.I q,a=>by simp [Tr.set_O,Tr.get_I]
 | .n l v r,.I p,.H,a=>by simp [Tr.set_I,Tr.get_H]
 | .n l v r,.I p,.O q,a=>by simp [Tr.set_I,Tr.get_O]
 | .n l v r,.I p,.I q,a=>by simp only [Tr.set_I,Tr.get_I,Tr.get_set r p q a,Pos.I.injEq]
inductive AV
 | int (k:IntKind) (n:Int)
 | bool (b:Bool)
 | ptr (b:Pos) (off:Nat)
 | pnil
 | sl (b:Pos) (off len cap:Nat)
 | rw (b:Pos) (eo co len:Nat)
 | rz (b:Pos) (eo:Nat)
 | snil
 | map (b:Pos)
 | mnil
 | fn (f:Pos) (fi ca:List AV)
 | yld (b:Pos)
 | fnil
 | agg (l:List AV)
 | tup (l:List AV)
inductive AOd
 | t (p:Pos)
 | c (v:AV)
inductive Sh
 | int
 | bool
 | str (fs:List (Nat × Nat × Sh))
inductive AOp
 | mv (x:AOd)
 | pick (c x y:AOd)
 | new (T:Nat) (z:List AV)
 | box (T:Nat) (x:AOd)
 | ld (x:AOd)
 | ldA (n:Nat) (x:AOd)
 | st (n:Nat) (x y:AOd)
 | nilc (x:AOd)
 | add (x y:AOd) | sub (x y:AOd) | mul (x y:AOd) | quo (x y:AOd) | rem (x y:AOd)
 | lss (x y:AOd) | leq (x y:AOd) | gtr (x y:AOd) | geq (x y:AOd) | eql (x y:AOd) | neq (x y:AOd)
 | eqb (ne:Bool) (x y:AOd)
 | eqn (k:Nat) (ne:Bool) (x y:AOd)
 | eqs (ne:Bool) (s:Sh) (x y:AOd)
 | neg (x:AOd) | not (x:AOd)
 | cvt (k:IntKind) (x:AOd)
 | mkf (f:Pos) (fi ca:List AOd)
 | mkm
 | mks (T sz bytes:Nat) (z:List AV) (x y:AOd)
 | slc (sz:Nat) (x:AOd) (lo hi mx:Option AOd)
 | slcA (sz n:Nat) (x:AOd) (lo hi:Option AOd)
 | fad (off:Nat) (x:AOd)
 | fld (off:Nat) (x:AOd) | fldA (off n:Nat) (x:AOd)
 | iad (sz:Nat) (x y:AOd) | iadA (sz n:Nat) (x y:AOd)
 | ix (n:Nat) (x y:AOd) | ixA (sz n:Nat) (x y:AOd)
 | lk (two:Bool) (k:IntKind) (ok:Bool) (z:AV) (x y:AOd)
 | mput (two:Bool) (k:IntKind) (x y z:AOd)
 | mdel (two:Bool) (k:IntKind) (x y:AOd)
 | ext (i:Nat) (x:AOd)
 | bld (z:List AV) (ps:List (Nat × Nat × AOd))
 | blds (T len:Nat) (z:List AV) (ps:List (Nat × Nat × AOd))
 | len (x:AOd) | lenM (x:AOd) | cap (x:AOd)
 | app (T sz bytes:Nat) (x y:AOd)
 | cpy (sz:Nat) (x y:AOd)
 | clr (z:List AV) (x:AOd)
 | min (x y:AOd) | max (x y:AOd)
 | call (x:AOd) (l:List AOd)
 | bad
 | and (x y:AOd) | shr (x y:AOd)
 | ixs (l:List Nat) (y:AOd)
 | apz (T sz bytes:Nat) (z:List AV) (x y:AOd)
structure AO where
 ix:Nat
 kd:Nat
 dst:Option Pos
 grd:Option (Pos × Bool)
 op:AOp
inductive Ex
 | nrm
 | exit (i:Nat)
 | ret
inductive AC
 | skip
 | rg (l:List AO)
 | seq (a b:AC)
 | cond (c:AOd) (a b:AC)
 | block (i:Nat) (a:AC)
 | loop (a:AC)
 | rf (g:AOd) (t:List Pos) (asg body:AC)
 | exit (i:Nat)
 | scope (a:AC)
 | ret
 | rl (l:List AO)
inductive AR
 | t (p:Pos)
 | c (p:Pos) (n:Option Nat)
structure AF where
 n:Nat
 res:List AR
 body:AC
inductive LS
 | ready
 | busy
 | done (e:Ex)
inductive AB
 | cells (T:Nat) (l:List AV)
 | row (T sz:Nat) (l:List AV)
 | mapI (k:IntKind) (l:List (Int × AV))
 | map2 (k:IntKind) (l:List ((Int × Int) × AV))
 | map0
 | loop (σ:Tr AV) (t:List Pos) (asg body:AC) (s:LS)
 | dead
structure AH where
 m:Tr AB
 nx:Pos
 fl:Pos
def AH.push (h:AH) (b:AB):AH:=⟨h.m.set h.nx b,h.nx.succ,h.fl⟩
def AH.put (h:AH) (p:Pos) (b:AB):Option AH:=match Pos.ltb false p h.fl with
 | true=>none
 | false=>some ⟨h.m.set p b,h.nx,h.fl⟩
def nth (l:List α):Nat->Option α :=
 nv (motive:=fun _=>Nat->Option α) (fun _=>none) (fun a _ ih n=>kP (motive:=fun _=>Option α) (some a) (fun m _=>ih m) n) l
def wKB (a:α) (o:Option (List α)):Option (List α):=nX (motive:=fun _=>Option (List α)) none (fun r=>some (a :: r)) o
def tk (l:List α):Nat->Option (List α) :=
 nv (motive:=fun _=>Nat->Option (List α)) (fun n=>kP (motive:=fun _=>Option (List α)) (some []) (fun _ _=>none) n)
  (fun a _ ih n=>kP (motive:=fun _=>Option (List α)) (some []) (fun m _=>wKB a (ih m)) n) l
def sub (l:List α) (off n:Nat):Option (List α) :=
 nv (motive:=fun _=>Nat->Option (List α)) (fun off=>kP (motive:=fun _=>Option (List α)) (tk [] n) (fun _ _=>none) off)
  (fun a l ih off=>kP (motive:=fun _=>Option (List α)) (tk (a :: l) n) (fun m _=>ih m) off) l off
def ov (l:List α):List α->Option (List α) :=
 nv (motive:=fun _=>List α->Option (List α)) (fun vs=>nv (motive:=fun _=>Option (List α)) (some []) (fun _ _ _=>none) vs)
  (fun a l ih vs=>nv (motive:=fun _=>Option (List α)) (some (a :: l)) (fun v vs _=>wKB v (ih vs)) vs) l
def wQf (l:List α) (off:Nat) (vs:List α):Option (List α) :=
 nv (motive:=fun _=>Nat->Option (List α)) (fun off=>kP (motive:=fun _=>Option (List α)) (ov [] vs) (fun _ _=>none) off)
  (fun a l ih off=>kP (motive:=fun _=>Option (List α)) (ov (a :: l) vs) (fun m _=>wKB a (ih m)) off) l off
def len (l:List α):Nat:=nv (motive:=fun _=>Nat) 0 (fun _ _ n=>Nat.succ n) l
def u:AV:=.tup []
def evA (σ:Tr AV) (x:AOd):AV :=
 AOd.rec (motive:=fun _=>AV) (fun p=>nX (motive:=fun _=>AV) u (fun v=>v) (σ.get p)) (fun v=>v) x
def evs (σ:Tr AV) (l:List AOd):List AV:=nv (motive:=fun _=>List AV) [] (fun x _ ih=>evA σ x :: ih) l
def AV.cells:AV->List AV
 | .agg l=>l
 | v=>[v]
def AV.one:AV->Bool
 | .agg _ | .tup _=>false
 | _=>true
def wQg:List AV->Bool
 | []=>true
 | v :: l=>v.one && wQg l
def zlt:Int->Int->Bool
 | .ofNat a,.ofNat b=>nB a b
 | .negSucc _,.ofNat _=>true
 | .ofNat _,.negSucc _=>false
 | .negSucc a,.negSucc b=>nB b a
def zle (a b:Int):Bool:=!zlt b a
def zeq:Int->Int->Bool
 | .ofNat a,.ofNat b=>nD a b
 | .negSucc a,.negSucc b=>nD a b
 | _,_=>false
def keq:IntKind->IntKind->Bool
 | .i64,.i64=>true
 | .u8,.u8=>true
 | .u32,.u32=>true
 | .u64,.u64=>true
 | .i32,.i32=>true
 | _,_=>false
def inK:IntKind->Int->Bool
 | .i64,.ofNat n=>nB n 9223372036854775808
 | .i64,.negSucc n=>nB n 9223372036854775808
 | .u8,.ofNat n=>nB n 256
 | .u32,.ofNat n=>nB n 4294967296
 | .u64,.ofNat n=>nB n 18446744073709551616
 | _,_=>false
def wKC (f:Int->Int->Int):AV->AV->Option AV
 | .int k a,.int k' b=>match keq k k' with
  | true=>match inK k (f a b) with
   | true=>some (.int k (f a b))
   | false=>none
  | false=>none
 | _,_=>none
def div (f:Int->Int->Int):AV->AV->Option AV
 | .int k a,.int k' b=>match keq k k' with
  | true=>match zeq b 0 with
   | true=>none
   | false=>match inK k (f a b) with
    | true=>some (.int k (f a b))
    | false=>none
  | false=>none
 | _,_=>none
def wPG (f:Int->Int->Bool):AV->AV->Option AV
 | .int k a,.int k' b=>match keq k k' with
  | true=>some (.bool (f a b))
  | false=>none
 | _,_=>none
def wLl (k:Nat) (x y:AV):Option Bool:=match k,x,y with
 | 0,.pnil,.pnil=>some true
 | 0,.pnil,.ptr _ _=>some false
 | 0,.ptr _ _,.pnil=>some false
 | 1,.snil,.snil=>some true
 | 1,.snil,.sl _ _ _ _=>some false
 | 1,.snil,.rw _ _ _ _=>some false
 | 1,.sl _ _ _ _,.snil=>some false
 | 1,.rw _ _ _ _,.snil=>some false
 | 1,.snil,.rz _ _=>some false
 | 1,.rz _ _,.snil=>some false
 | 2,.mnil,.mnil=>some true
 | 2,.mnil,.map _=>some false
 | 2,.map _,.mnil=>some false
 | 3,.fnil,.fnil=>some true
 | 3,.fnil,.fn _ _ _=>some false
 | 3,.fn _ _ _,.fnil=>some false
 | _,_,_=>none
def wPH (s:Sh) (l:List AV) (off sz:Nat):Option AV :=
 match s with
 | .str _=>match sub l off sz with
  | some r=>some (.agg r)
  | none=>none
 | _=>nth l off
mutual
def wPI:Sh->AV->AV->Option Bool
 | .int,.int k a,.int k' b=>match keq k k' with
  | true=>some (zeq a b)
  | false=>none
 | .bool,.bool a,.bool b=>some (a == b)
 | .str fs,.agg xs,.agg ys=>wSV fs xs ys
 | _,_,_=>none
def wSV:List (Nat × Nat × Sh)->List AV->List AV->Option Bool
 | [],_,_=>some true
 | (off,sz,s) :: fs,xs,ys=>match wPH s xs off sz,wPH s ys off sz with
  | some x,some y=>match wPI s x y with
   | some true=>wSV fs xs ys
   | r=>r
  | _,_=>none
end
def wIj (σ:Tr AV):List AV->List (Nat × Nat × AOd)->Option (List AV)
 | cs,[]=>some cs
 | cs,(off,n,x) :: ps=>match nD (len (evA σ x).cells) n with
  | true=>match wQf cs off (evA σ x).cells with
   | some cs'=>wIj σ cs' ps
   | none=>none
  | false=>none
def wHR:AV->Option Nat
 | .int .i64 (.ofNat n)=>some n
 | _=>none
def boundOf (σ:Tr AV) (d:Nat):Option AOd->Option Nat
 | none=>some d
 | some x=>wHR (evA σ x)
def rep:Nat->List α->List α
 | 0,_=>[]
 | n + 1,l=>l ++ rep n l
def wLm:List ((Int × Int) × AV)->Int->Int->Option AV
 | [],_,_=>none
 | ((a,b),v) :: l,x,y=>match zeq x a && zeq y b with
  | true=>some v
  | false=>wLm l x y
def wLn:List (Int × AV)->Int->Option AV
 | [],_=>none
 | (a,v) :: l,x=>match zeq x a with
  | true=>some v
  | false=>wLn l x
def wMi:List ((Int × Int) × AV)->Int->Int->AV->List ((Int × Int) × AV)
 | [],x,y,v=>[((x,y),v)]
 | ((a,b),w) :: l,x,y,v=>match zeq x a && zeq y b with
  | true=>((x,y),v) :: l
  | false=>((a,b),w) :: wMi l x y v
def wMj:List (Int × AV)->Int->AV->List (Int × AV)
 | [],x,v=>[(x,v)]
 | (a,w) :: l,x,v=>match zeq x a with
  | true=>(x,v) :: l
  | false=>(a,w) :: wMj l x v
def wMk:List ((Int × Int) × AV)->Int->Int->List ((Int × Int) × AV)
 | [],_,_=>[]
 | ((a,b),w) :: l,x,y=>match zeq x a && zeq y b with
  | true=>l
  | false=>((a,b),w) :: wMk l x y
def wMl:List (Int × AV)->Int->List (Int × AV)
 | [],_=>[]
 | (a,w) :: l,x=>match zeq x a with
  | true=>l
  | false=>(a,w) :: wMl l x
def wKz:AB->Option (List AV)
 | .cells _ l=>some l
 | .row _ _ l=>some l
 | _=>none
def wDr (h:AH) (b:Pos):Option (List AV):=match h.m.get b with
 | some B=>wKz B
 | none=>none
def setAt (h:AH) (b:Pos) (off:Nat) (vs:List AV):Option AH:=match h.m.get b with
 | some (.cells T l)=>match wQf l off vs with
  | some l'=>h.put b (.cells T l')
  | none=>none
 | some (.row T sz l)=>match wQf l off vs with
  | some l'=>h.put b (.row T sz l')
  | none=>none
 | _=>none
def slice (h:AH) (sz:Nat):AV->Option (Nat × List AV)
 | .snil=>some (0,[])
 | .rz _ _=>some (0,[])
 | .sl b off n _=>match wDr h b with
  | some l=>match sub l off (n * sz) with
   | some r=>some (n,r)
   | none=>none
  | none=>none
 | .rw b _ co n=>match wDr h b with
  | some l=>match sub l co (n * sz) with
   | some r=>some (n,r)
   | none=>none
  | none=>none
 | _=>none
def ifO (b:Bool) (x:Option α):Option α:=match b with
 | true=>x
 | false=>none
def app (h:AH) (T sz by_:Nat) (m:Nat) (news:List AV) (x:AV):Option (AV × AH):=match m with
 | 0=>match x with
  | .snil=>some (.snil,h)
  | .sl b off n c=>some (.sl b off n c,h)
  | .rw b eo co n=>some (.rw b eo co n,h)
  | _=>none
 | m + 1=>match x with
  | .snil=>ifO (nU ((m + 1) * by_) 140737488355328) (some (.rw h.nx 0 0 (m + 1),h.push (.row T sz news)))
  | .sl b off n c=>match nU (n + (m + 1)) c with
   | true=>match setAt h b (off + n * sz) news with
    | some h'=>some (.sl b off (n + (m + 1)) c,h')
    | none=>none
   | false=>ifO (nU ((n + (m + 1)) * by_) 140737488355328) (match slice h sz (.sl b off n c) with
    | some (_,olds)=>some (.rw h.nx 0 0 (n + (m + 1)),h.push (.row T sz (olds ++ news)))
    | none=>none)
  | .rw b eo co n=>match h.m.get b with
   | some (.row T' sz' l)=>match nU ((n + (m + 1)) * sz) (len l) && (nD sz sz' && (nD eo 0 && nD co 0)) with
    | true=>match setAt h b (n * sz) news with
     | some h'=>some (.rw b 0 0 (n + (m + 1)),h')
     | none=>none
    | false=>ifO (nD T T' && nD sz sz' && nD eo 0 && nD co 0 && nD (n * sz) (len l) && nU ((n + (m + 1)) * by_) 140737488355328)
     (match h.put b .dead with
      | some h'=>some (.rw h.nx 0 0 (n + (m + 1)),h'.push (.row T sz (l ++ news)))
      | none=>none)
   | _=>none
  | _=>none
def wHS (two:Bool) (k:IntKind) (B:AB) (y:AV):Option (Option AV):=match two,B,y with
 | false,.map0,.int k' _=>ifO (keq k k') (some none)
 | true,.map0,.agg [.int k1 _,.int k2 _]=>ifO (keq k k1 && keq k k2) (some none)
 | false,.mapI k0 l,.int k' n=>ifO (keq k k0 && keq k k') (some (wLn l n))
 | true,.map2 k0 l,.agg [.int k1 a,.int k2 b]=>ifO (keq k k0 && (keq k k1 && keq k k2)) (some (wLm l a b))
 | _,_,_=>none
def wOx (two:Bool) (k:IntKind) (B:AB) (y v:AV):Option AB:=match two,B,y with
 | false,.map0,.int k' n=>ifO (keq k k') (some (.mapI k [(n,v)]))
 | true,.map0,.agg [.int k1 a,.int k2 b]=>ifO (keq k k1 && keq k k2) (some (.map2 k [((a,b),v)]))
 | false,.mapI k0 l,.int k' n=>ifO (keq k k0 && keq k k') (some (.mapI k (wMj l n v)))
 | true,.map2 k0 l,.agg [.int k1 a,.int k2 b]=>ifO (keq k k0 && (keq k k1 && keq k k2)) (some (.map2 k (wMi l a b v)))
 | _,_,_=>none
def wOy (two:Bool) (k:IntKind) (B:AB) (y:AV):Option AB:=match two,B,y with
 | false,.map0,.int k' _=>ifO (keq k k') (some .map0)
 | true,.map0,.agg [.int k1 _,.int k2 _]=>ifO (keq k k1 && keq k k2) (some .map0)
 | false,.mapI k0 l,.int k' n=>ifO (keq k k0 && keq k k') (some (.mapI k (wMl l n)))
 | true,.map2 k0 l,.agg [.int k1 a,.int k2 b]=>ifO (keq k k0 && (keq k k1 && keq k k2)) (some (.map2 k (wMk l a b)))
 | _,_,_=>none
def lenB:AB->Option Nat
 | .map0=>some 0
 | .mapI _ l=>some (len l)
 | .map2 _ l=>some (len l)
 | _=>none
def okV (h:AH):Option AV->Option (AV × AH)
 | some v=>some (v,h)
 | none=>none
def wIO:Option (List AV)->Option AV
 | some l=>some (.agg l)
 | none=>none
def orD (o:Option Nat) (d:Nat):Nat:=match o with
 | some n=>n
 | none=>d
theorem wMm (o:Option Nat) (d:Nat):orD o d=o.getD d:=by cases o <;> rfl
def wSW (sz:Nat) (v:AV) (lo:Nat) (hi mx:Option Nat):Option AV:=match v with
 | .snil=>ifO (nD lo 0 && (match hi with | some n=>nD n 0 | none=>true) && (match mx with | some n=>nD n 0 | none=>true)) (some .snil)
 | .sl b off n c =>
  let m:=orD mx c
  let h:=orD hi n
  ifO (nU lo h && nU h m && nU m c) (some (.sl b (match nD m lo with | true=>off | false=>off + lo * sz) (h - lo) (m - lo)))
 | .rw b eo co n =>
  let h:=orD hi n
  match mx with
  | none=>ifO (nU lo h && nU h n) (match lo with
   | 0=>some (.rw b eo co h)
   | _=>match nB lo n with
    | true=>some (.rw b (eo + lo) (co + lo * sz) (h - lo))
    | false=>some (.rz b (eo + lo)))
  | some m=>ifO (nU lo h && nU h m && nU m n) (some (.sl b (match nD m lo with | true=>co | false=>co + lo * sz) (h - lo) (m - lo)))
 | _=>none
def clr (h:AH) (z:List AV) (b:Pos) (off n:Nat):Option (AV × AH):=match n with
 | 0=>some (u,h)
 | n + 1=>ifO (wQg z) (match setAt h b off (rep (n + 1) z) with
  | some h'=>some (u,h')
  | none=>none)
def bnd (σ:Tr AV):Option AOd->Option (Option Nat)
 | none=>some none
 | some x=>match wHR (evA σ x) with
  | some n=>some (some n)
  | none=>none
def wSC (x:AOd) (σ:Tr AV) (h:AH):Option (AV × AH):=some (evA σ x,h)
def wHT (c:AOd) (x:AOd) (y:AOd) (σ:Tr AV) (h:AH):Option (AV × AH):=match evA σ c with
  | .bool true=>some (evA σ x,h)
  | .bool false=>some (evA σ y,h)
  | _=>none
def wQh (T:Nat) (z:List AV) (σ:Tr AV) (h:AH):Option (AV × AH):=some (.ptr h.nx 0,h.push (.cells T z))
def wLo (T:Nat) (x:AOd) (σ:Tr AV) (h:AH):Option (AV × AH):=some (.ptr h.nx 0,h.push (.cells T (evA σ x).cells))
def wOz (x:AOd) (σ:Tr AV) (h:AH):Option (AV × AH):=match evA σ x with
  | .ptr b off=>match wDr h b with
   | some l=>okV h (nth l off)
   | none=>none
  | _=>none
def wID (n:Nat) (x:AOd) (σ:Tr AV) (h:AH):Option (AV × AH):=match evA σ x with
  | .ptr b off=>match wDr h b with
   | some l=>okV h (wIO (sub l off n))
   | none=>none
  | _=>none
def wQA (n:Nat) (x:AOd) (y:AOd) (σ:Tr AV) (h:AH):Option (AV × AH):=match evA σ x with
  | .ptr b off=>match nD (len (evA σ y).cells) n && wQg (evA σ y).cells with
   | true=>match setAt h b off (evA σ y).cells with
    | some h'=>some (u,h')
    | none=>none
   | false=>none
  | _=>none
def wHU (x:AOd) (σ:Tr AV) (h:AH):Option (AV × AH):=match evA σ x with
  | .ptr b off=>some (.ptr b off,h)
  | .fn f fi ca=>some (.fn f fi ca,h)
  | .yld b=>some (.yld b,h)
  | _=>none
def wMn (x:AOd) (y:AOd) (σ:Tr AV) (h:AH):Option (AV × AH):=okV h (wKC Int.add (evA σ x) (evA σ y))
def wMo (x:AOd) (y:AOd) (σ:Tr AV) (h:AH):Option (AV × AH):=okV h (wKC Int.sub (evA σ x) (evA σ y))
def wMp (x:AOd) (y:AOd) (σ:Tr AV) (h:AH):Option (AV × AH):=okV h (wKC Int.mul (evA σ x) (evA σ y))
def wMq (x:AOd) (y:AOd) (σ:Tr AV) (h:AH):Option (AV × AH):=okV h (div Int.tdiv (evA σ x) (evA σ y))
def wMr (x:AOd) (y:AOd) (σ:Tr AV) (h:AH):Option (AV × AH):=okV h (div Int.tmod (evA σ x) (evA σ y))
def wMs (x:AOd) (y:AOd) (σ:Tr AV) (h:AH):Option (AV × AH):=okV h (wPG zlt (evA σ x) (evA σ y))
def wMt (x:AOd) (y:AOd) (σ:Tr AV) (h:AH):Option (AV × AH):=okV h (wPG zle (evA σ x) (evA σ y))
def wMu (x:AOd) (y:AOd) (σ:Tr AV) (h:AH):Option (AV × AH):=okV h (wPG (fun a b=>zlt b a) (evA σ x) (evA σ y))
def wMv (x:AOd) (y:AOd) (σ:Tr AV) (h:AH):Option (AV × AH):=okV h (wPG (fun a b=>zle b a) (evA σ x) (evA σ y))
def wMw (x:AOd) (y:AOd) (σ:Tr AV) (h:AH):Option (AV × AH):=okV h (wPG zeq (evA σ x) (evA σ y))
def wMx (x:AOd) (y:AOd) (σ:Tr AV) (h:AH):Option (AV × AH):=okV h (wPG (fun a b=>!zeq a b) (evA σ x) (evA σ y))
def wKD (ne:Bool) (x:AOd) (y:AOd) (σ:Tr AV) (h:AH):Option (AV × AH):=match evA σ x,evA σ y with
  | .bool a,.bool b=>some (.bool (ne != (a == b)),h)
  | _,_=>none
def wKE (k:Nat) (ne:Bool) (x:AOd) (y:AOd) (σ:Tr AV) (h:AH):Option (AV × AH):=match wLl k (evA σ x) (evA σ y) with
  | some b=>some (.bool (ne != b),h)
  | none=>none
def wKF (ne:Bool) (s:Sh) (x:AOd) (y:AOd) (σ:Tr AV) (h:AH):Option (AV × AH):=match wPI s (evA σ x) (evA σ y) with
  | some b=>some (.bool (ne != b),h)
  | none=>none
def wMy (x:AOd) (σ:Tr AV) (h:AH):Option (AV × AH):=okV h (wKC Int.sub (match evA σ x with | .int k _=>.int k 0 | _=>u) (evA σ x))
def wKG (x:AOd) (σ:Tr AV) (h:AH):Option (AV × AH):=match evA σ x with
  | .bool b=>some (.bool (!b),h)
  | _=>none
def wKH (k:IntKind) (x:AOd) (σ:Tr AV) (h:AH):Option (AV × AH):=match evA σ x with
  | .int _ n=>ifO (inK k n) (some (.int k n,h))
  | _=>none
def wLp (f:Pos) (fi:List AOd) (ca:List AOd) (σ:Tr AV) (h:AH):Option (AV × AH):=some (.fn f (evs σ fi) (evs σ ca),h)
def wQi  (σ:Tr AV) (h:AH):Option (AV × AH):=some (.map h.nx,h.push .map0)
def wHV (T:Nat) (sz:Nat) (by_:Nat) (z:List AV) (x:AOd) (y:AOd) (σ:Tr AV) (h:AH):Option (AV × AH):=match wHR (evA σ x),wHR (evA σ y) with
  | some l,some c=>ifO (nU l c && nU (c * sz) 16777216 && nU (by_ * c) 281474976710656 && nU c 16777216) (some (.sl h.nx 0 l c,h.push (.cells T (rep c z))))
  | _,_=>none
def wKI (sz:Nat) (x:AOd) (lo:Option AOd) (hi:Option AOd) (mx:Option AOd) (σ:Tr AV) (h:AH):Option (AV × AH):=match bnd σ lo,bnd σ hi,bnd σ mx with
  | some l,some hh,some m=>okV h (wSW sz (evA σ x) (orD l 0) hh m)
  | _,_,_=>none
def wHW (sz:Nat) (n:Nat) (x:AOd) (lo:Option AOd) (hi:Option AOd) (σ:Tr AV) (h:AH):Option (AV × AH):=match bnd σ lo,bnd σ hi,evA σ x with
  | some l,some hh,.ptr b off=>okV h (wSW sz (.sl b off n n) (orD l 0) hh none)
  | _,_,_=>none
def wKJ (off:Nat) (x:AOd) (σ:Tr AV) (h:AH):Option (AV × AH):=match evA σ x with
  | .ptr b o=>some (.ptr b (o + off),h)
  | _=>none
def wKK (off:Nat) (x:AOd) (σ:Tr AV) (h:AH):Option (AV × AH):=match evA σ x with
  | .agg l=>okV h (nth l off)
  | _=>none
def wHX (off:Nat) (n:Nat) (x:AOd) (σ:Tr AV) (h:AH):Option (AV × AH):=match evA σ x with
  | .agg l=>okV h (wIO (sub l off n))
  | _=>none
def wKL (sz:Nat) (x:AOd) (y:AOd) (σ:Tr AV) (h:AH):Option (AV × AH):=match evA σ x,wHR (evA σ y) with
  | .sl b off n _,some i=>ifO (nB i n) (some (.ptr b (off + i * sz),h))
  | .rw b _ co n,some i=>ifO (nB i n) (some (.ptr b (co + i * sz),h))
  | _,_=>none
def wHY (sz:Nat) (n:Nat) (x:AOd) (y:AOd) (σ:Tr AV) (h:AH):Option (AV × AH):=match evA σ x,wHR (evA σ y) with
  | .ptr b off,some i=>ifO (nB i n) (some (.ptr b (off + i * sz),h))
  | _,_=>none
def wQj (n:Nat) (x:AOd) (y:AOd) (σ:Tr AV) (h:AH):Option (AV × AH):=match evA σ x,wHR (evA σ y) with
  | .agg l,some i=>ifO (nB i n) (okV h (nth l i))
  | _,_=>none
def wKM (sz:Nat) (n:Nat) (x:AOd) (y:AOd) (σ:Tr AV) (h:AH):Option (AV × AH):=match evA σ x,wHR (evA σ y) with
  | .agg l,some i=>ifO (nB i n) (okV h (wIO (sub l (i * sz) sz)))
  | _,_=>none
def wPA (two:Bool) (k:IntKind) (ok:Bool) (z:AV) (x:AOd) (y:AOd) (σ:Tr AV) (h:AH):Option (AV × AH):=match evA σ x with
  | .map b=>match h.m.get b with
   | some B=>match wHS two k B (evA σ y) with
    | some (some v)=>some (match ok with | true=>.tup [v,.bool true] | false=>v,h)
    | some none=>some (match ok with | true=>.tup [z,.bool false] | false=>z,h)
    | none=>none
   | none=>none
  | _=>none
def wGl (two:Bool) (k:IntKind) (x:AOd) (y:AOd) (z:AOd) (σ:Tr AV) (h:AH):Option (AV × AH):=match evA σ x with
  | .map b=>match h.m.get b with
   | some B=>match wOx two k B (evA σ y) (evA σ z) with
    | some B'=>match h.put b B' with
     | some h'=>some (u,h')
     | none=>none
    | none=>none
   | none=>none
  | _=>none
def wGm (two:Bool) (k:IntKind) (x:AOd) (y:AOd) (σ:Tr AV) (h:AH):Option (AV × AH):=match evA σ x with
  | .map b=>match h.m.get b with
   | some B=>match wOy two k B (evA σ y) with
    | some B'=>match h.put b B' with
     | some h'=>some (u,h')
     | none=>none
    | none=>none
   | none=>none
  | _=>none
def wKN (i:Nat) (x:AOd) (σ:Tr AV) (h:AH):Option (AV × AH):=match evA σ x with
  | .tup l=>okV h (nth l i)
  | _=>none
def wMz (z:List AV) (ps:List (Nat × Nat × AOd)) (σ:Tr AV) (h:AH):Option (AV × AH):=okV h (wIO (wIj σ z ps))
def wEy (T:Nat) (n:Nat) (z:List AV) (ps:List (Nat × Nat × AOd)) (σ:Tr AV) (h:AH):Option (AV × AH):=match wIj σ z ps with
  | some l=>some (.sl h.nx 0 n n,h.push (.cells T l))
  | none=>none
def wKO (x:AOd) (σ:Tr AV) (h:AH):Option (AV × AH):=match evA σ x with
 | .snil=>some (.int .i64 0,h)
 | .sl _ _ n _=>some (.int .i64 (.ofNat n),h)
 | .rw _ _ _ n=>some (.int .i64 (.ofNat n),h)
 | .rz _ _=>some (.int .i64 0,h)
 | _=>none
def wFa (x:AOd) (σ:Tr AV) (h:AH):Option (AV × AH):=match evA σ x with
 | .mnil=>some (.int .i64 0,h)
 | .map b=>match h.m.get b with
  | some B=>match lenB B with
   | some n=>some (.int .i64 (.ofNat n),h)
   | none=>none
  | none=>none
 | _=>none
def wKP (x:AOd) (σ:Tr AV) (h:AH):Option (AV × AH):=match evA σ x with
  | .snil=>some (.int .i64 0,h)
  | .sl _ _ _ c=>some (.int .i64 (.ofNat c),h)
  | _=>none
def wJQ (T:Nat) (sz:Nat) (by_:Nat) (x:AOd) (y:AOd) (σ:Tr AV) (h:AH):Option (AV × AH):=match slice h sz (evA σ y) with
  | some (m,news)=>ifO (wQg news) (app h T sz by_ m news (evA σ x))
  | none=>none
def wJR (sz:Nat) (x:AOd) (y:AOd) (σ:Tr AV) (h:AH):Option (AV × AH):=match evA σ x,slice h sz (evA σ y) with
  | .sl b off n _,some (m,news)=>match sub news 0 ((if nU m n then m else n) * sz) with
   | some vs=>ifO (wQg vs) (match setAt h b off vs with
    | some h'=>some (.int .i64 (.ofNat (if nU m n then m else n)),h')
    | none=>none)
   | none=>none
  | _,_=>none
def wJS (z:List AV) (x:AOd) (σ:Tr AV) (h:AH):Option (AV × AH):=match evA σ x with
  | .sl b off n _=>clr h z b off n
  | .rw b _ co n=>clr h z b co n
  | .rz _ _=>some (u,h)
  | .snil=>some (u,h)
  | _=>none
def wNA (x:AOd) (y:AOd) (σ:Tr AV) (h:AH):Option (AV × AH):=okV h (match evA σ x,evA σ y with
  | .int .i64 a,.int .i64 b=>some (.int .i64 (match zlt b a with | true=>b | false=>a))
  | _,_=>none)
def wNB (x:AOd) (y:AOd) (σ:Tr AV) (h:AH):Option (AV × AH):=okV h (match evA σ x,evA σ y with
  | .int .i64 a,.int .i64 b=>some (.int .i64 (match zlt a b with | true=>b | false=>a))
  | _,_=>none)
abbrev Run:=AC->Tr AV->AH->Option (Ex × Tr AV × AH)
def wNC:List AV->Pos->Tr AV->Tr AV
 | [],_,t=>t
 | v :: l,p,t=>wNC l p.succ (t.set p v)
def res1 (σ:Tr AV) (h:AH):AR->Option AV
 | .t p=>some (evA σ (.t p))
 | .c p n=>match evA σ (.t p) with
  | .ptr b off=>match wDr h b with
   | some l=>match n with
    | none=>nth l off
    | some n=>wIO (sub l off n)
   | none=>none
  | _=>none
def wSD (σ:Tr AV) (h:AH):List AR->Option (List AV)
 | []=>some []
 | r :: l=>match res1 σ h r with
  | some v=>match wSD σ h l with
   | some vs=>some (v :: vs)
   | none=>none
  | none=>none
def tupA:List AV->AV
 | [v]=>v
 | l=>.tup l
def wQk (σ:Tr AV) (h:AH) (l:List AR):Option (AV × AH):=match wSD σ h l with
 | some vs=>some (tupA vs,h)
 | none=>none
def wJT (tb:Tr AF) (ex:Run) (f:Pos) (args:List AV) (h:AH):Option (AV × AH):=match tb.get f with
 | some af=>match nU (len args) af.n with
  | true=>match ex af.body (wNC args .H .e) h with
   | some (.nrm,σ,h')=>wQk σ h' af.res
   | some (.ret,σ,h')=>wQk σ h' af.res
   | _=>none
  | false=>none
 | none=>none
def Ex.done:Ex->LS
 | .nrm=>.ready
 | e=>.done e
def Ex.go:Ex->Bool
 | .nrm=>true
 | _=>false
def wQl:Tr AV->List Pos->List AV->Option (Tr AV)
 | σ,[],[]=>some σ
 | σ,t :: ts,v :: vs=>wQl (σ.set t v) ts vs
 | _,_,_=>none
def wJU (ex:Run) (b:Pos) (args:List AV) (h:AH):Option (AV × AH):=match h.m.get b with
 | some (.loop σ t asg body .ready)=>match wQl σ t args with
  | none=>none
  | some σ0=>match ex asg σ0 h with
  | some (.nrm,σ1,h1)=>match h1.m.get b with
   | some (.loop _ _ _ _ .ready)=>match h1.put b (.loop σ t asg body .busy) with
    | some h2=>match ex body σ1 h2 with
     | some (e,_,h3)=>match h3.m.get b with
      | some (.loop _ _ _ _ .busy)=>match h3.put b (.loop σ t asg body e.done) with
       | some h4=>some (.bool e.go,h4)
       | none=>none
      | _=>none
     | none=>none
    | none=>none
   | _=>none
  | _=>none
 | _=>none
def wGn (x:AOd) (l:List AOd) (tb:Tr AF) (ex exY:Run) (σ:Tr AV) (h:AH):Option (AV × AH):=match evA σ x with
 | .fn f fi ca=>wJT tb ex f (fi ++ (evs σ l ++ ca)) h
 | .yld b=>wJU exY b (evs σ l) h
 | _=>none
def andI (k:IntKind) (a b:Int):Int:=k.wrap (BitVec.ofInt k.bits a &&& BitVec.ofInt k.bits b).toNat
def wND (x:AOd) (y:AOd) (σ:Tr AV) (h:AH):Option (AV × AH):=okV h (match evA σ x,evA σ y with
 | .int k a,.int k' b=>match keq k k' with
  | true=>some (.int k (andI k a b))
  | false=>none
 | _,_=>none)
def wNE (x:AOd) (y:AOd) (σ:Tr AV) (h:AH):Option (AV × AH):=okV h (match evA σ x,evA σ y with
 | .int k a,.int _ (.ofNat b)=>some (.int k (a.fdiv (2 ^ min b k.bits)))
 | _,_=>none)
def wKQ (l:List Nat) (y:AOd) (σ:Tr AV) (h:AH):Option (AV × AH):=match evA σ y with
 | .int _ (.ofNat i)=>okV h (match nth l i with
  | some b=>some (.int .u8 (.ofNat b))
  | none=>none)
 | _=>none
def wJV (T sz by_:Nat) (z:List AV) (x y:AOd) (σ:Tr AV) (h:AH):Option (AV × AH):=match evA σ x,wHR (evA σ y) with
 | .snil,some n=>match n with
  | 0=>some (.snil,h)
  | m + 1=>ifO (nU ((m + 1) * by_) 140737488355328) (some (.rw h.nx 0 0 (m + 1),h.push (.row T sz (rep (m + 1) z))))
 | _,_=>none
def wSX (_:Tr AV) (_:AH):Option (AV × AH):=none
def opY (op:AOp):Tr AF->Run->Run->Tr AV->AH->Option (AV × AH) :=
 AOp.rec (motive:=fun _=>Tr AF->Run->Run->Tr AV->AH->Option (AV × AH))
  (fun x _ _ _=>wSC x)
  (fun c x y _ _ _=>wHT c x y)
  (fun T z _ _ _=>wQh T z)
  (fun T x _ _ _=>wLo T x)
  (fun x _ _ _=>wOz x)
  (fun n x _ _ _=>wID n x)
  (fun n x y _ _ _=>wQA n x y)
  (fun x _ _ _=>wHU x)
  (fun x y _ _ _=>wMn x y)
  (fun x y _ _ _=>wMo x y)
  (fun x y _ _ _=>wMp x y)
  (fun x y _ _ _=>wMq x y)
  (fun x y _ _ _=>wMr x y)
  (fun x y _ _ _=>wMs x y)
  (fun x y _ _ _=>wMt x y)
  (fun x y _ _ _=>wMu x y)
  (fun x y _ _ _=>wMv x y)
  (fun x y _ _ _=>wMw x y)
  (fun x y _ _ _=>wMx x y)
  (fun ne x y _ _ _=>wKD ne x y)
  (fun k ne x y _ _ _=>wKE k ne x y)
  (fun ne s x y _ _ _=>wKF ne s x y)
  (fun x _ _ _=>wMy x)
  (fun x _ _ _=>wKG x)
  (fun k x _ _ _=>wKH k x)
  (fun f fi ca _ _ _=>wLp f fi ca)
  (fun _ _ _=>wQi)
  (fun T sz bytes z x y _ _ _=>wHV T sz bytes z x y)
  (fun sz x lo hi mx _ _ _=>wKI sz x lo hi mx)
  (fun sz n x lo hi _ _ _=>wHW sz n x lo hi)
  (fun off x _ _ _=>wKJ off x)
  (fun off x _ _ _=>wKK off x)
  (fun off n x _ _ _=>wHX off n x)
  (fun sz x y _ _ _=>wKL sz x y)
  (fun sz n x y _ _ _=>wHY sz n x y)
  (fun n x y _ _ _=>wQj n x y)
  (fun sz n x y _ _ _=>wKM sz n x y)
  (fun two k ok z x y _ _ _=>wPA two k ok z x y)
  (fun two k x y z _ _ _=>wGl two k x y z)
  (fun two k x y _ _ _=>wGm two k x y)
  (fun i x _ _ _=>wKN i x)
  (fun z ps _ _ _=>wMz z ps)
  (fun T len z ps _ _ _=>wEy T len z ps)
  (fun x _ _ _=>wKO x)
  (fun x _ _ _=>wFa x)
  (fun x _ _ _=>wKP x)
  (fun T sz bytes x y _ _ _=>wJQ T sz bytes x y)
  (fun sz x y _ _ _=>wJR sz x y)
  (fun z x _ _ _=>wJS z x)
  (fun x y _ _ _=>wNA x y)
  (fun x y _ _ _=>wNB x y)
  wGn
  (fun _ _ _=>wSX)
  (fun x y _ _ _=>wND x y)
  (fun x y _ _ _=>wNE x y)
  (fun l y _ _ _=>wKQ l y)
  (fun T sz bytes z x y _ _ _=>wJV T sz bytes z x y) op
def wQB (op:AOp) (tb:Tr AF) (ex exY:Run) (σ:Tr AV) (h:AH):Option (AV × AH) :=
 match opY op tb ex exY σ ⟨h.m,h.nx,h.nx⟩ with
 | some (v,h')=>some (v,⟨h'.m,h'.nx,h.fl⟩)
 | none=>none
def opK (k:Nat) (op:AOp):Tr AF->Run->Run->Tr AV->AH->Option (AV × AH) :=
 nf (motive:=fun _=>Tr AF->Run->Run->Tr AV->AH->Option (AV × AH)) (opY op) (wQB op) (nD k 2)
def wGr (d:Option Pos) (σ:Tr AV) (v:AV):Tr AV:=nX (motive:=fun _=>Tr AV) σ (fun p=>σ.set p v) d
def isB (b:Bool) (v:AV):Bool:=match v with
 | .bool b'=>b' == b
 | _=>false
def wDN (σ:Tr AV) (g:Option (Pos × Bool)):Bool:=nX (motive:=fun _=>Bool) true (fun q=>isB q.2 (evA σ (.t q.1))) g
def goOn (d:Option Pos) (k:Tr AV->AH->Option (Tr AV × AH)) (σ:Tr AV) (r:AV × AH):Option (Tr AV × AH):=k (wGr d σ r.1) r.2
def wSY (o:AO) (k:Tr AV->AH->Option (Tr AV × AH)) (tb:Tr AF) (ex exY:Run) (σ:Tr AV) (h:AH):Option (Tr AV × AH) :=
 nX (motive:=fun _=>Option (Tr AV × AH)) none (goOn o.dst k σ) (opK o.kd o.op tb ex exY σ h)
def wAr (tb:Tr AF) (ex exY:Run) (l:List AO):Tr AV->AH->Option (Tr AV × AH) :=
 nv (motive:=fun _=>Tr AV->AH->Option (Tr AV × AH)) (fun σ h=>some (σ,h)) (fun o _ ih σ h =>
  nf (motive:=fun _=>Option (Tr AV × AH)) (ih (wGr o.dst σ u) h) (wSY o ih tb ex exY σ h) (wDN σ o.grd)) l
theorem wBO (tb:Tr AF) (ex exY:Run) (σ:Tr AV) (h:AH):wAr tb ex exY [] σ h=some (σ,h):=rfl
theorem wBS (tb:Tr AF) (ex exY:Run) (o:AO) (os:List AO) (σ:Tr AV) (h:AH):wAr tb ex exY (o :: os) σ h=(match wDN σ o.grd with
  | true=>match opK o.kd o.op tb ex exY σ h with
   | some r=>wAr tb ex exY os (wGr o.dst σ r.1) r.2
   | none=>none
  | false=>wAr tb ex exY os (wGr o.dst σ u) h):=by
 show nf (motive:=fun _=>Option (Tr AV × AH)) _ (nX (motive:=fun _=>Option (Tr AV × AH)) none _ (opK o.kd o.op tb ex exY σ h)) (wDN σ o.grd)=_
 cases wDN σ o.grd
 ·rfl
 ·cases opK o.kd o.op tb ex exY σ h <;> rfl
mutual
def same:AV->AV->Bool
 | .int k n,.int k' n'=>keq k k' && zeq n n'
 | .bool a,.bool b=>a == b
 | .ptr b o,.ptr b' o'=>b.beq b' && nD o o'
 | .pnil,.pnil=>true
 | .sl b o n c,.sl b' o' n' c'=>b.beq b' && (nD o o' && (nD n n' && nD c c'))
 | .rw b eo co n,.rw b' eo' co' n'=>b.beq b' && (nD eo eo' && (nD co co' && nD n n'))
 | .snil,.snil=>true
 | .map b,.map b'=>b.beq b'
 | .mnil,.mnil=>true
 | .fn f fi ca,.fn f' fi' ca'=>f.beq f' && (wIk fi fi' && wIk ca ca')
 | .fnil,.fnil=>true
 | .agg l,.agg l'=>wIk l l'
 | .tup l,.tup l'=>wIk l l'
 | _,_=>false
def wIk:List AV->List AV->Bool
 | [],[]=>true
 | a :: l,b :: k=>same a b && wIk l k
 | _,_=>false
end
def wCh (k:Nat):Bool:=nD k 0 || nD k 2
def wIP (tb:Tr AF) (ex exY:Run) (σf:Tr AV) (h:AH) (a:AO):Bool:=match a.dst with
 | some p=>match wDN σf a.grd with
  | false=>true
  | true=>match opY a.op tb ex exY σf h with
   | some (v,_)=>same v (evA σf (.t p))
   | none=>false
 | none=>true
def wJv (tb:Tr AF) (ex exY:Run) (σf:Tr AV) (h:AH) (n:Nat) (l:List AO):Bool :=
 nv (motive:=fun _=>Nat->Bool) (fun _=>true) (fun a _ ih n=>nf (motive:=fun _=>Bool) (nf (motive:=fun _=>Bool) (ih n) (nf (motive:=fun _=>Bool) false (ih n) (wIP tb ex exY σf h a)) (nB (n + 8) a.kd)) (ih (Nat.succ n)) (wCh a.kd)) l n
theorem wEz (tb:Tr AF) (ex exY:Run) (σf:Tr AV) (h:AH) (n:Nat) (a:AO) (t:List AO):wJv tb ex exY σf h n (a :: t)=(match wCh a.kd with
  | true=>wJv tb ex exY σf h (n + 1) t
  | false=>(match nB (n + 8) a.kd with
   | true=>wIP tb ex exY σf h a
   | false=>true) && wJv tb ex exY σf h n t):=by
 show nf (motive:=fun _=>Bool) (nf (motive:=fun _=>Bool) (wJv tb ex exY σf h n t) (nf (motive:=fun _=>Bool) false (wJv tb ex exY σf h n t) (wIP tb ex exY σf h a)) (nB (n + 8) a.kd)) (wJv tb ex exY σf h (n + 1) t) (wCh a.kd)=_
 cases wCh a.kd
 ·cases nB (n + 8) a.kd
  ·rfl
  ·cases wIP tb ex exY σf h a <;> rfl
 ·rfl
def wQm (tb:Tr AF) (ex exY:Run) (o:AO) (σ:Tr AV) (h:AH):Option (Tr AV × AH):=match wDN σ o.grd with
 | true=>match opK o.kd o.op tb ex exY σ h with
  | some r=>some (wGr o.dst σ r.1,r.2)
  | none=>none
 | false=>some (wGr o.dst σ u,h)
def wNF (tb:Tr AF) (ex exY:Run) (l:List AO):Tr AV->AH->Option (Tr AV × AH) :=
 nv (motive:=fun _=>Tr AV->AH->Option (Tr AV × AH)) (fun σ h=>some (σ,h)) (fun o os ih σ h =>
  nX (motive:=fun _=>Option (Tr AV × AH)) none (fun r=>nf (motive:=fun _=>Option (Tr AV × AH)) (some r) (nf (motive:=fun _=>Option (Tr AV × AH)) none (some r) (wJv tb ex exY r.1 h 0 os)) (nD o.kd 0))
   (nf (motive:=fun _=>Option (Tr AV × AH)) (ih (wGr o.dst σ u) h) (wSY o ih tb ex exY σ h) (wDN σ o.grd))) l
theorem wPJ (tb:Tr AF) (ex exY:Run) (σ:Tr AV) (h:AH):wNF tb ex exY [] σ h=some (σ,h):=rfl
theorem wNG (tb:Tr AF) (ex exY:Run) (o:AO) (os:List AO) (σ:Tr AV) (h:AH):wNF tb ex exY (o :: os) σ h=(match wQm tb ex exY o σ h with
  | none=>none
  | some q=>match wNF tb ex exY os q.1 q.2 with
   | none=>none
   | some r=>match nD o.kd 0 with
    | true=>match wJv tb ex exY r.1 h 0 os with
     | true=>some r
     | false=>none
    | false=>some r):=by
 show nX (motive:=fun _=>Option (Tr AV × AH)) none (fun r=>nf (motive:=fun _=>Option (Tr AV × AH)) (some r) (nf (motive:=fun _=>Option (Tr AV × AH)) none (some r) (wJv tb ex exY r.1 h 0 os)) (nD o.kd 0))
   (nf (motive:=fun _=>Option (Tr AV × AH)) (wNF tb ex exY os (wGr o.dst σ u) h) (nX (motive:=fun _=>Option (Tr AV × AH)) none (fun r=>wNF tb ex exY os (wGr o.dst σ r.1) r.2) (opK o.kd o.op tb ex exY σ h)) (wDN σ o.grd))=_
 unfold wQm
 cases wDN σ o.grd
 ·simp only
  cases wNF tb ex exY os (wGr o.dst σ u) h with
  | none=>rfl
  | some r =>
   simp only
   cases nD o.kd 0
   ·rfl
   ·cases wJv tb ex exY r.1 h 0 os <;> rfl
 ·cases opK o.kd o.op tb ex exY σ h with
  | none=>rfl
  | some q =>
   simp only
   cases wNF tb ex exY os (wGr o.dst σ q.1) q.2 with
   | none=>rfl
   | some r =>
    simp only
    cases nD o.kd 0
    ·rfl
    ·cases wJv tb ex exY r.1 h 0 os <;> rfl
abbrev R:=Option (Ex × Tr AV × AH)
def sNrm (σ:Tr AV) (h:AH):R:=some (.nrm,σ,h)
def sRg (l:List AO) (tb:Tr AF) (ex exY exR:Run) (σ:Tr AV) (h:AH):R :=
 nX (motive:=fun _=>R) none (fun r=>some (.nrm,r.1,r.2)) (wAr tb ex exY l σ h)
def sRl (l:List AO) (tb:Tr AF) (ex exY:Run) (σ:Tr AV) (h:AH):R :=
 nX (motive:=fun _=>R) none (fun r=>some (.nrm,r.1,r.2)) (wNF tb ex exY l σ h)
theorem wQC (l:List AO) (tb:Tr AF) (ex exY:Run) (σ:Tr AV) (h:AH):sRl l tb ex exY σ h=(match wNF tb ex exY l σ h with
  | some r=>some (.nrm,r.1,r.2)
  | none=>none):=by
 unfold sRl
 cases wNF tb ex exY l σ h <;> rfl
def seqK (b:AC) (exR:Run) (r:Ex × Tr AV × AH):R:=Ex.rec (motive:=fun _=>Tr AV->AH->R) (fun σ h=>exR b σ h) (fun i σ h=>some (.exit i,σ,h)) (fun σ h=>some (.ret,σ,h)) r.1 r.2.1 r.2.2
def wSZ (a b:AC) (exR:Run) (σ:Tr AV) (h:AH):R:=nX (motive:=fun _=>R) none (seqK b exR) (exR a σ h)
def wNH (c:AOd) (a b:AC) (exR:Run) (σ:Tr AV) (h:AH):R:=match evA σ c with
 | .bool true=>exR a σ h
 | .bool false=>exR b σ h
 | _=>none
def wQD (i:Nat) (r:Ex × Tr AV × AH):R:=Ex.rec (motive:=fun _=>Tr AV->AH->R) (fun σ h=>some (.nrm,σ,h))
 (fun j σ h=>nf (motive:=fun _=>R) (some (.exit j,σ,h)) (some (.nrm,σ,h)) (nD j i)) (fun σ h=>some (.ret,σ,h)) r.1 r.2.1 r.2.2
def wLA (i:Nat) (a:AC) (exR:Run) (σ:Tr AV) (h:AH):R:=nX (motive:=fun _=>R) none (wQD i) (exR a σ h)
def wNI (a:AC) (exR:Run) (σ:Tr AV) (h:AH):R:=nX (motive:=fun _=>R) none (seqK (.loop a) exR) (exR a σ h)
def sRf (f:Bool) (g:AOd) (t:List Pos) (asg body:AC) (tb:Tr AF) (ex:Run) (σ:Tr AV) (h:AH):R:=match f,evA σ g with
 | true,.fn f fi ca=>match wJT tb ex f (fi ++ (.yld h.nx :: ca)) (h.push (.loop σ t asg body .ready)) with
  | some (_,h2)=>match h2.m.get h.nx with
   | some (.loop _ _ _ _ .ready)=>match h2.put h.nx .dead with
    | some h3=>some (.nrm,σ,h3)
    | none=>none
   | some (.loop _ _ _ _ (.done e))=>match h2.put h.nx .dead with
    | some h3=>some (e,σ,h3)
    | none=>none
   | _=>none
  | none=>none
 | _,_=>none
def step (c:AC):Bool->Tr AF->Run->Run->Run->Tr AV->AH->R :=
 AC.rec (motive:=fun _=>Bool->Tr AF->Run->Run->Run->Tr AV->AH->R)
  (fun _ _ _ _ _=>sNrm)
  (fun l _ tb ex exY exR=>sRg l tb ex exY exR)
  (fun a b _ _ _ _ _ _ exR=>wSZ a b exR)
  (fun c a b _ _ _ _ _ _ exR=>wNH c a b exR)
  (fun i a _ _ _ _ _ exR=>wLA i a exR)
  (fun a _ _ _ _ _ exR=>wNI a exR)
  (fun g t asg body _ _ f tb ex _ _=>sRf f g t asg body tb ex)
  (fun i _ _ _ _ _ σ h=>some (.exit i,σ,h))
  (fun a _ _ _ _ _ exR=>exR a)
  (fun _ _ _ _ _ σ h=>some (.ret,σ,h))
  (fun l _ tb ex exY _=>sRl l tb ex exY) c
def exec (tb:Tr AF) (n:Nat):Bool->Run :=
 kP (motive:=fun _=>Bool->Run) (fun _ _ _ _=>none) (fun _ ih r c=>step c (!r) tb (ih false) (ih true) (ih r)) n
theorem wJW (tb:Tr AF) (n:Nat) (r:Bool) (c:AC):exec tb (n + 1) r c=step c (!r) tb (exec tb n false) (exec tb n true) (exec tb n r):=rfl
end
end Go.KX
namespace Go.KX
open Go.RowKit Go.KL
def wNJ (σ:Env):List Nat->List Value->Env
 | t :: ts,v :: vs=>wNJ (upd σ t v) ts vs
 | _,_=>σ
theorem wNK {N:Nat}:∀ (ts:List Nat) (vs:List Value) {tmps:Array Value} {σ:Env},(∀ t ∈ ts,t < N)->Rep N [] { tmps:=tmps,defers:=[] } σ ->
  Rep N [] { tmps:=(ts.zip vs).foldl (fun tmps (x:Nat × Value)=>tmps.setIfInBounds x.1 x.2) tmps,defers:=[] } (wNJ σ ts vs)
 | [],vs,tmps,σ,_,h=>by simpa [wNJ] using h
 | _ :: _,[],tmps,σ,_,h=>by simpa [wNJ] using h
 | t :: ts,v :: vs,tmps,σ,ht,h=>by
  have h':=h.put (ht t (by simp)) v
  have:=wNK ts vs (tmps:=tmps.setIfInBounds t v) (σ:=upd σ t v) (fun x hx=>ht x (by simp [hx])) (by simpa [Act.put] using h')
  simpa [wNJ] using this
def LoopAt (w:World) (l N:Nat) (σ:Env) (t:List Nat) (assign body:Code) (rb:Nat) (fn:FuncId) (s:LoopState) (pend:Option Code):Prop :=
 ∃ a D,Rep N D a σ/\w.heap[l]?=some (.loop { state:=s,pending:=pend,fn,tmps:=a.tmps,params:=t.toArray,assign,body,defers:=rb })
def Yd (P:Program) (l:Nat) (v:List Value) (w:World) (R:Bool->World->Prop):Prop :=
 ∃ lr:Loop,w.heap[l]?=some (.loop lr)/\lr.params.size=v.length /\
  RoundIn (WF none) 0 P l lr.fn ((lr.params.zip v.toArray).foldl (fun tmps (t,a)=>tmps.setIfInBounds t a) lr.tmps) lr.assign lr.body w (fun e w'=>∃ b,e=.returned (.bool b)/\R b w')
theorem LoopAt.lt {w:World} {l N:Nat} {σ:Env} {t:List Nat} {assign body:Code} {rb:Nat} {fn:FuncId} {s:LoopState} {pend:Option Code} (h:LoopAt w l N σ t assign body rb fn s pend):l < w.heap.size:=by
 obtain ⟨a,D,_,h⟩:=h
 rcases nW l w.heap.size with hlt | hge
 ·exact hlt
 ·rw [nr hge] at h;cases h
theorem LoopAt.keep {w w':World} {l N:Nat} {σ:Env} {t:List Nat} {assign body:Code} {rb:Nat} {fn:FuncId} {s:LoopState} {pend:Option Code} {X:Nat->Prop} (h:LoopAt w l N σ t assign body rb fn s pend) (k:Keep w w' X) (hx:¬ X l):LoopAt w' l N σ t assign body rb fn s pend:=by
 have hl:=h.lt
 obtain ⟨a,D,hr,h⟩:=h
 exact ⟨a,D,hr,(k.block l hl hx).trans h⟩
section
variable {N:Nat} {P:Program} {Q:wDc} {D:List Deferred} {σ:Env} {w:World}
def wNL (P:Program) (l N:Nat) (σ:Env) (t:List Nat) (assign body:Code) (rb:Nat) (fn:FuncId) (R:Bool->World->Prop):wDc:=fun _ e _ w =>
 match e with
 | .normal=>LoopAt w l N σ t assign body rb fn .busy none/\∀ w',LoopAt w' l N σ t assign body rb fn .ready none->Keep w w' (·=l)->w'.heap.size=w.heap.size->R true w'
 | .ret=>LoopAt w l N σ t assign body rb fn .busy none/\∀ w',LoopAt w' l N σ t assign body rb fn .done (some .ret)->Keep w w' (·=l)->w'.heap.size=w.heap.size->R false w'
 | .exit i=>LoopAt w l N σ t assign body rb fn .busy none/\∀ w',LoopAt w' l N σ t assign body rb fn .done (some (.exit i))->Keep w w' (·=l)->w'.heap.size=w.heap.size->R false w'
 | _=>False
theorem Yd.of {l:Nat} {t:List Nat} {assign body:Code} {rb:Nat} {fn:FuncId} {v:List Value} {R:Bool->World->Prop} (hl:LoopAt w l N σ t assign body rb fn .ready none) (ht:∀ x ∈ t,x < N) (hlen:t.length=v.length)
  (h:∀ σ0,(∀ i,σ0 i=wNJ σ t v i)->CK (some l) N P assign (fun D' e σ' w1=>e=.normal/\D'=[]/\LoopAt w1 l N σ t assign body rb fn .ready none /\
   ∀ w2,LoopAt w2 l N σ t assign body rb fn .busy none->Keep w1 w2 (·=l)->w2.heap.size=w1.heap.size->CK (some l) N P body (wNL P l N σ t assign body rb fn R) [] σ' w2) [] σ0 w):Yd P l v w R:=by
 obtain ⟨a,D,hr,hh⟩:=hl
 refine ⟨_,hh,by simpa using hlen,?_⟩
 refine roundIn_of_wpIn (F:=WF none) trivial ?_
 have hrep:Rep N [] { tmps:=((t.toArray.zip v.toArray).foldl (fun tmps (x:Nat × Value)=>tmps.setIfInBounds x.1 x.2) a.tmps),defers:=[] } (wNJ σ t v):=by
  have:=wNK t v ht (show Rep N [] { tmps:=a.tmps,defers:=[] } σ from ⟨hr.size,rfl,hr.get⟩)
  simpa using this
 refine wpIn_mono (h _ (fun _=>rfl) _ hrep) ?_
 rintro e a1 w1 ⟨σ',D',hr1,rfl,rfl,hl1,hb⟩
 obtain ⟨a2,D2,hr2,hh2⟩:=hl1
 have hlt:l < w1.heap.size:=LoopAt.lt ⟨a2,D2,hr2,hh2⟩
 refine ⟨_,run_beginRound hh2 rfl,?_⟩
 have hl2:LoopAt (w1.putObj l (.loop { state:=.busy,pending:=none,fn,tmps:=a2.tmps,params:=t.toArray,assign,body,defers:=rb })) l N σ t assign body rb fn .busy none:=⟨a2,D2,hr2,World.putObj_heap_same hlt⟩
 refine wpIn_mono (hb _ hl2 (wCJ _ _ _) (by simp) a1 hr1) ?_
 rintro e a3 w3 ⟨σ3,D3,hr3,q⟩
 have fin:∀ (jump:Option Code) (b:Bool),b=jump.isNone->LoopAt w3 l N σ t assign body rb fn .busy none ->
   (∀ w',LoopAt w' l N σ t assign body rb fn (if jump.isNone then .ready else .done) jump->Keep w3 w' (·=l)->w'.heap.size=w3.heap.size->R b w') ->
   ∃ v w',(Instr.endRound l jump).run P w3=.ok v w'/\∃ b,Ending.returned v=.returned (.bool b)/\R b w':=by
  rintro jump b rfl ⟨a4,D4,hr4,hh4⟩ hR
  have hlt3:l < w3.heap.size:=LoopAt.lt ⟨a4,D4,hr4,hh4⟩
  exact ⟨_,_,run_endRound jump hh4,_,rfl,hR _ ⟨a4,D4,hr4,World.putObj_heap_same hlt3⟩ (wCJ _ _ _) (by simp)⟩
 cases e with
 | normal=>exact fin none true rfl q.1 q.2
 | ret=>exact fin (some .ret) false rfl q.1 q.2
 | exit i=>exact fin (some (.exit i)) false rfl q.1 q.2
 | goto i=>exact q.elim
 | panic c=>exact q.elim
 | outgrown=>exact q.elim
def mark (rb:Nat):Deferred:={ target:=.collected rb,args:=#[] }
theorem CK.rangeFunc {g:Operand} {t:List Nat} {assign body:Code} {f:FuncId} {fl cl:List Value} (hx:ev σ g=.func (.func f) fl.toArray cl.toArray)
  (hcall:∀ (args:Array Value) (w:World),(callFunc f args).run P w=.ok (.enter f args) w)
  (h:∀ fn l rb w1,rb=w.heap.size->l=w.heap.size + 1->LoopAt w1 l N σ t assign body rb fn .ready none->w1.heap[rb]?=some (.deferred (some []))->Keep w w1 Non->w1.heap.size=w.heap.size + 2 ->
   Gv P f (fl ++ [.func (.yield l) #[] #[]] ++ cl) w1 (fun _ w3 =>
    (LoopAt w3 l N σ t assign body rb fn .ready none/\∀ w4,Keep w3 w4 (·=l)->w4.heap.size=w3.heap.size->Q (mark rb :: D) .normal σ w4) \/
    (∃ e,(e=Exit.ret \/ ∃ i,e=.exit i)/\LoopAt w3 l N σ t assign body rb fn .done (match e with | .ret=>some .ret | .exit i=>some (.exit i) | _=>none)/\∀ w4,Keep w3 w4 (·=l)->w4.heap.size=w3.heap.size->Q (mark rb :: D) e σ w4))) :
  CK none N P (.rangeFunc g t.toArray assign body) Q D σ w:=by
 intro a ha
 refine wpIn_rangeFunc (F:=WF none) fun fn _=>?_
 have hl:LoopAt ((w.alloc (.deferred (some []))).alloc (.loop { state:=.ready,pending:=none,fn,tmps:=a.tmps,params:=t.toArray,assign,body,defers:=w.heap.size })) (w.heap.size + 1) N σ t assign body w.heap.size fn .ready none:=by
  refine ⟨a,D,ha,?_⟩
  have:=heap_alloc_new (w.alloc (.deferred (some []))) (.loop { state:=.ready,pending:=none,fn,tmps:=a.tmps,params:=t.toArray,assign,body,defers:=w.heap.size })
  rwa [World.size_alloc] at this
 have hd:((w.alloc (.deferred (some []))).alloc (.loop { state:=.ready,pending:=none,fn,tmps:=a.tmps,params:=t.toArray,assign,body,defers:=w.heap.size })).heap[w.heap.size]?=some (.deferred (some [])):=by
  rw [Below.heap_alloc _ _ _ (by simp)]
  exact heap_alloc_new w _
 have hG:=h fn _ _ _ rfl rfl hl hd ((wBY w _).non (wBY _ _)) (by simp)
 generalize hW:(w.alloc (.deferred (some []))).alloc (.loop { state:=.ready,pending:=none,fn,tmps:=a.tmps,params:=t.toArray,assign,body,defers:=w.heap.size })=W1 at hl hd hG
 refine ⟨w.heap.size + 1,[{ target:=.collected w.heap.size,args:=#[] }],W1,{ target:=.fn (.func f) cl.toArray,args:=(fl ++ [Value.func (.yield (w.heap.size + 1)) #[] #[]]).toArray },W1,f,(fl ++ [Value.func (.yield (w.heap.size + 1)) #[] #[]] ++ cl).toArray,W1,hW ▸ run_enterLoop_outer fn a.tmps t.toArray assign body,?_,fun _ _=>trivial,?_,fun h=>(by cases h),?_⟩
 ·have he:a.eval g=.func (.func f) fl.toArray cl.toArray:=by rw [ha.eval];exact hx
  have hc:a.eval (.const (.func (.yield (w.heap.size + 1)) #[] #[]))=.func (.yield (w.heap.size + 1)) #[] #[]:=rfl
  simp [resolve,rangeCall,he,hc,Deferred.ofValue]
 ·simp [invoke,hcall]
 ·refine CallsIn.mono (hG.callsIn none) ?_
  rintro e w3 ⟨v,rfl,hv⟩
  have hrep:Rep N (mark w.heap.size :: D) { a with defers:=[{ target:=.collected w.heap.size,args:=#[] }] ++ a.defers } σ:=⟨ha.size,by rw [<- ha.defers];rfl,ha.get⟩
  rcases hv with ⟨hl3,hQ⟩ | ⟨e,he,hl3,hQ⟩
  ·obtain ⟨a3,D3,hr3,hh3⟩:=hl3
   exact ⟨none,_,run_endLoop hh3 (by simp),σ,_,hrep,hQ _ (wCJ _ _ _) (by simp)⟩
  ·rcases he with rfl | ⟨i,rfl⟩
   ·obtain ⟨a3,D3,hr3,hh3⟩:=hl3
    exact ⟨some .ret,_,run_endLoop hh3 (by simp),wpIn_ret ⟨σ,_,hrep,hQ _ (wCJ _ _ _) (by simp)⟩⟩
   ·obtain ⟨a3,D3,hr3,hh3⟩:=hl3
    exact ⟨some (.exit i),_,run_endLoop hh3 (by simp),wpIn_exit ⟨σ,_,hrep,hQ _ (wCJ _ _ _) (by simp)⟩⟩
def Dfr (w:World) (rb:Nat):Prop:=w.heap[rb]?=some (.deferred (some []))
theorem Dfr.lt {w:World} {b:Nat} (h:Dfr w b):b < w.heap.size:=by
 rcases nW b w.heap.size with hlt | hge
 ·exact hlt
 ·unfold Dfr at h;rw [nr hge] at h;cases h
theorem Dfr.keep {w w':World} {b:Nat} {X:Nat->Prop} (h:Dfr w b) (k:Keep w w' X) (hx:¬ X b):Dfr w' b:=(k.block b h.lt hx).trans h
def retM (P:Program) (rs:Array ResultVar) (R:Value->World->Prop):wDc:=fun D e σ w =>
 match e with
 | .normal | .ret=>∃ rbs:List Nat,D=rbs.map mark/\rbs.Nodup/\(∀ rb ∈ rbs,Dfr w rb)/\∀ w',Keep w w' (· ∈ rbs)->w'.heap.size=w.heap.size->∃ v,(wCs rs σ).run P w'=.ok v w'/\R v w'
 | _=>False
theorem Gv.ofM {f:FuncId} {fn:Func} {c:Code} {args:List Value} {R:Value->World->Prop} {rs:Array ResultVar}
  (hf:P.funcs[f]?=some fn) (hb:fn.body=some c) (hN:fn.ntmps=N) (hrs:fn.results=rs) (hle:args.length <= N)
  (h:CK none N P c (retM P rs R) [] (wPt args) w):Gv P f args w R:=by
 refine callsIn_wide.1 (callsIn_of_wp_marks hf hb trivial ?_ (n:=0))
 subst hN hrs
 refine wpIn_mono (h _ (wKw args _ hle)) ?_
 have fin:∀ (σ:Env) (a:Act) (tmps:Array Value),(results fn tmps=wCs fn.results σ)->∀ (rbs:List Nat) (w:World) (u:FrameMode),u=.returning->rbs.Nodup->(∀ rb ∈ rbs,Dfr w rb)->(∀ w',Keep w w' (· ∈ rbs)->w'.heap.size=w.heap.size->∃ v,(wCs fn.results σ).run P w'=.ok v w'/\R v w') ->
   LeavesInM Fence.wide 0 P fn tmps (fun e w'=>∃ v,e=.returned v/\R v w') (rbs.map mark) u w:=by
  intro σ a tmps hres rbs
  induction rbs with
  | nil =>
   intro w u hu _ _ hR
   subst hu
   obtain ⟨v,hv,hRv⟩:=hR w (Keep.refl w _) rfl
   exact ⟨v,by rw [hres];exact hv,v,rfl,hRv⟩
  | cons rb rbs ih =>
   intro w u hu hn hd hR
   subst hu
   obtain ⟨hn1,hn2⟩:=ki.1 hn
   refine ⟨by simp,.inl ⟨rb,_,rfl,run_takeDeferred (hd rb (by simp)),ih _ _ rfl hn2 (fun x hx=>(hd x (by simp [hx])).keep (wCJ w rb _) fun e=>hn1 (e ▸ hx)) fun w' K hs=>hR w' ?_ (by rw [hs];simp)⟩⟩
   exact ((wCJ w rb _).weak fun i _ e=>by subst e;simp).step K fun i _ hi=>by simp [hi]
 rintro e a w ⟨σ,D,hr,q⟩
 cases e with
 | normal=>obtain ⟨rbs,rfl,h1,h2,h3⟩:=q;show LeavesInM _ _ _ _ _ _ a.defers _ _;rw [hr.defers];exact fin σ a _ (wGB hr fn) rbs w _ rfl h1 h2 h3
 | ret=>obtain ⟨rbs,rfl,h1,h2,h3⟩:=q;show LeavesInM _ _ _ _ _ _ a.defers _ _;rw [hr.defers];exact fin σ a _ (wGB hr fn) rbs w _ rfl h1 h2 h3
 | _=>exact q.elim
end
theorem Yd.rounds {P:Program} {σ:Env} {w:World} {o:Oper} {l:Nat} {x:Operand} {ys:Array Operand} {ty:Array TypeId} {v:List Value} {R:Bool->World->Prop} (ho:o.op=.call { callee:=.value x,args:=ys,argTypes:=ty })
  (hx:ev σ x=.func (.yield l) #[] #[]) (hy:ys.toList.map (ev σ)=v) (hY:Yd P l v w R):Rounds P σ w o fun v w'=>∃ b,v=.bool b/\R b w':=by
 subst hy
 obtain ⟨lr,h1,h2,h3⟩:=hY
 refine ⟨by rw [ho];rfl,l,lr.fn,_,lr.assign,lr.body,?_,h3.mono fun e w' ⟨b,e1,e2⟩=>⟨_,e1,b,rfl,e2⟩⟩
 have e:ys.map (ev σ)=(ys.toList.map (ev σ)).toArray:=by
  rw [<- Array.toList_map]
 have:=run_yield (P:=P) (args:=ys.map (ev σ)) h1 (by simpa using h2.symm)
 rw [<- e]
 simp [execOp,ho,resolve,hx,Deferred.ofValue,invoke,this]
end Go.KX
namespace Go.KL
def wNM {α:Type} (l:List α):Option Unit:=if l.length=0 then none else some ()
theorem wPK {α:Type} {l:List α} {u:Unit} (h:wNM l=some u):l ≠ []:=by
 intro e
 subst e
 cases h
theorem wLq {α:Type} {l:List α} (h:l ≠ []):wNM l=some ():=if_neg fun e=>h (nw e)
end Go.KL
namespace Go.KL
open Go.RowKit
section
variable {P:Program} {σ:Env} {w:World} {o:Oper}
theorem Runs.eqNilR {t u:TypeId} {x y:Operand} {A:Option Addr} {n c e:Nat} {b:Bool} (ho:o.op=.binOp .eql t x y u) (hx:ev σ x=.slice A n c) (hy:ev σ y=.slice none 0 0) (ht:∀ w,(underlying t).run P w=.ok (.slice e) w) (h:A.isNone=b):Runs P σ w o (.bool b) w :=
 h ▸ Runs.eqNil ho hx hy ht
theorem Runs.neNilR {t u:TypeId} {x y:Operand} {A:Option Addr} {n c e:Nat} {b:Bool} (ho:o.op=.binOp .neq t x y u) (hx:ev σ x=.slice A n c) (hy:ev σ y=.slice none 0 0) (ht:∀ w,(underlying t).run P w=.ok (.slice e) w) (h:(!A.isNone)=b):Runs P σ w o (.bool b) w :=
 h ▸ Runs.neNil ho hx hy ht
end
section
variable {N:Nat} {P:Program} {l:List Oper} {Q:wDc} {D:List Deferred} {ks:List Nat} {σ:Env} {w:World} {i d:Nat} {s:Sch} {o:Oper}
theorem OKS.rm {x:Operand} {v:Value} (ho:l[i]?=some o) (hd:o.dst=some d) (hN:nB d N=true) (hw:wanted l σ o=true) (hm:o.op=.move x) (hx:ev σ x=v)
  (k:OKS N P l Q D ks s (upd σ d v) w):OKS N P l Q D ks (.fl i s) σ w:=OKS.r ho hd hN hw (fun _=>Runs.mv hm hx) k
theorem OKS.ra {x:Operand} {v:Value} (ho:l[i]?=some o) (hd:o.dst=some d) (hN:nB d N=true) (hw:wanted l σ o=true) (hm:o.op=.assign x) (hx:ev σ x=v)
  (k:OKS N P l Q D ks s (upd σ d v) w):OKS N P l Q D ks (.fl i s) σ w:=OKS.r ho hd hN hw (fun _=>Runs.as hm hx) k
end
theorem wHZ {α:Type} [DecidableEq α] {B:Base} {U:PHeap} {L:List Res} {w:World} {j:Nat} {A:Option Addr} {c T sz:Nat} {xs:List α} {f:α->List Value} (hS:St B U L w) (hk:L[j]?=some (.row A c T sz (xs.flatMap f))) (hf:∀ x,(f x).length=sz) (hsz:0 < sz) (h:xs=[]->A=none) :
  A.isNone=decide (xs=[]):=by
 by_cases e:xs=[]
 ·rw [h e,decide_eq_true e]
  rfl
 ·rw [decide_eq_false e]
  rcases hS.at_ _ (hH hk) with ⟨_,_,h3⟩ | ⟨b,cur,h1,_⟩
  ·cases xs with
   | nil=>exact absurd rfl e
   | cons x xs =>
    have:=congrArg aL h3
    rw [nZ,aD,hf] at this
    simp at this
    omega
  ·rw [h1]
   rfl
end Go.KL
namespace Go.KL
open Go.RowKit
section
variable {B:Base} {U:PHeap} {L:List Res} {w:World}
theorem St.freezeT (h:St B U L w) {k c n T sz:Nat} {A:Option Addr} {cs:List Value} (hk:L[k]?=some (.row A c T sz cs)) (hn:cs.length=n * sz) (hz:0 < sz) :
  ∃ U',PHeap.Le U U'/\Sl U' sz A c n cs/\St B U' (L.eraseIdx k) w/\∀ U2 L2 w2,PHeap.Le U' U2->St B U2 L2 w2->∃ U3,PHeap.Le U U3/\St B U3 (.row A c T sz cs :: L2) w2:=by
 have hr:=h.at_ _ (hH hk)
 rcases hr with ⟨rfl,rfl,rfl⟩ | ⟨b,cur,rfl,h1,h2,h3⟩
 ·have:n=0:=by
   simp only [List.length_nil] at hn
   rcases nj n with e | e
   ·exact e
   ·have:=kG e hz;omega
  subst this
  exact ⟨U,PHeap.Le.refl U,Sl.nil _ _ _ _,h.drop k,fun U2 L2 w2 hl h2=>⟨U2,hl,h2.nilrow T sz⟩⟩
 ·have ho:=h.own _ (hH hk) b rfl
  obtain ⟨U',g1,g2,g3⟩:=h.freezeB ⟨_,hk,rfl⟩
  obtain ⟨_,_,h5⟩:=id h3
  refine ⟨U',g1,⟨hn,?_,.inr ⟨b,0,cur,T,(0,0),rfl,g2.trans h1,?_⟩⟩,g3,fun U2 L2 w2 hl q=>?_⟩
  ·rw [hn] at h2;exact nc h2 hz
  ·rw [<- hn];simpa using h5
  ·have e2:=hl _ _ (g2.trans h1)
   refine ⟨fun x=>if x=b then none else U2 x,fun x o hx=>?_,q.os,q.tape,q.output,q.size,q.old,fun x o hx=>?_,fun x o hx=>?_,fun x o hx=>?_,fun r hr=>?_,fun r hr x hx=>?_,fun i j r s x hi hj hr hs=>?_⟩
   ·have:x ≠ b:=fun e=>by subst e;rw [ho.1] at hx;cases hx
    simp only [if_neg this]
    exact hl _ _ (g1 _ _ hx)
   ·split at hx
    ·cases hx
    ·exact q.fro x o hx
   ·have:x ≠ b:=fun e=>by subst e;have:=h.le x o hx;rw [ho.1] at this;cases this
    simp only [if_neg this]
    exact q.le x o hx
   ·split at hx
    ·cases hx
    ·exact q.src x o hx
   ·rcases nI.1 hr with rfl | hr
    ·exact .inr ⟨b,cur,rfl,q.fro _ _ e2,h2,h3⟩
    ·exact q.at_ r hr
   ·rcases nI.1 hr with rfl | hr
    ·cases hx
     exact ⟨by simp,ho.2⟩
    ·have:=q.own r hr x hx
     refine ⟨?_,this.2⟩
     split
     ·rfl
     ·exact this.1
   ·have no:∀ (i:Nat) (r:Res),L2[i]?=some r->¬ r.has b:=fun i r hi hb=>by
     have:=(q.own r (hH hi) b hb).1
     rw [e2] at this
     cases this
    cases i with
    | zero =>
     simp only [nM,nG] at hi
     subst hi
     cases hr
     cases j with
     | zero=>rfl
     | succ j=>exact absurd hs (no j s (by simpa using hj))
    | succ i =>
     cases j with
     | zero =>
      simp only [nM,nG] at hj
      subst hj
      cases hs
      exact absurd hr (no i r (by simpa using hi))
     | succ j=>rw [q.dj i j r s x (by simpa using hi) (by simpa using hj) hr hs]
theorem St.freezeG (h:St B U L w) {k b:Nat} {r:Res} {o:Obj} (hk:L[k]?=some r) (hb:r.has b) (hw:w.heap[b]?=some o) (hat:∀ w2:World,w2.heap[b]?=some o->r.At w2) (hu:∀ c,r.has c->c=b:=by intro c hc;cases hc;rfl) :
  ∃ U',PHeap.Le U U'/\U' b=some o/\St B U' (L.eraseIdx k) w/\∀ U2 L2 w2,PHeap.Le U' U2->St B U2 L2 w2->∃ U3,PHeap.Le U U3/\St B U3 (r :: L2) w2:=by
 have ho:=h.own _ (hH hk) b hb
 obtain ⟨U',g1,g2,g3⟩:=h.freezeB ⟨_,hk,hb⟩
 refine ⟨U',g1,g2.trans hw,g3,fun U2 L2 w2 hl q=>?_⟩
 have e2:=hl _ _ (g2.trans hw)
 refine ⟨fun x=>if x=b then none else U2 x,fun x o hx=>?_,q.os,q.tape,q.output,q.size,q.old,fun x o hx=>?_,fun x o hx=>?_,fun x o hx=>?_,fun s hs=>?_,fun s hs x hx=>?_,fun i j s t x hi hj hs ht=>?_⟩
 ·have:x ≠ b:=fun e=>by subst e;rw [ho.1] at hx;cases hx
  simp only [if_neg this]
  exact hl _ _ (g1 _ _ hx)
 ·split at hx
  ·cases hx
  ·exact q.fro x o hx
 ·have:x ≠ b:=fun e=>by subst e;have:=h.le x o hx;rw [ho.1] at this;cases this
  simp only [if_neg this]
  exact q.le x o hx
 ·split at hx
  ·cases hx
  ·exact q.src x o hx
 ·rcases nI.1 hs with rfl | hs
  ·exact hat w2 (q.fro _ _ e2)
  ·exact q.at_ s hs
 ·rcases nI.1 hs with rfl | hs
  ·obtain rfl:=hu x hx
   exact ⟨by simp,ho.2⟩
  ·have:=q.own s hs x hx
   refine ⟨?_,this.2⟩
   split
   ·rfl
   ·exact this.1
 ·have no:∀ (i:Nat) (s:Res),L2[i]?=some s->¬ s.has b:=fun i s hi hb=>by
   have:=(q.own s (hH hi) b hb).1
   rw [e2] at this
   cases this
  cases i with
  | zero =>
   simp only [nM,nG] at hi
   subst hi
   obtain rfl:=hu x hs
   cases j with
   | zero=>rfl
   | succ j=>exact absurd ht (no j t (by simpa using hj))
  | succ i =>
   cases j with
   | zero =>
    simp only [nM,nG] at hj
    subst hj
    obtain rfl:=hu x ht
    exact absurd hs (no i s (by simpa using hi))
   | succ j=>rw [q.dj i j s t x (by simpa using hi) (by simpa using hj) hs ht]
theorem St.freezeTB (h:St B U L w) {k b:Nat} {T:TypeId} {cs:List Value} (hk:L[k]?=some (.blk b T cs)) :
  ∃ U',PHeap.Le U U'/\U' b=some (.cells cs.toArray T (0,0))/\St B U' (L.eraseIdx k) w/\∀ U2 L2 w2,PHeap.Le U' U2->St B U2 L2 w2->∃ U3,PHeap.Le U U3/\St B U3 (.blk b T cs :: L2) w2 :=
 h.freezeG hk rfl (h.at_ _ (hH hk)) fun _ h2=>h2
end
end Go.KL
namespace Go.KL
open Go.RowKit
open Go.KX (LoopAt Yd wNJ Dfr wNL retM)
section
variable {B:Base} {U U':PHeap} {L M:List Res} {w w':World}
theorem St.keepX (h:St B U L w) {X:Nat->Prop} (K:Keep w w' X) (h1:∀ b,X b->U b=none/\B.mine b) (h2:∀ r ∈ L,∀ b,r.has b->¬ X b):St B U L w' :=
  ⟨K.os.trans h.os,K.tape.trans h.tape,K.output.trans h.output,nl h.size K.size,fun b hb hm=>(K.block b (nh hb h.size) fun hx=>hm (h1 b hx).2).trans (h.old b hb hm),
   fun b o hb=>(K.block b (wAY (h.fro b o hb)) fun hx=>by rw [(h1 b hx).1] at hb;cases hb).trans (h.fro b o hb),h.le,h.src,fun r hr=>(h.at_ r hr).keep K (h2 r hr),h.own,h.dj⟩
theorem St.addLast (h:St B U L w) {r:Res} {b:Nat} (hr:r.At w) (hb:r.has b) (hf:U b=none) (hm:B.mine b) (hn:∀ s ∈ L,¬ s.has b) (hu:∀ c,r.has c->c=b:=by intro c hc;cases hc;rfl):St B U (L ++ [r]) w:=by
 refine ⟨h.os,h.tape,h.output,h.size,h.old,h.fro,h.le,h.src,fun s hs=>?_,fun s hs c hc=>?_,fun i j s u c hi hj hs hu'=>?_⟩
 ·rcases na.1 hs with hs | hs
  ·exact h.at_ s hs
  ·rw [ni.1 hs];exact hr
 ·rcases na.1 hs with hs | hs
  ·exact h.own s hs c hc
  ·rw [ni.1 hs] at hc
   obtain rfl:=hu c hc
   exact ⟨hf,hm⟩
 ·have at_:∀ (i:Nat) (s:Res),(L ++ [r])[i]?=some s->L[i]?=some s \/ (i=L.length/\s=r):=by
   intro i s hi
   rcases nW i L.length with hl | hl
   ·rw [nT hl] at hi;exact .inl hi
   ·rw [nN hl] at hi
    have hz:i - L.length=0:=by
     have:=(nA.1 hi).1
     simp at this
     omega
    rw [hz] at hi
    simp at hi
    exact .inr ⟨by omega,hi.symm⟩
  rcases at_ i s hi with h1 | ⟨h1,rfl⟩ <;> rcases at_ j u hj with h2 | ⟨h2,rfl⟩
  ·exact h.dj i j s u c h1 h2 hs hu'
  ·obtain rfl:=hu c hu'
   exact absurd hs (hn s (hH h1))
  ·obtain rfl:=hu c hs
   exact absurd hu' (hn u (hH h2))
  ·omega
theorem St.putObj {l:Nat} {o o2:Obj} (h:St B U (.obj l o :: L) w) (K:Keep w w' (·=l)) (h2:w'.heap[l]?=some o2):St B U (.obj l o2 :: L) w' :=
 h.set (k:=0) (r:=.obj l o) (r':=.obj l o2) rfl (K.weak fun b _ e=>by rw [e];rfl) h2 fun b hb=>.inl hb
theorem St.outObj {l:Nat} {o:Obj} (h:St B U (.obj l o :: L) w) (K:Keep w w' (·=l)):St B U L w':=by
 have hm:=h.own (.obj l o) (by simp) l rfl
 have h0:St B U L w:=h.drop 0
 refine h0.keepX K (fun b e=>by rw [e];exact hm) fun r hr b hb e=>?_
 subst e
 obtain ⟨i,hi⟩:=nJ hr
 have:=h.dj 0 (i + 1) (.obj b o) r b rfl (by simpa using hi) rfl hb
 omega
end
def LR (N:Nat) (σ:Env) (t:List Nat) (asg body:Code) (rb:Nat) (fn:FuncId) (s:LoopState) (pend:Option Code) (o:Obj):Prop :=
 ∃ a D,Rep N D a σ/\o=.loop { state:=s,pending:=pend,fn,tmps:=a.tmps,params:=t.toArray,assign:=asg,body,defers:=rb }
theorem LR.at_ {N:Nat} {σ:Env} {t:List Nat} {asg body:Code} {rb:Nat} {fn:FuncId} {s:LoopState} {pend:Option Code} {o:Obj} {w:World} {l:Nat} (h:LR N σ t asg body rb fn s pend o) (hw:w.heap[l]?=some o):LoopAt w l N σ t asg body rb fn s pend:=by
 obtain ⟨a,D,h1,rfl⟩:=h
 exact ⟨a,D,h1,hw⟩
theorem LR.of {N:Nat} {σ:Env} {t:List Nat} {asg body:Code} {rb:Nat} {fn:FuncId} {s:LoopState} {pend:Option Code} {w:World} {l:Nat} (h:LoopAt w l N σ t asg body rb fn s pend):∃ o,w.heap[l]?=some o/\LR N σ t asg body rb fn s pend o:=by
 obtain ⟨a,D,h1,h2⟩:=h
 exact ⟨_,h2,a,D,h1,rfl⟩
def YOK (P:Program) (l:Nat) {X S E:Type} (ar:PHeap->X->List Value->Prop) (PY:S->PHeap->List Res->Prop) (PE:E->PHeap->List Res->Prop) (f:S->X->Option (S ⊕ E)) (U0:PHeap):Prop :=
 ∀ U w s x vs r L,PHeap.Le U0 U->St ⟨w,L,U⟩ U L w->PY s U L->ar U x vs->f s x=some r ->
  Yd P l vs w fun b w'=>∃ U' L',St ⟨w,L,U⟩ U' L' w'/\(match r with | .inl s'=>b=true/\PY s' U' L' | .inr e=>b=false/\PE e U' L')
def ItS (w:World) (L:List Res) (U:PHeap) {S E:Type} (PY:S->PHeap->List Res->Prop) (PE:E->PHeap->List Res->Prop) (r:S ⊕ E):Value->World->Prop:=fun _ w' =>
 ∃ U' L',St ⟨w,L,U⟩ U' L' w'/\(match r with | .inl s=>PY s U' L' | .inr e=>PE e U' L')
section
variable {r:Option Nat} {N:Nat} {P:Program} {l:List Oper} {Q:wDc} {D:List Deferred} {ks:List Nat} {B:Base} {U:PHeap} {L:List Res} {σ:Env} {w:World} {i d:Nat} {o:Oper} {s:Sch} {X S E:Type} {ar:PHeap->X->List Value->Prop}
 {PY:S->PHeap->List Res->Prop} {PE:E->PHeap->List Res->Prop} {f:S->X->Option (S ⊕ E)}
theorem OKS.yieldT (n:Nat) {y:Nat} {x:Operand} {args:Array Operand} {ty:Array TypeId} {vs:List Value} {st:S} {a:X} {rr:S ⊕ E} {U0:PHeap} (ho:l[i]?=some o) (hd:o.dst=some d) (hN:nB d N=true) (hw:wanted l σ o=true)
  (hop:o.op=.call { callee:=.value x,args:=args,argTypes:=ty }) (hx:ev σ x=.func (.yield y) #[] #[]) (ha:args.toList.map (ev σ)=vs) (hS:St B U L w) (hY:YOK P y ar PY PE f U0) (hle:PHeap.Le U0 U) (hP:PY st U (L.drop n)) (har:ar U a vs) (hf:f st a=some rr) (hk:wGE (kOf ks i)=false)
  (k:∀ U' L' b w',PHeap.Le U U'->St B U' (L.take n ++ L') w'->(match rr with | .inl s'=>b=true/\PY s' U' L' | .inr e=>b=false/\PE e U' L')->OKS N P l Q D ks s (upd σ d (.bool b)) w'):OKS N P l Q D ks (.fx i s .stop) σ w:=by
 have Y:=hY U w st a vs rr _ hle (hS.enterT n) hP har hf
 have R:=Go.KX.Yd.rounds (σ:=σ) hop hx ha Y
 refine ⟨⟨o,ho,dlt hd hN,.inl ⟨hw,.inr (.inr (.inr (R.mono ?_)))⟩⟩,trivial⟩
 rintro v w' ⟨b,rfl,U',L',h1,h2⟩
 obtain ⟨h3,h4⟩:=hS.backT n h1
 exact ⟨KeepD.of (.inl hk),by rw [wCy hd];exact k U' L' b w' h4 h3 h2⟩
def wQE:Exit->Option Code
 | .ret=>some .ret
 | .exit i=>some (.exit i)
 | _=>none
end
end Go.KL
