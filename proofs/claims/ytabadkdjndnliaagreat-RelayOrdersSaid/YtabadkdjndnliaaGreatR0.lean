import Derived.WalkKit
import Derived.TacticsIn
import Derived.OrdersIn
import Derived.RangeFuncIn
import Derived.RangeFuncLeaves
import Derived.LoopNIn
import Derived.Maps.AppendAt
import Derived.MapKept
import Derived.Laws.StructEq
import Derived.WideKeyRuns
import Derived.RangeFuncRecord
import Derived.Laws.MakeOwn
import Derived.ProofKit
import Derived.Deep.SlicePairs
import Derived.JoinedOf
import Derived.Lib.AppendZerosOnto
set_option linter.all false
open List renaming mem_of_getElem?->hH,getElem?_eq_some_iff->nA,getElem?_eq_getElem->nB,getElem?_append_left->nD,flatMap_cons->nG,getElem?_append_right->nH,mem_cons->nI,getElem?_of_mem->nM,mem_append->nO,range->nP,getElem?_take->nQ,contains_eq_mem->nR,getElem?_drop->nS,getElem?_cons_zero->nT,all_eq_true->nW,getElem?_toArray->nX,replicate->nY,map_append->na,append_assoc->nc,flatMap->ng,map->nh,map_cons->ni,nodup_append->nj,mem_append_left->nk,mem_map->nq,mem_of_mem_eraseIdx->nr,set->nt,mem_singleton->nw,getElem?_eq_none->nz,mem_range->kA,mem_append_right->kB,pairwise_append->kC,length_append->kJ,length_cons->kM,map_toArray->kP,mem_filter->kS,map_const'->kV,eq_nil_of_length_eq_zero->kW,length_flatMap->kX,append_of_mem->kY,mem_cons_self->kZ,getD_eq_getElem?_getD->kc,getElem?_map->ke,flatten_cons->kf,drop_eq_getElem_cons->kh,zipWith->kk,perm_middle->km,append_nil->kv,length->kz,mem_cons_of_mem->aB,flatMap_append->aD,set_cons_succ->aF,size_toArray->aH,mapM_toArray->aI
open Array renaming getD_eq_getD_getElem?->nE,getElem?_eq_getElem->kG,getElem?_eq_none->kK,all_eq_true_iff_forall_mem->kO,getElem?_replicate->ki,replicate->kq
open Nat renaming le_refl->nJ,blt->nL,lt_or_ge->nV,blt_eq->nZ,beq->nf,add_mul->nl,le_trans->np,lt_of_lt_of_le->nv,eq_zero_or_pos->ny,le_of_mul_le_mul_right->kD,eq_of_beq_eq_true->kQ,le_of_ble_eq_true->kR,zero_add->kU,zero_mul->kj,le_mul_of_pos_right->ko,zero_le->kw,mul_pos->ky,mul_le_mul_right->aA,lt_trans->aE,le_succ->aJ,not_lt->aM
open Bool renaming and_eq_true->nK,not_eq_true'->nU,or_eq_true->kE,false_eq_true->kH
open Option.some renaming injEq->nN,inj->aO
open Option renaming getD_some->kL,map_some->kr,bind_some->aL
open Int renaming toNat_natCast->kg
open List.cons renaming injEq->ku
open Prod.mk renaming injEq->aC
open Go.Value renaming int->aG,slice->aK,bool->aN
namespace Go.KL
open Go.RowKit
abbrev Env:=Nat->Value
def upd (σ:Env) (d:Nat) (v:Value):Env:=fun t=>bif nf t d then v else σ t
def ev (σ:Env):Operand->Value
 | .tmp t=>σ t
 | .const v=>v
 | .global g=>.pointer (some ⟨g,0,none⟩)
 | .func f=>.func (.func f) #[] #[]
def WF (r:Option Nat):Fence:={ fn:=fun _=>True,depth:=none,alive:=false,round:=r }
structure Rep (N:Nat) (D:List Deferred) (a:Act) (σ:Env):Prop where
 size:a.tmps.size=N
 defers:a.defers=D
 get:∀ t,a.tmps.getD t undef=σ t
theorem wCo (σ:Env) (d:Nat) (v:Value):upd σ d v d=v:=by simp [upd]
theorem wDg (σ:Env) {d t:Nat} (v:Value) (h:t ≠ d):upd σ d v t=σ t:=by
 unfold upd
 have:nf t d=false:=by
  cases hb:nf t d
  ·rfl
  ·exact absurd (kQ hb) h
 simp [this]
theorem Rep.eval {N:Nat} {D:List Deferred} {a:Act} {σ:Env} (h:Rep N D a σ):a.eval=ev σ:=by
 funext x
 cases x with
 | tmp t=>exact h.get t
 | const v=>rfl
 | global g=>rfl
 | func f=>rfl
theorem Rep.put {N:Nat} {D:List Deferred} {a:Act} {σ:Env} (h:Rep N D a σ) {d:Nat} (hd:d < N) (v:Value):Rep N D (a.put (some d) v) (upd σ d v):=by
 refine ⟨by simp [Act.put,h.size],h.defers,fun t=>?_⟩
 by_cases e:t=d
 ·subst e
  rw [wCo]
  simp [Act.put,nE,h.size,hd]
 ·rw [wDg _ _ e,<- h.get t]
  simp only [Act.put,nE]
  rw [Array.getElem?_setIfInBounds_ne (fun e'=>e e'.symm)]
abbrev wCp:=List Deferred->Exit->Env->World->Prop
def wIB (N:Nat) (Q:wCp) (e:Exit) (a:Act) (w:World):Prop:=∃ σ D,Rep N D a σ/\Q D e σ w
def OK (r:Option Nat) (N:Nat) (P:Program) (ops:List Oper) (Q:wCp) (l:List Oper) (D:List Deferred) (σ:Env) (w:World):Prop :=
 ∀ a,Rep N D a σ->wpListIn (WF r) 0 P ops.toArray (wIB N Q) l a w
def CK (r:Option Nat) (N:Nat) (P:Program) (c:Code) (Q:wCp) (D:List Deferred) (σ:Env) (w:World):Prop :=
 ∀ a,Rep N D a σ->Code.wpIn (WF r) 0 P c (wIB N Q) a w
def wEz (K:List Deferred->Env->World->Prop) (Q:wCp):wCp:=fun D e σ w =>
 match e with
 | .normal=>K D σ w
 | e=>Q D e σ w
def wHg (id:Nat) (Q:wCp):wCp:=fun D e σ w =>
 match e with
 | .exit i=>if i=id then Q D .normal σ w else Q D (.exit i) σ w
 | e=>Q D e σ w
section rules
variable {r:Option Nat} {N:Nat} {P:Program} {Q:wCp} {D:List Deferred} {σ:Env} {w:World}
theorem CK.mono {c:Code} {Q':wCp} (h:CK r N P c Q D σ w) (hq:∀ D e σ w,Q D e σ w->Q' D e σ w):CK r N P c Q' D σ w :=
 fun a ha=>wpIn_mono (h a ha) fun _ _ _ ⟨σ,D,hr,q⟩=>⟨σ,D,hr,hq _ _ _ _ q⟩
theorem CK.seq {x y:Code} (h:CK r N P x (wEz (fun D σ w=>CK r N P y Q D σ w) Q) D σ w):CK r N P (.seq x y) Q D σ w:=by
 intro a ha
 refine wpIn_seq (wpIn_mono (h a ha) ?_)
 rintro e a w ⟨σ,D,hr,q⟩
 cases e with
 | normal=>exact q a hr
 | _=>exact ⟨σ,D,hr,q⟩
theorem CK.cut {x y:Code} (M:Env->World->Prop) (h1:CK r N P x (wEz (fun D' σ w=>D'=D/\M σ w) Q) D σ w)
  (h2:∀ σ w,M σ w->CK r N P y Q D σ w):CK r N P (.seq x y) Q D σ w:=by
 refine CK.seq (h1.mono ?_)
 intro D' e σ w q
 cases e with
 | normal=>obtain ⟨rfl,hm⟩:=q;exact h2 _ _ hm
 | _=>exact q
theorem CK.skip (h:Q D .normal σ w):CK r N P .skip Q D σ w:=fun _ ha=>wpIn_skip ⟨σ,D,ha,h⟩
theorem CK.label {l:Nat} (h:Q D .normal σ w):CK r N P (.label l) Q D σ w:=fun _ ha=>wpIn_label ⟨σ,D,ha,h⟩
theorem CK.exit {id:Nat} (h:Q D (.exit id) σ w):CK r N P (.exit id) Q D σ w:=fun _ ha=>wpIn_exit ⟨σ,D,ha,h⟩
theorem CK.ret (h:Q D .ret σ w):CK r N P .ret Q D σ w:=fun _ ha=>wpIn_ret ⟨σ,D,ha,h⟩
theorem CK.block {id:Nat} {c:Code} (h:CK r N P c (wHg id Q) D σ w):CK r N P (.block id c) Q D σ w:=by
 intro a ha
 refine wpIn_block (wpIn_mono (h a ha) ?_)
 rintro e a w ⟨σ,D,hr,q⟩
 cases e with
 | exit i =>
  simp only [wHg] at q
  simp only [Exit.inBlock]
  split
  ·rename_i h;rw [if_pos h] at q;exact ⟨σ,D,hr,q⟩
  ·rename_i h;rw [if_neg h] at q;exact ⟨σ,D,hr,q⟩
 | _=>exact ⟨σ,D,hr,q⟩
theorem CK.condT {c:Operand} {x y:Code} (hc:ev σ c=.bool true) (h:CK r N P x Q D σ w):CK r N P (.cond c x y) Q D σ w :=
 fun a ha=>wpIn_cond_true (by rw [ha.eval];exact hc) (h a ha)
theorem CK.condF {c:Operand} {x y:Code} (hc:ev σ c=.bool false) (h:CK r N P y Q D σ w):CK r N P (.cond c x y) Q D σ w :=
 fun a ha=>wpIn_cond_false (by rw [ha.eval];exact hc) (h a ha)
theorem CK.loopM {c:Code} (I:Nat->Env->World->Prop) {m:Nat} (h0:I m σ w)
  (h:∀ m σ w,I m σ w->CK r N P c (wEz (fun D' σ' w'=>D'=D/\∃ m',m' < m/\I m' σ' w') Q) D σ w):CK r N P (.loop c) Q D σ w:=by
 have key:∀ M m σ w,m < M->I m σ w->∀ a,Rep N D a σ->Code.roundsIn (WF r) 0 P c (wIB N Q) M a w:=by
  intro M
  induction M with
  | zero=>intro m _ _ hm;omega
  | succ M ih =>
   intro m σ w hm hI a ha
   rw [roundsIn_succ]
   refine wpIn_mono (h m σ w hI a ha) ?_
   rintro e a' w' ⟨σ',D',hr,q⟩
   cases e with
   | normal =>
    obtain ⟨rfl,m',hlt,hI'⟩:=q
    exact ih m' σ' w' (by omega) hI' a' hr
   | _=>exact ⟨σ',D',hr,q⟩
 exact fun a ha=>wpIn_loop_rounds (m + 1) (key (m + 1) m σ w (by omega) h0 a ha)
theorem wIC {K:List Deferred->Env->World->Prop} (h:K D σ w):wEz K Q D .normal σ w:=h
theorem wMH {K:List Deferred->Env->World->Prop} {i:Nat} (h:Q D (.exit i) σ w):wEz K Q D (.exit i) σ w:=h
theorem wMI {K:List Deferred->Env->World->Prop} (h:Q D .ret σ w):wEz K Q D .ret σ w:=h
theorem wKZ {i:Nat} (h:Q D .normal σ w):wHg i Q D .normal σ w:=h
theorem wID {i:Nat} (h:Q D .normal σ w):wHg i Q D (.exit i) σ w:=by show (if i=i then _ else _);rw [if_pos rfl];exact h
theorem wKa {i j:Nat} (h:Q D (.exit j) σ w) (hne:nf j i=false:=by rfl):wHg i Q D (.exit j) σ w:=by
 have:j ≠ i:=fun e=>by subst e;rw [Nat.beq_refl] at hne;cases hne
 show (if j=i then _ else _);rw [if_neg this];exact h
theorem wKb {i:Nat} (h:Q D .ret σ w):wHg i Q D .ret σ w:=h
theorem CK.region {id:Nat} {l:List Oper} (h:OK r N P l Q l D σ w):CK r N P (.region id l.toArray false) Q D σ w :=
 fun a ha=>wpIn_region_lit (h a ha)
theorem OK.nil {ops:List Oper} (h:Q D .normal σ w):OK r N P ops Q [] D σ w:=fun _ ha=>wpListIn_nil ⟨σ,D,ha,h⟩
theorem CK.fresh {c:Code} {σ:Env} (h:∀ σ',(∀ t,σ' t=σ t)->CK r N P c Q D σ' w):CK r N P c Q D σ w:=h σ fun _=>rfl
end rules
def wanted (ops:List Oper) (σ:Env) (o:Oper):Bool :=
 match o.guard with
 | none=>true
 | some (j,b)=>match (ops[j]?).bind (·.dst) with
  | some d=>match σ d with
   | .bool b'=>b' == b
   | _=>false
  | none=>false
def wFA:Op->Bool
 | .defer _=>false
 | _=>true
theorem wCt {N:Nat} {D:List Deferred} {a:Act} {σ:Env} (h:Rep N D a σ) (ops:List Oper) (o:Oper) (hw:wanted ops σ o=true) :
  Region.wanted o (yielded ops.toArray a.tmps)=true:=by
 unfold wanted at hw
 unfold Region.wanted
 cases hg:o.guard with
 | none=>rfl
 | some g =>
  obtain ⟨j,b⟩:=g
  simp only [hg] at hw ⊢
  unfold yielded
  simp only [nX]
  cases hd:(ops[j]?).bind (·.dst) with
  | none=>simp [hd] at hw
  | some d =>
   simp only [hd] at hw
   have hg':=h.get d
   rw [nE] at hg'
   simp only [aL]
   cases ht:a.tmps[d]? with
   | none =>
    rw [ht] at hg'
    simp only [Option.getD_none] at hg'
    rw [<- hg'] at hw
    simp [undef] at hw
   | some v =>
    rw [ht] at hg'
    simp only [kL] at hg'
    subst hg'
    cases hv:σ d <;> simp_all
theorem wEf {N:Nat} {D:List Deferred} {a:Act} {σ:Env} (h:Rep N D a σ) (ops:List Oper) (o:Oper) (hw:wanted ops σ o=false) :
  Region.wanted o (yielded ops.toArray a.tmps)=false:=by
 unfold wanted at hw
 unfold Region.wanted
 cases hg:o.guard with
 | none=>simp [hg] at hw
 | some g =>
  obtain ⟨j,b⟩:=g
  simp only [hg] at hw ⊢
  unfold yielded
  simp only [nX]
  cases hd:(ops[j]?).bind (·.dst) with
  | none=>simp
  | some d =>
   simp only [hd] at hw
   have hg':=h.get d
   rw [nE] at hg'
   simp only [aL]
   cases ht:a.tmps[d]? with
   | none=>simp
   | some v =>
    rw [ht] at hg'
    simp only [kL] at hg'
    subst hg'
    cases hv:σ d <;> simp_all
section ops
variable {r:Option Nat} {N:Nat} {P:Program} {ops:List Oper} {Q:wCp} {D:List Deferred} {σ:Env} {w w':World} {rest:List Oper} {o:Oper} {d:Nat}
def Runs (P:Program) (σ:Env) (w:World) (o:Oper) (v:Value) (w':World):Prop :=
 wFA o.op=true/\(execOp (ev σ) o).run P w=.ok (.value v) w'
def Does (P:Program) (σ:Env) (w:World) (o:Oper) (w':World):Prop :=
 wFA o.op=true/\(execOp (ev σ) o).run P w=.ok .skip w'
theorem semAt_eq (r:Option Nat) (ρ:Operand->Value) (o:Oper) (h:wFA o.op=true):o.semAt r ρ=execOp ρ o :=
 Oper.semAt_eq r ρ o fun c e=>by rw [e] at h;cases h
theorem OK.val {v:Value} (hw:wanted ops σ o=true) (hd:o.dst=some d) (hdN:nL d N=true) (hr:Runs P σ w o v w')
  (k:OK r N P ops Q rest D (upd σ d v) w'):OK r N P ops Q (o :: rest) D σ w:=by
 intro a ha
 have hdN':d < N:=by simpa [nZ] using hdN
 simp only [wpListIn,wCt ha ops o hw,if_true]
 refine ⟨fun _ _=>trivial,?_⟩
 rw [semAt_eq _ _ _ hr.1,ha.eval,hr.2]
 simp only [Oper.uponIn,hd]
 exact k _ (ha.put hdN' v)
theorem OK.unit (hw:wanted ops σ o=true) (hd:o.dst=none) (hr:Does P σ w o w')
  (k:OK r N P ops Q rest D σ w'):OK r N P ops Q (o :: rest) D σ w:=by
 intro a ha
 simp only [wpListIn,wCt ha ops o hw,if_true]
 refine ⟨fun _ _=>trivial,?_⟩
 rw [semAt_eq _ _ _ hr.1,ha.eval,hr.2]
 simp only [Oper.uponIn,hd,Act.put]
 exact k _ ha
theorem OK.valn {v:Value} (hw:wanted ops σ o=true) (hd:o.dst=none) (hr:Runs P σ w o v w')
  (k:OK r N P ops Q rest D σ w'):OK r N P ops Q (o :: rest) D σ w:=by
 intro a ha
 simp only [wpListIn,wCt ha ops o hw,if_true]
 refine ⟨fun _ _=>trivial,?_⟩
 rw [semAt_eq _ _ _ hr.1,ha.eval,hr.2]
 simp only [Oper.uponIn,hd,Act.put]
 exact k _ ha
theorem OK.pass (hw:wanted ops σ o=false) (hd:o.dst=some d) (hdN:nL d N=true)
  (k:OK r N P ops Q rest D (upd σ d undef) w):OK r N P ops Q (o :: rest) D σ w:=by
 intro a ha
 have hdN':d < N:=by simpa [nZ] using hdN
 simp only [wpListIn,wEf ha ops o hw,kH,if_false]
 refine ⟨fun _ _=>trivial,?_⟩
 rw [hd]
 exact k _ (ha.put hdN' _)
theorem OK.passn (hw:wanted ops σ o=false) (hd:o.dst=none)
  (k:OK r N P ops Q rest D σ w):OK r N P ops Q (o :: rest) D σ w:=by
 intro a ha
 simp only [wpListIn,wEf ha ops o hw,kH,if_false]
 refine ⟨fun _ _=>trivial,?_⟩
 rw [hd]
 exact k _ ha
def Gv (P:Program) (f:FuncId) (args:List Value) (w:World) (R:Value->World->Prop):Prop :=
 Calls P f args.toArray w fun e w'=>∃ v,e=.returned v/\R v w'
theorem Calls.mono' {f:FuncId} {args:Array Value} {R R':Ending->World->Prop} (h:Calls P f args w R) (hr:∀ e w',R e w'->R' e w'):Calls P f args w R' :=
 fun cs=>let ⟨e,w',fr,a,b⟩:=h cs;⟨e,w',fr,hr _ _ a,b⟩
theorem Gv.mono {f:FuncId} {args:List Value} {R R':Value->World->Prop} (h:Gv P f args w R) (hr:∀ v w',R v w'->R' v w'):Gv P f args w R' :=
 Calls.mono' h fun _ _ ⟨v,e,hR⟩=>⟨v,e,hr _ _ hR⟩
theorem wIE {F:Fence} {n:Nat} {l:Nat} {f:FuncId} {args:Array Value} {R:Ending->World->Prop} (h:CallsIn F n P f args w R):CallsIn (F.inRound l) n P f args w R:=h
theorem Gv.callsIn {f:FuncId} {args:List Value} {R:Value->World->Prop} (h:Gv P f args w R) (r:Option Nat) :
  CallsIn (WF r) 0 P f args.toArray w fun e w'=>∃ v,e=.returned v/\R v w':=by
 have h':CallsIn Fence.wide 0 P f args.toArray w fun e w'=>∃ v,e=.returned v/\R v w':=callsIn_wide.2 h
 cases r with
 | none=>exact h'
 | some l=>exact wIE (l:=l) h'
theorem wPF:nh (ev σ) []=[]:=rfl
theorem wMJ {x:Operand} {l:List Operand} {v:Value} {vs:List Value} (h:ev σ x=v) (ht:nh (ev σ) l=vs):nh (ev σ) (x :: l)=v :: vs:=by
 rw [ni,h,ht]
def Enters (P:Program) (σ:Env) (w:World) (o:Oper) (f:FuncId) (args:List Value):Prop :=
 wFA o.op=true/\(execOp (ev σ) o).run P w=.ok (.enter f args.toArray) w
theorem Enters.mk {x:Operand} {l:List Operand} {ty:Array TypeId} {f:FuncId} {fl cl vs args:List Value}
  (ho:o.op=.call { callee:=.value x,args:=l.toArray,argTypes:=ty }) (hx:ev σ x=.func (.func f) fl.toArray cl.toArray)
  (hcall:∀ (args:Array Value) (w:World),(callFunc f args).run P w=.ok (.enter f args) w)
  (hl:nh (ev σ) l=vs) (ha:fl ++ vs ++ cl=args):Enters P σ w o f args:=by
 refine ⟨by rw [ho];rfl,?_⟩
 subst ha hl
 simp [execOp,ho,resolve,hx,Deferred.ofValue,invoke,hcall]
theorem OK.call {f:FuncId} {args:List Value} {R:Value->World->Prop} (hw:wanted ops σ o=true) (hd:o.dst=some d) (hdN:nL d N=true)
  (he:Enters P σ w o f args) (hf:Gv P f args w R)
  (k:∀ v w',R v w'->OK r N P ops Q rest D (upd σ d v) w'):OK r N P ops Q (o :: rest) D σ w:=by
 intro a ha
 have hdN':d < N:=by simpa [nZ] using hdN
 simp only [wpListIn,wCt ha ops o hw,if_true]
 refine ⟨fun _ _=>trivial,?_⟩
 rw [semAt_eq _ _ _ he.1,ha.eval,he.2]
 simp only [Oper.uponIn,hd]
 refine ⟨fun h=>(by cases h),?_⟩
 refine CallsIn.mono (hf.callsIn r) ?_
 rintro e w' ⟨v,rfl,hR⟩
 exact k v w' hR _ (ha.put hdN' v)
theorem OK.calln {f:FuncId} {args:List Value} {R:Value->World->Prop} (hw:wanted ops σ o=true) (hd:o.dst=none)
  (he:Enters P σ w o f args) (hf:Gv P f args w R)
  (k:∀ v w',R v w'->OK r N P ops Q rest D σ w'):OK r N P ops Q (o :: rest) D σ w:=by
 intro a ha
 simp only [wpListIn,wCt ha ops o hw,if_true]
 refine ⟨fun _ _=>trivial,?_⟩
 rw [semAt_eq _ _ _ he.1,ha.eval,he.2]
 simp only [Oper.uponIn,hd]
 refine ⟨fun h=>(by cases h),?_⟩
 refine CallsIn.mono (hf.callsIn r) ?_
 rintro e w' ⟨v,rfl,hR⟩
 exact k v w' hR _ ha
end ops
def wFB (σ:Env):ResultVar->Sem Value
 | .tmp t=>pure (σ t)
 | .cell a t=>do loadVar t (<- asAddr (σ a))
def wCY (rs:Array ResultVar) (σ:Env):Sem Value:=do
 let vs <- rs.mapM (wFB σ)
 pure (if h:vs.size=1 then vs[0] else .tuple vs)
theorem wFC {N:Nat} {D:List Deferred} {a:Act} {σ:Env} (h:Rep N D a σ) (fn:Func):results fn a.tmps=wCY fn.results σ:=by
 unfold results wCY
 congr 1
 congr 1
 funext x
 cases x with
 | tmp t=>simp only [h.get,wFB]
 | cell a t=>simp only [h.get,wFB]
def retQ (P:Program) (rs:Array ResultVar) (R:Value->World->Prop):wCp:=fun D e σ w =>
 match e with
 | .normal | .ret=>D=[]/\∃ v,(wCY rs σ).run P w=.ok v w/\R v w
 | _=>False
def wPG (args:List Value):Env:=fun t=>(args[t]?).getD undef
theorem wKc (args:List Value) (N:Nat) (h:args.length <= N) :
  Rep N [] { tmps:=args.toArray ++ kq (N - args.toArray.size) undef,defers:=[] } (wPG args):=by
 refine ⟨by simp;omega,rfl,fun t=>?_⟩
 simp only [nE,wPG]
 rw [Array.getElem?_append]
 split
 ·simp
 ·rename_i hge
  simp only [aH,aM] at hge
  rw [nz hge,ki]
  split <;> rfl
theorem Gv.of {P:Program} {f:FuncId} {fn:Func} {c:Code} {args:List Value} {w:World} {R:Value->World->Prop} {N:Nat} {rs:Array ResultVar}
  (hf:P.funcs[f]?=some fn) (hb:fn.body=some c) (hN:fn.ntmps=N) (hrs:fn.results=rs) (hle:Nat.ble args.length N=true)
  (h:CK none N P c (retQ P rs R) [] (wPG args) w):Gv P f args w R:=by
 refine callsIn_wide.1 (callsIn_of_wp hf hb trivial ?_ (n:=0))
 subst hN hrs
 refine wpIn_mono (h _ (wKc args _ (kR hle))) ?_
 rintro e a w ⟨σ,D,hr,q⟩
 cases e with
 | normal=>obtain ⟨rfl,v,hv,hR⟩:=q;exact ⟨hr.defers,v,by rw [wFC hr];exact hv,v,rfl,hR⟩
 | ret=>obtain ⟨rfl,v,hv,hR⟩:=q;exact ⟨hr.defers,v,by rw [wFC hr];exact hv,v,rfl,hR⟩
 | _=>exact q.elim
theorem wPk {P:Program} {σ:Env} {w:World}:(wCY #[] σ).run P w=.ok (.tuple #[]) w:=by simp [wCY]
theorem res1 {P:Program} {σ:Env} {w:World} {t:Nat} {v:Value} (h:σ t=v):(wCY #[.tmp t] σ).run P w=.ok v w:=by subst h;simp [wCY,wFB]
theorem wDk {P:Program} {σ:Env} {w:World} {t u:Nat} {x y:Value} (h:σ t=x) (h2:σ u=y):(wCY #[.tmp t,.tmp u] σ).run P w=.ok (.tuple #[x,y]) w:=by subst h h2;simp [wCY,wFB]
theorem wPH {P:Program} {σ:Env} {w:World} {t u s:Nat} {x y z:Value} (h:σ t=x) (h2:σ u=y) (h3:σ s=z):(wCY #[.tmp t,.tmp u,.tmp s] σ).run P w=.ok (.tuple #[x,y,z]) w:=by
 subst h h2 h3;simp [wCY,wFB]
end Go.KL
namespace Go.KL
open Go.RowKit
structure TapeLe (w w':World):Prop where
 eq:w'.tape=w.tape
 le:w.drawn <= w'.drawn
theorem TapeLe.trans {a b c:World} (k:TapeLe b c) (h:TapeLe a b):TapeLe a c:=⟨k.eq.trans h.eq,np h.le k.le⟩
theorem TapeLe.refl (w:World):TapeLe w w:=⟨rfl,nJ _⟩
structure Keep (w w':World) (X:Nat->Prop):Prop where
 os:w'.os=w.os
 tape:TapeLe w w'
 output:w'.output=w.output
 size:w.heap.size <= w'.heap.size
 block:∀ k,k < w.heap.size->¬ X k->w'.heap[k]?=w.heap[k]?
abbrev Non:Nat->Prop:=fun _=>False
theorem Keep.refl (w:World) (X:Nat->Prop):Keep w w X:=⟨rfl,TapeLe.refl w,rfl,nJ _,fun _ _ _=>rfl⟩
theorem Keep.step {a b c:World} {X Y:Nat->Prop} (h:Keep a b X) (k:Keep b c Y) (hs:∀ i,i < a.heap.size->Y i->X i):Keep a c X :=
 ⟨k.os.trans h.os,k.tape.trans h.tape,k.output.trans h.output,np h.size k.size,fun i hi hx =>
  (k.block i (nv hi h.size) (fun hy=>hx (hs i hi hy))).trans (h.block i hi hx)⟩
theorem Keep.non {a b c:World} {X:Nat->Prop} (h:Keep a b X) (k:Keep b c Non):Keep a c X:=h.step k fun _ _ h=>h.elim
theorem Keep.weak {a b:World} {X Y:Nat->Prop} (h:Keep a b Y) (hs:∀ i,i < a.heap.size->Y i->X i):Keep a b X :=
 ⟨h.os,h.tape,h.output,h.size,fun i hi hx=>h.block i hi fun hy=>hx (hs i hi hy)⟩
theorem Keep.below {a b:World} (h:Keep a b Non):Below a.heap.size a b:=⟨h.os,h.tape.eq,h.output,h.size,fun k hk=>h.block k hk id⟩
theorem Keep.drew (w:World):Keep w { w with drawn:=w.drawn + 1 } Non:=⟨rfl,⟨rfl,aJ _⟩,rfl,nJ _,fun _ _ _=>rfl⟩
def Blk (w:World) (b:Nat) (T:TypeId) (l:List Value):Prop:=w.heap[b]?=some (.cells l.toArray T (0,0))
theorem Blk.lt {w:World} {b:Nat} {T:TypeId} {l:List Value} (h:Blk w b T l):b < w.heap.size:=by
 rcases nV b w.heap.size with hlt | hge
 ·exact hlt
 ·unfold Blk at h;rw [kK hge] at h;cases h
theorem Blk.keep {w w':World} {b:Nat} {T:TypeId} {l:List Value} {X:Nat->Prop} (h:Blk w b T l) (k:Keep w w' X) (hx:¬ X b):Blk w' b T l:=(k.block b h.lt hx).trans h
theorem Blk.non {w w':World} {b:Nat} {T:TypeId} {l:List Value} (h:Blk w b T l) (k:Keep w w' Non):Blk w' b T l:=h.keep k id
theorem Blk.cell {w:World} {b off:Nat} {T:TypeId} {l:List Value} {v:Value} (h:Blk w b T l) (hv:l[off]?=some v):w.cell? ⟨b,off,none⟩=some v:=by
 unfold Blk at h
 simp [World.cell?,h,hv]
theorem Blk.frozen {w:World} {b off:Nat} {T:TypeId} {l:List Value} (h:Blk w b T l):w.frozen? ⟨b,off,none⟩=false:=by
 unfold Blk at h
 simp [World.frozen?,h]
theorem wAy (w:World) (o:Obj):Keep w (w.alloc o) Non:=⟨rfl,⟨rfl,nJ _⟩,rfl,by simp,fun k hk _=>Below.heap_alloc w o k hk⟩
theorem wDK (w:World) (l:List Value) (T:TypeId):Blk (w.alloc (.cells l.toArray T)) w.heap.size T l:=by
 unfold Blk
 show (w.heap.push _)[w.heap.size]?=_
 simp
theorem wHh (w:World) (o:Obj):(w.alloc o).heap.size=w.heap.size + 1:=by simp
theorem wIi (w:World) (b off:Nat) (v:Value):Keep w (w.setCell ⟨b,off,none⟩ v) (·=b) :=
 ⟨rfl,⟨rfl,nJ _⟩,rfl,by simp [World.setCell],fun k _ hx=>Below.heap_setCell w _ v k hx⟩
theorem wJY {w:World} {b:Nat} {T:TypeId} {l:List Value} (h:Blk w b T l) (off:Nat) (v:Value):Blk (w.setCell ⟨b,off,none⟩ v) b T (l.set off v):=by
 unfold Blk at h ⊢
 simp [World.setCell,Array.getElem?_modify,h]
theorem wIj (w:World) (a:Addr) (v:Value):(w.setCell a v).heap.size=w.heap.size:=by simp [World.setCell]
def wCR:List Value->Nat->List Value->List Value
 | l,_,[]=>l
 | l,off,v :: vs=>wCR (l.set off v) (off + 1) vs
theorem wBg (l:List Value) (off:Nat) (vs:List Value):(wCR l off vs).length=l.length:=by
 induction vs generalizing l off with
 | nil=>rfl
 | cons v vs ih=>simp [wCR,ih]
def one (v:Value):Bool :=
 match v with
 | .agg _ | .tuple _=>false
 | _=>true
theorem wLP {P:Program} {w:World} {b off:Nat} {T:TypeId} {l:List Value} {v:Value} (h:Blk w b T l) (hlt:off < l.length) (h1:one v=true) :
  (store ⟨b,off,none⟩ v).run P w=.ok () (w.setCell ⟨b,off,none⟩ v):=by
 have hc:w.cell? ⟨b,off,none⟩=some (l[off]'hlt):=h.cell (nB hlt)
 have hf:=h.frozen (off:=off)
 cases v <;> simp [store,Sem.run,hc,hf,one] at h1 ⊢
theorem wCJ {P:Program} {b:Nat} {T:TypeId} (off:Nat) (vs:List Value):∀ (i:Nat) (l:List Value) (w:World),Blk w b T l->off + i + vs.length <= l.length->(∀ v ∈ vs,one v=true) ->
  ∃ w',(storeCells ⟨b,off,none⟩ vs i).run P w=.ok () w'/\Blk w' b T (wCR l (off + i) vs)/\Keep w w' (·=b)/\w'.heap.size=w.heap.size:=by
 induction vs with
 | nil=>intro i l w h _ _;exact ⟨w,by simp [storeCells],h,Keep.refl _ _,rfl⟩
 | cons v vs ih =>
  intro i l w h hle h1
  have hlt:off + i < l.length:=by simp at hle;omega
  have hs:=wLP (P:=P) h hlt (h1 v (by simp))
  obtain ⟨w',h2,h3,h4,h5⟩:=ih (i + 1) (l.set (off + i) v) _ (wJY h (off + i) v) (by simp at hle ⊢;omega) (fun u hu=>h1 u (by simp [hu]))
  refine ⟨w',?_,h3,(wIi w b (off + i) v).step h4 (fun _ _ h=>h),by rw [h5,wIj]⟩
  have ha:Addr.add ⟨b,off,none⟩ i=⟨b,off + i,none⟩:=by unfold Addr.add;split <;> simp_all
  simp only [storeCells,Sem.run_bind,ha,hs,Result.andThen_ok]
  exact h2
section
variable {r:Option Nat} {N:Nat} {P:Program} {ops:List Oper} {Q:wCp} {D:List Deferred} {σ:Env} {w w':World} {rest:List Oper} {o:Oper} {d:Nat}
theorem Runs.mv {x:Operand} {v:Value} (ho:o.op=.move x) (hx:ev σ x=v):Runs P σ w o v w:=⟨by rw [ho];rfl,by simp [execOp,ho,hx]⟩
theorem Runs.as {x:Operand} {v:Value} (ho:o.op=.assign x) (hx:ev σ x=v):Runs P σ w o v w:=⟨by rw [ho];rfl,by simp [execOp,ho,hx]⟩
theorem Runs.pickT {c x y:Operand} {v:Value} (ho:o.op=.pick c x y) (hc:ev σ c=.bool true) (hx:ev σ x=v):Runs P σ w o v w:=⟨by rw [ho];rfl,by simp [execOp,ho,hc,hx,asBool]⟩
theorem Runs.pickF {c x y:Operand} {v:Value} (ho:o.op=.pick c x y) (hc:ev σ c=.bool false) (hx:ev σ y=v):Runs P σ w o v w:=⟨by rw [ho];rfl,by simp [execOp,ho,hc,hx,asBool]⟩
theorem Runs.ext {x:Operand} {i:Nat} {vs:Array Value} {v:Value} (ho:o.op=.extract x i) (hx:ev σ x=.tuple vs) (hv:vs[i]?=some v):Runs P σ w o v w :=
 ⟨by rw [ho];rfl,by simp [execOp,ho,Instr.extract,hx,hv]⟩
theorem Runs.nilp {x:Operand} {a:Addr} (ho:o.op=.nilCheck x) (hx:ev σ x=.pointer (some a)):Runs P σ w o (.pointer (some a)) w :=
 ⟨by rw [ho];rfl,by simp [execOp,ho,hx]⟩
theorem Runs.nilf {x:Operand} {f:FuncId} {a b:Array Value} (ho:o.op=.nilCheck x) (hx:ev σ x=.func (.func f) a b):Runs P σ w o (.func (.func f) a b) w :=
 ⟨by rw [ho];rfl,by simp [execOp,ho,hx]⟩
theorem Runs.nily {x:Operand} {f:Nat} {a b:Array Value} (ho:o.op=.nilCheck x) (hx:ev σ x=.func (.yield f) a b):Runs P σ w o (.func (.yield f) a b) w :=
 ⟨by rw [ho];rfl,by simp [execOp,ho,hx]⟩
theorem Runs.mkf {fn:Go.Fn} {fl cl:List Operand} {fv cv:List Value} (ho:o.op=.makeFunc fn fl.toArray cl.toArray) (hf:nh (ev σ) fl=fv) (hc:nh (ev σ) cl=cv):Runs P σ w o (.func fn fv.toArray cv.toArray) w :=
 ⟨by rw [ho];rfl,by subst hf hc;simp [execOp,ho,Instr.makeFunc]⟩
theorem wDl (b off n:Nat):Addr.add ⟨b,off,none⟩ n=⟨b,off + n,none⟩:=by unfold Addr.add;split <;> simp_all
theorem Runs.ld {t:TypeId} {x:Operand} {a:Addr} {v:Value} (ho:o.op=.load t x) (hx:ev σ x=.pointer (some a)) (hag:∀ w,(isAgg t).run P w=.ok false w) (hc:w.cell? a=some v):Runs P σ w o v w :=
 ⟨by rw [ho];rfl,by simp [execOp,ho,Instr.loadAt,hx,Instr.sureAddr,loadVar,hag,load,Sem.run,hc]⟩
theorem wFa {P:Program} {w:World} {b off:Nat} (vs:List Value):∀ (i:Nat) (acc:Array Value),(∀ j v,vs[j]?=some v->w.cell? ⟨b,off + i + j,none⟩=some v) ->
  (loadCellsFrom ⟨b,off,none⟩ i vs.length acc).run P w=.ok (acc ++ vs.toArray) w:=by
 induction vs with
 | nil=>intro i acc _;simp [loadCellsFrom]
 | cons v vs ih =>
  intro i acc h
  have h0:=h 0 v rfl
  simp only [Nat.add_zero] at h0
  have:=ih (i + 1) (acc.push v) (fun j u hu=>by have:=h (j + 1) u (by simpa using hu);rw [show off + (i + 1) + j=off + i + (j + 1) from by omega];exact this)
  simp only [kM,loadCellsFrom,Sem.run_bind,wDl]
  simp only [load,Sem.run,h0,Result.andThen_ok]
  rw [this]
  simp
theorem run_loadCells {P:Program} {w:World} {b off n:Nat} (vs:List Value) (hn:vs.length=n) (h:∀ j v,vs[j]?=some v->w.cell? ⟨b,off + j,none⟩=some v) :
  (loadCells ⟨b,off,none⟩ n).run P w=.ok vs.toArray w:=by
 subst hn
 have:=wFa (P:=P) (w:=w) (b:=b) (off:=off) vs 0 #[] (by simpa using h)
 simpa [loadCells] using this
theorem Runs.ldA {t:TypeId} {x:Operand} {b off n:Nat} {vs:List Value} (ho:o.op=.load t x) (hx:ev σ x=.pointer (some ⟨b,off,none⟩)) (hag:∀ w,(isAgg t).run P w=.ok true w)
  (hsz:∀ w,(sizeOf t).run P w=.ok n w) (hn:vs.length=n) (h:∀ j v,vs[j]?=some v->w.cell? ⟨b,off + j,none⟩=some v):Runs P σ w o (.agg vs.toArray) w :=
 ⟨by rw [ho];rfl,by simp [execOp,ho,Instr.loadAt,hx,Instr.sureAddr,loadVar,hag,hsz,run_loadCells vs hn h]⟩
theorem Blk.cells {w:World} {b off n:Nat} {T:TypeId} {l vs:List Value} (h:Blk w b T l) (hv:(l.drop off).take n=vs):∀ j v,vs[j]?=some v->w.cell? ⟨b,off + j,none⟩=some v:=by
 intro j v hj
 subst hv
 refine h.cell ?_
 rw [nQ] at hj
 split at hj
 ·rwa [nS] at hj
 ·cases hj
theorem Runs.ldB {t T:TypeId} {x:Operand} {b off:Nat} {l:List Value} {v:Value} (ho:o.op=.load t x) (hx:ev σ x=.pointer (some ⟨b,off,none⟩)) (hag:∀ w,(isAgg t).run P w=.ok false w)
  (hB:Blk w b T l) (hv:l[off]?=some v):Runs P σ w o v w:=Runs.ld ho hx hag (hB.cell hv)
theorem Runs.ldBA {t T:TypeId} {x:Operand} {b off n:Nat} {l vs:List Value} (ho:o.op=.load t x) (hx:ev σ x=.pointer (some ⟨b,off,none⟩)) (hag:∀ w,(isAgg t).run P w=.ok true w)
  (hsz:∀ w,(sizeOf t).run P w=.ok n w) (hB:Blk w b T l) (hv:(l.drop off).take n=vs) (hn:vs.length=n):Runs P σ w o (.agg vs.toArray) w :=
 Runs.ldA ho hx hag hsz hn (hB.cells hv)
theorem Runs.fa {s:TypeId} {x:Operand} {i b off n:Nat} {fs:Array Field} {fl:Field} (ho:o.op=.fieldAddr s x i) (hx:ev σ x=.pointer (some ⟨b,off,none⟩))
  (hs:∀ w,(underlying s).run P w=.ok (.struct fs) w) (hf:fs[i]?=some fl) (hsz:∀ w,(sizeOf fl.type).run P w=.ok (n + 1) w):Runs P σ w o (.pointer (some ⟨b,off + fl.offset,none⟩)) w :=
 ⟨by rw [ho];rfl,by simp [execOp,ho,Instr.fieldAt,hs,hf,hx,Instr.sureAddr,fieldPlace,hsz,wDl]⟩
theorem Runs.ia {t e:TypeId} {x y:Operand} {b off len cap sz:Nat} {i:Int} (ho:o.op=.indexAddr t x y) (hx:ev σ x=.slice (some ⟨b,off,none⟩) len cap) (hy:ev σ y=.int .i64 i)
  (ht:∀ w,(underlying t).run P w=.ok (.slice e) w) (hsz:∀ w,(sizeOf e).run P w=.ok sz w) (h0:0 <= i) (h1:i < len):Runs P σ w o (.pointer (some ⟨b,off + i.toNat * sz,none⟩)) w :=
 ⟨by rw [ho];rfl,by simp [execOp,ho,Instr.indexAt,hx,hy,asIntOf,ht,hsz,h0,h1,wDl]⟩
theorem Runs.iaA {t e:TypeId} {x y:Operand} {b off len sz:Nat} {i:Int} (ho:o.op=.indexAddr t x y) (hx:ev σ x=.pointer (some ⟨b,off,none⟩)) (hy:ev σ y=.int .i64 i)
  (ht:∀ w,(underlying t).run P w=.ok (.array len e) w) (hsz:∀ w,(sizeOf e).run P w=.ok sz w) (h0:0 <= i) (h1:i < len):Runs P σ w o (.pointer (some ⟨b,off + i.toNat * sz,none⟩)) w :=
 ⟨by rw [ho];rfl,by simp [execOp,ho,Instr.indexAt,Instr.sureAddr,hx,hy,asIntOf,ht,hsz,h0,h1,wDl]⟩
theorem wIF {P:Program} {w:World} {e n off:Nat} {cs vs:List Value} (hag:∀ w,(isAgg e).run P w=.ok true w) (hsz:∀ w,(sizeOf e).run P w=.ok n w) (hv:(cs.drop off).take n=vs) :
  (part e cs.toArray off).run P w=.ok (.agg vs.toArray) w:=by
 subst hv
 simp [part,hag,hsz,List.extract_eq_take_drop]
theorem wGP {P:Program} {w:World} {e off:Nat} {cs:List Value} {v:Value} (hag:∀ w,(isAgg e).run P w=.ok false w) (hv:cs[off]?=some v) :
  (part e cs.toArray off).run P w=.ok v w:=by
 simp [part,hag,hv]
theorem Runs.ixA {t e:TypeId} {x y:Operand} {len sz:Nat} {i:Int} {cs:List Value} {v:Value} (ho:o.op=.index t x y) (hx:ev σ x=.agg cs.toArray) (hy:ev σ y=.int .i64 i)
  (ht:∀ w,(underlying t).run P w=.ok (.array len e) w) (hsz:∀ w,(sizeOf e).run P w=.ok sz w) (h0:0 <= i) (h1:i < len) (hp:(part e cs.toArray (i.toNat * sz)).run P w=.ok v w):Runs P σ w o v w :=
 ⟨by rw [ho];rfl,by simp [execOp,ho,Instr.index,hx,hy,asIntOf,ht,hsz,h0,h1,hp]⟩
theorem Runs.fld {s:TypeId} {x:Operand} {i:Nat} {fs:Array Field} {fl:Field} {cs:List Value} {v:Value} (ho:o.op=.field s x i) (hx:ev σ x=.agg cs.toArray)
  (hs:∀ w,(underlying s).run P w=.ok (.struct fs) w) (hf:fs[i]?=some fl) (hp:(part fl.type cs.toArray fl.offset).run P w=.ok v w):Runs P σ w o v w :=
 ⟨by rw [ho];rfl,by simp [execOp,ho,Instr.field,hs,hf,hx,asAgg,hp]⟩
theorem Runs.not {t:TypeId} {x:Operand} {b:Bool} (ho:o.op=.unOp .not t x) (hx:ev σ x=.bool b):Runs P σ w o (.bool !b) w :=
 ⟨by rw [ho];rfl,by simp [execOp,ho,hx,Op.unary]⟩
theorem Runs.lss {t u:TypeId} {k:IntKind} {x y:Operand} {m n:Int} (ho:o.op=.binOp .lss t x y u) (hx:ev σ x=.int k m) (hy:ev σ y=.int k n):Runs P σ w o (.bool (decide (m < n))) w :=
 ⟨by rw [ho];rfl,by simp [execOp,ho,hx,hy,binOp,eqGuard,Op.intCmp]⟩
theorem Runs.leq {t u:TypeId} {k:IntKind} {x y:Operand} {m n:Int} (ho:o.op=.binOp .leq t x y u) (hx:ev σ x=.int k m) (hy:ev σ y=.int k n):Runs P σ w o (.bool (decide (m <= n))) w :=
 ⟨by rw [ho];rfl,by simp [execOp,ho,hx,hy,binOp,eqGuard,Op.intCmp]⟩
theorem Runs.gtr {t u:TypeId} {k:IntKind} {x y:Operand} {m n:Int} (ho:o.op=.binOp .gtr t x y u) (hx:ev σ x=.int k m) (hy:ev σ y=.int k n):Runs P σ w o (.bool (decide (n < m))) w :=
 ⟨by rw [ho];rfl,by simp [execOp,ho,hx,hy,binOp,eqGuard,Op.intCmp]⟩
theorem Runs.geq {t u:TypeId} {k:IntKind} {x y:Operand} {m n:Int} (ho:o.op=.binOp .geq t x y u) (hx:ev σ x=.int k m) (hy:ev σ y=.int k n):Runs P σ w o (.bool (decide (n <= m))) w :=
 ⟨by rw [ho];rfl,by simp [execOp,ho,hx,hy,binOp,eqGuard,Op.intCmp]⟩
theorem wJZ (m n:Int):(m == n)=decide (m=n):=by by_cases h:m=n <;> simp [h]
theorem Runs.eql {t u:TypeId} {k:IntKind} {x y:Operand} {m n:Int} (ho:o.op=.binOp .eql t x y u) (hx:ev σ x=.int k m) (hy:ev σ y=.int k n):Runs P σ w o (.bool (decide (m=n))) w :=
 ⟨by rw [ho];rfl,by simp [execOp,ho,hx,hy,binOp,eqGuard,Op.intCmp,wJZ]⟩
theorem Runs.neq {t u:TypeId} {k:IntKind} {x y:Operand} {m n:Int} (ho:o.op=.binOp .neq t x y u) (hx:ev σ x=.int k m) (hy:ev σ y=.int k n):Runs P σ w o (.bool (decide (m ≠ n))) w :=
 ⟨by rw [ho];rfl,by simp [execOp,ho,hx,hy,binOp,eqGuard,Op.intCmp,bne,wJZ]⟩
theorem Runs.to {v v':Value} (h:Runs P σ w o v w') (e:v=v'):Runs P σ w o v' w':=e ▸ h
theorem wRO {p:Prop} [Decidable p] (h:p):aN (decide p)=.bool true:=by simp [h]
theorem wRP {p:Prop} [Decidable p] (h:¬ p):aN (decide p)=.bool false:=by simp [h]
theorem Runs.len {t e:TypeId} {x:Operand} {a:Option Addr} {n c:Nat} (ho:o.op=.call { callee:=.builtin .len,args:=#[x],argTypes:=#[t] }) (hx:ev σ x=.slice a n c)
  (ht:∀ w,(underlying t).run P w=.ok (.slice e) w):Runs P σ w o (.int .i64 n) w :=
 ⟨by rw [ho];rfl,by simp [execOp,ho,resolve,invoke,builtin,Builtin.len_,hx,ht,goInt]⟩
end
end Go.KL
namespace Go.KL
open Go.RowKit
def wLQ (o:Oper):List Nat:=(o.after.toList.filter (Region.binds .any)).map (·.on)
def Rounds (P:Program) (σ:Env) (w:World) (o:Oper) (R:Value->World->Prop):Prop :=
 wFA o.op=true/\∃ l f tmps asg body,(execOp (ev σ) o).run P w=.ok (.round l f tmps asg body) w/\RoundIn (WF none) 0 P l f tmps asg body w fun e w'=>∃ v,e=.returned v/\R v w'
theorem Rounds.mono {P:Program} {σ:Env} {w:World} {o:Oper} {R R':Value->World->Prop} (h:Rounds P σ w o R) (hR:∀ v w',R v w'->R' v w'):Rounds P σ w o R':=by
 obtain ⟨h1,l,f,t,a,b,h2,h3⟩:=h
 exact ⟨h1,l,f,t,a,b,h2,h3.mono fun e w' ⟨v,e1,e2⟩=>⟨v,e1,hR _ _ e2⟩⟩
theorem wEg {P:Program} {l:Nat} {f:FuncId} {tmps:Array Value} {asg body:Code} {w:World} {R:Ending->World->Prop} (h:RoundIn (WF none) 0 P l f tmps asg body w R) (r:Option Nat):RoundIn (WF r) 0 P l f tmps asg body w R:=h
theorem OK.round {r:Option Nat} {N:Nat} {P:Program} {ops:List Oper} {Q:wCp} {D:List Deferred} {σ:Env} {w:World} {rest:List Oper} {o:Oper} {d:Nat} {R:Value->World->Prop}
  (hw:wanted ops σ o=true) (hd:o.dst=some d) (hdN:nL d N=true) (hr:Rounds P σ w o R) (k:∀ v w',R v w'->OK r N P ops Q rest D (upd σ d v) w'):OK r N P ops Q (o :: rest) D σ w:=by
 intro a ha
 have hdN':d < N:=by simpa [nZ] using hdN
 obtain ⟨h1,l,f,t,as,b,h2,h3⟩:=hr
 simp only [wpListIn,wCt ha ops o hw,if_true]
 refine ⟨fun _ _=>trivial,?_⟩
 rw [semAt_eq _ _ _ h1,ha.eval,h2]
 simp only [Oper.uponIn,hd]
 refine ⟨fun h=>(by cases h),?_⟩
 refine RoundIn.mono (wEg h3 r) ?_
 rintro e w' ⟨v,rfl,hR⟩
 exact k v w' hR _ (ha.put hdN' _)
theorem OK.roundn {r:Option Nat} {N:Nat} {P:Program} {ops:List Oper} {Q:wCp} {D:List Deferred} {σ:Env} {w:World} {rest:List Oper} {o:Oper} {R:Value->World->Prop}
  (hw:wanted ops σ o=true) (hd:o.dst=none) (hr:Rounds P σ w o R) (k:∀ v w',R v w'->OK r N P ops Q rest D σ w'):OK r N P ops Q (o :: rest) D σ w:=by
 intro a ha
 obtain ⟨h1,l,f,t,as,b,h2,h3⟩:=hr
 simp only [wpListIn,wCt ha ops o hw,if_true]
 refine ⟨fun _ _=>trivial,?_⟩
 rw [semAt_eq _ _ _ h1,ha.eval,h2]
 simp only [Oper.uponIn,hd]
 refine ⟨fun h=>(by cases h),?_⟩
 refine RoundIn.mono (wEg h3 r) ?_
 rintro e w' ⟨v,rfl,hR⟩
 exact k v w' hR _ ha
def Step1 (P:Program) (ops:List Oper) (o:Oper) (σ:Env) (w:World) (R:Value->World->Prop):Prop :=
 (wanted ops σ o=true/\((o.dst=none/\∃ w',Does P σ w o w'/\R undef w') \/ (∃ v w',Runs P σ w o v w'/\R v w') \/ (∃ f args R',Enters P σ w o f args/\Gv P f args w R'/\∀ v w',R' v w'->R v w') \/ Rounds P σ w o R)) \/
 (wanted ops σ o=false/\R undef w)
theorem Keep.trans' {a b c:World} {X:Nat->Prop} (h:Keep a b X) (k:Keep b c X):Keep a c X:=h.step k fun _ _ h=>h
def put' (σ:Env) (o:Oper) (v:Value):Env :=
 match o.dst with
 | some d=>upd σ d v
 | none=>σ
def wFu (P:Program) (σ:Env) (w:World) (o:Oper) (v:Value):Prop:=∀ w',Keep w w' Non->Runs P σ w' o v w'
inductive Sch
 | nil
 | stop
 | fl (i:Nat) (s:Sch)
 | fx (i:Nat) (s alt:Sch)
def kOf (ks:List Nat) (i:Nat):Nat:=ks.getD i 0
def wPI (ks:List Nat) (i:Nat):Bool:=kOf ks i == 1 || kOf ks i == 3 || kOf ks i == 1004
def InL (T:List Nat) (b:Nat):Prop:=b ∈ T
def OutL (T:List Nat) (b:Nat):Prop:=b ∉ T
def chg (l:List Oper) (ks:List Nat):Nat->Prop:=bif nf (kOf ks (l.length - 1)) 1006 then OutL (ks.drop l.length) else InL (ks.drop l.length)
def wRQ (k:Nat):Bool:=nf k 3 || nf k 1004
def wIk (k:Nat):Bool:=nf k 2 || nf k 1005
def KeepD (l:List Oper) (ks:List Nat) (i:Nat) (w w':World):Prop:=(kOf ks i=2->Keep w w' Non)/\(kOf ks i=1005->Keep w w' (chg l ks))
theorem KeepD.of {l:List Oper} {ks:List Nat} {i:Nat} {w w':World} (h:wIk (kOf ks i)=false \/ Keep w w' Non):KeepD l ks i w w':=by
 refine ⟨fun e=>?_,fun e=>?_⟩
 ·rcases h with h | h
  ·rw [e] at h;cases h
  ·exact h
 ·rcases h with h | h
  ·rw [e] at h;cases h
  ·exact h.weak fun _ _ hx=>hx.elim
theorem KeepD.refl (l:List Oper) (ks:List Nat) (i:Nat) (w:World):KeepD l ks i w w:=.of (.inr (Keep.refl w _))
def Fl (P:Program) (l:List Oper) (k:Nat) (T:Nat->Prop) (o:Oper) (σ:Env) (w:World) (K:Env->Prop):Prop :=
 (wanted l σ o=true/\∃ v,(wFu P σ w o v)/\((k=3->∀ w',Runs P σ w' o v w')/\(k=1004->∀ w',Keep w w' T->Runs P σ w' o v w'))/\K (put' σ o v)) \/ (wanted l σ o=false/\K (put' σ o undef))
def OKS (N:Nat) (P:Program) (l:List Oper) (Q:wCp) (D:List Deferred) (ks:List Nat):Sch->Env->World->Prop
 | .nil,σ,w=>Q D .normal σ w
 | .stop,_,_=>True
 | .fl i s,σ,w=>∃ o,l[i]?=some o/\(∀ d,o.dst=some d->d < N)/\Fl P l (kOf ks i) (chg l ks) o σ w fun σ'=>OKS N P l Q D ks s σ' w
 | .fx i s alt,σ,w=>(∃ o,l[i]?=some o/\(∀ d,o.dst=some d->d < N)/\Step1 P l o σ w fun v w'=>KeepD l ks i w w'/\OKS N P l Q D ks s (put' σ o v) w')/\OKS N P l Q D ks alt σ w
section
variable {r:Option Nat} {N:Nat} {P:Program} {Q:wCp} {D:List Deferred} {l:List Oper} {ks:List Nat}
theorem Step1.mono {ops:List Oper} {o:Oper} {σ:Env} {w:World} {R R':Value->World->Prop} (h:Step1 P ops o σ w R) (hR:∀ v w',R v w'->R' v w'):Step1 P ops o σ w R':=by
 rcases h with ⟨h1,⟨h2,w',h3,h4⟩ | ⟨v,w',h3,h4⟩ | ⟨f,args,Q,h3,h4,h5⟩ | hy⟩ | ⟨h1,h2⟩
 ·exact .inl ⟨h1,.inl ⟨h2,w',h3,hR _ _ h4⟩⟩
 ·exact .inl ⟨h1,.inr (.inl ⟨v,w',h3,hR _ _ h4⟩)⟩
 ·exact .inl ⟨h1,.inr (.inr (.inl ⟨f,args,Q,h3,h4,fun v w' h=>hR _ _ (h5 v w' h)⟩))⟩
 ·exact .inl ⟨h1,.inr (.inr (.inr (hy.mono hR)))⟩
 ·exact .inr ⟨h1,hR _ _ h2⟩
theorem OK.step1 {o:Oper} {rest:List Oper} {σ:Env} {w:World} {R:Value->World->Prop} (hdN:∀ d,o.dst=some d->d < N) (h:Step1 P l o σ w R)
  (k:∀ v w',R v w'->OK r N P l Q rest D (put' σ o v) w'):OK r N P l Q (o :: rest) D σ w:=by
 unfold put' at k
 cases hd:o.dst with
 | none =>
  rw [hd] at k
  rcases h with ⟨h1,⟨_,w',h3,h4⟩ | ⟨v,w',h3,h4⟩ | ⟨f,args,Q,h3,h4,h5⟩ | hy⟩ | ⟨h1,h2⟩
  ·exact OK.unit h1 hd h3 (k _ _ h4)
  ·exact OK.valn h1 hd h3 (k _ _ h4)
  ·exact OK.calln h1 hd h3 h4 fun v w' hR=>k _ _ (h5 _ _ hR)
  ·exact OK.roundn h1 hd hy fun v w' hR=>k _ _ hR
  ·exact OK.passn h1 hd (k _ _ h2)
 | some d =>
  rw [hd] at k
  have hb:nL d N=true:=by rw [nZ];exact hdN d hd
  rcases h with ⟨h1,⟨h2,w',h3,h4⟩ | ⟨v,w',h3,h4⟩ | ⟨f,args,Q,h3,h4,h5⟩ | hy⟩ | ⟨h1,h2⟩
  ·rw [hd] at h2;cases h2
  ·exact OK.val h1 hd hb h3 (k _ _ h4)
  ·exact OK.call h1 hd hb h3 h4 fun v w' hR=>k _ _ (h5 _ _ hR)
  ·exact OK.round h1 hd hb hy fun v w' hR=>k _ _ hR
  ·exact OK.pass h1 hd hb (k _ _ h2)
theorem Fl.step1 {k:Nat} {T:Nat->Prop} {o:Oper} {σ:Env} {w:World} {K:Env->Prop} (h:Fl P l k T o σ w K):Step1 P l o σ w fun v w'=>w'=w/\K (put' σ o v):=by
 rcases h with ⟨h1,v,h2,_,h3⟩ | ⟨h1,h2⟩
 ·exact .inl ⟨h1,.inr (.inl ⟨v,w,h2 w (Keep.refl w _),rfl,h3⟩)⟩
 ·exact .inr ⟨h1,rfl,h2⟩
def inOrder:Nat->Sch->Nat->Bool
 | p,.nil,n=>p == n
 | _,.stop,_=>false
 | p,.fl i s,n=>i == p && inOrder (p + 1) s n
 | p,.fx i s _,n=>i == p && inOrder (p + 1) s n
theorem OKS.inOrder (s:Sch):∀ (p:Nat) (σ:Env) (w:World),inOrder p s l.length=true->OKS N P l Q D ks s σ w->OK r N P l Q (l.drop p) D σ w:=by
 induction s with
 | nil =>
  intro p σ w hs h
  simp only [KL.inOrder,beq_iff_eq] at hs
  subst hs
  rw [List.drop_length];exact OK.nil h
 | stop=>intro p σ w hs h;cases hs
 | fl i s ih =>
  intro p σ w hs h
  simp only [KL.inOrder,nK,beq_iff_eq] at hs
  obtain ⟨rfl,hs⟩:=hs
  obtain ⟨o,ho,hN,hf⟩:=h
  obtain ⟨hlt,e⟩:=nA.1 ho
  rw [kh hlt,e]
  exact OK.step1 hN hf.step1 fun v w' ⟨e,hk⟩=>e ▸ ih (i + 1) _ _ hs hk
 | fx i s alt ih _ =>
  intro p σ w hs h
  simp only [KL.inOrder,nK,beq_iff_eq] at hs
  obtain ⟨rfl,hs⟩:=hs
  obtain ⟨⟨o,ho,hN,hf⟩,_⟩:=h
  obtain ⟨hlt,e⟩:=nA.1 ho
  rw [kh hlt,e]
  exact OK.step1 hN hf fun v w' ⟨_,hk⟩=>ih (i + 1) _ _ hs hk
theorem CK.reg {id:Nat} {σ:Env} {w:World} (s:Sch) (hs:inOrder 0 s l.length=true) (h:OKS N P l Q D ks s σ w):CK r N P (.region id l.toArray false) Q D σ w :=
 CK.region (by have:=OKS.inOrder (r:=r) s 0 σ w hs h;simpa using this)
def wED (l:List Oper) (o:Oper):List Nat :=
  (o.op.operands.toList.filterMap fun | .tmp t=>some t | _=>none) ++
  (match o.guard with
   | some (g,_)=>((l[g]?).bind (·.dst)).toList
   | none=>[])
def wBn (o:Oper):Bool:=match o.op with | .select ..=>true | _=>false
def apt (l:List Oper) (x y:Oper):Bool :=
  !wBn x && !wBn y &&
  (match x.dst with
   | some d=>!(wED l y).contains d && y.dst != some d
   | none=>true) &&
  (match y.dst with
   | some d=>!(wED l x).contains d
   | none=>true)
structure Apt (l:List Oper) (x y:Oper):Prop where
 sx:wBn x=false
 sy:wBn y=false
 xy:∀ d,x.dst=some d->d ∉ wED l y
 ne:∀ d,x.dst=some d->y.dst ≠ some d
 yx:∀ d,y.dst=some d->d ∉ wED l x
theorem wOY {x y:Oper} (h:apt l x y=true):Apt l x y:=by
 unfold apt at h
 simp only [nK,nU] at h
 obtain ⟨⟨⟨h1,h2⟩,h3⟩,h4⟩:=h
 refine ⟨h1,h2,fun d hd=>?_,fun d hd=>?_,fun d hd=>?_⟩
 ·rw [hd] at h3;simp only [nK,nU,nR,decide_eq_false_iff_not] at h3;exact h3.1
 ·rw [hd] at h3;simp only [nK,bne_iff_ne] at h3;exact h3.2
 ·rw [hd] at h4;simp only [nU,nR,decide_eq_false_iff_not] at h4;exact h4
theorem wMK {o:Oper} (h:wBn o=false):∀ cs b,o.op ≠ .select cs b:=by
 intro cs b e;unfold wBn at h;rw [e] at h;cases h
theorem wGQ {σ:Env} {o:Oper} {v:Value} {t:Nat} (h:∀ d,o.dst=some d->d ≠ t):put' σ o v t=σ t:=by
 unfold put'
 cases hd:o.dst with
 | none=>rfl
 | some d=>exact wDg _ _ (Ne.symm (h d hd))
theorem wPl {σ:Env} {x o:Oper} {v:Value} (h:∀ d,x.dst=some d->d ∉ wED l o):∀ y ∈ o.op.operands,ev (put' σ x v) y=ev σ y:=by
 intro y hy
 cases y with
 | tmp t =>
  refine wGQ fun d hd e=>h d hd ?_
  subst e
  exact nk _ (List.mem_filterMap.2 ⟨.tmp d,by simpa using hy,rfl⟩)
 | _=>rfl
theorem wCU {σ:Env} {x o:Oper} {v:Value} (h:∀ d,x.dst=some d->d ∉ wED l o):wanted l (put' σ x v) o=wanted l σ o:=by
 unfold wanted
 cases hg:o.guard with
 | none=>rfl
 | some g =>
  obtain ⟨j,b⟩:=g
  simp only
  cases hd:(l[j]?).bind (·.dst) with
  | none=>rfl
  | some t =>
   simp only
   rw [wGQ fun d hx e=>h d hx ?_]
   subst e
   unfold wED
   rw [hg]
   simp only [hd]
   simp
theorem wGE {σ:Env} {x o:Oper} {v:Value} (hs:wBn o=false) (h:∀ d,x.dst=some d->d ∉ wED l o):execOp (ev (put' σ x v)) o=execOp (ev σ) o :=
 execOp_congr o (wMK hs) (wPl h)
theorem Runs.put' {σ:Env} {x o:Oper} {u v:Value} {w w':World} (hs:wBn o=false) (h:∀ d,x.dst=some d->d ∉ wED l o):Runs P (put' σ x u) w o v w' ↔ Runs P σ w o v w':=by
 unfold Runs;rw [wGE hs h]
theorem Does.put' {σ:Env} {x o:Oper} {u:Value} {w w':World} (hs:wBn o=false) (h:∀ d,x.dst=some d->d ∉ wED l o):Does P (put' σ x u) w o w' ↔ Does P σ w o w':=by
 unfold Does;rw [wGE hs h]
theorem Enters.put' {σ:Env} {x o:Oper} {u:Value} {w:World} {f:FuncId} {args:List Value} (hs:wBn o=false) (h:∀ d,x.dst=some d->d ∉ wED l o):Enters P (put' σ x u) w o f args ↔ Enters P σ w o f args:=by
 unfold Enters;rw [wGE hs h]
theorem Rounds.put' {σ:Env} {x o:Oper} {u:Value} {w:World} {R:Value->World->Prop} (hs:wBn o=false) (h:∀ d,x.dst=some d->d ∉ wED l o):Rounds P (put' σ x u) w o R ↔ Rounds P σ w o R:=by
 unfold Rounds;rw [wGE hs h]
theorem Step1.put' {σ:Env} {x o:Oper} {u:Value} {w:World} {R:Value->World->Prop} (hs:wBn o=false) (h:∀ d,x.dst=some d->d ∉ wED l o):Step1 P l o (put' σ x u) w R->Step1 P l o σ w R:=by
 unfold Step1
 rw [wCU h]
 simp only [Runs.put' hs h,Does.put' hs h,Enters.put' hs h,Rounds.put' hs h]
 exact id
theorem wGR {σ:Env} {x y:Oper} (u v:Value) (h:∀ d,x.dst=some d->y.dst ≠ some d):KL.put' (KL.put' σ x u) y v=KL.put' (KL.put' σ y v) x u:=by
 unfold KL.put'
 cases hx:x.dst with
 | none=>rfl
 | some d =>
  cases hy:y.dst with
  | none=>rfl
  | some e =>
   have hne:d ≠ e:=fun he=>h d hx (by rw [hy,he])
   show upd (upd σ d u) e v=upd (upd σ e v) d u
   funext t
   by_cases h1:t=d
   ·subst h1;rw [wDg _ _ hne,wCo,wCo]
   ·rw [wDg (upd σ e v) _ h1]
    by_cases h2:t=e
    ·subst h2;rw [wCo,wCo]
    ·rw [wDg _ _ h2,wDg _ _ h2,wDg _ _ h1]
def Over (k:Nat) (T:Nat->Prop) (w w':World):Prop:=k=3 \/ Keep w w' Non \/ (k=1004/\Keep w w' T)
theorem OKS.swapF {i j:Nat} {s:Sch} {σ:Env} {w:World} (hap:∀ x y,l[i]?=some x->l[j]?=some y->Apt l x y)
  (h:OKS N P l Q D ks (.fl i (.fl j s)) σ w):OKS N P l Q D ks (.fl j (.fl i s)) σ w:=by
 obtain ⟨x,hx,hxN,hf⟩:=h
 have key:∀ u,(OKS N P l Q D ks (.fl j s) (put' σ x u) w)->∃ y,l[j]?=some y/\(∀ d,y.dst=some d->d < N)/\Fl P l (kOf ks j) (chg l ks) y σ w (fun σ'=>∃ v,σ'=put' σ y v/\OKS N P l Q D ks s (put' σ' x u) w):=by
  rintro u ⟨y,hy,hyN,hg⟩
  have A:=hap x y hx hy
  refine ⟨y,hy,hyN,?_⟩
  rcases hg with ⟨h1,v,h2,h3,h4⟩ | ⟨h1,h2⟩
  ·exact .inl ⟨by rwa [wCU A.xy] at h1,v,fun w2 k2=>(Runs.put' A.sy A.xy).1 (h2 w2 k2),⟨fun e w2=>(Runs.put' A.sy A.xy).1 (h3.1 e w2),fun e w2 k2=>(Runs.put' A.sy A.xy).1 (h3.2 e w2 k2)⟩,v,rfl,by rw [<- wGR u v A.ne];exact h4⟩
  ·exact .inr ⟨by rwa [wCU A.xy] at h1,undef,rfl,by rw [<- wGR u undef A.ne];exact h2⟩
 rcases hf with ⟨h1,u,h2,h3,h4⟩ | ⟨h1,h4⟩
 ·obtain ⟨y,hy,hyN,hg⟩:=key u h4
  have A:=hap x y hx hy
  refine ⟨y,hy,hyN,?_⟩
  have go:∀ v,OKS N P l Q D ks s (put' (put' σ y v) x u) w->OKS N P l Q D ks (.fl i s) (put' σ y v) w:=fun v hv =>
   ⟨x,hx,hxN,.inl ⟨by rw [wCU A.yx];exact h1,u,fun w2 k2=>(Runs.put' A.sx A.yx).2 (h2 w2 k2),⟨fun e w2=>(Runs.put' A.sx A.yx).2 (h3.1 e w2),fun e w2 k2=>(Runs.put' A.sx A.yx).2 (h3.2 e w2 k2)⟩,hv⟩⟩
  rcases hg with ⟨g1,v,g2,g3,v',e,g4⟩ | ⟨g1,v',e,g2⟩
  ·exact .inl ⟨g1,v,g2,g3,go v g4⟩
  ·exact .inr ⟨g1,go undef g2⟩
 ·obtain ⟨y,hy,hyN,hg⟩:=key undef h4
  have A:=hap x y hx hy
  refine ⟨y,hy,hyN,?_⟩
  have go:∀ v,OKS N P l Q D ks s (put' (put' σ y v) x undef) w->OKS N P l Q D ks (.fl i s) (put' σ y v) w:=fun v hv =>
   ⟨x,hx,hxN,.inr ⟨by rw [wCU A.yx];exact h1,hv⟩⟩
  rcases hg with ⟨g1,v,g2,g3,v',e,g4⟩ | ⟨g1,v',e,g2⟩
  ·exact .inl ⟨g1,v,g2,g3,go v g4⟩
  ·exact .inr ⟨g1,go undef g2⟩
theorem OKS.swapX {i j:Nat} {s:Sch} {σ:Env} {w:World} (hap:∀ x y,l[i]?=some x->l[j]?=some y->Apt l x y) (hk:kOf ks j=2 \/ kOf ks i=3 \/ (kOf ks i=1004/\kOf ks j=1005))
  (h:OKS N P l Q D ks (.fl i (.fx j s .stop)) σ w):OKS N P l Q D ks (.fx j (.fl i s) .stop) σ w:=by
 obtain ⟨x,hx,hxN,hf⟩:=h
 have key:∀ u,(OKS N P l Q D ks (.fx j s .stop) (put' σ x u) w)->∃ y,l[j]?=some y/\Apt l x y/\(∀ d,y.dst=some d->d < N)/\Step1 P l y σ w fun v w'=>KeepD l ks j w w'/\OKS N P l Q D ks s (put' (put' σ x u) y v) w':=by
  rintro u ⟨⟨y,hy,hyN,hg⟩,_⟩
  have A:=hap x y hx hy
  exact ⟨y,hy,A,hyN,Step1.put' A.sy A.xy hg⟩
 have fin:∀ u y,l[j]?=some y->Apt l x y->(∀ d,y.dst=some d->d < N)->(Step1 P l y σ w fun v w'=>KeepD l ks j w w'/\OKS N P l Q D ks s (put' (put' σ x u) y v) w') ->
   (∀ v w',Over (kOf ks i) (chg l ks) w w'->OKS N P l Q D ks s (put' (put' σ y v) x u) w'->OKS N P l Q D ks (.fl i s) (put' σ y v) w')->OKS N P l Q D ks (.fx j (.fl i s) .stop) σ w:=by
  intro u y hy A hyN hg hx2
  refine ⟨⟨y,hy,hyN,hg.mono fun v w' ⟨hk',hO⟩=>⟨hk',hx2 v w' ?_ (by rw [<- wGR u v A.ne];exact hO)⟩⟩,trivial⟩
  rcases hk with e | e | ⟨e,e2⟩
  ·exact .inr (.inl (hk'.1 e))
  ·exact .inl e
  ·exact .inr (.inr ⟨e,hk'.2 e2⟩)
 rcases hf with ⟨h1,u,h2,h3,h4⟩ | ⟨h1,h4⟩
 ·obtain ⟨y,hy,A,hyN,hg⟩:=key u h4
  refine fin u y hy A hyN hg fun v w' hw hO=>⟨x,hx,hxN,.inl ⟨by rw [wCU A.yx];exact h1,u,fun w2 k2=>(Runs.put' A.sx A.yx).2 ?_,⟨fun e w2=>(Runs.put' A.sx A.yx).2 (h3.1 e w2),fun e w2 k2=>(Runs.put' A.sx A.yx).2 ?_⟩,hO⟩⟩
  ·rcases hw with e | hw | ⟨e,hw⟩
   ·exact h3.1 e w2
   ·exact h2 w2 (hw.non k2)
   ·exact h3.2 e w2 (hw.non k2)
  ·rcases hw with e' | hw | ⟨_,hw⟩
   ·exact h3.1 e' w2
   ·exact h3.2 e w2 (Keep.trans' (hw.weak fun _ _ hx=>hx.elim) k2)
   ·exact h3.2 e w2 (Keep.trans' hw k2)
 ·obtain ⟨y,hy,A,hyN,hg⟩:=key undef h4
  exact fin undef y hy A hyN hg fun v w' hw hO=>⟨x,hx,hxN,.inr ⟨by rw [wCU A.yx];exact h1,hO⟩⟩
def apI (l:List Oper) (i j:Nat):Bool:=match l[i]?,l[j]? with | some x,some y=>apt l x y | _,_=>false
def prI (l:List Oper) (i:Nat):List Nat:=match l[i]? with | some o=>wLQ o | none=>[]
def wHU (l:List Oper):Nat->Nat->Nat->Bool
 | 0,_,_=>false
 | n + 1,x,i=>(prI l i).contains x || (prI l i).any fun p=>wHU l n x p
def wRR (l:List Oper) (ks F X:List Nat) (y:Nat):Bool:=(prI l y).any fun p=>if wPI ks p then !F.contains p else !X.contains p
def wLR:Sch->List Nat
 | .fx i _ a=>i :: wLR a
 | _=>[]
def wIh (l:List Oper) (ks:List Nat):Bool->List Nat->List Nat->Sch->Bool
 | false,F,X,.nil=>(nP l.length).all fun y=>F.contains y || X.contains y
 | true,_,_,.nil=>false
 | m,_,_,.stop=>m
 | true,_,_,.fl _ _=>false
 | false,F,X,.fl i s=>wPI ks i && nL i l.length && !F.contains i && F.all (fun x=>apI l x i || wHU l 12 x i) && wIh l ks false (F ++ [i]) X s
 | m,F,X,.fx i s a=>(m || (nP l.length).all fun y=>F.contains y || X.contains y || (wLR (.fx i s a)).contains y || wRR l ks F X y) &&
   !wPI ks i && nL i l.length && !X.contains i && F.all (fun x=>(apI l x i && (kOf ks i == 2 || (kOf ks x == 3 || (kOf ks x == 1004 && kOf ks i == 1005)))) || wHU l 12 x i) && wIh l ks false F (i :: X) s && wIh l ks true F X a
def wML (l:List Oper) (ks:List Nat) (s:Sch):Bool:=(nP l.length).all (fun i=>(prI l i).all (nL · i)) && wIh l ks false [] [] s
def fls (s:Sch) (pend:List Nat):Sch:=pend.foldr Sch.fl s
theorem wKd {i j:Nat} (h:apI l i j=true):∀ x y,l[i]?=some x->l[j]?=some y->Apt l x y:=by
 intro x y hx hy
 unfold apI at h
 rw [hx,hy] at h
 exact wOY h
theorem OKS.flMono {i:Nat} {s t:Sch} {σ:Env} {w:World} (hst:∀ σ,OKS N P l Q D ks s σ w->OKS N P l Q D ks t σ w) (h:OKS N P l Q D ks (.fl i s) σ w):OKS N P l Q D ks (.fl i t) σ w:=by
 obtain ⟨o,ho,hN,h1 | h1⟩:=h
 ·obtain ⟨h1,v,h2,h3,h4⟩:=h1
  exact ⟨o,ho,hN,.inl ⟨h1,v,h2,h3,hst _ h4⟩⟩
 ·exact ⟨o,ho,hN,.inr ⟨h1.1,hst _ h1.2⟩⟩
theorem OKS.flsMono {s t:Sch} {w:World} (hst:∀ σ,OKS N P l Q D ks s σ w->OKS N P l Q D ks t σ w):∀ (pend:List Nat) (σ:Env),OKS N P l Q D ks (fls s pend) σ w->OKS N P l Q D ks (fls t pend) σ w
 | [],σ,h=>hst σ h
 | _ :: pend,_,h=>OKS.flMono (fun σ=>OKS.flsMono hst pend σ) h
theorem OKS.frontF {i:Nat} {s:Sch} {w:World} {ys:List Nat}:∀ (xs:List Nat) (σ:Env),(∀ x ∈ xs,apI l x i=true)->OKS N P l Q D ks (fls s (xs ++ i :: ys)) σ w->OKS N P l Q D ks (.fl i (fls s (xs ++ ys))) σ w
 | [],_,_,h=>h
 | x :: xs,_,ha,h=>OKS.swapF (wKd (ha x (by simp))) (OKS.flMono (fun σ hσ=>OKS.frontF xs σ (fun y hy=>ha y (by simp [hy])) hσ) h)
theorem OKS.frontX {i:Nat} {s:Sch} {w:World}:∀ (xs:List Nat) (σ:Env),(∀ x ∈ xs,apI l x i=true/\(kOf ks i=2 \/ kOf ks x=3 \/ (kOf ks x=1004/\kOf ks i=1005)))->OKS N P l Q D ks (fls (.fx i s .stop) xs) σ w->OKS N P l Q D ks (.fx i (fls s xs) .stop) σ w
 | [],_,_,h=>h
 | x :: xs,_,ha,h=>OKS.swapX (wKd (ha x (by simp)).1) (ha x (by simp)).2 (OKS.flMono (fun σ hσ=>OKS.frontX xs σ (fun y hy=>ha y (by simp [hy])) hσ) h)
structure wPJ (l:List Oper) (ks F X:List Nat) (i:Nat):Prop where
 fl:wPI ks i=false
 lt:i < l.length
 nx:i ∉ X
 pr:∀ x ∈ F,(apI l x i=true/\(kOf ks i=2 \/ kOf ks x=3 \/ (kOf ks x=1004/\kOf ks i=1005))) \/ wHU l 12 x i=true
theorem wJa {m:Bool} {F X:List Nat} {i:Nat} {s a:Sch} (h:wIh l ks m F X (.fx i s a)=true) :
  wPJ l ks F X i/\wIh l ks false F (i :: X) s=true/\wIh l ks true F X a=true/\(m=false->∀ y,y < l.length->y ∈ F \/ y ∈ X \/ y ∈ wLR (.fx i s a) \/ wRR l ks F X y=true):=by
 have h:((m || (nP l.length).all fun y=>F.contains y || X.contains y || (wLR (.fx i s a)).contains y || wRR l ks F X y) &&
   !wPI ks i && nL i l.length && !X.contains i && F.all (fun x=>(apI l x i && (kOf ks i == 2 || (kOf ks x == 3 || (kOf ks x == 1004 && kOf ks i == 1005)))) || wHU l 12 x i) && wIh l ks false F (i :: X) s && wIh l ks true F X a)=true:=by
  cases m <;> exact h
 simp only [nK,nU,nW,kE,beq_iff_eq,nR,decide_eq_true_eq,decide_eq_false_iff_not,nZ] at h
 obtain ⟨⟨⟨⟨⟨⟨h1,h2⟩,h3⟩,h4⟩,h5⟩,h6⟩,h7⟩:=h
 refine ⟨⟨h2,h3,h4,h5⟩,h6,h7,fun e y hy=>?_⟩
 subst e
 rcases h1 with h1 | h1
 ·cases h1
 ·rcases h1 y (kA.2 hy) with ((h | h) | h) | h
  ·exact .inl h
  ·exact .inr (.inl h)
  ·exact .inr (.inr (.inl h))
  ·exact .inr (.inr (.inr h))
theorem wPm {F X:List Nat} {i:Nat} {s:Sch} (h:wIh l ks false F X (.fl i s)=true) :
  wPI ks i=true/\i < l.length/\i ∉ F/\(∀ x ∈ F,apI l x i=true \/ wHU l 12 x i=true)/\wIh l ks false (F ++ [i]) X s=true:=by
 simp only [wIh,nK,nU,nW,kE,nR,decide_eq_false_iff_not,nZ] at h
 obtain ⟨⟨⟨⟨h1,h2⟩,h3⟩,h4⟩,h5⟩:=h
 exact ⟨h1,h2,h3,h4,h5⟩
theorem wIl {F X:List Nat} {i:Nat}:∀ (c:Sch),wIh l ks true F X c=true->i ∈ wLR c ->
  ∃ s,wPJ l ks F X i/\wIh l ks false F (i :: X) s=true/\∀ σ w,OKS N P l Q D ks c σ w->OKS N P l Q D ks (.fx i s .stop) σ w
 | .nil,h,_=>by cases h
 | .stop,_,hi=>by cases hi
 | .fl _ _,h,_=>by cases h
 | .fx j s a,h,hi=>by
  obtain ⟨g1,g2,g3,_⟩:=wJa h
  rcases nI.1 hi with e | hi
  ·subst e;exact ⟨s,g1,g2,fun σ w hO=>⟨hO.1,trivial⟩⟩
  ·obtain ⟨s',a1,a2,a3⟩:=wIl a g3 hi
   exact ⟨s',a1,a2,fun σ w hO=>a3 σ w hO.2⟩
structure Inv (l:List Oper) (ks:List Nat) (listed:Array Bool) (F X pend:List Nat) (s:Sch):Prop where
 g:wIh l ks false F X s=true
 on:∀ i,i < l.length->(listed.getD i false=true ↔ (i ∈ F/\i ∉ pend) \/ i ∈ X)
 sub:∀ x ∈ pend,x ∈ F/\x < l.length
 nd:pend.Nodup
 pw:pend.Pairwise fun x y=>apI l x y=true \/ wHU l 12 x y=true
 dc:∀ i,i < l.length->listed.getD i false=true->∀ j ∈ prI l i,listed.getD j false=true
 fF:∀ x ∈ F,wPI ks x=true
 fX:∀ x ∈ X,wPI ks x=false
def wPn:Sch->Bool
 | .fl _ _=>false
 | _=>true
theorem wMM {listed:Array Bool} {X:List Nat} {σ:Env} {w:World}:∀ (s:Sch) (F pend:List Nat),Inv l ks listed F X pend s->OKS N P l Q D ks (fls s pend) σ w ->
  ∃ F' pend' s',wPn s'=true/\Inv l ks listed F' X pend' s'/\OKS N P l Q D ks (fls s' pend') σ w
 | .nil,F,pend,h,hO=>⟨F,pend,.nil,rfl,h,hO⟩
 | .stop,F,pend,h,hO=>⟨F,pend,.stop,rfl,h,hO⟩
 | .fx i s a,F,pend,h,hO=>⟨F,pend,.fx i s a,rfl,h,hO⟩
 | .fl i s,F,pend,h,hO=>by
  obtain ⟨g1,g2,g3,g4,g5⟩:=wPm h.g
  refine wMM s (F ++ [i]) (pend ++ [i]) ⟨g5,fun j hj=>?_,fun x hx=>?_,?_,?_,h.dc,fun x hx=>?_,h.fX⟩ (by simpa [fls] using hO)
  ·rw [h.on j hj]
   simp only [nO,nw]
   constructor
   ·rintro (⟨h1,h2⟩ | h1)
    ·exact .inl ⟨.inl h1,fun hc=>hc.elim h2 fun e=>g3 (e ▸ h1)⟩
    ·exact .inr h1
   ·rintro (⟨h1 | h1,h2⟩ | h1)
    ·exact .inl ⟨h1,fun hc=>h2 (.inl hc)⟩
    ·exact absurd (.inr h1) h2
    ·exact .inr h1
  ·simp only [nO,nw] at hx ⊢
   rcases hx with hx | rfl
   ·exact ⟨.inl (h.sub x hx).1,(h.sub x hx).2⟩
   ·exact ⟨.inr rfl,g2⟩
  ·rw [nj]
   refine ⟨h.nd,by simp,fun x hx y hy e=>?_⟩
   simp only [nw] at hy
   subst hy;subst e
   exact g3 (h.sub _ hx).1
  ·rw [kC]
   refine ⟨h.pw,by simp,fun x hx y hy=>?_⟩
   simp only [nw] at hy
   subst hy
   exact g4 x (h.sub x hx).1
  ·simp only [nO,nw] at hx
   rcases hx with hx | rfl
   ·exact h.fF x hx
   ·exact g1
theorem Rep.put' {a:Act} {σ:Env} (h:Rep N D a σ) {o:Oper} (hd:∀ d,o.dst=some d->d < N) (v:Value):Rep N D (a.put o.dst v) (KL.put' σ o v):=by
 unfold KL.put'
 cases ho:o.dst with
 | none=>exact h
 | some d=>exact h.put (hd d ho) v
theorem wGS {i:Nat} {o:Oper} {Q:Exit->Act->World->Prop} {K:Act->World->Prop} {a:Act} {w:World} {σ:Env} (hi:l[i]?=some o) (ha:Rep N D a σ) {R:Value->World->Prop} (hd:∀ d,o.dst=some d->d < N)
  (h:Step1 P l o σ w R) (hK:∀ v w' a',Rep N D a' (KL.put' σ o v)->R v w'->K a' w'):wpOpIn (WF r) 0 P l.toArray Q i K a w:=by
 unfold wpOpIn
 simp only [nX,hi]
 rcases h with ⟨hw,h⟩ | ⟨hw,hR⟩
 ·simp only [wCt ha l o hw,if_true]
  refine ⟨fun _ _=>trivial,?_⟩
  rcases h with ⟨hdn,w',hr,hR⟩ | ⟨v,w',hr,hR⟩ | ⟨f,args,R',he,hg,hR⟩ | ⟨y1,l',f,t,as,b,y2,y3⟩
  ·rw [semAt_eq _ _ _ hr.1,ha.eval,hr.2]
   simp only [Oper.uponIn]
   exact hK undef w' _ (ha.put' hd undef) hR
  ·rw [semAt_eq _ _ _ hr.1,ha.eval,hr.2]
   simp only [Oper.uponIn]
   exact hK v w' _ (ha.put' hd v) hR
  ·rw [semAt_eq _ _ _ he.1,ha.eval,he.2]
   simp only [Oper.uponIn]
   refine ⟨fun h=>(by cases h),?_⟩
   refine CallsIn.mono (hg.callsIn r) ?_
   rintro e w' ⟨v,rfl,hv⟩
   exact hK v w' _ (ha.put' hd v) (hR v w' hv)
  ·rw [semAt_eq _ _ _ y1,ha.eval,y2]
   simp only [Oper.uponIn]
   refine ⟨fun h=>(by cases h),?_⟩
   refine RoundIn.mono (wEg y3 r) ?_
   rintro e w' ⟨v,rfl,hv⟩
   exact hK v w' _ (ha.put' hd v) hv
 ·simp only [wEf ha l o hw,kH,if_false]
  refine ⟨fun _ _=>trivial,?_⟩
  exact hK _ w _ (ha.put' hd _) hR
theorem wHi {listed:Array Bool} (hpr:∀ i,i < l.length->∀ j ∈ prI l i,j < i) (hdc:∀ i,i < l.length->listed.getD i false=true->∀ j ∈ prI l i,listed.getD j false=true) :
  ∀ (n x i:Nat),i < l.length->wHU l n x i=true->(∀ j ∈ prI l i,listed.getD j false=true)->listed.getD x false=true
 | 0,_,_,_,h,_=>by cases h
 | n + 1,x,i,hi,h,hp=>by
  simp only [wHU,kE,nR,decide_eq_true_eq,List.any_eq_true] at h
  rcases h with h | ⟨p,hp1,hp2⟩
  ·exact hp x h
  ·have hplt:=aE (hpr i hi p hp1) hi
   exact wHi hpr hdc n x p hplt hp2 (hdc p hplt (hp p hp1))
theorem wDG {listed:Array Bool} (hsz:listed.size=l.length) {i:Nat}:i ∈ Region.ready .any l.toArray listed ↔ i < l.length/\listed.getD i false=false/\∀ j ∈ prI l i,listed.getD j false=true:=by
 unfold Region.ready prI wLQ
 simp only [kS,kA,aH,nK,nU]
 have gd:i < l.length->listed.getD i true=listed.getD i false:=by
  intro h2
  simp only [nE]
  rw [kG (by omega)]
  rfl
 constructor
 ·rintro ⟨hlt,h1,h2⟩
  have hi:l[i]?=some (l[i]'hlt):=nB hlt
  refine ⟨hlt,(gd hlt) ▸ h1,?_⟩
  rw [hi]
  simp only [nX,hi,kr,kL,kO] at h2
  intro j hj
  simp only [nq,kS] at hj
  obtain ⟨e,⟨he,hb⟩,rfl⟩:=hj
  have:=h2 e (by simpa using he)
  simpa [hb] using this
 ·rintro ⟨hlt,h1,h2⟩
  have hi:l[i]?=some (l[i]'hlt):=nB hlt
  refine ⟨hlt,(gd hlt).trans h1,?_⟩
  rw [hi] at h2
  simp only [nX,hi,kr,kL,kO]
  intro e he
  cases hb:Region.binds .any e with
  | false=>rfl
  | true =>
   have:=h2 e.on (by simp only [nq,kS];exact ⟨e,⟨by simpa using he,hb⟩,rfl⟩)
   simp [this]
theorem wFD {listed:Array Bool} {i j:Nat} (h:i < listed.size):(listed.setIfInBounds i true).getD j false=true ↔ (j=i \/ listed.getD j false=true):=by
 simp only [nE,Array.getElem?_setIfInBounds]
 by_cases e:i=j
 ·subst e;simp [h]
 ·simp [e,Ne.symm e]
theorem count_set (listed:Array Bool) (i:Nat) (hi:i < listed.size) (hl:listed.getD i false=false):((listed.setIfInBounds i true).toList.filter (! ·)).length < (listed.toList.filter (! ·)).length:=by
 have hi':i < listed.toList.length:=by simpa using hi
 have hl':listed.toList[i]=false:=by
  simp only [nE] at hl
  rw [kG hi] at hl
  simpa using hl
 rw [Array.toList_setIfInBounds]
 generalize listed.toList=L at *
 clear hl hi
 induction L generalizing i with
 | nil=>simp at hi'
 | cons b L ih =>
  cases i with
  | zero=>simp only [List.getElem_cons_zero] at hl';subst hl';simp
  | succ i =>
   have:=ih i (by simpa using hi') (by simpa using hl')
   simp only [aF,List.filter_cons]
   split <;> simp <;> exact this
theorem CK.anyOrd {id:Nat} {σ:Env} {w:World} (hm:P.follows .mixedOrders=true) (ks:List Nat) (s:Sch) (hc:wML l ks s=true)
  (h:OKS N P l Q D ks s σ { w with drawn:=w.drawn + 1 }):CK r N P (.region id l.toArray true) Q D σ w:=by
 unfold wML at hc
 simp only [nK,nW,kA,nZ] at hc
 obtain ⟨hpr,hg⟩:=hc
 intro a ha
 refine wpIn_region_any hm ?_
 have fin:∀ (listed:Array Bool) (σ:Env) (a:Act) (w:World) (F X pend:List Nat) (s:Sch),listed.size=l.length->(∀ i,i < l.length->listed.getD i false=true)->Rep N D a σ->wPn s=true->Inv l ks listed F X pend s ->
   OKS N P l Q D ks (fls s pend) σ w->wIB N Q .normal a w:=by
  intro listed σ a w F X pend s hsz hall hr hn hI hO
  have hp:pend=[]:=by
   cases pend with
   | nil=>rfl
   | cons x pend =>
    have hx:=hI.sub x (by simp)
    rcases (hI.on x hx.2).1 (hall x hx.2) with h | h
    ·exact absurd (by simp) h.2
    ·have h1:=hI.fX x h;rw [hI.fF x hx.1] at h1;cases h1
  subst hp
  cases s with
  | nil=>exact ⟨σ,D,hr,hO⟩
  | stop=>have:=hI.g;cases this
  | fl i s=>cases hn
  | fx i s a =>
   obtain ⟨g1,_⟩:=wJa hI.g
   rcases (hI.on i g1.lt).1 (hall i g1.lt) with h | h
   ·have h1:=hI.fF i h.1;rw [g1.fl] at h1;cases h1
   ·exact absurd h g1.nx
 have core:∀ (fuel:Nat) (listed:Array Bool) (σ:Env) (a:Act) (w:World) (F X pend:List Nat) (s:Sch),listed.size=l.length->Rep N D a σ->wPn s=true->Inv l ks listed F X pend s ->
   OKS N P l Q D ks (fls s pend) σ w->(listed.toList.filter (! ·)).length <= fuel->wpAnyIn (WF r) 0 P .any l.toArray (wIB N Q) fuel listed a w:=by
  intro fuel
  have prog:∀ (listed:Array Bool),listed.size=l.length->Region.ready .any l.toArray listed=[]->∀ i,i < l.length->listed.getD i false=true:=by
   intro listed hsz hnil i
   induction i using Nat.strongRecOn with
   | _ i ih =>
    intro hi
    cases hb:listed.getD i false with
    | true=>rfl
    | false =>
     have:i ∈ Region.ready .any l.toArray listed:=(wDG hsz).2 ⟨hi,hb,fun j hj=>ih j (hpr i hi j hj) (aE (hpr i hi j hj) hi)⟩
     rw [hnil] at this;cases this
  induction fuel with
  | zero =>
   intro listed σ a w F X pend s hsz hr hn hI hO hf
   have hall:∀ i,i < l.length->listed.getD i false=true:=by
    intro i hi
    cases hb:listed.getD i false with
    | true=>rfl
    | false=>have:=count_set listed i (by omega) hb;omega
   refine ⟨?_,fin listed σ a w F X pend s hsz hall hr hn hI hO⟩
   cases hr:Region.ready .any l.toArray listed with
   | nil=>rfl
   | cons x xs =>
    have hx:x ∈ Region.ready .any l.toArray listed:=by rw [hr];simp
    obtain ⟨h1,h2,_⟩:=(wDG hsz).1 hx
    rw [hall x h1] at h2;cases h2
  | succ fuel ih =>
   intro listed σ a w F X pend s hsz hr hn hI hO hf
   refine ⟨fun hnil=>fin listed σ a w F X pend s hsz (prog listed hsz hnil) hr hn hI hO,fun i hi=>?_⟩
   obtain ⟨hlt,hun,hpi⟩:=(wDG hsz).1 hi
   have hsz':(listed.setIfInBounds i true).size=l.length:=by simpa using hsz
   have hf':((listed.setIfInBounds i true).toList.filter (! ·)).length <= fuel:=by have:=count_set listed i (by omega) hun;omega
   have hnot:¬ ((i ∈ F/\i ∉ pend) \/ i ∈ X):=fun hc=>by rw [(hI.on i hlt).2 hc] at hun;cases hun
   have hlate:¬ wRR l ks F X i=true:=by
    intro hL
    unfold wRR at hL
    rw [List.any_eq_true] at hL
    obtain ⟨p,hp,hq⟩:=hL
    have hlp:=hpi p hp
    have hplt:p < l.length:=aE (hpr i hlt p hp) hlt
    have:=(hI.on p hplt).1 hlp
    split at hq
    ·rename_i hfl
     simp only [nU,nR,decide_eq_false_iff_not] at hq
     rcases this with h | h
     ·exact hq h.1
     ·have:=hI.fX p h;rw [hfl] at this;cases this
    ·rename_i hfl
     simp only [nU,nR,decide_eq_false_iff_not] at hq
     rcases this with h | h
     ·exact hfl (hI.fF p h.1)
     ·exact hq h
   have hpend:∀ x ∈ pend,wHU l 12 x i ≠ true:=by
    intro x hx hxi
    have h1:=wHi hpr hI.dc 12 x i hlt hxi hpi
    have hs:=hI.sub x hx
    rcases (hI.on x hs.2).1 h1 with h | h
    ·exact h.2 hx
    ·have:=hI.fX x h;rw [hI.fF x hs.1] at this;cases this
   have dc':∀ k,k < l.length->(listed.setIfInBounds i true).getD k false=true->∀ j ∈ prI l k,(listed.setIfInBounds i true).getD j false=true:=by
    intro k hk hkl j hj
    rw [wFD (by omega)] at hkl ⊢
    rcases hkl with rfl | hkl
    ·exact .inr (hpi j hj)
    ·exact .inr (hI.dc k hk hkl j hj)
   by_cases hF:i ∈ F
   ·have hip:i ∈ pend:=by
     refine Classical.byContradiction fun hc=>hnot (.inl ⟨hF,hc⟩)
    obtain ⟨xs,ys,rfl⟩:=kY hip
    have hap:∀ x ∈ xs,apI l x i=true:=by
     intro x hx
     rcases (kC.1 hI.pw).2.2 x hx i (by simp) with h | h
     ·exact h
     ·exact absurd h (hpend x (by simp [hx]))
    have hO':=OKS.frontF xs σ hap hO
    obtain ⟨o,ho,hN,hfl⟩:=hO'
    refine wGS ho hr hN hfl.step1 ?_
    rintro v w' a' hr' ⟨rfl,hO2⟩
    have hnd:=hI.nd
    rw [nj] at hnd
    have hixs:i ∉ xs:=fun hc=>hnd.2.2 i hc i (by simp) rfl
    have hiys:i ∉ ys:=(List.nodup_cons.1 hnd.2.1).1
    refine ih _ (KL.put' σ o v) a' w' F X (xs ++ ys) s hsz' hr' hn ⟨hI.g,fun j hj=>?_,fun x hx=>hI.sub x ?_,?_,?_,dc',hI.fF,hI.fX⟩ hO2 hf'
    ·rw [wFD (by omega),hI.on j hj]
     simp only [nO,nI]
     constructor
     ·rintro (rfl | ⟨h1,h2⟩ | h1)
      ·exact .inl ⟨hF,fun hc=>hc.elim hixs hiys⟩
      ·exact .inl ⟨h1,fun hc=>h2 (hc.imp (fun h=>h) .inr)⟩
      ·exact .inr h1
     ·rintro (⟨h1,h2⟩ | h1)
      ·by_cases e:j=i
       ·exact .inl e
       ·exact .inr (.inl ⟨h1,fun hc=>hc.elim (fun h=>h2 (.inl h)) fun h=>h.elim e fun h=>h2 (.inr h)⟩)
      ·exact .inr (.inr h1)
    ·simp only [nO,nI] at hx ⊢;exact hx.imp (fun h=>h) .inr
    ·rw [nj]
     exact ⟨hnd.1,(List.nodup_cons.1 hnd.2.1).2,fun x hx y hy=>hnd.2.2 x hx y (by simp [hy])⟩
    ·have hpw:=kC.1 hI.pw
     rw [kC]
     exact ⟨hpw.1,(List.pairwise_cons.1 hpw.2.1).2,fun x hx y hy=>hpw.2.2 x hx y (by simp [hy])⟩
   ·cases s with
    | nil =>
     have hg:=hI.g
     simp only [wIh,nW,kA,kE,nR,decide_eq_true_eq] at hg
     rcases hg i hlt with h | h
     ·exact absurd h hF
     ·exact absurd (.inr h) hnot
    | stop=>have:=hI.g;cases this
    | fl i s=>cases hn
    | fx j s alt =>
     obtain ⟨_,_,_,gn⟩:=wJa hI.g
     have hh:i ∈ wLR (.fx j s alt):=by
      rcases gn rfl i hlt with h | h | h | h
      ·exact absurd h hF
      ·exact absurd (.inr h) hnot
      ·exact h
      ·exact absurd h hlate
     have hgt:wIh l ks true F X (.fx j s alt)=true:=by
      have hg:=hI.g
      simp only [wIh,nK,kE,Bool.true_or,kH,false_or,true_and] at hg ⊢
      exact ⟨⟨⟨⟨⟨hg.1.1.1.1.1.2,hg.1.1.1.1.2⟩,hg.1.1.1.2⟩,hg.1.1.2⟩,hg.1.2⟩,hg.2⟩
     obtain ⟨si,hd,hgi,hw⟩:=wIl (N:=N) (P:=P) (Q:=Q) (D:=D) _ hgt hh
     have hO1:=OKS.flsMono (fun σ=>hw σ w) pend σ hO
     have hO2:=OKS.frontX pend σ (fun x hx=>by
      rcases hd.pr x (hI.sub x hx).1 with h | h
      ·exact h
      ·exact absurd h (hpend x hx)) hO1
     obtain ⟨⟨o,ho,hN,hst⟩,_⟩:=hO2
     refine wGS ho hr hN hst ?_
     rintro v w' a' hr' ⟨_,hO3⟩
     have hinv:Inv l ks (listed.setIfInBounds i true) F (i :: X) pend si:=by
      refine ⟨hgi,fun j hj=>?_,hI.sub,hI.nd,hI.pw,dc',hI.fF,fun x hx=>?_⟩
      ·rw [wFD (by omega),hI.on j hj]
       simp only [nI]
       constructor
       ·rintro (rfl | h1 | h1)
        ·exact .inr (.inl rfl)
        ·exact .inl h1
        ·exact .inr (.inr h1)
       ·rintro (h1 | rfl | h1)
        ·exact .inr (.inl h1)
        ·exact .inl rfl
        ·exact .inr (.inr h1)
      ·rcases nI.1 hx with rfl | hx
       ·exact hd.fl
       ·exact hI.fX x hx
     obtain ⟨F',pend',s',hn',hI',hO'⟩:=wMM si F pend hinv hO3
     exact ih _ _ a' w' F' (i :: X) pend' s' hsz' hr' hn' hI' hO' hf'
 have rep:∀ (n j:Nat),(kq n false).getD j false=false:=by
  intro n j
  simp only [nE,ki];split <;> rfl
 obtain ⟨F',pend',s',hn',hI',hO'⟩:=wMM (N:=N) (P:=P) (Q:=Q) (D:=D) (listed:=kq l.length false) (X:=[]) (σ:=σ) (w:={ w with drawn:=w.drawn + 1 }) s [] []
  ⟨hg,fun i hi=>by rw [rep];simp,by simp,by simp,by simp,fun i hi h=>(by rw [rep] at h;cases h),by simp,by simp⟩ h
 exact core _ _ σ a _ F' [] pend' s' (by simp) ha hn' hI' hO' (by simp)
end
end Go.KL
namespace Go.KL
open Go.RowKit
abbrev PHeap:=Nat->Option Obj
inductive Res
 | blk (b:Nat) (T:TypeId) (cs:List Value)
 | row (A:Option Addr) (c:Nat) (T:TypeId) (sz:Nat) (cs:List Value)
 | obj (b:Nat) (o:Obj)
 | abs (fp:Nat->Prop) (P:World->Prop)
def Res.has:Res->Nat->Prop
 | .blk b _ _,x=>b=x
 | .row A _ _ _ _,x=>A.map (·.block)=some x
 | .obj b _,x=>b=x
 | .abs fp _,x=>fp x
def RowAt (w:World) (A:Option Addr) (c:Nat) (T:TypeId) (sz:Nat) (cs:List Value):Prop :=
 (A=none/\c=0/\cs=[]) \/ ∃ b cur,A=some ⟨b,0,none⟩/\w.heap[b]?=some (.cells cur T (0,0))/\cs.length <= c * sz/\c <= maxLen/\cur.size=c * sz/\cur.toList.take cs.length=cs
def Res.At (w:World):Res->Prop
 | .blk b T cs=>w.heap[b]?=some (.cells cs.toArray T (0,0))
 | .row A c T sz cs=>RowAt w A c T sz cs
 | .obj b o=>w.heap[b]?=some o
 | .abs fp P=>P w/\(∀ b,fp b->b < w.heap.size)/\∀ w2:World,(∀ b,fp b->w2.heap[b]?=w.heap[b]?)->P w2
structure Base where
 w:World
 own:List Res
 U:PHeap
def Base.mine (B:Base) (b:Nat):Prop:=B.w.heap.size <= b \/ ∃ r ∈ B.own,r.has b
structure St (B:Base) (U:PHeap) (L:List Res) (w:World):Prop where
 os:w.os=B.w.os
 tape:TapeLe B.w w
 output:w.output=B.w.output
 size:B.w.heap.size <= w.heap.size
 old:∀ b,b < B.w.heap.size->¬ B.mine b->w.heap[b]?=B.w.heap[b]?
 fro:∀ b o,U b=some o->w.heap[b]?=some o
 le:∀ b o,B.U b=some o->U b=some o
 src:∀ b o,U b=some o->B.U b=some o \/ B.mine b
 at_:∀ r ∈ L,r.At w
 own:∀ r ∈ L,∀ b,r.has b->U b=none/\B.mine b
 dj:∀ (i j:Nat) (r s:Res) (b:Nat),L[i]?=some r->L[j]?=some s->r.has b->s.has b->i=j
theorem wAV {w:World} {b:Nat} {o:Obj} (h:w.heap[b]?=some o):b < w.heap.size:=by
 rcases nV b w.heap.size with hlt | hge
 ·exact hlt
 ·rw [kK hge] at h;cases h
theorem Res.At.lt {w:World} {r:Res} (h:r.At w) {b:Nat} (hb:r.has b):b < w.heap.size:=by
 cases r with
 | blk b' T cs=>cases hb;exact wAV h
 | obj b' o=>cases hb;exact wAV h
 | abs fp P=>exact h.2.1 b hb
 | row A c T sz cs =>
  rcases h with ⟨rfl,_⟩ | ⟨b',cur,rfl,h1,_⟩
  ·cases hb
  ·cases hb;exact wAV h1
theorem Res.At.keep {w w':World} {X:Nat->Prop} {r:Res} (h:r.At w) (k:Keep w w' X) (hx:∀ b,r.has b->¬ X b):r.At w':=by
 have hl:=fun b hb=>h.lt (b:=b) hb
 cases r with
 | blk b' T cs=>exact (k.block _ (hl _ rfl) (hx _ rfl)).trans h
 | obj b' o=>exact (k.block _ (hl _ rfl) (hx _ rfl)).trans h
 | abs fp P =>
  have e:∀ b,fp b->w'.heap[b]?=w.heap[b]?:=fun b hb=>k.block b (h.2.1 b hb) (hx b hb)
  exact ⟨h.2.2 w' e,fun b hb=>nv (h.2.1 b hb) k.size,fun w2 h2=>h.2.2 w2 fun b hb=>(h2 b hb).trans (e b hb)⟩
 | row A c T sz cs =>
  rcases h with h | ⟨b',cur,rfl,h1,h2⟩
  ·exact .inl h
  ·exact .inr ⟨b',cur,rfl,(k.block _ (hl _ rfl) (hx _ rfl)).trans h1,h2⟩
section
variable {B:Base} {U U':PHeap} {L:List Res} {w w':World}
theorem St.grow (h:St B U L w) (k:Keep w w' Non):St B U L w' :=
  ⟨k.os.trans h.os,k.tape.trans h.tape,k.output.trans h.output,np h.size k.size,fun b hb hm=>(k.block b (nv hb h.size) id).trans (h.old b hb hm),
   fun b o hb=>(k.block b (wAV (h.fro b o hb)) id).trans (h.fro b o hb),h.le,h.src,fun r hr=>(h.at_ r hr).keep k fun _ _ h=>h,h.own,h.dj⟩
theorem St.drew (h:St B U L w):St B U L { w with drawn:=w.drawn + 1 }:=h.grow (Keep.drew w)
theorem St.new (h:St B U L w) (k:Keep w w' Non) {r:Res} (hr:r.At w') {b:Nat} (_:r.has b) (hn:w.heap.size <= b) (ho:∀ c,r.has c->c=b:=by intro c hc;cases hc;rfl):St B U (r :: L) w':=by
 have h':=h.grow k
 have hU:U b=none:=by
  cases e:U b with
  | none=>rfl
  | some o=>have:=wAV (h.fro b o e);omega
 refine ⟨h'.os,h'.tape,h'.output,h'.size,h'.old,h'.fro,h'.le,h'.src,?_,?_,?_⟩
 ·intro s hs
  rcases nI.1 hs with rfl | hs
  ·exact hr
  ·exact h'.at_ s hs
 ·intro s hs c hc
  rcases nI.1 hs with rfl | hs
  ·obtain rfl:=ho c hc
   exact ⟨hU,.inl (np h.size hn)⟩
  ·exact h'.own s hs c hc
 ·intro i j s t c hi hj hs ht
  have old:∀ (i:Nat) (s:Res),L[i]?=some s->s.has c->c < w.heap.size:=fun i s hi hs=>(h.at_ s (hH hi)).lt hs
  cases i with
  | zero =>
   simp only [nT,nN] at hi;subst hi
   obtain rfl:=ho c hs
   cases j with
   | zero=>rfl
   | succ j=>have:=old j t (by simpa using hj) ht;omega
  | succ i =>
   have h1:=old i s (by simpa using hi) hs
   cases j with
   | zero =>
    simp only [nT,nN] at hj;subst hj
    obtain rfl:=ho c ht;omega
   | succ j=>rw [h.dj i j s t c (by simpa using hi) (by simpa using hj) hs ht]
theorem St.addNone (h:St B U L w) {r:Res} (hr:r.At w) (hb:∀ b,¬ r.has b:=by intro b h;cases h):St B U (r :: L) w:=by
 refine ⟨h.os,h.tape,h.output,h.size,h.old,h.fro,h.le,h.src,?_,?_,?_⟩
 ·intro s hs
  rcases nI.1 hs with rfl | hs
  ·exact hr
  ·exact h.at_ s hs
 ·intro s hs c hc
  rcases nI.1 hs with rfl | hs
  ·exact absurd hc (hb c)
  ·exact h.own s hs c hc
 ·intro i j s t c hi hj hs ht
  cases i with
  | zero=>simp only [nT,nN] at hi;subst hi;exact absurd hs (hb c)
  | succ i =>
   cases j with
   | zero=>simp only [nT,nN] at hj;subst hj;exact absurd ht (hb c)
   | succ j=>rw [h.dj i j s t c (by simpa using hi) (by simpa using hj) hs ht]
theorem St.nilrow (h:St B U L w) (T:TypeId) (sz:Nat):St B U (.row none 0 T sz [] :: L) w:=h.addNone (.inl ⟨rfl,rfl,rfl⟩)
theorem St.set (h:St B U L w) {k:Nat} {r r':Res} (hk:L[k]?=some r) (K:Keep w w' fun b=>r.has b) (hr:r'.At w') (hb:∀ b,r'.has b->r.has b \/ w.heap.size <= b):St B U (L.set k r') w':=by
 have hkl:k < L.length:=(nA.1 hk).1
 have hrm:=hH hk
 have mine:∀ b,r.has b->U b=none/\B.mine b:=fun b hb=>h.own r hrm b hb
 have get:∀ (i:Nat) (s:Res),(L.set k r')[i]?=some s->(i=k/\s=r') \/ (i ≠ k/\L[i]?=some s):=by
  intro i s hi
  rw [List.getElem?_set] at hi
  by_cases e:k=i
  ·subst e;rw [if_pos rfl,if_pos hkl] at hi;cases hi;exact .inl ⟨rfl,rfl⟩
  ·rw [if_neg e] at hi;exact .inr ⟨fun h=>e h.symm,hi⟩
 have oth:∀ (i:Nat) (s:Res) (b:Nat),i ≠ k->L[i]?=some s->s.has b->¬ r.has b:=fun i s b hne hi hs hrb=>hne (h.dj i k s r b hi hk hs hrb)
 have hw:∀ b,r'.has b->U b=none/\B.mine b:=by
  intro b hb'
  rcases hb b hb' with h1 | h1
  ·exact mine b h1
  ·refine ⟨?_,.inl (np h.size h1)⟩
   cases e:U b with
   | none=>rfl
   | some o=>have:=wAV (h.fro b o e);omega
 refine ⟨K.os.trans h.os,K.tape.trans h.tape,K.output.trans h.output,np h.size K.size,?_,?_,h.le,h.src,?_,?_,?_⟩
 ·intro b hb hm
  exact (K.block b (nv hb h.size) fun hrb=>hm (mine b hrb).2).trans (h.old b hb hm)
 ·intro b o hb
  exact (K.block b (wAV (h.fro b o hb)) fun hrb=>by have:=(mine b hrb).1;rw [hb] at this;cases this).trans (h.fro b o hb)
 ·intro s hs
  obtain ⟨i,hi⟩:=nM hs
  rcases get i s hi with ⟨_,rfl⟩ | ⟨hne,hi⟩
  ·exact hr
  ·exact (h.at_ s (hH hi)).keep K fun b hs=>oth i s b hne hi hs
 ·intro s hs b hb'
  obtain ⟨i,hi⟩:=nM hs
  rcases get i s hi with ⟨_,rfl⟩ | ⟨hne,hi⟩
  ·exact hw b hb'
  ·exact h.own s (hH hi) b hb'
 ·intro i j s t b hi hj hs ht
  have ltn:∀ (i:Nat) (s:Res),L[i]?=some s->s.has b->b < w.heap.size:=fun i s hi hs=>(h.at_ s (hH hi)).lt hs
  rcases get i s hi with ⟨e1,e2⟩ | ⟨hne,hi'⟩
  ·subst e1 e2
   rcases get j t hj with ⟨e1,e2⟩ | ⟨hne,hj'⟩
   ·exact e1.symm
   ·rcases hb b hs with h1 | h1
    ·exact absurd h1 (oth j t b hne hj' ht)
    ·have:=ltn j t hj' ht;omega
  ·rcases get j t hj with ⟨e1,e2⟩ | ⟨hne',hj'⟩
   ·subst e1 e2
    rcases hb b ht with h1 | h1
    ·exact absurd h1 (oth i s b hne hi' hs)
    ·have:=ltn i s hi' hs;omega
   ·exact h.dj i j s t b hi' hj' hs ht
theorem wFE {α:Type} {L:List α} {k i:Nat} {s:α} (hi:(L.eraseIdx k)[i]?=some s):L[if i < k then i else i + 1]?=some s:=by
 rw [List.getElem?_eraseIdx] at hi
 split
 ·rename_i h;rw [if_pos h] at hi;exact hi
 ·rename_i h;rw [if_neg h] at hi;exact hi
theorem St.drop (h:St B U L w) (k:Nat):St B U (L.eraseIdx k) w:=by
 refine ⟨h.os,h.tape,h.output,h.size,h.old,h.fro,h.le,h.src,fun r hr=>h.at_ r (nr hr),fun r hr=>h.own r (nr hr),?_⟩
 intro i j r s b hi hj hr hs
 have:=h.dj _ _ r s b (wFE hi) (wFE hj) hr hs
 split at this <;> split at this <;> omega
theorem St.front (h:St B U L w) {k:Nat} {r:Res} (hk:L[k]?=some r):St B U (r :: L.eraseIdx k) w:=by
 refine ⟨h.os,h.tape,h.output,h.size,h.old,h.fro,h.le,h.src,fun s hs=>?_,fun s hs=>?_,?_⟩
 ·rcases nI.1 hs with rfl | hs
  ·exact h.at_ s (hH hk)
  ·exact h.at_ s (nr hs)
 ·rcases nI.1 hs with rfl | hs
  ·exact h.own s (hH hk)
  ·exact h.own s (nr hs)
 intro i j s t b hi hj hs ht
 have get:∀ (i:Nat) (s:Res),(r :: L.eraseIdx k)[i]?=some s->L[if i=0 then k else if i - 1 < k then i - 1 else i]?=some s:=by
  intro i s hi
  cases i with
  | zero=>simpa using hk.trans (by simpa using hi)
  | succ i =>
   have:=wFE (L:=L) (k:=k) (i:=i) (s:=s) (by simpa using hi)
   rw [if_neg (by omega)]
   simpa using this
 have:=h.dj _ _ s t b (get i s hi) (get j t hj) hs ht
 split at this <;> split at this <;> (try split at this) <;> (try split at this) <;> omega
structure Sl (U:PHeap) (sz:Nat) (A:Option Addr) (c n:Nat) (cs:List Value):Prop where
 len:cs.length=n * sz
 cap:n <= c
 mem:n=0 \/ ∃ b off arr T fr,A=some ⟨b,off,none⟩/\U b=some (.cells arr T fr)/\(arr.toList.drop off).take (n * sz)=cs
def PHeap.Le (U U':PHeap):Prop:=∀ b o,U b=some o->U' b=some o
theorem Sl.le {sz c n:Nat} {A:Option Addr} {cs:List Value} (h:Sl U sz A c n cs) (hl:PHeap.Le U U'):Sl U' sz A c n cs :=
 ⟨h.len,h.cap,h.mem.imp id fun ⟨b,off,arr,T,fr,h1,h2,h3⟩=>⟨b,off,arr,T,fr,h1,hl _ _ h2,h3⟩⟩
theorem PHeap.Le.refl (U:PHeap):PHeap.Le U U:=fun _ _ h=>h
theorem PHeap.Le.trans {U1 U2 U3:PHeap} (h:PHeap.Le U1 U2) (h':PHeap.Le U2 U3):PHeap.Le U1 U3:=fun b o hb=>h' b o (h b o hb)
theorem Sl.nil (U:PHeap) (sz:Nat) (A:Option Addr) (c:Nat):Sl U sz A c 0 []:=⟨by simp,kw _,.inl rfl⟩
theorem St.freezeB (h:St B U L w) {k b:Nat} (hk:∃ r,L[k]?=some r/\r.has b):∃ U',PHeap.Le U U'/\U' b=w.heap[b]?/\St B U' (L.eraseIdx k) w:=by
 obtain ⟨r,hk,hb⟩:=hk
 have hr:=hH hk
 have hn:=h.own r hr b hb
 refine ⟨fun x=>if x=b then w.heap[b]? else U x,fun x o hx=>?_,by simp,?_⟩
 ·by_cases e:x=b
  ·subst e;rw [hn.1] at hx;cases hx
  ·simp [e,hx]
 ·have hd:=h.drop k
  refine ⟨h.os,h.tape,h.output,h.size,h.old,?_,?_,?_,hd.at_,?_,hd.dj⟩
  ·intro x o hx
   split at hx
   ·rename_i e;subst e;exact hx
   ·exact h.fro x o hx
  ·intro x o hx
   have:=h.le x o hx
   by_cases e:x=b
   ·subst e;rw [hn.1] at this;cases this
   ·simp [e,this]
  ·intro x o hx
   split at hx
   ·rename_i e;subst e;exact .inr hn.2
   ·exact h.src x o hx
  ·intro s hs c hc
   have hs':=hd.own s hs c hc
   refine ⟨?_,hs'.2⟩
   obtain ⟨i,hi⟩:=nM hs
   have hne:c ≠ b:=by
    rintro rfl
    have:=h.dj _ _ s r c (wFE hi) hk hc hb
    split at this <;> omega
   simp [hne,hs'.1]
theorem St.freeze (h:St B U L w) {k b:Nat} {T:TypeId} {cs:List Value} (hk:L[k]?=some (.blk b T cs)) :
  ∃ U',PHeap.Le U U'/\U' b=some (.cells cs.toArray T (0,0))/\St B U' (L.eraseIdx k) w:=by
 obtain ⟨U',h1,h2,h3⟩:=h.freezeB ⟨_,hk,rfl⟩
 have:=h.at_ _ (hH hk)
 exact ⟨U',h1,h2.trans this,h3⟩
theorem St.freezeR (h:St B U L w) {k c n T sz:Nat} {A:Option Addr} {cs:List Value} (hk:L[k]?=some (.row A c T sz cs)) (hn:cs.length=n * sz) (hz:0 < sz) :
  ∃ U',PHeap.Le U U'/\Sl U' sz A c n cs/\St B U' (L.eraseIdx k) w:=by
 have hr:=h.at_ _ (hH hk)
 rcases hr with ⟨rfl,rfl,rfl⟩ | ⟨b,cur,rfl,h1,h2,h3,h4,h5⟩
 ·have:n=0:=by
   simp only [List.length_nil] at hn
   rcases ny n with e | e
   ·exact e
   ·have:=ky e hz;omega
  subst this
  exact ⟨U,PHeap.Le.refl U,Sl.nil _ _ _ _,h.drop k⟩
 ·obtain ⟨U',g1,g2,g3⟩:=h.freezeB ⟨_,hk,rfl⟩
  refine ⟨U',g1,⟨hn,?_,.inr ⟨b,0,cur,T,(0,0),rfl,g2.trans h1,?_⟩⟩,g3⟩
  ·rw [hn] at h2;exact kD h2 hz
  ·rw [<- hn];simpa using h5
theorem St.blkAt (h:St B U L w) {k b:Nat} {T:TypeId} {cs:List Value} (hk:L[k]?=some (.blk b T cs)):Blk w b T cs:=h.at_ _ (hH hk)
theorem St.enter (h:St B U L w) (own:List Res) (hs:∃ f:Nat->Nat,(∀ i r,own[i]?=some r->L[f i]?=some r)/\∀ i j,i < own.length->j < own.length->f i=f j->i=j):St ⟨w,own,U⟩ U own w:=by
 obtain ⟨f,hf,hi⟩:=hs
 have mem:∀ r ∈ own,r ∈ L:=fun r hr=>by
  obtain ⟨i,hi⟩:=nM hr
  exact hH (hf i r hi)
 refine ⟨rfl,TapeLe.refl w,rfl,nJ _,fun _ _ _=>rfl,h.fro,fun _ _ h=>h,fun _ _ h=>.inl h,fun r hr=>h.at_ r (mem r hr),fun r hr b hb=>⟨(h.own r (mem r hr) b hb).1,.inr ⟨r,hr,hb⟩⟩,?_⟩
 intro i j r s b hi' hj hr hs
 have h1:=(nA.1 hi').1
 have h2:=(nA.1 hj).1
 exact hi i j h1 h2 (h.dj _ _ r s b (hf i r hi') (hf j s hj) hr hs)
theorem St.enterH (h:St B U L w) (n:Nat):St ⟨w,L.take n,U⟩ U (L.take n) w:=by
 refine h.enter _ ⟨id,fun i r hi=>?_,fun _ _ _ _ e=>e⟩
 rw [nQ] at hi
 split at hi
 ·exact hi
 ·cases hi
theorem St.kp {own:List Res} (h:St ⟨w,own,U⟩ U' L w'):Keep w w' fun b=>∃ r ∈ own,r.has b :=
 ⟨h.os,h.tape,h.output,h.size,fun b hb hx=>h.old b hb fun hm=>hm.elim (fun h=>absurd hb (aM.2 h)) hx⟩
theorem St.kp0 (h:St ⟨w,[],U⟩ U' L w'):Keep w w' Non:=h.kp.weak fun b _ ⟨r,hr,_⟩=>by cases hr
theorem St.back {X own own':List Res} (h:St B U L w) (hL:(∀ r ∈ X,r ∈ L)/\(∀ r ∈ own,r ∈ L)/\(∀ (i j:Nat) (r s:Res) (b:Nat),X[i]?=some r->X[j]?=some s->r.has b->s.has b->i=j)/\(∀ r ∈ X,∀ s ∈ own,∀ b,r.has b->¬ s.has b))
  (h':St ⟨w,own,U⟩ U' own' w'):St B U' (own' ++ X) w'/\St B U' (X ++ own') w'/\PHeap.Le U U':=by
 obtain ⟨hX,hO,hd,ho⟩:=hL
 have k:=h'.kp
 have own_mine:∀ b,(∃ r ∈ own,r.has b)->B.mine b/\U b=none:=fun b ⟨r,hr,hb⟩=>⟨(h.own r (hO r hr) b hb).2,(h.own r (hO r hr) b hb).1⟩
 have mine':∀ b,Base.mine ⟨w,own,U⟩ b->B.mine b:=fun b hb=>by
  rcases hb with hb | hb
  ·exact .inl (np h.size hb)
  ·exact (own_mine b hb).1
 have Xlt:∀ r ∈ X,∀ b,r.has b->b < w.heap.size/\¬ Base.mine ⟨w,own,U⟩ b:=fun r hr b hb=>by
  have hlt:=(h.at_ r (hX r hr)).lt hb
  exact ⟨hlt,fun hm=>hm.elim (fun h=>absurd hlt (aM.2 h)) fun ⟨s,hs,hsb⟩=>ho r hr s hs b hb hsb⟩
 have base:∀ Y:List Res,(∀ r ∈ Y,r ∈ own' \/ r ∈ X)->(∀ (i j:Nat) (r s:Res) (b:Nat),Y[i]?=some r->Y[j]?=some s->r.has b->s.has b->i=j)->St B U' Y w':=by
  intro Y hY hdY
  refine ⟨k.os.trans h.os,k.tape.trans h.tape,k.output.trans h.output,np h.size k.size,?_,h'.fro,fun b o hb=>h'.le b o (h.le b o hb),?_,?_,?_,hdY⟩
  ·intro b hb hm
   exact (k.block b (nv hb h.size) fun hx=>hm (own_mine b hx).1).trans (h.old b hb hm)
  ·intro b o hb
   rcases h'.src b o hb with h1 | h1
   ·exact h.src b o h1
   ·exact .inr (mine' b h1)
  ·intro r hr
   rcases hY r hr with hr | hr
   ·exact h'.at_ r hr
   ·exact (h.at_ r (hX r hr)).keep k fun b hb=>fun hx=>(Xlt r hr b hb).2 (.inr hx)
  ·intro r hr b hb
   rcases hY r hr with hr | hr
   ·exact ⟨(h'.own r hr b hb).1,mine' b (h'.own r hr b hb).2⟩
   ·refine ⟨?_,(h.own r (hX r hr) b hb).2⟩
    cases e:U' b with
    | none=>rfl
    | some o =>
     rcases h'.src b o e with h1 | h1
     ·have h1:U b=some o:=h1
      have:=(h.own r (hX r hr) b hb).1;rw [h1] at this;cases this
     ·exact absurd h1 (Xlt r hr b hb).2
 have cross:∀ r ∈ own',∀ s ∈ X,∀ b,r.has b->¬ s.has b:=fun r hr s hs b hb hsb=>(Xlt s hs b hsb).2 (h'.own r hr b hb).2
 have dj2:∀ Y Z:List Res,(∀ r ∈ Y,∀ s ∈ Z,∀ b,r.has b->¬ s.has b)->(∀ (i j:Nat) (r s:Res) (b:Nat),Y[i]?=some r->Y[j]?=some s->r.has b->s.has b->i=j) ->
   (∀ (i j:Nat) (r s:Res) (b:Nat),Z[i]?=some r->Z[j]?=some s->r.has b->s.has b->i=j)->∀ (i j:Nat) (r s:Res) (b:Nat),(Y ++ Z)[i]?=some r->(Y ++ Z)[j]?=some s->r.has b->s.has b->i=j:=by
  intro Y Z hc hY hZ i j r s b hi hj hr hs
  rcases nV i Y.length with h1 | h1
  ·rw [nD h1] at hi
   rcases nV j Y.length with h2 | h2
   ·rw [nD h2] at hj;exact hY i j r s b hi hj hr hs
   ·rw [nH h2] at hj
    exact absurd hs (hc r (hH hi) s (hH hj) b hr)
  ·rw [nH h1] at hi
   rcases nV j Y.length with h2 | h2
   ·rw [nD h2] at hj
    exact absurd hr (hc s (hH hj) r (hH hi) b hs)
   ·rw [nH h2] at hj
    have:=hZ _ _ r s b hi hj hr hs;omega
 refine ⟨base _ (fun r hr=>nO.1 hr) (dj2 _ _ cross h'.dj hd),base _ (fun r hr=>(nO.1 hr).symm) (dj2 _ _ (fun r hr s hs b hb hsb=>cross s hs r hr b hsb hb) hd h'.dj),fun b o hb=>h'.le b o hb⟩
theorem St.backH (h:St B U L w) (n:Nat) {own':List Res} (h':St ⟨w,L.take n,U⟩ U' own' w'):St B U' (own' ++ L.drop n) w'/\PHeap.Le U U':=by
 have:=h.back (X:=L.drop n) ⟨fun r hr=>List.mem_of_mem_drop hr,fun r hr=>List.mem_of_mem_take hr,fun i j r s b hi hj hr hs=>by
  rw [nS] at hi hj
  have:=h.dj _ _ r s b hi hj hr hs;omega,fun r hr s hs b hb hsb=>by
  obtain ⟨i,hi⟩:=nM hr
  obtain ⟨j,hj⟩:=nM hs
  rw [nS] at hi
  rw [nQ] at hj
  split at hj
  ·have:=h.dj _ _ r s b hi hj hb hsb;omega
  ·cases hj⟩ h'
 exact ⟨this.1,this.2.2⟩
end
end Go.KL
namespace Go.KL
def w64 (x:Int):Int:=(x + 9223372036854775808) % 18446744073709551616 - 9223372036854775808
theorem wAa {x:Int} (h1:-9223372036854775808 <= x) (h2:x <= 9223372036854775807):w64 x=x:=by unfold w64;omega
def chk (i:Int) (n:Nat):Option Unit:=if 0 <= i/\i < n then some () else none
def idx {α:Type} (l:List α) (i:Int):Option α:=if 0 <= i then l[i.toNat]? else none
def quo (a b:Int):Option Int:=if b=0 then none else some (w64 (a.tdiv b))
def rem (a b:Int):Option Int:=if b=0 then none else some (a.tmod b)
def app {α:Type} (bytes:Nat) (l m:List α):Option (List α):=if (l.length + m.length) * bytes <= 140737488355328 then some (l ++ m) else none
structure Arr (α:Type) (n:Nat) where
 l:List α
 h:l.length=n
deriving DecidableEq
namespace Arr
variable {α:Type} {n:Nat}
def fill (n:Nat) (x:α):Arr α n:=⟨nY n x,by simp⟩
def set (a:Arr α n) (i:Nat) (x:α):Arr α n:=⟨a.l.set i x,by simp [a.h]⟩
def get [Inhabited α] (a:Arr α n) (i:Nat):α:=a.l.getD i default
end Arr
def forN {S B:Type} (body:Nat->S->Option (S ⊕ B)):Nat->Nat->S->Option (S ⊕ B)
 | 0,_,s=>some (.inl s)
 | m + 1,k,s=>match body k s with
  | none=>none
  | some (.inl s')=>forN body m (k + 1) s'
  | some (.inr b)=>some (.inr b)
def wEy {S B:Type} (lo hi:Int) (body:Nat->S->Option (S ⊕ B)) (s:S):Option (S ⊕ B):=if hi <= 9223372036854775807 then forN body (hi - lo).toNat 0 s else none
def forN' {S:Type} (body:Nat->S->Option S):Nat->Nat->S->Option S
 | 0,_,s=>some s
 | m + 1,k,s=>match body k s with
  | none=>none
  | some s'=>forN' body m (k + 1) s'
def wCy {S:Type} (lo hi:Int) (body:Nat->S->Option S) (s:S):Option S:=if hi <= 9223372036854775807 then forN' body (hi - lo).toNat 0 s else none
def big:Nat:=18446744073709551616
def iter {S B:Type} (body:S->Option (S ⊕ B)):Nat->S->Option B
 | 0,_=>none
 | m + 1,s=>match body s with
  | none=>none
  | some (.inl s')=>iter body m s'
  | some (.inr b)=>some b
theorem bnd {α β:Type} {x:Option α} {f:α->Option β} {b:β} (h:x.bind f=some b):∃ a,x=some a/\f a=some b:=by
 cases x with
 | none=>cases h
 | some a=>exact ⟨a,rfl,h⟩
theorem wEE {i:Int} {n:Nat} {u:Unit} (h:chk i n=some u):0 <= i:=by unfold chk at h;split at h <;> simp_all
theorem wEF {i:Int} {n:Nat} {u:Unit} (h:chk i n=some u):i < n:=by unfold chk at h;split at h <;> simp_all
theorem wAW {i:Int} {n:Nat} {u:Unit} (h:chk i n=some u):i.toNat < n:=by have:=wEE h;have:=wEF h;omega
theorem wCu {i:Int} {n:Nat} (h0:0 <= i) (h1:i < n):chk i n=some ():=if_pos ⟨h0,h1⟩
theorem wEc {α:Type} {l:List α} {i:Int} {x:α} (h:idx l i=some x):0 <= i:=by unfold idx at h;split at h <;> simp_all
theorem wAQ {α:Type} {l:List α} {i:Int} {x:α} (h:idx l i=some x):l[i.toNat]?=some x:=by unfold idx at h;split at h <;> simp_all
theorem wBJ {α:Type} {l:List α} {i:Int} {x:α} (h:idx l i=some x):i.toNat < l.length:=(nA.1 (wAQ h)).1
theorem wFF {α:Type} {l:List α} {i:Int} {x:α} (h:idx l i=some x):i < l.length:=by have:=wBJ h;have:=wEc h;omega
theorem wIG {α:Type} {l:List α} {k:Nat}:idx l (k:Int)=l[k]?:=by simp [idx]
theorem wMN {α:Type} {bytes:Nat} {l m r:List α} (h:app bytes l m=some r):r=l ++ m/\(l.length + m.length) * bytes <= 140737488355328:=by
 unfold app at h;split at h
 ·rename_i h';injection h with h;exact ⟨h.symm,h'⟩
 ·cases h
theorem wRS {a b r:Int} (h:rem a b=some r):b ≠ 0/\a.tmod b=r:=by unfold rem at h;split at h <;> simp_all
theorem wRT {a b r:Int} (h:quo a b=some r):b ≠ 0/\w64 (a.tdiv b)=r:=by unfold quo at h;split at h <;> simp_all
theorem wCO {S B:Type} {lo hi:Int} {body:Nat->S->Option (S ⊕ B)} {s:S} {b:S ⊕ B} (h:wEy lo hi body s=some b):hi <= 9223372036854775807/\forN body (hi - lo).toNat 0 s=some b:=by
 unfold wEy at h;split at h
 ·rename_i h';exact ⟨h',h⟩
 ·cases h
theorem wCq {S:Type} {lo hi:Int} {body:Nat->S->Option S} {s:S} {b:S} (h:wCy lo hi body s=some b):hi <= 9223372036854775807/\forN' body (hi - lo).toNat 0 s=some b:=by
 unfold wCy at h;split at h
 ·rename_i h';exact ⟨h',h⟩
 ·cases h
def esc {S R:Type} (x:Option R):Option (S ⊕ R):=match x with
 | none=>none
 | some v=>some (.inr v)
theorem wAp {S R:Type} {x:Option R} {y:S ⊕ R} (h:esc x=some y):∃ v,x=some v/\y=.inr v:=by
 cases x with
 | none=>cases h
 | some v=>exact ⟨v,rfl,(aO h).symm⟩
def jn {S R:Type} (x:Option (S ⊕ R)) (k:S->Option R):Option R:=match x with
 | none=>none
 | some (.inl s)=>k s
 | some (.inr v)=>some v
theorem wCP {S R:Type} {x:Option (S ⊕ R)} {k:S->Option R} {v:R} (h:jn x k=some v):∃ r,x=some r:=by
 cases x with
 | none=>cases h
 | some r=>exact ⟨r,rfl⟩
theorem wDA {S R:Type} {x:Option (S ⊕ R)} {k:S->Option R} {v:R} {s:S} {r:S ⊕ R} (h:jn x k=some v) (hx:x=some r) (hr:r=.inl s):k s=some v:=by subst hx hr;exact h
theorem wCd {S R:Type} {x:Option (S ⊕ R)} {k:S->Option R} {v u:R} {r:S ⊕ R} (h:jn x k=some v) (hx:x=some r) (hr:r=.inr u):u=v:=by subst hx hr;exact aO h
@[simp] theorem wOZ {S R:Type} (v:R):(esc (some v):Option (S ⊕ R))=some (.inr v):=rfl
@[simp] theorem esc_none {S R:Type}:(esc (none:Option R):Option (S ⊕ R))=none:=rfl
@[simp] theorem wDm {S R:Type} (s:S) (k:S->Option R):jn (some (.inl s)) k=k s:=rfl
@[simp] theorem wJb {S R:Type} (v:R) (k:S->Option R):jn (some (.inr v)) k=some v:=rfl
@[simp] theorem jn_none {S R:Type} (k:S->Option R):jn none k=none:=rfl
theorem Arr.at_ {α:Type} [Inhabited α] {n:Nat} (a:Arr α n) {k:Nat} (h:k < n):a.l[k]?=some (a.get k):=by
 unfold Arr.get
 rw [kc,nB (by rw [a.h];exact h)]
 rfl
instance {α:Type} {n:Nat} [Inhabited α]:Inhabited (Arr α n):=⟨.fill n default⟩
def gd {α:Type} [Inhabited α] (l:List α) (k:Nat):α:=l.getD k default
theorem wCi {α:Type} [Inhabited α] {xs:List α} {k:Nat} (h:k < xs.length):xs[k]?=some (gd xs k):=by
 unfold gd
 rw [kc,nB h]
 rfl
structure Hid (p:Prop):Prop where
 mk :: out:p
theorem wCE {hi:Int} {k:Nat} (h:k < (hi - 0).toNat):(↑k:Int) < hi:=by omega
theorem wBb {hi:Int}:¬ ((↑(hi - 0).toNat:Int) < hi):=by omega
section
variable {K V:Type} [DecidableEq K]
def wLS:List (K × V)->K->Option V
 | [],_=>none
 | (a,v) :: l,x=>if x=a then some v else wLS l x
def mput:List (K × V)->K->V->List (K × V)
 | [],x,v=>[(x,v)]
 | (a,u) :: l,x,v=>if x=a then (x,v) :: l else (a,u) :: mput l x v
def mdel:List (K × V)->K->List (K × V)
 | [],_=>[]
 | (a,u) :: l,x=>if x=a then l else (a,u) :: mdel l x
def wPo (l:List (K × V)) (x:K):Bool:=(wLS l x).isSome
def wIm (l:List (K × V)) (x:K) (z:V):V:=(wLS l x).getD z
def wDB:List (K × V)->K->Nat->Option (Nat × V)
 | [],_,_=>none
 | (a,v) :: l,x,i=>if x=a then some (i,v) else wDB l x (i + 1)
theorem wJc (l:List (K × V)) (x:K) (i:Nat):(wDB l x i).map (·.2)=wLS l x:=by
 induction l generalizing i with
 | nil=>rfl
 | cons p l ih=>obtain ⟨a,v⟩:=p;simp only [wDB,wLS];split <;> simp [ih]
theorem wGT {l:List (K × V)} {x:K} {i:Nat} (h:wDB l x i=none) (v:V):mput l x v=l ++ [(x,v)]/\mdel l x=l:=by
 induction l generalizing i with
 | nil=>exact ⟨rfl,rfl⟩
 | cons p l ih =>
  obtain ⟨a,u⟩:=p
  rw [wDB] at h
  split at h
  ·cases h
  ·rename_i hne
   obtain ⟨h1,h2⟩:=ih h
   simp [mput,mdel,hne,h1,h2]
theorem wGU {l:List (K × V)} {x:K} {i j:Nat} {u:V} (h:wDB l x i=some (j,u)) (v:V):i <= j/\l[j - i]?=some (x,u)/\mput l x v=l.set (j - i) (x,v)/\mdel l x=l.eraseIdx (j - i):=by
 induction l generalizing i with
 | nil=>cases h
 | cons p l ih =>
  obtain ⟨a,u'⟩:=p
  rw [wDB] at h
  split at h
  ·rename_i e;subst e
   simp only [nN,aC] at h
   obtain ⟨rfl,rfl⟩:=h
   simp [mput,mdel]
  ·rename_i hne
   obtain ⟨h1,h2,h3,h4⟩:=ih h
   have e:j - i=(j - (i + 1)) + 1:=by omega
   refine ⟨by omega,by rw [e];simpa using h2,?_,?_⟩
   ·rw [e];simp [mput,hne,h3]
   ·rw [e];simp [mdel,hne,h4]
end
def mkz {α:Type} (by_:Nat) (n:Int) (z:α):Option (List α):=if 0 <= n/\n <= 16777216/\(by_:Int) * n <= 281474976710656 then some (nY n.toNat z) else none
end Go.KL
namespace Go.KL
open Go.RowKit
theorem wFG (n:Int):IntKind.i64.wrap n=w64 n:=by rw [IntKind.wrap_i64];unfold w64;omega
section
variable {N:Nat} {P:Program} {l:List Oper} {Q:wCp} {D:List Deferred} {ks:List Nat} {σ:Env} {w:World} {i d:Nat} {s:Sch} {o:Oper} {B:Base} {U:PHeap} {L:List Res}
theorem wDh {o:Oper} {d:Nat} (hd:o.dst=some d) (σ:Env) (v:Value):put' σ o v=upd σ d v:=by unfold put';rw [hd]
theorem wMO {o:Oper} (hd:o.dst=none) (σ:Env) (v:Value):put' σ o v=σ:=by unfold put';rw [hd]
theorem dlt {o:Oper} {d N:Nat} (hd:o.dst=some d) (hN:nL d N=true):∀ e,o.dst=some e->e < N:=by
 intro e he;rw [hd] at he;cases he;simpa [nZ] using hN
theorem dno {o:Oper} {N:Nat} (hd:o.dst=none):∀ e,o.dst=some e->e < N:=by intro e he;rw [hd] at he;cases he
theorem OKS.r {v:Value} (ho:l[i]?=some o) (hd:o.dst=some d) (hN:nL d N=true) (hw:wanted l σ o=true) (hr:∀ w',Runs P σ w' o v w')
  (k:OKS N P l Q D ks s (upd σ d v) w):OKS N P l Q D ks (.fl i s) σ w :=
 ⟨o,ho,dlt hd hN,.inl ⟨hw,v,fun w' _=>hr w',⟨fun _=>hr,fun _ w' _=>hr w'⟩,by rw [wDh hd];exact k⟩⟩
theorem OKS.m {v:Value} (ho:l[i]?=some o) (hd:o.dst=some d) (hN:nL d N=true) (hw:wanted l σ o=true) (hr:wFu P σ w o v) (hk:wRQ (kOf ks i)=false)
  (k:OKS N P l Q D ks s (upd σ d v) w):OKS N P l Q D ks (.fl i s) σ w :=
 ⟨o,ho,dlt hd hN,.inl ⟨hw,v,hr,⟨fun e=>(by rw [e] at hk;cases hk),fun e=>(by rw [e] at hk;cases hk)⟩,(by rw [wDh hd];exact k)⟩⟩
theorem OKS.p (ho:l[i]?=some o) (hd:o.dst=some d) (hN:nL d N=true) (hw:wanted l σ o=false)
  (k:OKS N P l Q D ks s (upd σ d undef) w):OKS N P l Q D ks (.fl i s) σ w :=
 ⟨o,ho,dlt hd hN,.inr ⟨hw,by rw [wDh hd];exact k⟩⟩
theorem OKS.px (ho:l[i]?=some o) (hd:o.dst=some d) (hN:nL d N=true) (hw:wanted l σ o=false)
  (k:OKS N P l Q D ks s (upd σ d undef) w):OKS N P l Q D ks (.fx i s .stop) σ w :=
 ⟨⟨o,ho,dlt hd hN,.inr ⟨hw,KeepD.refl l ks i w,by rw [wDh hd];exact k⟩⟩,trivial⟩
theorem OKS.v {v:Value} {w':World} (ho:l[i]?=some o) (hd:o.dst=some d) (hN:nL d N=true) (hw:wanted l σ o=true) (hr:Runs P σ w o v w') (hk:wIk (kOf ks i)=false \/ Keep w w' Non)
  (k:OKS N P l Q D ks s (upd σ d v) w'):OKS N P l Q D ks (.fx i s .stop) σ w :=
 ⟨⟨o,ho,dlt hd hN,.inl ⟨hw,.inr (.inl ⟨v,w',hr,KeepD.of hk,by rw [wDh hd];exact k⟩)⟩⟩,trivial⟩
theorem OKS.u {w':World} (ho:l[i]?=some o) (hd:o.dst=none) (hw:wanted l σ o=true) (hr:Does P σ w o w') (hk:wIk (kOf ks i)=false \/ Keep w w' Non)
  (k:OKS N P l Q D ks s σ w'):OKS N P l Q D ks (.fx i s .stop) σ w :=
 ⟨⟨o,ho,dno hd,.inl ⟨hw,.inl ⟨hd,w',hr,KeepD.of hk,by rw [wMO hd];exact k⟩⟩⟩,trivial⟩
def wCQ (w:World) (own:List Res) (U:PHeap) (wCp:PHeap->List Res->Value->Prop):Value->World->Prop:=fun v w'=>∃ U' L',St ⟨w,own,U⟩ U' L' w'/\wCp U' L' v
theorem OKS.callH {f:FuncId} {args:List Value} {wCp:PHeap->List Res->Value->Prop} (n:Nat) (ho:l[i]?=some o) (hd:o.dst=some d) (hN:nL d N=true) (hw:wanted l σ o=true) (he:Enters P σ w o f args) (hS:St B U L w)
  (hf:St ⟨w,L.take n,U⟩ U (L.take n) w->Gv P f args w (wCQ w (L.take n) U wCp)) (hk:wIk (kOf ks i)=false \/ n=0)
  (k:∀ U' L' v w',PHeap.Le U U'->St B U' (L' ++ L.drop n) w'->wCp U' L' v->OKS N P l Q D ks s (upd σ d v) w'):OKS N P l Q D ks (.fx i s .stop) σ w:=by
 refine ⟨⟨o,ho,dlt hd hN,.inl ⟨hw,.inr (.inr (.inl ⟨f,args,_,he,hf (hS.enterH n),?_⟩))⟩⟩,trivial⟩
 rintro v w' ⟨U',L',h1,h2⟩
 obtain ⟨h3,h4⟩:=hS.backH n h1
 refine ⟨KeepD.of ?_,by rw [wDh hd];exact k U' L' v w' h4 h3 h2⟩
 rcases hk with hk | rfl
 ·exact .inl hk
 ·exact .inr <| h1.kp.weak fun b _ ⟨r,hr,_⟩=>by simp at hr
theorem wIH {j d:Nat} {b:Bool} (hg:o.guard=some (j,b)) (hd:(l[j]?).bind (·.dst)=some d) (h:σ d=.bool b):wanted l σ o=true:=by
 simp [wanted,hg,hd,h]
theorem wAu {j d:Nat} {b:Bool} (hg:o.guard=some (j,b)) (hd:(l[j]?).bind (·.dst)=some d) (h:σ d=undef):wanted l σ o=false:=by
 simp [wanted,hg,hd,h,undef]
theorem wGV {j d:Nat} {b b':Bool} (hg:o.guard=some (j,b)) (hd:(l[j]?).bind (·.dst)=some d) (h:σ d=.bool b') (hne:(b' == b)=false):wanted l σ o=false:=by
 simp [wanted,hg,hd,h,hne]
theorem Runs.addw {t u:TypeId} {x y:Operand} {m n:Int} (ho:o.op=.binOp .add t x y u) (hx:ev σ x=.int .i64 m) (hy:ev σ y=.int .i64 n):Runs P σ w o (.int .i64 (w64 (m + n))) w :=
 ⟨by rw [ho];rfl,by simp [execOp,ho,hx,hy,binOp,eqGuard,Op.intArith,wFG]⟩
theorem Runs.subw {t u:TypeId} {x y:Operand} {m n:Int} (ho:o.op=.binOp .sub t x y u) (hx:ev σ x=.int .i64 m) (hy:ev σ y=.int .i64 n):Runs P σ w o (.int .i64 (w64 (m - n))) w :=
 ⟨by rw [ho];rfl,by simp [execOp,ho,hx,hy,binOp,eqGuard,Op.intArith,wFG]⟩
theorem Runs.mulw {t u:TypeId} {x y:Operand} {m n:Int} (ho:o.op=.binOp .mul t x y u) (hx:ev σ x=.int .i64 m) (hy:ev σ y=.int .i64 n):Runs P σ w o (.int .i64 (w64 (m * n))) w :=
 ⟨by rw [ho];rfl,by simp [execOp,ho,hx,hy,binOp,eqGuard,Op.intArith,wFG]⟩
theorem Runs.rem {k:IntKind} {t u:TypeId} {x y:Operand} {m n r:Int} (ho:o.op=.binOp .rem t x y u) (hx:ev σ x=.int k m) (hy:ev σ y=.int k n) (h:KL.rem m n=some r):Runs P σ w o (.int k r) w:=by
 obtain ⟨h1,rfl⟩:=wRS h
 exact ⟨by rw [ho];rfl,by simp [execOp,ho,hx,hy,binOp,eqGuard,Op.intDiv,h1]⟩
theorem Runs.quo {t u:TypeId} {x y:Operand} {m n r:Int} (ho:o.op=.binOp .quo t x y u) (hx:ev σ x=.int .i64 m) (hy:ev σ y=.int .i64 n) (h:KL.quo m n=some r):Runs P σ w o (.int .i64 r) w:=by
 obtain ⟨h1,rfl⟩:=wRT h
 exact ⟨by rw [ho];rfl,by simp [execOp,ho,hx,hy,binOp,eqGuard,Op.intDiv,h1,wFG]⟩
theorem Runs.min {x y:Operand} {m n:Int} {ty:Array TypeId} (ho:o.op=.call { callee:=.builtin .min,args:=#[x,y],argTypes:=ty }) (hx:ev σ x=.int .i64 m) (hy:ev σ y=.int .i64 n):Runs P σ w o (.int .i64 (Min.min m n)) w :=
 ⟨by rw [ho];rfl,by
  have:(if n < m then n else m)=Min.min m n:=by rw [Int.min_def];split <;> split <;> omega
  simp [execOp,ho,resolve,invoke,builtin,Builtin.min_,Builtin.min2,hx,hy,this]⟩
theorem Runs.max {x y:Operand} {m n:Int} {ty:Array TypeId} (ho:o.op=.call { callee:=.builtin .max,args:=#[x,y],argTypes:=ty }) (hx:ev σ x=.int .i64 m) (hy:ev σ y=.int .i64 n):Runs P σ w o (.int .i64 (Max.max m n)) w :=
 ⟨by rw [ho];rfl,by
  have:(if m < n then n else m)=Max.max m n:=by rw [Int.max_def];split <;> split <;> omega
  simp [execOp,ho,resolve,invoke,builtin,Builtin.max_,Builtin.max2,hx,hy,this]⟩
theorem wPK {t:TypeId} (ht:∀ w,(underlying t).run P w=.ok .bool w) (m n:Bool) (w:World):(Op.equal t (.bool m) (.bool n)).run P w=.ok (m == n) w:=by
 unfold Op.equal Op.maxDepth
 rw [show (10000:Nat)=9999 + 1 from rfl,Op.equalIn]
 simp only [Sem.run_bind,ht,Result.andThen_ok,Sem.run_pure]
theorem Runs.eqB {t u:TypeId} {x y:Operand} {m n:Bool} (ho:o.op=.binOp .eql t x y u) (hx:ev σ x=.bool m) (hy:ev σ y=.bool n) (ht:∀ w,(underlying t).run P w=.ok .bool w):Runs P σ w o (.bool (m == n)) w :=
 ⟨by rw [ho];rfl,by simp [execOp,ho,hx,hy,binOp,eqGuard,wPK ht]⟩
theorem Runs.neB {t u:TypeId} {x y:Operand} {m n:Bool} (ho:o.op=.binOp .neq t x y u) (hx:ev σ x=.bool m) (hy:ev σ y=.bool n) (ht:∀ w,(underlying t).run P w=.ok .bool w):Runs P σ w o (.bool (!(m == n))) w :=
 ⟨by rw [ho];rfl,by simp [execOp,ho,hx,hy,binOp,eqGuard,wPK ht]⟩
theorem OKS.alloc {t:TypeId} {z:Value} {cs:List Value} (ho:l[i]?=some o) (hd:o.dst=some d) (hN:nL d N=true) (hw:wanted l σ o=true) (hop:o.op=.alloc t) (hz:∀ w,(zeroValue t).run P w=.ok z w) (hc:z.cells=cs.toArray) (hS:St B U L w)
  (k:∀ w' b,St B U (.blk b t cs :: L) w'->OKS N P l Q D ks s (upd σ d (.pointer (some ⟨b,0,none⟩))) w'):OKS N P l Q D ks (.fx i s .stop) σ w:=by
 refine OKS.v (v:=.pointer (some ⟨w.heap.size,0,none⟩)) (w':=w.alloc (.cells cs.toArray t)) ho hd hN hw ⟨by rw [hop];rfl,?_⟩ (.inr (wAy w _)) (k _ _ (hS.new (wAy w _) (wDK w cs t) rfl (nJ _)))
 simp [execOp,hop,Instr.alloc,hz,newVar,newRow,newObj,hc,Sem.run]
theorem OKS.box {t:TypeId} {x:Operand} {v:Value} {cs:List Value} (ho:l[i]?=some o) (hd:o.dst=some d) (hN:nL d N=true) (hw:wanted l σ o=true) (hop:o.op=.box t x) (hx:ev σ x=v) (hc:v.cells=cs.toArray) (hS:St B U L w)
  (k:∀ w' b,St B U (.blk b t cs :: L) w'->OKS N P l Q D ks s (upd σ d (.pointer (some ⟨b,0,none⟩))) w'):OKS N P l Q D ks (.fx i s .stop) σ w:=by
 subst hx
 refine OKS.v (v:=.pointer (some ⟨w.heap.size,0,none⟩)) (w':=w.alloc (.cells cs.toArray t)) ho hd hN hw ⟨by rw [hop];rfl,?_⟩ (.inr (wAy w _)) (k _ _ (hS.new (wAy w _) (wDK w cs t) rfl (nJ _)))
 simp [execOp,hop,Instr.box,newVar,newRow,newObj,hc,Sem.run]
theorem OKS.st {t T:TypeId} {x y:Operand} {j b off:Nat} {v:Value} {vs cs cs':List Value} (ho:l[i]?=some o) (hd:o.dst=none) (hw:wanted l σ o=true) (hop:o.op=.store t x y) (hS:St B U L w) (hk:L[j]?=some (.blk b T cs))
  (hx:ev σ x=.pointer (some ⟨b,off,none⟩)) (hy:ev σ y=v) (hc:v.cells=vs.toArray) (hsz:∀ w,(sizeOf t).run P w=.ok vs.length w) (hlt:off + vs.length <= cs.length) (h1:vs.all one=true) (hcs:wCR cs off vs=cs') (hne:wIk (kOf ks i)=false)
  (k:∀ w',St B U (L.set j (.blk b T cs')) w'->OKS N P l Q D ks s σ w'):OKS N P l Q D ks (.fx i s .stop) σ w:=by
 subst hy hcs
 obtain ⟨w',h2,h3,h4,h5⟩:=wCJ (P:=P) (T:=T) off vs 0 cs w (hS.blkAt hk) hlt (nW.1 h1)
 refine OKS.u (w':=w') ho hd hw ⟨by rw [hop];rfl,?_⟩ (.inl hne) (k w' (hS.set hk (h4.weak fun x _ e=>by rw [e];rfl) h3 fun b hb=>.inl hb))
 simp [execOp,hop,Instr.storeAt,hx,Instr.sureAddr,storeVar,hc,hsz,h2]
theorem RowAt.cells {w:World} {c T sz b:Nat} {cs:List Value} (h:RowAt w (some ⟨b,0,none⟩) c T sz cs):∃ cur,w.heap[b]?=some (.cells cur T (0,0))/\cs.length <= c * sz/\c <= maxLen/\cur.size=c * sz/\cur.toList.take cs.length=cs:=by
 rcases h with ⟨h,_⟩ | ⟨b',cur,h,h1⟩
 ·cases h
 ·cases h;exact ⟨cur,h1⟩
theorem wGW (vs:List Value):∀ (l:List Value) (off n:Nat),off + vs.length <= n->(wCR l off vs).take n=wCR (l.take n) off vs:=by
 induction vs with
 | nil=>intro l off n _;rfl
 | cons v vs ih =>
  intro l off n h
  simp only [wCR]
  rw [ih _ _ _ (by simp at h;omega),List.take_set]
theorem OKS.stR {t T:TypeId} {x y:Operand} {j b c sz off:Nat} {A:Option Addr} {v:Value} {vs cs cs':List Value} (ho:l[i]?=some o) (hd:o.dst=none) (hw:wanted l σ o=true) (hop:o.op=.store t x y) (hS:St B U L w) (hk:L[j]?=some (.row A c T sz cs)) (hA:A=some ⟨b,0,none⟩)
  (hx:ev σ x=.pointer (some ⟨b,off,none⟩)) (hy:ev σ y=v) (hc:v.cells=vs.toArray) (hsz:∀ w,(sizeOf t).run P w=.ok vs.length w) (hlt:off + vs.length <= cs.length) (h1:vs.all one=true) (hcs:wCR cs off vs=cs') (hne:wIk (kOf ks i)=false)
  (k:∀ w',St B U (L.set j (.row A c T sz cs')) w'->OKS N P l Q D ks s σ w'):OKS N P l Q D ks (.fx i s .stop) σ w:=by
 subst hA
 subst hy hcs
 obtain ⟨cur,g1,g2,g3,g4,g5⟩:=RowAt.cells (hS.at_ _ (hH hk))
 have hB:Blk w b T cur.toList:=by unfold Blk;rw [g1]
 have hcl:cs.length <= cur.toList.length:=by rw [<- g5];simp;omega
 obtain ⟨w',h2,h3,h4,h5⟩:=wCJ (P:=P) (T:=T) off vs 0 cur.toList w hB (by omega) (nW.1 h1)
 refine OKS.u (w':=w') ho hd hw ⟨by rw [hop];rfl,?_⟩ (.inl hne) (k w' (hS.set hk (h4.weak fun x _ e=>by rw [e];rfl) (.inr ⟨b,(wCR cur.toList (off + 0) vs).toArray,rfl,h3,?_,g3,?_,?_⟩) fun b hb=>.inl hb))
 ·simp [execOp,hop,Instr.storeAt,hx,Instr.sureAddr,storeVar,hc,hsz,h2]
 ·rw [wBg];exact g2
 ·simp [wBg,g4]
 ·rw [wBg,Nat.add_zero]
  show (wCR cur.toList off vs).take cs.length=_
  rw [wGW _ _ _ _ hlt,g5]
theorem St.ldB {t T:TypeId} {x:Operand} {j b off:Nat} {cs:List Value} {v:Value} (hS:St B U L w) (hk:L[j]?=some (.blk b T cs)) (hop:o.op=.load t x) (hx:ev σ x=.pointer (some ⟨b,off,none⟩)) (hag:∀ w,(isAgg t).run P w=.ok false w) (hv:cs[off]?=some v):wFu P σ w o v :=
 fun _ k=>Runs.ldB hop hx hag ((hS.grow k).blkAt hk) hv
theorem St.ldBA {t T:TypeId} {x:Operand} {j b off n:Nat} {cs vs:List Value} (hS:St B U L w) (hk:L[j]?=some (.blk b T cs)) (hop:o.op=.load t x) (hx:ev σ x=.pointer (some ⟨b,off,none⟩)) (hag:∀ w,(isAgg t).run P w=.ok true w) (hsz:∀ w,(sizeOf t).run P w=.ok n w) (hv:(cs.drop off).take n=vs) (hn:vs.length=n):wFu P σ w o (.agg vs.toArray) :=
 fun _ k=>Runs.ldBA hop hx hag hsz ((hS.grow k).blkAt hk) hv hn
theorem St.rowCell {j b c T sz off:Nat} {cs:List Value} {v:Value} (hS:St B U L w) (hk:L[j]?=some (.row (some ⟨b,0,none⟩) c T sz cs)) (hv:cs[off]?=some v):w.cell? ⟨b,off,none⟩=some v:=by
 obtain ⟨cur,g1,g2,g3,g4,g5⟩:=RowAt.cells (hS.at_ _ (hH hk))
 have:cur[off]?=some v:=by
  rw [<- g5,nQ] at hv
  split at hv
  ·simpa using hv
  ·cases hv
 simp [World.cell?,g1,this]
theorem St.ldR {t T:TypeId} {x:Operand} {j b off c sz:Nat} {A:Option Addr} {cs:List Value} {v:Value} (hS:St B U L w) (hk:L[j]?=some (.row A c T sz cs)) (hA:A=some ⟨b,0,none⟩) (hop:o.op=.load t x) (hx:ev σ x=.pointer (some ⟨b,off,none⟩)) (hag:∀ w,(isAgg t).run P w=.ok false w) (hv:cs[off]?=some v):wFu P σ w o v :=
 fun _ k=>Runs.ld hop hx hag ((hS.grow k).rowCell (hA ▸ hk) hv)
theorem wFH {cs vs:List Value} {off n:Nat} (hv:(cs.drop off).take n=vs):∀ j v,vs[j]?=some v->cs[off + j]?=some v:=by
 intro j v hj
 subst hv
 rw [nQ] at hj
 split at hj
 ·rwa [nS] at hj
 ·cases hj
def Cl (U:PHeap) (b off:Nat) (vs:List Value):Prop:=∃ arr T fr,U b=some (.cells arr T fr)/\∀ j v,vs[j]?=some v->arr[off + j]?=some v
theorem Cl.le {U U':PHeap} {b off:Nat} {vs:List Value} (h:Cl U b off vs) (hl:PHeap.Le U U'):Cl U' b off vs:=by
 obtain ⟨arr,T,fr,h1,h2⟩:=h
 exact ⟨arr,T,fr,hl _ _ h1,h2⟩
theorem Cl.cell {b off f:Nat} {vs:List Value} {v:Value} (h:Cl U b off vs) (hS:St B U L w) (hv:vs[f]?=some v):w.cell? ⟨b,off + f,none⟩=some v:=by
 obtain ⟨arr,T,fr,h1,h2⟩:=h
 simp [World.cell?,hS.fro _ _ h1,h2 f v hv]
theorem Cl.of {b:Nat} {T:TypeId} {cs:List Value} (h:U b=some (.cells cs.toArray T (0,0))):Cl U b 0 cs:=⟨_,_,_,h,fun j v hv=>by simpa using hv⟩
theorem St.ldC {t:TypeId} {x:Operand} {b off f:Nat} {vs:List Value} {v:Value} (hS:St B U L w) (hC:Cl U b off vs) (hop:o.op=.load t x) (hx:ev σ x=.pointer (some ⟨b,off + f,none⟩)) (hag:∀ w,(isAgg t).run P w=.ok false w) (hv:vs[f]?=some v):wFu P σ w o v :=
 fun _ k=>Runs.ld hop hx hag (hC.cell (hS.grow k) hv)
theorem St.ldCA {t:TypeId} {x:Operand} {b off f n:Nat} {vs us:List Value} (hS:St B U L w) (hC:Cl U b off vs) (hop:o.op=.load t x) (hx:ev σ x=.pointer (some ⟨b,off + f,none⟩)) (hag:∀ w,(isAgg t).run P w=.ok true w) (hsz:∀ w,(sizeOf t).run P w=.ok n w) (hv:(vs.drop f).take n=us) (hn:us.length=n):wFu P σ w o (.agg us.toArray) :=
 fun _ k=>Runs.ldA hop hx hag hsz hn fun j v hj=>by
  rw [Nat.add_assoc];exact hC.cell (hS.grow k) (wFH hv j v hj)
theorem wFb {α:Type} {f:α->List Value} {sz:Nat} (hf:∀ x,(f x).length=sz):∀ (l:List α) (i j:Nat) (x:α) (v:Value),l[i]?=some x->(f x)[j]?=some v->(l.flatMap f)[i * sz + j]?=some v
 | [],i,j,x,v,hi,hj=>by simp at hi
 | y :: l,0,j,x,v,hi,hj=>by
  simp at hi;subst hi
  have:j < (f y).length:=by
   rcases nV j (f y).length with h | h
   ·exact h
   ·rw [nz h] at hj;cases hj
  simp only [nG,kj,kU]
  rw [nD this];exact hj
 | y :: l,i + 1,j,x,v,hi,hj=>by
  have ih:=wFb hf l i j x v (by simpa using hi) hj
  simp only [nG]
  rw [nH (by rw [hf,nl];omega),hf,show (i + 1) * sz + j - sz=i * sz + j from by rw [nl];omega]
  exact ih
theorem wAH {α:Type} {f:α->List Value} {sz:Nat} (hf:∀ x,(f x).length=sz) (l:List α):(l.flatMap f).length=l.length * sz:=by
 induction l with
 | nil=>simp
 | cons x l ih=>simp [ih,hf,nl];omega
theorem Sl.el {α:Type} {sz c:Nat} {A:Option Addr} {enc:α->List Value} {xs:List α} (h:Sl U sz A c xs.length (xs.flatMap enc)) (hf:∀ x,(enc x).length=sz) {k:Nat} {x:α} (hx:xs[k]?=some x) :
  ∃ b off,A=some ⟨b,off,none⟩/\Cl U b (off + k * sz) (enc x):=by
 have hlt:=(nA.1 hx).1
 rcases h.mem with h0 | ⟨b,off,arr,T,fr,hA,h2,h3⟩
 ·omega
 ·refine ⟨b,off,hA,arr,T,fr,h2,fun j v hj=>?_⟩
  have:=wFb hf xs k j x v hx hj
  rw [<- h3,nQ] at this
  split at this
  ·rw [nS] at this
   rw [show off + k * sz + j=off + (k * sz + j) from by omega]
   simpa using this
  ·cases this
theorem St.rowSome {j c T sz:Nat} {A:Option Addr} {cs:List Value} (hS:St B U L w) (hk:L[j]?=some (.row A c T sz cs)) (hn:0 < cs.length):∃ b,A=some ⟨b,0,none⟩:=by
 rcases hS.at_ _ (hH hk) with ⟨_,_,rfl⟩ | ⟨b,cur,h,_⟩
 ·simp at hn
 ·exact ⟨b,h⟩
theorem wFc (vs:List Value):∀ (p l:List Value) (off:Nat),wCR (p ++ l) (p.length + off) vs=p ++ wCR l off vs:=by
 induction vs with
 | nil=>intro p l off;rfl
 | cons v vs ih =>
  intro p l off
  simp only [wCR]
  rw [List.set_append_right _ _ (by omega),show p.length + off - p.length=off from by omega,show p.length + off + 1=p.length + (off + 1) from by omega,ih]
theorem wFv (vs:List Value):∀ (p l:List Value) (off:Nat),off + vs.length <= p.length->wCR (p ++ l) off vs=wCR p off vs ++ l:=by
 induction vs with
 | nil=>intro p l off _;rfl
 | cons v vs ih =>
  intro p l off h
  simp only [wCR]
  simp only [kM] at h
  rw [List.set_append_left _ _ (by omega),ih _ _ _ (by simp;omega)]
theorem wFl {α:Type} {f:α->List Value} {sz:Nat} (hf:∀ x,(f x).length=sz) {vs:List Value} {off:Nat}:∀ (l:List α) (k:Nat) (x y:α),l[k]?=some x->off + vs.length <= sz->wCR (f x) off vs=f y->wCR (l.flatMap f) (k * sz + off) vs=(l.set k y).flatMap f
 | [],k,x,y,hk,_,_=>by simp at hk
 | z :: l,0,x,y,hk,ho,hs=>by
  simp at hk;subst hk
  simp only [kj,kU,nG,List.set_cons_zero]
  rw [wFv _ _ _ _ (by rw [hf];exact ho),hs]
 | z :: l,k + 1,x,y,hk,ho,hs=>by
  have ih:=wFl hf l k x y (by simpa using hk) ho hs
  simp only [nG,aF]
  rw [show (k + 1) * sz + off=(f z).length + (k * sz + off) from by rw [hf,nl];omega,wFc,ih]
theorem wIn {w w':World} {c c2 n m:Nat} {A:Option Addr} {a:Addr} {t ty e:TypeId} {inf:TypeInfo} {z v':Value} {cs news:List Value} (ht:P.underlying t=some (.slice e)) (hi:P.info? e=some inf) (hz:inf.zero=some z)
  (hown:w.ownsRow 0 e inf.size (.slice A n c) n cs) (hl:news.length=m * inf.size) (hnews:∀ j u,news[j]?=some u->w.cell? (a.add j)=some u) (h1:∀ u ∈ news,u.oneCell'=true) (h63:n + m <= maxLen) (hbytes:(n + m) * inf.bytes <= 140737488355328)
  (hr:(Builtin.append_ #[t,t] ty #[.slice A n c,.slice (some a) m c2]).run P w=.ok v' w'):w.drawn <= w'.drawn:=by
 have hsmall:n + m <= 9223372036854775807:=by simp only [maxLen] at h63;omega
 rcases hown.2 with ⟨h0,rfl⟩ | ⟨g,cap,cur,h0,hbg,hg,hnc,hcm,hcs,htake⟩
 ·cases h0
  by_cases hm:m=0
  ·subst hm
   simp [Builtin.append_,run_underlying ht,sizeOf,typeInfo,hi,Builtin.lenOf,Builtin.firstCells,loadCells,loadCellsFrom] at hr
   rw [<- hr.2]
   exact nJ _
  ·have hr2:=run_append_nil (P:=P) w t ty e inf z ht hi hz a m c2 news hl hnews (by omega) (by omega) (by have hb:=hbytes;simp only [kU] at hb;omega)
   rw [hr2] at hr
   cases hr
   exact aJ _
 ·cases h0
  by_cases hroom:n + m <= c
  ·have hfit:n * inf.size + news.length <= cur.size:=by rw [hl,hcs,<- nl];exact aA _ hroom
   have hr2:=run_append_room (P:=P) w t ty e inf ht hi g n c cur hg a m c2 news hl hnews h1 hroom hfit
   rw [hr2] at hr
   cases hr
   exact nJ _
  ·have holds:∀ j u,cs[j]?=some u->w.cell? ((⟨g,0,none⟩:Addr).add j)=some u:=hown.cells (g:=g) rfl
   have hr2:=run_append_grow (P:=P) w t ty e inf z ht hi hz ⟨g,0,none⟩ n c cs hown.1 holds a m c2 news hl hnews (by omega) (by omega) (growslice_fits (by omega) hbytes)
   rw [hr2] at hr
   cases hr
   exact aJ _
theorem wDa {w:World} {A A2:Option Addr} {c c2 n m sz:Nat} {t ty e:TypeId} {inf:TypeInfo} {z:Value} {cs news:List Value} (ht:P.underlying t=some (.slice e)) (hi:P.info? e=some inf) (hz:inf.zero=some z)
  (hsize:inf.size=sz) (hzs:z.cells.size=sz) (hsz:0 < sz) (hrow:RowAt w A c e sz cs) (hn:cs.length=n * sz) (hl:news.length=m * sz)
  (hnews:m=0 \/ ∃ a,A2=some a/\∀ j u,news[j]?=some u->w.cell? (a.add j)=some u) (h1:∀ u ∈ news,u.oneCell'=true) (hb:(n + m) * inf.bytes <= 140737488355328) (hby:0 < inf.bytes) :
  ∃ A' c' w',(Builtin.append_ #[t,t] ty #[.slice A n c,.slice A2 m c2]).run P w=.ok (.slice A' (n + m) c') w'/\RowAt w' A' c' e sz (cs ++ news)/\Keep w w' (fun b=>A.map (·.block)=some b) /\
   (∀ b,A'.map (·.block)=some b->A.map (·.block)=some b \/ w.heap.size <= b):=by
 have own:w.ownsRow 0 e sz (.slice A n c) n cs:=by
  refine ⟨hn,?_⟩
  rcases hrow with ⟨rfl,rfl,rfl⟩ | ⟨b,cur,rfl,h1,h2,h3,h4,h5⟩
  ·have:n=0:=by
    rcases ny n with h | h
    ·exact h
    ·have:=ky h hsz;simp at hn;omega
   subst this;exact .inl ⟨rfl,rfl⟩
  ·exact .inr ⟨b,c,cur,rfl,kw _,h1,kD (hn ▸ h2) hsz,h3,h4,by rw [<- hn];exact h5⟩
 have hnm:n + m <= maxLen:=by
  have:n + m <= (n + m) * inf.bytes:=ko _ hby
  have:(140737488355328:Nat) <= maxLen:=by decide
  omega
 have fin:∀ (a:Addr),(∀ j u,news[j]?=some u->w.cell? (a.add j)=some u)->∃ A' c' w',(Builtin.append_ #[t,t] ty #[.slice A n c,.slice (some a) m c2]).run P w=.ok (.slice A' (n + m) c') w'/\RowAt w' A' c' e sz (cs ++ news)/\Keep w w' (fun b=>A.map (·.block)=some b) /\
   (∀ b,A'.map (·.block)=some b->A.map (·.block)=some b \/ w.heap.size <= b):=by
  intro a ha
  obtain ⟨v',w',hr,hown,hg,_,hbk⟩:=run_append_own_at (P:=P) (w:=w) 0 t ty e inf z sz inf.bytes ht hi hz hsize rfl hzs hsz (.slice A n c) n cs own a m c2 news hl ha h1 hnm hb (kw _)
  have ob:∀ {A:Option Addr} {n c:Nat},(aK A n c).ownBlock=A.map (·.block):=by intro A n c;cases A <;> rfl
  have hlen:(cs ++ news).length=(n + m) * sz:=by simp [hn,hl,nl]
  have hv:∃ A' c',v'=.slice A' (n + m) c'/\RowAt w' A' c' e sz (cs ++ news):=by
   rcases hown.2 with ⟨h1,h2⟩ | ⟨g,cap,cur,h1,h2,h3,h4,h5,h6,h7⟩
   ·refine ⟨none,0,by rw [h1];simp;omega,.inl ⟨rfl,rfl,?_⟩⟩
    rw [h2,kj] at hlen;exact kW hlen
   ·exact ⟨some ⟨g,0,none⟩,cap,h1,.inr ⟨g,cur,rfl,h3,by rw [hlen];exact aA _ h4,h5,h6,by rw [hlen];exact h7⟩⟩
  obtain ⟨A',c',rfl,hrow'⟩:=hv
  rw [ob,ob] at hbk
  refine ⟨A',c',w',hr,hrow',⟨hg.os,⟨hg.tape,wIn (A:=A) (a:=a) ht hi hz (hsize ▸ own) (hsize ▸ hl) ha h1 hnm hb hr⟩,hg.output,hg.size,fun k hk hx=>hg.block k hk fun e=>hx ?_⟩,fun b hb=>?_⟩
  ·rw [ob] at e;exact e.symm
  ·rcases hbk with h | h
   ·rw [h] at hb;exact .inl hb
   ·rw [h] at hb;cases hb;exact .inr (nJ _)
 cases A2 with
 | some a =>
  rcases hnews with h0 | ⟨a',ha,hh⟩
  ·subst h0
   have:news=[]:=by simp at hl;exact hl
   subst this
   exact fin a (fun j u h=>by simp at h)
  ·cases ha;exact fin a hh
 | none =>
  rcases hnews with h0 | ⟨a',ha,hh⟩
  ·subst h0
   have:news=[]:=by simp at hl;exact hl
   subst this
   have hle:n <= c:=by
    rcases hrow with ⟨rfl,rfl,rfl⟩ | ⟨b,cur,rfl,h1,h2,h3,h4,h5⟩
    ·have:n=0:=by
      rcases ny n with h | h
      ·exact h
      ·have:=ky h hsz;simp at hn;omega
     omega
    ·exact kD (hn ▸ h2) hsz
   refine ⟨A,c,w,?_,by simpa using hrow,Keep.refl w _,fun b hb=>.inl hb⟩
   have hsz2:∀ w,(sizeOf e).run P w=.ok sz w:=by
    intro w;simp [sizeOf,typeInfo,hi,hsize]
   have hu:∀ w,(underlying t).run P w=.ok (.slice e) w:=by intro w;simp [underlying,ht]
   cases A with
   | none=>simp [Builtin.append_,hu,hsz2,Builtin.lenOf,Builtin.firstCells,hle]
   | some a=>simp [Builtin.append_,hu,hsz2,Builtin.lenOf,Builtin.firstCells,hle,storeCells]
  ·cases ha
end
end Go.KL
namespace Go.KL
open Go.RowKit
section
variable {P:Program} {σ:Env} {w:World} {o:Oper}
theorem Runs.iaN {t e:TypeId} {x y:Operand} {A:Option Addr} {b off len cap sz k:Nat} (ho:o.op=.indexAddr t x y) (hx:ev σ x=.slice A len cap) (hA:A=some ⟨b,off,none⟩) (hy:ev σ y=.int .i64 (k:Int))
  (ht:∀ w,(underlying t).run P w=.ok (.slice e) w) (hsz:∀ w,(sizeOf e).run P w=.ok sz w) (h1:k < len):Runs P σ w o (.pointer (some ⟨b,off + k * sz,none⟩)) w:=by
 subst hA
 have:=Runs.ia (P:=P) (w:=w) ho hx hy ht hsz (by omega) (by omega)
 simpa using this
theorem Runs.iaI {t e:TypeId} {x y:Operand} {A:Option Addr} {b off len cap sz:Nat} {i:Int} (ho:o.op=.indexAddr t x y) (hx:ev σ x=.slice A len cap) (hA:A=some ⟨b,off,none⟩) (hy:ev σ y=.int .i64 i)
  (ht:∀ w,(underlying t).run P w=.ok (.slice e) w) (hsz:∀ w,(sizeOf e).run P w=.ok sz w) (h0:0 <= i) (h1:i < len):Runs P σ w o (.pointer (some ⟨b,off + i.toNat * sz,none⟩)) w:=by
 subst hA
 exact Runs.ia ho hx hy ht hsz h0 h1
theorem wBz:nh (fun (p:Nat × Operand)=>(p.1,ev σ p.2)) []=[]:=rfl
theorem wAR {i:Nat} {x:Operand} {l:List (Nat × Operand)} {v:Value} {vs:List (Nat × Value)} (h:ev σ x=v) (ht:nh (fun (p:Nat × Operand)=>(p.1,ev σ p.2)) l=vs) :
  nh (fun (p:Nat × Operand)=>(p.1,ev σ p.2)) ((i,x) :: l)=(i,v) :: vs:=by rw [ni,h,ht]
def lay (place:Nat->Option (Nat × Nat)):List Value->List (Nat × Value)->Option (List Value)
 | cells,[]=>some cells
 | cells,(i,v) :: rest =>
  match place i with
  | none=>none
  | some (off,size)=>if v.cells.size == size && Nat.ble (off + size) cells.length then lay place (wCR cells off v.cells.toList) rest else none
theorem wMP (vs:List Value):∀ (l:List Value) (off j:Nat),(vs.zipIdx j).foldl (fun (cs:Array Value) (c,i)=>cs.setIfInBounds (off + i) c) l.toArray=(wCR l (off + j) vs).toArray:=by
 induction vs with
 | nil=>intro l off j;rfl
 | cons v vs ih =>
  intro l off j
  simp only [List.zipIdx_cons,List.foldl_cons,List.setIfInBounds_toArray]
  rw [ih]
  simp [wCR,Nat.add_assoc]
theorem wDL (place:Nat->Option (Nat × Nat)) (parts:List (Nat × Value)):∀ (cells:List Value) (cs:List Value),lay place cells parts=some cs->Instr.fill place cells.toArray parts=some cs.toArray:=by
 induction parts with
 | nil=>intro cells cs h;simp only [lay,nN] at h;subst h;rfl
 | cons p rest ih =>
  intro cells cs h
  obtain ⟨i,v⟩:=p
  unfold lay at h
  unfold Instr.fill
  cases hp:place i with
  | none=>simp [hp] at h
  | some q =>
   obtain ⟨off,size⟩:=q
   simp only [hp] at h ⊢
   split at h
   ·rename_i hc
    simp only [nK,beq_iff_eq] at hc
    have hle:=kR hc.2
    have hc1:=hc.1
    rw [if_neg (by rw [hc1];simp;exact hle)]
    rw [<- ih _ _ h]
    congr 1
    rw [<- Array.foldl_toList,Array.toList_zipIdx]
    have:=wMP v.cells.toList cells off 0
    simpa using this
   ·cases h
def wPL (P:Program) (fs:Array Field) (pl:List (Nat × Nat)):Prop:=∀ w,((fs.mapM fun f=>do pure (f.offset,<- sizeOf f.type):Sem (Array (Nat × Nat)))).run P w=.ok pl.toArray w
def wII (P:Program) (t:TypeId) (pl:List (Nat × Nat)):Prop:=∃ fs,(∀ w,(underlying t).run P w=.ok (.struct fs) w)/\wPL P fs pl
theorem Runs.build {t:TypeId} {ps:List (Nat × Operand)} {pv:List (Nat × Value)} {zv:Value} {z cs:List Value} {pl:List (Nat × Nat)} (ho:o.op=.build t ps.toArray)
  (hp:nh (fun (p:Nat × Operand)=>(p.1,ev σ p.2)) ps=pv) (hz:∀ w,(zeroValue t).run P w=.ok zv w) (hT:wII P t pl)
  (hzc:zv.cells=z.toArray) (hl:lay (fun i=>pl[i]?) z pv=some cs):Runs P σ w o (.agg cs.toArray) w:=by
 refine ⟨by rw [ho];rfl,?_⟩
 have hf:=wDL _ _ _ _ hl
 obtain ⟨fs,hs,hpl⟩:=hT
 have hpl':=hpl w
 subst hp
 simp only [execOp,ho,Instr.build,Sem.run_bind,hz,Result.andThen_ok,hs,hpl',hzc,kP,nX,hf,Sem.run_pure]
theorem Runs.buildA {t e n sz:Nat} {ps:List (Nat × Operand)} {pv:List (Nat × Value)} {zv:Value} {z cs:List Value} (ho:o.op=.build t ps.toArray)
  (hp:nh (fun (p:Nat × Operand)=>(p.1,ev σ p.2)) ps=pv) (hz:∀ w,(zeroValue t).run P w=.ok zv w) (hs:∀ w,(underlying t).run P w=.ok (.array n e) w) (hsz:∀ w,(sizeOf e).run P w=.ok sz w)
  (hzc:zv.cells=z.toArray) (hl:lay (fun i=>some (i * sz,sz)) z pv=some cs):Runs P σ w o (.agg cs.toArray) w:=by
 refine ⟨by rw [ho];rfl,?_⟩
 have hf:=wDL _ _ _ _ hl
 subst hp
 simp only [execOp,ho,Instr.build,Sem.run_bind,hz,Result.andThen_ok,hs,hsz,hzc,kP,hf,Sem.run_pure]
end
def wRG (P:Program) (w:World) (σ:Env):List ResultVar->List Value->Prop
 | [],[]=>True
 | .tmp t :: rs,v :: vs=>σ t=v/\wRG P w σ rs vs
 | .cell a t :: rs,v :: vs=>(∃ ad,σ a=.pointer (some ad)/\(loadVar t ad).run P w=.ok v w)/\wRG P w σ rs vs
 | _,_=>False
theorem wIo {P:Program} {w:World} {σ:Env}:∀ (rs:List ResultVar) (vs:List Value),wRG P w σ rs vs ->
  (rs.mapM (wFB σ)).run P w=.ok vs w:=by
 intro rs
 induction rs with
 | nil=>intro vs h;cases vs with
  | nil=>simp
  | cons v vs=>exact h.elim
 | cons r rs ih =>
  intro vs h
  cases vs with
  | nil=>cases r <;> exact h.elim
  | cons v vs =>
   cases r with
   | tmp t =>
    obtain ⟨h1,h2⟩:=h
    simp [List.mapM_cons,ih vs h2,wFB,h1]
   | cell a t =>
    obtain ⟨⟨ad,h0,h1⟩,h2⟩:=h
    simp [List.mapM_cons,ih vs h2,wFB,h0,asAddr,h1]
theorem wOa {P:Program} {w:World} {σ:Env} {r:ResultVar} {v:Value} (h:wRG P w σ [r] [v]):(wCY #[r] σ).run P w=.ok v w:=by
 have:=wIo _ _ h
 rw [show (#[r]:Array ResultVar)=[r].toArray from rfl]
 simp only [wCY,aI,Sem.run_bind,Sem.run_map,this,Result.andThen_ok]
 simp
theorem resLn {P:Program} {w:World} {σ:Env} {rs:List ResultVar} {vs:List Value} (h:wRG P w σ rs vs) (hn:(vs.length == 1)=false):(wCY rs.toArray σ).run P w=.ok (.tuple vs.toArray) w:=by
 have:=wIo _ _ h
 simp only [wCY,aI]
 simp [this]
 exact fun e=>by rw [e] at hn;cases hn
theorem wMQ {P:Program} {w:World} {t T:TypeId} {b off n:Nat} {l vs:List Value} (hag:∀ w,(isAgg t).run P w=.ok true w) (hsz:∀ w,(sizeOf t).run P w=.ok n w) (hB:Blk w b T l)
  (hv:(l.drop off).take n=vs) (hn:vs.length=n):(loadVar t ⟨b,off,none⟩).run P w=.ok (.agg vs.toArray) w:=by
 simp [loadVar,hag,hsz,run_loadCells vs hn (hB.cells hv)]
section
variable {N:Nat} {P:Program} {l:List Oper} {Q:wCp} {D:List Deferred} {ks:List Nat} {σ:Env} {w:World} {i d:Nat} {s:Sch} {o:Oper} {B:Base} {U:PHeap} {L:List Res}
theorem OKS.buildSlice {t e n sz:Nat} {ps:List (Nat × Operand)} {pv:List (Nat × Value)} {z:Value} {zs cs:List Value} (ho:l[i]?=some o) (hd:o.dst=some d) (hN:nL d N=true) (hw:wanted l σ o=true) (hop:o.op=.buildSlice t n ps.toArray)
  (hp:nh (fun (p:Nat × Operand)=>(p.1,ev σ p.2)) ps=pv) (ht:∀ w,(underlying t).run P w=.ok (.slice e) w) (hs:∀ w,(sizeOf e).run P w=.ok sz w) (hz:∀ w,(zeroValue e).run P w=.ok z w)
  (hn:Nat.ble (n * sz) 16777216=true) (hn0:nL 0 (n * sz)=true)
  (hzs:(nP (n * sz)).map (fun i=>z.cells[i % z.cells.size]!)=zs) (hl:lay (fun i=>some (i * sz,sz)) zs pv=some cs) (hlen:cs.length=n * sz) (hS:St B U L w)
  (k:∀ w' b,St B U (.row (some ⟨b,0,none⟩) n e sz cs :: L) w'->OKS N P l Q D ks s (upd σ d (.slice (some ⟨b,0,none⟩) n n)) w'):OKS N P l Q D ks (.fx i s .stop) σ w:=by
 have hle:=kR hn
 have hn':¬ n * sz > 2 ^ 24:=by omega
 have hsz0:0 < n * sz:=by simpa [nZ] using hn0
 have hn0':¬ n * sz=0:=by omega
 have hf:=wDL _ _ _ _ hl
 have hzs:(Array.range (n * sz)).map (z.cells[· % z.cells.size]!)=zs.toArray:=by rw [<- List.toArray_range,kP,hzs]
 subst hp
 have hmax:n <= maxLen:=by
  have h1:0 < sz:=by
   rcases ny sz with h | h
   ·subst h;omega
   ·exact h
  have:=ko n h1
  have:(16777216:Nat) <= maxLen:=by decide
  omega
 refine OKS.v (v:=.slice (some ⟨w.heap.size,0,none⟩) n n) (w':=w.alloc (.cells cs.toArray e)) ho hd hN hw ⟨by rw [hop];rfl,?_⟩ (.inr (wAy w _))
  (k _ _ (hS.new (wAy w _) (.inr ⟨_,cs.toArray,rfl,wDK w cs e,by rw [hlen];exact nJ _,hmax,by simp [hlen],by simp⟩) rfl (nJ _)))
 simp only [execOp,hop,Instr.buildSlice,Sem.run_bind,ht,hs,hz,Result.andThen_ok,kP,if_neg hn',if_neg hn0',Sem.run_pure,hzs,hf]
 simp [newRow,newObj,Sem.run,Result.andThen]
theorem OKS.buildSlice0 {t e:Nat} (sz:Nat) (ho:l[i]?=some o) (hd:o.dst=some d) (hN:nL d N=true) (hw:wanted l σ o=true) (hop:o.op=.buildSlice t 0 #[])
  (ht:∀ w,(underlying t).run P w=.ok (.slice e) w) (hs:∀ w,(sizeOf e).run P w=.ok sz w) (hS:St B U L w)
  (k:∀ w' b,St B U (.row (some ⟨b,0,none⟩) 0 e sz [] :: L) w'->OKS N P l Q D ks s (upd σ d (.slice (some ⟨b,0,none⟩) 0 0)) w'):OKS N P l Q D ks (.fx i s .stop) σ w:=by
 refine OKS.v (v:=.slice (some ⟨w.heap.size,0,none⟩) 0 0) (w':=w.alloc (.cells #[] e)) ho hd hN hw ⟨by rw [hop];rfl,?_⟩ (.inr (wAy w _))
  (k _ _ (hS.new (wAy w _) (.inr ⟨_,#[],rfl,wDK w [] e,by simp,kw _,by simp,by simp⟩) rfl (nJ _)))
 simp [execOp,hop,Instr.buildSlice,ht,hs,newRow,newObj,Sem.run,Result.andThen,Instr.fill]
 rw [show (Array.range 0)=#[] from rfl,Array.map_empty]
theorem St.srcR {j c T sz m:Nat} {A:Option Addr} {cs:List Value} (hS:St B U L w) (hk:L[j]?=some (.row A c T sz cs)) (hz:0 < sz) (hn:cs.length=m * sz):m=0 \/ ∃ a,A=some a/\∀ j u,cs[j]?=some u->w.cell? (a.add j)=some u:=by
 rcases hS.at_ _ (hH hk) with ⟨_,_,rfl⟩ | ⟨b,cur,rfl,h1,h2,h3,h4,h5⟩
 ·left
  rcases ny m with h | h
  ·exact h
  ·have:=ky h hz;simp at hn;omega
 ·right
  refine ⟨_,rfl,fun j u hj=>?_⟩
  rw [wDl,kU]
  exact hS.rowCell hk hj
theorem St.srcS {sz c m:Nat} {A:Option Addr} {cs:List Value} (hS:St B U L w) (h:Sl U sz A c m cs):m=0 \/ ∃ a,A=some a/\∀ j u,cs[j]?=some u->w.cell? (a.add j)=some u:=by
 rcases h.mem with h0 | ⟨b,off,arr,T,fr,rfl,h2,h3⟩
 ·exact .inl h0
 ·right
  refine ⟨_,rfl,fun j u hj=>?_⟩
  rw [wDl]
  rw [<- h3,nQ] at hj
  split at hj
  ·rw [nS] at hj
   simpa [World.cell?,hS.fro _ _ h2] using hj
  ·cases hj
theorem St.pick (h:St B U L w) (js:List Nat) (L':List Res) (hn:js.Nodup) (hL:js.map (fun j=>L[j]?)=L'.map some):St B U L' w:=by
 have hlen:js.length=L'.length:=by have:=congrArg kz hL;simpa using this
 have get:∀ (i:Nat) (r:Res),L'[i]?=some r->∃ j,js[i]?=some j/\L[j]?=some r:=by
  intro i r hi
  have h1:(L'.map some)[i]?=some (some r):=by rw [ke,hi];rfl
  rw [<- hL,ke] at h1
  cases hj:js[i]? with
  | none=>rw [hj] at h1;cases h1
  | some j=>rw [hj] at h1;simp only [kr,nN] at h1;exact ⟨j,rfl,h1⟩
 have mem:∀ r ∈ L',r ∈ L:=fun r hr=>by
  obtain ⟨i,hi⟩:=nM hr
  obtain ⟨j,_,h2⟩:=get i r hi
  exact hH h2
 refine ⟨h.os,h.tape,h.output,h.size,h.old,h.fro,h.le,h.src,fun r hr=>h.at_ r (mem r hr),fun r hr=>h.own r (mem r hr),?_⟩
 intro i j r s b hi hj hr hs
 obtain ⟨i',h1,h2⟩:=get i r hi
 obtain ⟨j',h3,h4⟩:=get j s hj
 have:=h.dj _ _ r s b h2 h4 hr hs
 subst this
 exact (List.getElem?_inj (nA.1 h1).1 hn).1 (h1.trans h3.symm)
theorem wGX {α:Type} {enc:α->List Value} (h:∀ x,(enc x).all (·.oneCell')=true) (xs:List α):∀ u ∈ xs.flatMap enc,u.oneCell'=true:=by
 intro u hu
 obtain ⟨x,_,hx⟩:=List.mem_flatMap.1 hu
 exact nW.1 (h x) u hx
theorem OKS.append {α:Type} {t e sz j c c2 bytes:Nat} {A A2:Option Addr} {inf:TypeInfo} {z:Value} {x y:Operand} {enc:α->List Value} {xs ys zs:List α}
  (ho:l[i]?=some o) (hd:o.dst=some d) (hN:nL d N=true) (hw:wanted l σ o=true) (hop:o.op=.call { callee:=.builtin .append,args:=#[x,y],argTypes:=#[t,t] })
  (ht:P.underlying t=some (.slice e)) (hi:P.info? e=some inf) (hz:inf.zero=some z) (hsize:inf.size=sz) (hzs:z.cells.size=sz) (hsz:nL 0 sz=true) (hby:inf.bytes=bytes) (hb0:nL 0 bytes=true)
  (hS:St B U L w) (hk:L[j]?=some (.row A c e sz (xs.flatMap enc))) (hx:ev σ x=.slice A xs.length c) (hy:ev σ y=.slice A2 ys.length c2)
  (hsrc:ys.length=0 \/ ∃ a,A2=some a/\∀ j u,(ys.flatMap enc)[j]?=some u->w.cell? (a.add j)=some u) (hel:∀ x,(enc x).length=sz) (h1:∀ x,(enc x).all (·.oneCell')=true)
  (happ:app bytes xs ys=some zs) (hne:wIk (kOf ks i)=false)
  (k:∀ A' c' w',St B U (L.set j (.row A' c' e sz (zs.flatMap enc))) w'->OKS N P l Q D ks s (upd σ d (.slice A' zs.length c')) w'):OKS N P l Q D ks (.fx i s .stop) σ w:=by
 obtain ⟨rfl,hb⟩:=wMN happ
 have hb0':0 < bytes:=by simpa [nZ] using hb0
 have hsz':0 < sz:=by simpa [nZ] using hsz
 obtain ⟨A',c',w',r1,r2,r3,r4⟩:=wDa (P:=P) (ty:=o.type) (c2:=c2) ht hi hz hsize hzs hsz' (hS.at_ _ (hH hk)) (wAH hel xs) (wAH hel ys) hsrc (wGX h1 ys) (by rw [hby];exact hb) (by rw [hby];exact hb0')
 refine OKS.v (v:=.slice A' (xs ++ ys).length c') (w':=w') ho hd hN hw ⟨by rw [hop];rfl,?_⟩ (.inl hne) (k A' c' w' (hS.set hk r3 ?_ r4))
 ·rw [kJ]
  simp [execOp,hop,resolve,invoke,builtin,hx,hy,r1,Result.andThen]
 ·rw [aD];exact r2
end
section
variable {r:Option Nat} {N:Nat} {P:Program} {Q:wCp} {D:List Deferred} {σ:Env} {w:World}
theorem CK.forN {S B:Type} {c:Code} {body:Nat->S->Option (S ⊕ B)} {n:Nat} {s0:S} {b:S ⊕ B} (I:Nat->S->Env->World->Prop) (hm:forN body n 0 s0=some b) (h0:I 0 s0 σ w)
  (hs:∀ k s x σ w,k < n->I k s σ w->body k s=some x->(∀ b',x=.inr b'->b=.inr b')->CK r N P c (wEz (fun D' σ' w'=>D'=D/\∃ s',x=.inl s'/\I (k + 1) s' σ' w') Q) D σ w)
  (he:∀ s σ w,I n s σ w->b=.inl s->CK r N P c (wEz (fun _ _ _=>False) Q) D σ w):CK r N P (.loop c) Q D σ w:=by
 refine CK.loopM (fun m σ w=>∃ k s,k + m=n/\KL.forN body m k s=some b/\I k s σ w) (m:=n) ⟨0,s0,by omega,hm,h0⟩ ?_
 rintro m σ w ⟨k,s,hk,hf,hI⟩
 cases m with
 | zero =>
  have e:k=n:=by omega
  subst e
  simp only [KL.forN,nN] at hf
  refine (he s σ w hI hf.symm).mono fun D' e σ' w' hq=>?_
  cases e with
  | normal=>exact hq.elim
  | _=>exact hq
 | succ m =>
  rw [KL.forN] at hf
  cases hx:body k s with
  | none=>rw [hx] at hf;cases hf
  | some x =>
   rw [hx] at hf
   refine (hs k s x σ w (by omega) hI hx ?_).mono fun D' e σ' w' hq=>?_
   ·rintro b' rfl;injection hf with hf;exact hf.symm
   ·cases e with
    | normal =>
     obtain ⟨rfl,s',rfl,hI'⟩:=hq
     exact ⟨rfl,m,by omega,k + 1,s',by omega,hf,hI'⟩
    | _=>exact hq
theorem CK.forN' {S:Type} {c:Code} {body:Nat->S->Option S} {n:Nat} {s0 b:S} (I:Nat->S->Env->World->Prop) (hm:forN' body n 0 s0=some b) (h0:I 0 s0 σ w)
  (hs:∀ k s x σ w,k < n->I k s σ w->body k s=some x->CK r N P c (wEz (fun D' σ' w'=>D'=D/\I (k + 1) x σ' w') Q) D σ w)
  (he:∀ σ w,I n b σ w->CK r N P c (wEz (fun _ _ _=>False) Q) D σ w):CK r N P (.loop c) Q D σ w:=by
 refine CK.loopM (fun m σ w=>∃ k s,k + m=n/\KL.forN' body m k s=some b/\I k s σ w) (m:=n) ⟨0,s0,by omega,hm,h0⟩ ?_
 rintro m σ w ⟨k,s,hk,hf,hI⟩
 cases m with
 | zero =>
  have e:k=n:=by omega
  subst e
  simp only [KL.forN',nN] at hf
  subst hf
  refine (he σ w hI).mono fun D' e σ' w' hq=>?_
  cases e with
  | normal=>exact hq.elim
  | _=>exact hq
 | succ m =>
  rw [KL.forN'] at hf
  cases hx:body k s with
  | none=>rw [hx] at hf;cases hf
  | some x =>
   rw [hx] at hf
   refine (hs k s x σ w (by omega) hI hx).mono fun D' e σ' w' hq=>?_
   cases e with
   | normal =>
    obtain ⟨rfl,hI'⟩:=hq
    exact ⟨rfl,m,by omega,k + 1,x,by omega,hf,hI'⟩
   | _=>exact hq
theorem CK.iter {S B:Type} {c:Code} {body:S->Option (S ⊕ B)} {n:Nat} {s0:S} {b:B} (I:S->Env->World->Prop) (hm:iter body n s0=some b) (h0:I s0 σ w)
  (hs:∀ s x σ w,I s σ w->body s=some x->(∀ b',x=.inr b'->b=b')->CK r N P c (wEz (fun D' σ' w'=>D'=D/\∃ s',x=.inl s'/\I s' σ' w') Q) D σ w):CK r N P (.loop c) Q D σ w:=by
 refine CK.loopM (fun m σ w=>∃ s,KL.iter body m s=some b/\I s σ w) (m:=n) ⟨s0,hm,h0⟩ ?_
 rintro m σ w ⟨s,hf,hI⟩
 cases m with
 | zero=>cases hf
 | succ m =>
  rw [KL.iter] at hf
  cases hx:body s with
  | none=>rw [hx] at hf;cases hf
  | some x =>
   rw [hx] at hf
   refine (hs s x σ w hI hx ?_).mono fun D' e σ' w' hq=>?_
   ·rintro b' rfl;injection hf with hf;exact hf.symm
   ·cases e with
    | normal =>
     obtain ⟨rfl,s',rfl,hI'⟩:=hq
     exact ⟨rfl,m,by omega,s',hf,hI'⟩
    | _=>exact hq
end
def encI (x:Int):List Value:=[.int .i64 x]
theorem OKS.e {N:Nat} {P:Program} {l:List Oper} {Q:wCp} {D:List Deferred} {ks:List Nat} {σ:Env} {w:World} (h:Q D .normal σ w):OKS N P l Q D ks .nil σ w:=h
theorem Runs.notT {P:Program} {σ:Env} {w:World} {o:Oper} {t:TypeId} {x:Operand} {b:Bool} (ho:o.op=.unOp .not t x) (hx:ev σ x=.bool b):Runs P σ w o (.bool !b) w:=Runs.not ho hx
section
variable {α:Type} {f:α->List Value} {sz:Nat}
theorem wAh (hf:∀ x,(f x).length=sz) (l:List α) (k j:Nat) (x:α) {off:Nat} {v:Value} (hx:l[k]?=some x) (ho:off=k * sz + j) (hv:(f x)[j]?=some v):(l.flatMap f)[off]?=some v:=by
 subst ho;exact wFb hf l k j x v hx hv
theorem wJd (hf:∀ x,(f x).length=sz) {fo:Nat} (l:List α) (k:Nat) (x y:α) {off:Nat} {vs:List Value} (hx:l[k]?=some x) (ho:off=k * sz + fo) (hle:fo + vs.length <= sz) (hs:wCR (f x) fo vs=f y):wCR (l.flatMap f) off vs=(l.set k y).flatMap f:=by
 subst ho;exact wFl hf l k x y hx hle hs
theorem wIp {n N:Nat} (m:Arr α n) (hf:∀ x,(f x).length=sz) (h:n * sz=N):(m.l.flatMap f).length=N:=by rw [wAH hf,m.h,h]
end
section
variable {N:Nat} {P:Program} {l:List Oper} {Q:wCp} {D:List Deferred} {ks:List Nat} {σ:Env} {w:World} {i d:Nat} {s:Sch} {o:Oper} {B:Base} {U:PHeap} {L:List Res}
theorem OKS.cutD {s0:Sch} {σ0:Env} {w0:World} (s:Sch) (M:Env->World->Prop) (h:∀ σ w,M σ w->OKS N P l Q D ks s σ w) (k:(∀ σ w,M σ w->OKS N P l Q D ks s σ w)->OKS N P l Q D ks s0 σ0 w0):OKS N P l Q D ks s0 σ0 w0:=k h
end
end Go.KL
namespace Go.KL
open Go.RowKit
def FnOK {X Y:Type} (P:Program) (U:PHeap) (v:Value) (AR:PHeap->X->List Value->Prop) (RR:PHeap->List Res->Value->Y->Prop) (h:X->Option Y):Prop :=
 ∃ fid fst cap,v=.func (.func fid) (List.toArray fst) (List.toArray cap)/\(∀ (args:Array Value) (w:World),(callFunc fid args).run P w=.ok (.enter fid args) w) /\
  ∀ U1 w1 x y vs,PHeap.Le U U1->St ⟨w1,[],U1⟩ U1 [] w1->AR U1 x vs->h x=some y->Gv P fid (fst ++ vs ++ cap) w1 (wCQ w1 [] U1 fun U_ L_ v=>RR U_ L_ v y)
section
variable {N:Nat} {P:Program} {l:List Oper} {Q:wCp} {D:List Deferred} {ks:List Nat} {σ:Env} {w:World} {i d:Nat} {s:Sch} {o:Oper} {B:Base} {U:PHeap} {L:List Res}
theorem FnOK.le {X Y:Type} {U U':PHeap} {v:Value} {AR:PHeap->X->List Value->Prop} {RR:PHeap->List Res->Value->Y->Prop} {h:X->Option Y} (hF:FnOK P U v AR RR h) (hl:PHeap.Le U U'):FnOK P U' v AR RR h:=by
 obtain ⟨fid,fst,cap,e,hc,hg⟩:=hF
 exact ⟨fid,fst,cap,e,hc,fun U1 w1 x y vs h1=>hg U1 w1 x y vs (hl.trans h1)⟩
theorem FnOK.cells {X Y:Type} {v:Value} {AR:PHeap->X->List Value->Prop} {RR:PHeap->List Res->Value->Y->Prop} {h:X->Option Y} (hF:FnOK P U v AR RR h):v.cells=[v].toArray:=by
 obtain ⟨fid,fst,cap,rfl,_⟩:=hF;rfl
theorem OKS.callV {X Y:Type} {x:Operand} {al:List Operand} {ty:Array TypeId} {v:Value} {vs:List Value} {AR:PHeap->X->List Value->Prop} {RR:PHeap->List Res->Value->Y->Prop} {h:X->Option Y} {a:X} {y:Y}
  (ho:l[i]?=some o) (hd:o.dst=some d) (hN:nL d N=true) (hw:wanted l σ o=true) (hop:o.op=.call { callee:=.value x,args:=al.toArray,argTypes:=ty }) (hx:ev σ x=v) (hl:nh (ev σ) al=vs)
  (hS:St B U L w) (hF:FnOK P U v AR RR h) (hA:AR U a vs) (hm:h a=some y)
  (k:∀ U' L' v w',PHeap.Le U U'->St B U' (L' ++ L) w'->RR U' L' v y->OKS N P l Q D ks s (upd σ d v) w'):OKS N P l Q D ks (.fx i s .stop) σ w:=by
 obtain ⟨fid,fst,cap,rfl,hc,hg⟩:=hF
 exact OKS.callH 0 ho hd hN hw (Enters.mk hop hx hc hl rfl) hS (fun hs=>hg U w a y vs (PHeap.Le.refl U) hs hA hm) (.inr rfl) k
theorem Sl.nilA {sz c n:Nat} {cs:List Value} (h:Sl U sz none c n cs):n=0:=by
 rcases h.mem with h | ⟨b,off,arr,T,fr,h,_⟩
 ·exact h
 ·cases h
theorem nilSl {t:TypeId} {u:TypeDesc} (ht:∀ w,(underlying t).run P w=.ok u w) {e:TypeId} (hu:u=.slice e) (A:Option Addr) (n c:Nat) (w:World):(Op.equal t (.slice A n c) (.slice none 0 0)).run P w=.ok A.isNone w:=by
 unfold Op.equal Op.maxDepth
 subst hu
 rw [show (10000:Nat)=9999 + 1 from rfl,Op.equalIn]
 simp only [Sem.run_bind,ht,Result.andThen_ok]
 cases A <;> rfl
theorem Runs.eqNil {t u:TypeId} {x y:Operand} {A:Option Addr} {n c e:Nat} (ho:o.op=.binOp .eql t x y u) (hx:ev σ x=.slice A n c) (hy:ev σ y=.slice none 0 0) (ht:∀ w,(underlying t).run P w=.ok (.slice e) w):Runs P σ w o (.bool A.isNone) w :=
 ⟨by rw [ho];rfl,by simp [execOp,ho,hx,hy,binOp,eqGuard,nilSl ht rfl A n c]⟩
structure Rl (α:Type) where
 sz:Nat
 r:PHeap->α->List Value->Prop
 mono:∀ U U' x vs,r U x vs->PHeap.Le U U'->r U' x vs
 len:∀ U x vs,r U x vs->vs.length=sz
 one:∀ U x vs,r U x vs->vs.all (·.oneCell')=true
def RlL {α:Type} (U:PHeap) (R:Rl α) (xs:List α) (cs:List Value):Prop :=
 ∃ vss:List (List Value),vss.length=xs.length/\(∀ (i:Nat) (x:α) (vs:List Value),xs[i]?=some x->vss[i]?=some vs->R.r U x vs)/\cs=vss.flatten
theorem RlL.le {α:Type} {U U':PHeap} {R:Rl α} {xs:List α} {cs:List Value} (h:RlL U R xs cs) (hl:PHeap.Le U U'):RlL U' R xs cs:=by
 obtain ⟨vss,h1,h2,h3⟩:=h
 exact ⟨vss,h1,fun i x vs hx hv=>R.mono U U' x vs (h2 i x vs hx hv) hl,h3⟩
theorem wJe {vss:List (List Value)} {sz:Nat} (h:∀ vs ∈ vss,vs.length=sz):vss.flatten.length=vss.length * sz:=by
 induction vss with
 | nil=>simp
 | cons v l ih=>rw [kf,kJ,ih fun vs hv=>h vs (by simp [hv]),h v (by simp),kM,nl];omega
theorem wHj {sz:Nat}:∀ {vss:List (List Value)} (_:∀ vs ∈ vss,vs.length=sz) (i j:Nat) (vs:List Value) (v:Value),vss[i]?=some vs->vs[j]?=some v->vss.flatten[i * sz + j]?=some v
 | [],_,i,j,vs,v,hi,_=>by simp at hi
 | u :: l,h,0,j,vs,v,hi,hj=>by
  simp at hi;subst hi
  rw [kf,kj,kU,nD (nA.1 hj).1];exact hj
 | u :: l,h,i + 1,j,vs,v,hi,hj=>by
  have ih:=wHj (vss:=l) (fun vs hv=>h vs (by simp [hv])) i j vs v (by simpa using hi) hj
  have hu:=h u (by simp)
  rw [kf,nH (by rw [hu,nl];omega),hu,show (i + 1) * sz + j - sz=i * sz + j from by rw [nl];omega]
  exact ih
theorem RlL.each {α:Type} {R:Rl α} {xs:List α} {vss:List (List Value)} (h1:vss.length=xs.length) (h2:∀ (i:Nat) (x:α) (vs:List Value),xs[i]?=some x->vss[i]?=some vs->R.r U x vs):∀ vs ∈ vss,∃ x,R.r U x vs:=by
 intro vs hv
 obtain ⟨i,hi⟩:=nM hv
 have hlt:=(nA.1 hi).1
 exact ⟨xs[i]'(by omega),h2 i _ vs (nB (by omega)) hi⟩
theorem RlL.len {α:Type} {R:Rl α} {xs:List α} {cs:List Value} (h:RlL U R xs cs):cs.length=xs.length * R.sz:=by
 obtain ⟨vss,h1,h2,rfl⟩:=h
 rw [wJe (sz:=R.sz) fun vs hv=>by obtain ⟨x,hx⟩:=RlL.each h1 h2 vs hv;exact R.len _ _ _ hx,h1]
theorem RlL.nil {α:Type} {R:Rl α}:RlL U R ([]:List α) []:=⟨[],rfl,fun i x vs hx=>by simp at hx,rfl⟩
theorem RlL.cons {α:Type} {R:Rl α} {x:α} {xs:List α} {vs cs:List Value} (h0:R.r U x vs) (h:RlL U R xs cs):RlL U R (x :: xs) (vs ++ cs):=by
 obtain ⟨vss,h1,h2,rfl⟩:=h
 refine ⟨vs :: vss,by simp [h1],fun i y us hy hu=>?_,by simp⟩
 cases i with
 | zero=>simp at hy hu;subst hy hu;exact h0
 | succ i=>exact h2 i y us (by simpa using hy) (by simpa using hu)
def SlR {α:Type} (U:PHeap) (R:Rl α) (A:Option Addr) (c:Nat) (xs:List α):Prop:=∃ cs,Sl U R.sz A c xs.length cs/\RlL U R xs cs
theorem SlR.le {α:Type} {U U':PHeap} {R:Rl α} {A:Option Addr} {c:Nat} {xs:List α} (h:SlR U R A c xs) (hl:PHeap.Le U U'):SlR U' R A c xs:=by
 obtain ⟨cs,h1,h2⟩:=h;exact ⟨cs,h1.le hl,h2.le hl⟩
theorem SlR.nil {α:Type} {R:Rl α} {A:Option Addr} {c:Nat}:SlR U R A c ([]:List α):=⟨[],Sl.nil _ _ _ _,RlL.nil⟩
theorem SlR.el {α:Type} {R:Rl α} {A:Option Addr} {c:Nat} {xs:List α} (h:SlR U R A c xs) {k:Nat} {x:α} (hx:xs[k]?=some x) :
  ∃ b off vs,A=some ⟨b,off,none⟩/\Cl U b (off + k * R.sz) vs/\R.r U x vs:=by
 obtain ⟨cs,h1,vss,g1,g2,rfl⟩:=h
 have hlt:=(nA.1 hx).1
 have hv:vss[k]?=some (vss[k]'(by omega)):=nB (by omega)
 rcases h1.mem with h0 | ⟨b,off,arr,T,fr,hA,h2,h3⟩
 ·omega
 ·refine ⟨b,off,vss[k]'(by omega),hA,⟨arr,T,fr,h2,fun j v hj=>?_⟩,g2 k x _ hx hv⟩
  have:=wHj (sz:=R.sz) (fun vs hv=>by obtain ⟨y,hy⟩:=RlL.each g1 g2 vs hv;exact R.len _ _ _ hy) k j _ v hv hj
  rw [<- h3,nQ] at this
  split at this
  ·rw [nS] at this
   rw [show off + k * R.sz + j=off + (k * R.sz + j) from by omega]
   simpa using this
  ·cases this
theorem St.freezeRR {α:Type} {R:Rl α} {k c T sz:Nat} {A:Option Addr} {cs:List Value} {xs:List α} (h:St B U L w) (hk:L[k]?=some (.row A c T sz cs)) (hr:RlL U R xs cs) (hsz:R.sz=sz) (hz:0 < sz) :
  ∃ U',PHeap.Le U U'/\SlR U' R A c xs/\St B U' (L.eraseIdx k) w:=by
 subst hsz
 obtain ⟨U',h1,h2,h3⟩:=h.freezeR (n:=xs.length) hk hr.len hz
 exact ⟨U',h1,⟨cs,h2,hr.le h1⟩,h3⟩
end
end Go.KL
namespace Go
section
variable {F:Fence} {n:Nat} {P:Program} {b:Frame} {a:Act} {k:List Item} {cs:List Frame} {w:World} {Q:Exit->Act->World->Prop}
theorem wCk {c:Code}:step P (lone (b.atR a (.code (.scope c) :: k)) cs w)=.next (lone (b.atR a (.code c :: .inScope c :: k)) cs w) :=
 step_lone_go (by simp [stepG,stepG.exec,Frame.atR])
theorem wIJ {c:Code}:step P (lone (b.atR a (.inScope c :: k)) cs w)=.next (lone (b.atR a k) cs w) :=
 step_lone_go (by simp [stepG,stepG.exec,Frame.atR])
theorem wEh {c:Code} (h:c.wpIn F n P (fun e a w=>match e with | .goto _=>False | e=>Q e a w) a w):(Code.scope c).wpIn F n P Q a w:=by
 intro b k cs hro hb hr
 have h0:(lone (b.atR a (.code (.scope c) :: k)) cs w).fenced P F:=fenced_calm hb hr rfl
 obtain ⟨e,a₁,w₁,hq,harr⟩:=h b (.inScope c :: k) cs hro hb hr
 cases e with
 | normal=>exact ⟨.normal,a₁,w₁,hq,.head h0 wCk (StepsIn.trans harr (.one (fenced_calm hb hr rfl) wIJ))⟩
 | exit id' =>
  have hx:exitTo id' (.inScope c :: k)=exitTo id' k:=by simp [exitTo]
  exact ⟨.exit id',a₁,w₁,hq,fun k' hk=>.head h0 wCk (harr.1 k' (by rw [hx];exact hk)),
   fun hr' hk=>let ⟨k₁,h1,h2⟩:=harr.2 hr' (by rw [hx];exact hk);⟨k₁,h1,.head h0 wCk h2⟩⟩
 | goto l=>exact hq.elim
 | ret=>exact ⟨_,a₁,w₁,hq,.of_steps (.one h0 wCk) harr⟩
 | panic ch=>exact ⟨_,a₁,w₁,hq,.of_steps (.one h0 wCk) harr⟩
 | outgrown=>exact ⟨_,a₁,w₁,hq,.of_steps (.one h0 wCk) harr⟩
end
end Go
namespace Go.KL
open Go.RowKit
def wPM (Q:wCp):wCp:=fun D e σ w=>match e with
 | .goto _=>False
 | e=>Q D e σ w
section
variable {r:Option Nat} {N:Nat} {P:Program} {Q:wCp} {D:List Deferred} {σ:Env} {w:World}
theorem CK.scope {c:Code} (h:CK r N P c (wPM Q) D σ w):CK r N P (.scope c) Q D σ w:=by
 intro a ha
 refine wEh (wpIn_mono (h a ha) ?_)
 rintro e a w ⟨σ,D,hr,q⟩
 cases e with
 | goto l=>exact q.elim
 | _=>exact ⟨σ,D,hr,q⟩
theorem wKe (h:Q D .ret σ w):wPM Q D .ret σ w:=h
end
def MpR {K V:Type} (es:Array MapEntry) (mk:K->Value) (mv:V->Value) (l:List (K × V)):Prop:=es.toList.map (fun e=>(e.key,e.val))=l.map fun p=>(mk p.1,mv p.2)
structure KeyR {K:Type} [DecidableEq K] (P:Program) (kt:TypeId) (mk:K->Value):Prop where
 chk:∀ em x w,(Instr.checkKey em 10000 kt (mk x)).run P w=.ok () w
 same:∀ x,Instr.sameBits 10000 (mk x) (mk x)=true
 find:∀ {V:Type} (mv:V->Value) (es:List MapEntry) (l:List (K × V)) x w,es.map (fun e=>(e.key,e.val))=l.map (fun p=>(mk p.1,mv p.2))->(Instr.findKey kt (mk x) es).run P w=.ok ((wDB l x 0).map fun p=>(p.1,mv p.2)) w
section
variable {K V:Type} [DecidableEq K]
theorem wHV {P:Program} {kt:TypeId} {mk:K->Value} {mv:V->Value} (heq:∀ x y w,(Op.equal kt (mk x) (mk y)).run P w=.ok (decide (x=y)) w) (l:List (K × V)) (x:K) (w:World) :
  ∀ (es:List MapEntry) (i:Nat),es.map (fun e=>(e.key,e.val))=l.map (fun p=>(mk p.1,mv p.2))->(Instr.findAsking kt (mk x) es i).run P w=.ok ((wDB l x i).map fun p=>(p.1,mv p.2)) w:=by
 induction l with
 | nil=>intro es i h;cases es with
  | nil=>rfl
  | cons e es=>cases h
 | cons p l ih =>
  intro es i h
  cases es with
  | nil=>cases h
  | cons e es =>
   simp only [ni,ku,aC] at h
   obtain ⟨⟨h1,h2⟩,h3⟩:=h
   obtain ⟨a,v⟩:=p
   simp only at h1 h2
   simp only [Instr.findAsking,Sem.run_bind,h1,heq,Result.andThen,wDB]
   by_cases e:x=a <;> simp [e,h2,ih es (i + 1) h3]
theorem KeyR.ofStruct {P:Program} {kt:TypeId} {mk:K->Value} {fs:Array Field} (hu:P.underlying kt=some (.struct fs)) (hc:∀ em x w,(Instr.checkKey em 10000 kt (mk x)).run P w=.ok () w) (hs:∀ x,Instr.sameBits 10000 (mk x) (mk x)=true)
  (heq:∀ x y w,(Op.equal kt (mk x) (mk y)).run P w=.ok (decide (x=y)) w):KeyR P kt mk:=by
 refine ⟨hc,hs,fun mv es l x w h=>?_⟩
 simp only [Instr.findKey,Sem.run_bind,run_underlying hu,Result.andThen]
 have hf:=wHV heq l x w es 0 h
 cases es with
 | nil=>cases l with
  | nil=>simp [Instr.findNow,wDB]
  | cons p l=>cases h
 | cons e es =>
  simp only [Instr.findNow,Instr.sameNow]
  exact hf
theorem KeyR.ofInt {P:Program} {kt:TypeId} {k:IntKind} (hu:P.underlying kt=some (.int k)):KeyR P kt (fun n:Int=>aG k n):=by
 refine ⟨fun em x w=>?_,fun x=>by simp [Instr.sameBits],fun {V} mv es l x w h=>?_⟩
 ·rw [show (10000:Nat)=9999 + 1 from rfl,Instr.checkKey]
  simp only [Sem.run_bind,run_underlying hu,Result.andThen]
  rfl
 ·have key:∀ (l:List (Int × V)) (es:List MapEntry) (i:Nat),es.map (fun e=>(e.key,e.val))=l.map (fun p=>(aG k p.1,mv p.2))->Instr.findNow (.int k) (.int k x) es i=some ((wDB l x i).map fun p=>(p.1,mv p.2)):=by
   intro l
   induction l with
   | nil=>intro es i h;cases es with
    | nil=>rfl
    | cons e es=>cases h
   | cons p l ih =>
    intro es i h
    cases es with
    | nil=>cases h
    | cons e es =>
     simp only [ni,ku,aC] at h
     obtain ⟨⟨h1,h2⟩,h3⟩:=h
     obtain ⟨a,v⟩:=p
     simp only at h1 h2
     simp only [Instr.findNow,h1,Instr.sameNow,wDB,if_true]
     by_cases e:x=a
     ·subst e;simp [h2]
     ·have hb:(x == a)=false:=by simpa using e
      simp [e,hb,ih es (i + 1) h3]
  simp only [Instr.findKey,Sem.run_bind,run_underlying hu,Result.andThen,key l es 0 h]
  rfl
variable {N:Nat} {P:Program} {l:List Oper} {Q:wCp} {D:List Deferred} {ks:List Nat} {σ:Env} {w:World} {i d:Nat} {s:Sch} {o:Oper} {B:Base} {U:PHeap} {L:List Res}
omit [DecidableEq K] in
theorem OKS.both {alt:Sch} (h1:OKS N P l Q D ks (.fx i s .stop) σ w) (h2:OKS N P l Q D ks alt σ w):OKS N P l Q D ks (.fx i s alt) σ w:=⟨h1.1,h2⟩
theorem wCF (w:World) (r:Nat) (o:Obj):Keep w (w.putObj r o) (·=r):=⟨rfl,⟨rfl,nJ _⟩,rfl,by simp,fun k _ hx=>World.putObj_heap_other hx⟩
theorem wGY {w:World} {m:Nat} (o:Obj) (h:m < w.heap.size):(w.putObj m o).heap[m]?=some o:=by
 simp [World.putObj,h]
theorem wDn {α β:Type} (f:α->β):∀ (l:List α) (q:Nat),(l.map f).eraseIdx q=(l.eraseIdx q).map f
 | [],_=>rfl
 | _ :: _,0=>rfl
 | a :: l,q + 1=>by simp [wDn f l q]
end
section
variable {P:Program} {t ti:TypeId} {f g:Field} {k:IntKind}
structure Two (P:Program) (t ti:TypeId) (f g:Field) (k:IntKind):Prop where
 str:P.underlying t=some (.struct #[f,g])
 f1:f.type=ti
 f2:f.offset=0
 f3 : f.name ≠ "_"
 g1:g.type=ti
 g2:g.offset=1
 g3 : g.name ≠ "_"
 int:P.underlying ti=some (.int k)
 agg:∀ w,(isAgg ti).run P w=.ok false w
 held:P.stoodInHeld t=false
theorem Two.eq (h:Two P t ti f g k) (a b c d:Int) (w:World):(Op.equalIn 10000 t (.agg #[.int k a,.int k b]) (.agg #[.int k c,.int k d])).run P w=.ok (decide (a=c/\b=d)) w:=by
 have hf:P.fieldsOf t=#[f,g]:=by unfold Program.fieldsOf;rw [h.str]
 rw [show (10000:Nat)=9999 + 1 from rfl,run_equalIn_agg w 9999 t _ _ (by rw [hf];exact h.str) h.held,hf]
 simp [Op.eqFields,h.f1,h.f2,h.f3,h.g1,h.g2,h.g3,part,h.agg,run_equalIn_int w 9998 ti k k _ _ h.int,Result.andThen]
 by_cases h1:a=c <;> by_cases h2:b=d <;> simp [h1,h2,h.agg,run_equalIn_int w 9998 ti k k _ _ h.int]
theorem Two.chk (h:Two P t ti f g k) (em:Bool) (a b:Int) (w:World):(Instr.checkKey em 10000 t (.agg #[.int k a,.int k b])).run P w=.ok () w:=by
 rw [show (10000:Nat)=9998 + 1 + 1 from rfl,Instr.checkKey]
 simp only [Sem.run_bind,run_underlying h.str,Result.andThen]
 have hi:∀ v,(Instr.checkKey em (9998 + 1) ti (.int k v)).run P w=.ok () w:=by
  intro v
  rw [Instr.checkKey]
  simp only [Sem.run_bind,run_underlying h.int,Result.andThen]
  rfl
 have hp:∀ i v,(#[aG k a,aG k b]:Array Value)[i]?=some v->(part ti #[.int k a,.int k b] i).run P w=.ok v w:=by
  intro i v hv
  simp [part,h.agg,hv,Result.andThen]
 simp [h.f1,h.f2,h.f3,h.g1,h.g2,h.g3,hp 0 _ rfl,hp 1 _ rfl,hi,Result.andThen]
theorem Two.keyR {α:Type} [DecidableEq α] (h:Two P t ti f g k) (e:α->Value) (p q:α->Int) (he:∀ x,e x=.agg #[.int k (p x),.int k (q x)]) (hx:∀ x y,p x=p y->q x=q y->x=y):KeyR P t e:=by
 refine KeyR.ofStruct h.str (fun em x w=>?_) (fun x=>?_) (fun x y w=>?_)
 ·rw [he];exact h.chk em _ _ w
 ·rw [he];simp [Instr.sameBits]
 ·rw [he,he];unfold Op.equal Op.maxDepth;rw [h.eq]
  congr 1
  exact decide_eq_decide.2 ⟨fun h=>hx x y h.1 h.2,fun h=>by subst h;exact ⟨rfl,rfl⟩⟩
end
theorem wEG {P:Program} {t:TypeId} {d:TypeDesc} (h:∀ w:World,(underlying t).run P w=.ok d w):P.underlying t=some d:=by
 have h0:=h (default:World)
 cases e:P.underlying t with
 | none=>simp [underlying,e] at h0
 | some d' =>
  have h1:=run_underlying e (default:World)
  rw [h1] at h0
  injection h0 with h2 h3
  rw [h2]
end Go.KL
namespace Go.KL
open Go.RowKit
section
variable {N:Nat} {P:Program} {l:List Oper} {Q:wCp} {D:List Deferred} {ks:List Nat} {σ:Env} {w:World} {i d:Nat} {s:Sch} {o:Oper} {B:Base} {U:PHeap} {L:List Res}
theorem wIK (v:Value) (n:Nat):madeCells #[v] n=(nY n v).toArray:=by
 apply Array.ext'
 simp [madeCells,Nat.mod_one,kV]
theorem wFI {α:Type} {enc:α->List Value} {z:α} {v:Value} (h:enc z=[v]) (n:Nat):ng enc (nY n z)=nY n v:=by
 induction n with
 | zero=>rfl
 | succ n ih=>rw [List.replicate_succ,nG,ih,h];rfl
theorem OKS.makeSlice {α:Type} {t e:TypeId} {inf:TypeInfo} {x y:Operand} {n:Int} {v:Value} {enc:α->List Value} {z:α} {xs:List α} (ho:l[i]?=some o) (hd:o.dst=some d) (hN:nL d N=true) (hw:wanted l σ o=true) (hop:o.op=.makeSlice t x y)
  (ht:P.underlying t=some (.slice e)) (hi:P.info? e=some inf) (hz:inf.zero=some v) (hc:v.cells=#[v]) (hs:inf.size=1) (henc:enc z=[v]) (hx:ev σ x=.int .i64 n) (hy:ev σ y=.int .i64 n) (hm:mkz inf.bytes n z=some xs) (hS:St B U L w)
  (k:∀ w' b,St B U (.row (some ⟨b,0,none⟩) xs.length e 1 (ng enc xs) :: L) w'->OKS N P l Q D ks s (upd σ d (.slice (some ⟨b,0,none⟩) xs.length xs.length)) w'):OKS N P l Q D ks (.fx i s .stop) σ w:=by
 unfold mkz at hm
 split at hm
 ·rename_i h
  obtain ⟨h0,h1,h2⟩:=h
  cases hm
  obtain ⟨m,rfl⟩:=Int.eq_ofNat_of_zero_le h0
  have hr:=run_makeSlice (P:=P) w t e inf _ ht hi hz .i64 .i64 (m:Int) (m:Int) (by omega) (by omega) (by rw [hs,kg];omega) h2 (by omega)
  simp only [hs,kg,Nat.mul_one,hc,wIK] at hr
  simp only [kg,List.length_replicate,wFI henc] at k
  have hmax:m <= maxLen:=by
   have h16:(16777216:Nat) <= maxLen:=by decide
   omega
  refine OKS.v (v:=.slice (some ⟨w.heap.size,0,none⟩) m m) (w':=w.alloc (.cells (nY m v).toArray e)) ho hd hN hw ⟨by rw [hop];rfl,?_⟩ (.inr (wAy w _))
   (k _ _ (hS.new (wAy w _) (.inr ⟨_,(nY m v).toArray,rfl,wDK w _ e,by simp,hmax,by simp,by simp⟩) rfl (nJ _)))
  simp [execOp,hop,hx,hy,hr,Result.andThen]
 ·cases hm
end
end Go.KL
namespace Go.KL
open Go.ChangeShapes Go.WideShapes Go.ChangeAt Go.RowKit
variable {H:Type} {enc:TypeId × Value->H} {P:Program}
theorem St.start (W:World):St ⟨W,[],fun b=>W.heap[b]?⟩ (fun b=>W.heap[b]?) [] W where
 os:=rfl
 tape:=TapeLe.refl W
 output:=rfl
 size:=nJ _
 old:=fun _ _ _=>rfl
 fro:=fun _ _ h=>h
 le:=fun _ _ h=>h
 src:=fun _ _ h=>.inl h
 at_:=fun _ h=>by cases h
 own:=fun _ h=>by cases h
 dj:=fun i j r s b h=>by simp at h
theorem wFJ (hl:laidOutB P=true) {W W':World} (hb:Below W.heap.size W W') {sp:Nat->Bool}:∀ {ts:List TypeId} {vs:List Value} {ds:List (DataW H)} {ps:List MemPlace},
  (∀ t ∈ ts,P.readableRec t=true/\t < P.types.size)->DataW.TrodAll enc P W 0 (fun _=>true) true ts vs ds ps->(∀ p ∈ ps,p.block < W.heap.size)->(∀ p ∈ ps,sp p.block=true)->DataW.TrodAll enc P W' 0 sp true ts vs ds ps
 | [],[],[],_,_,h,_,_=>h
 | _ :: _,_ :: _,_ :: _,_,hT,⟨p,q,h1,h2,e⟩,hlt,hs =>
  ⟨p,q,WideElems.Trod_stays hl (hT _ (nI.2 (Or.inl rfl))).1 (hT _ (nI.2 (Or.inl rfl))).2 h1 (fun x hx=>hb.same (hlt x (by rw [e];exact nk _ hx))) (fun x hx=>hs x (by rw [e];exact nk _ hx)),
   wFJ hl hb (fun t ht=>hT t (nI.2 (Or.inr ht))) h2 (fun x hx=>hlt x (by rw [e];exact kB _ hx)) (fun x hx=>hs x (by rw [e];exact kB _ hx)),e⟩
theorem wMR {f:Func} {s:ChangeSpec} {apart fresh handsOn again:Bool} {W W':World} {args:Array Value} {ds gs:List (DataW H)} {before:List MemPlace}
  (hW:DataW.Whole enc P f.params.toList s.vars apart W args.toList ds gs before) (hv:s.vars=[]) (hl:laidOutB P=true) (hT:∀ t ∈ f.params.toList,P.readableRec t=true/\t < P.types.size)
  {t:TypeId} (hr:f.resultTypes=#[t]) (ht:P.underlying t=some .bool) (b:Bool) (h1:(s.fn H (ds ++ gs)).results=[.lit (.bool b)]) (h2:(s.fn H (ds ++ gs)).args=ds) (h3:(s.fn H (ds ++ gs)).vars=[])
  (hk:Keep W W' Non):s.post enc P f apart fresh handsOn again W args (.bool b) W':=by
 have hlt:=hW.lt
 have hW0:=hW
 obtain ⟨p,q,hA,hV,rfl,hz,hn⟩:=hW
 rw [hv] at hV
 obtain ⟨rfl,rfl⟩:=trodVars_none hV
 simp only [kv] at hlt hz hn hW0
 have hargs:∀ sp:Nat->Bool,(∀ x ∈ p,sp x.block=true)->DataW.TrodAll enc P W' 0 sp true f.params.toList args.toList (s.fn H (ds ++ [])).args p:=by
  intro sp hsp
  rw [h2]
  exact wFJ hl hk.below hT hA hlt hsp
 have hres:∀ (b0:Nat) (sp:Nat->Bool) (hd:Bool),DataW.TrodAll enc P W' b0 sp hd f.resultTypes.toList ((aN b).resultList f.resultTypes.size) (s.fn H (ds ++ [])).results []:=by
  intro b0 sp hd
  rw [h1,hr]
  exact trodAll_mk1 (shut_bool ht b)
 have hvars:∀ sp:Nat->Bool,DataW.TrodVars enc P W' sp s.vars (s.fn H (ds ++ [])).vars []:=by
  intro sp
  rw [h3,hv]
  exact rfl
 have hold:∀ x ∈ p,(fun b=>decide (b < W.heap.size)) x.block=true:=fun x hx=>by simpa using hlt x hx
 refine ⟨ds,[],p,[],p,[],by simpa using hW0,hres _ _ _,hargs _ hold,hvars _,hk.below.frame _,fun _=>?_⟩
 refine ⟨ok_one hr rfl (okWide_bool_mk ht b),_,_,[] ++ p ++ [],⟨[] ++ p,[],trodAll_append (hargs _ (fun _ _=>rfl)) (hres _ _ _),hvars _,rfl,?_,?_⟩,?_⟩
 ·intro b' off hp
  have hp':MemPlace.cell b' off ∈ p:=by simpa using hp
  rw [hk.below.frozen (p:=⟨b',off,none⟩) (hlt _ hp')]
  exact hz b' off hp'
 ·intro ha
  simpa using hn ha
 ·intro x hx _
  simpa using hx
theorem wGZ {W:World} {a:Addr} {len cap sz:Nat} {cs:List Value} (hsz:0 < sz) (hlen:cs.length=len * sz) (hcap:len <= cap) (hc:∀ (j:Nat) (v:Value),cs[j]?=some v->W.cell? (a.add j)=some v) :
  Sl (fun b=>W.heap[b]?) sz (some a) cap len cs:=by
 by_cases h0:cs=[]
 ·subst h0
  have:len * sz=0:=by simpa using hlen.symm
  rcases Nat.mul_eq_zero.1 this with h | h
  ·exact ⟨hlen,hcap,.inl h⟩
  ·omega
 ·refine ⟨hlen,hcap,.inr ?_⟩
  have hpos:0 < cs.length:=List.length_pos_iff.2 h0
  have g0:=hc 0 _ (nB hpos)
  have ha:a.add 0=a:=by simp [Addr.add]
  rw [ha] at g0
  obtain ⟨b,off,spot⟩:=a
  have hs:=World.cell?_spot g0
  simp only at hs
  subst hs
  unfold World.cell? at g0
  split at g0
  ·rename_i arr T fr hb
   refine ⟨b,off,arr,T,fr,rfl,hb,?_⟩
   apply List.ext_getElem?
   intro j
   rw [nQ]
   rcases nV j cs.length with hj | hj
   ·rw [if_pos (by omega),nS,Array.getElem?_toList]
    have:=hc j _ (nB hj)
    rw [add_plain] at this
    unfold World.cell? at this
    simp only [hb] at this
    rw [nB hj]
    simpa using this
   ·rw [if_neg (by omega),nz hj]
  ·cases g0
theorem wJf {α:Type} {f:α->List Value} {sz:Nat} (hf:∀ x,(f x).length=sz) (X:Nat->α):∀ (n j:Nat) (v:Value),((nP n).flatMap fun i=>f (X i))[j]?=some v->∃ k i,k < n/\i < sz/\j=k * sz + i/\(f (X k))[i]?=some v
 | 0,j,v,h=>by simp at h
 | n + 1,j,v,h=>by
  rw [List.range_succ,aD] at h
  have hL:((nP n).flatMap fun i=>f (X i)).length=n * sz:=by
   rw [kX]
   simp [hf,kV]
  rcases nV j (n * sz) with hlt | hge
  ·rw [nD (by omega)] at h
   obtain ⟨k,i,h1,h2,h3,h4⟩:=wJf hf X n j v h
   exact ⟨k,i,by omega,h2,h3,h4⟩
  ·rw [nH (by omega),hL] at h
   simp only [nG,List.flatMap_nil,kv] at h
   have hj:=(nA.1 h).1
   rw [hf] at hj
   exact ⟨n,j - n * sz,by omega,hj,by omega,h⟩
theorem wET {α:Type} [Inhabited α] {f:α->List Value} {sz:Nat} {t e:TypeId} {W:World} {cs:List Value} {n:Nat} {y:DataW H × List MemPlace} (hsz:0 < sz) (hf:∀ x,(f x).length=sz) (ht:P.underlying t=some (.slice e)) (ce:P.cellsOf e=sz) (Good:α->Prop)
  (hel:∀ n cs y,DataW.trod enc P W 0 (fun _=>true) true n e cs=some y->∃ x,cs=f x/\Good x) (hn:DataW.trod enc P W 0 (fun _=>true) true n t cs=some y) :
  ∃ (A:Option Addr) (c:Nat) (xs:List α),cs=[.slice A xs.length c]/\Sl (fun b=>W.heap[b]?) sz A c xs.length (xs.flatMap f)/\∀ x ∈ xs,Good x:=by
 rcases Deep.open_slice ht hn with ⟨h1,_⟩ | ⟨a',len,cap,m,k,D,Pl,h1,_,hl,_,hm,_,hc⟩
 ·exact ⟨none,0,[],h1,Sl.nil _ _ _ _,fun _ h=>by cases h⟩
 ·simp only [if_true] at hm
  subst hm
  have each:∀ i,i < len->∃ x:α,Good x/\∀ j,j < sz->W.cell? (a'.add (i * sz + j))=(f x)[j]?:=by
   intro i hi
   obtain ⟨cs,c0,t0⟩:=hc i (by omega)
   obtain ⟨x,rfl,hg⟩:=hel _ _ _ t0
   obtain ⟨_,_,hcell⟩:=World.cells?_some c0
   refine ⟨x,hg,fun j hj=>?_⟩
   have:=hcell j (by omega)
   rw [Deep.add_add,ce] at this
   exact this
  obtain ⟨X,hX⟩:=Deep.choose_lt each
  have hlen:((nP len).map X).length=len:=by simp
  refine ⟨some a',m,(nP len).map X,by rw [hlen];exact h1,?_,fun x hx=>?_⟩
  ·rw [hlen]
   have hfl:((nP len).map X).flatMap f=(nP len).flatMap fun i=>f (X i):=by rw [List.flatMap_map]
   rw [hfl]
   refine wGZ hsz ?_ hl ?_
   ·rw [kX]
    simp [hf,kV]
   ·intro j v hj
    obtain ⟨k,i,h1,h2,rfl,h4⟩:=wJf hf X len j v hj
    rw [(hX k h1).2 i h2,h4]
  ·obtain ⟨i,hi,rfl⟩:=nq.1 hx
   exact (hX i (kA.1 hi)).1
theorem wGa {α:Type} [Inhabited α] {f:α->List Value} {sz:Nat} {t e:TypeId} {W:World} {v:Value} {d:DataW H} {ps:List MemPlace} (hsz:0 < sz) (hf:∀ x,(f x).length=sz) (ht:P.underlying t=some (.slice e)) (ce:P.cellsOf e=sz) (Good:α->Prop)
  (hel:∀ n cs y,DataW.trod enc P W 0 (fun _=>true) true n e cs=some y->∃ x,cs=f x/\Good x) (h:DataW.Trod enc P W 0 (fun _=>true) true t v d ps) (hv:∃ a len cap,v=.slice a len cap) :
  ∃ (A:Option Addr) (c:Nat) (xs:List α),v=.slice A xs.length c/\Sl (fun b=>W.heap[b]?) sz A c xs.length (xs.flatMap f)/\∀ x ∈ xs,Good x:=by
 obtain ⟨n,hn⟩:=h
 obtain ⟨a,len,cap,rfl⟩:=hv
 have hcs:(aK a len cap).cells.toList=[aK a len cap]:=by simp [Value.cells]
 rw [hcs] at hn
 obtain ⟨A,c,xs,h1,h2,h3⟩:=wET hsz hf ht ce Good hel hn
 simp only [ku,and_true] at h1
 exact ⟨A,c,xs,h1,h2,h3⟩
theorem wGb {w:World} {base:Nat} {spare:Nat->Bool} {held:Bool} {t:TypeId} {fs:Array Field} {fuel:Nat} {cs:List Value} {x:DataW H × List MemPlace} (ht:P.underlying t=some (.struct fs)) (h:DataW.trod enc P w base spare held fuel t cs=some x) :
  cs.length=P.cellsOf t/\∃ n,∀ (i:Nat) (f:Field),fs[i]?=some f->∃ y,DataW.trod enc P w base spare held n f.type ((cs.drop f.offset).take (P.cellsOf f.type))=some y:=by
 obtain ⟨xs,n,_,_,h1,h2,h3⟩:=DataW.trod_struct ht h
 refine ⟨h1,n,fun i f hf=>?_⟩
 have hi:i < fs.size:=by
  rcases nV i fs.size with hlt | hge
  ·exact hlt
  ·rw [kK hge] at hf;cases hf
 exact ⟨xs[i]'(by omega),by rw [h3 i f hf,nB]⟩
def wFd (P:Program) (fn:Func) (s:ChangeSpec) (c:OpenClaim):Bool :=
 c.wf (OpenSpec.ofChange s) &&
 fn.params.all (P.readableRec ·) && namedTie P c.named s.vars &&
 (c.stops == []) && (c.knobs == []) &&
 (c.maps == (fn.params.toList ++ s.plain.varTypes P).any (P.mapsRec ·)) && (c.ifaces == (fn.params.toList ++ s.plain.varTypes P).any (P.ifacesRec ·)) && (c.mapsOut == P.mapsAmong fn.resultTypes.toList) &&
 (c.loops == (fn.params.toList ++ s.plain.varTypes P).any (P.loopsFrom ·)) && (c.wideKeys == (fn.params.toList ++ s.plain.varTypes P ++ fn.resultTypes.toList).any (P.wideKeysFrom ·)) &&
 s.vars.all (P.varReadable ·) && fn.resultTypes.all (fun t=>P.readableRec t && decide (t < P.types.size)) && (c.ifacesOut == fn.resultTypes.toList.any (P.ifacesRec ·)) && (c.loopsOut == fn.resultTypes.toList.any (P.loopsFrom ·)) && c.shortTexts.isNone && (P.make == some c.make) && (c.kinds == (if c.domain.isEmpty then [] else fn.params.toList.map fun t=>match P.underlying t with | some (.int k)=>some k | _=>none)) && (c.pinned == c.pinnedBy) &&
 (c.veiled == (fn.params.toList ++ s.plain.varTypes P ++ fn.resultTypes.toList).any (P.veiledRec ·)) && c.veiledFits P fn.params.toList (fn.params.toList ++ s.plain.varTypes P ++ fn.resultTypes.toList)
theorem wMS {f:FuncId} {fn:Func} {s:ChangeSpec} {c:OpenClaim} (h1:laidOutB P=true) (h2:mapsRowed P=true) (h3:(P.stops == [])=true) (h4:(P.stopKnobs == [])=true) (h5:(c.inPlace == P.inPlace f)=true) (h6:(c.unfollowed == P.unfollowed f)=true) (h7:(c.recurses == P.recurses f)=true)
  (h8:(c.named == P.varsNamed f)=true) (h9:(c.plainKeys == P.plainKeys)=true) (h10:P.stopsHeard=true) (h11:P.mayEnter=true) (h12:(c.lifted == P.liftsFinal)=true) (l:wFd P fn s c=true):joinedFacts P f fn s c=true:=by
 unfold wFd at l
 unfold joinedFacts
 rw [h1,h2,h3,h4,h5,h6,h7,h8,h9,h10,h11,h12]
 simp only [Bool.and_true]
 exact l
end Go.KL
namespace Go.KL
open Go.RowKit
section
variable {H:Type} {enc:TypeId × Value->H} {P:Program}
theorem wMT {α:Type} [Inhabited α] {R:Rl α} {t e:TypeId} {W:World} {cs:List Value} {n:Nat} {y:DataW H × List MemPlace} (hsz:0 < R.sz) (ht:P.underlying t=some (.slice e)) (ce:P.cellsOf e=R.sz)
  (hel:∀ n cs y,DataW.trod enc P W 0 (fun _=>true) true n e cs=some y->∃ x,R.r (fun b=>W.heap[b]?) x cs) (hn:DataW.trod enc P W 0 (fun _=>true) true n t cs=some y) :
  ∃ (A:Option Addr) (c:Nat) (xs:List α),cs=[.slice A xs.length c]/\SlR (fun b=>W.heap[b]?) R A c xs:=by
 rcases Deep.open_slice ht hn with ⟨h1,_⟩ | ⟨a',len,cap,m,k,D,Pl,h1,_,hl,_,hm,_,hc⟩
 ·exact ⟨none,0,[],h1,SlR.nil⟩
 ·simp only [if_true] at hm
  subst hm
  have each:∀ i,i < len->∃ p:α × List Value,R.r (fun b=>W.heap[b]?) p.1 p.2/\∀ j,j < R.sz->W.cell? (a'.add (i * R.sz + j))=p.2[j]?:=by
   intro i hi
   obtain ⟨cs,c0,t0⟩:=hc i (by omega)
   obtain ⟨x,hg⟩:=hel _ _ _ t0
   obtain ⟨_,_,hcell⟩:=World.cells?_some c0
   refine ⟨(x,cs),hg,fun j hj=>?_⟩
   have:=hcell j (by omega)
   rw [Deep.add_add,ce] at this
   exact this
  obtain ⟨X,hX⟩:=Deep.choose_lt each
  have hlen:((nP len).map fun i=>(X i).1).length=len:=by simp
  let V:Nat->List Value:=fun i=>if i < len then (X i).2 else nY R.sz (.bool false)
  have hV:∀ i,(V i).length=R.sz:=fun i=>by
   show (if i < len then (X i).2 else nY R.sz (.bool false)).length=R.sz
   split
   ·rename_i h
    exact R.len _ _ _ (hX i h).1
   ·simp
  have hfl:((nP len).map fun i=>(X i).2).flatten=(nP len).flatMap V:=by
   rw [List.flatMap_def]
   congr 1
   exact List.map_congr_left fun i hi=>(if_pos (kA.1 hi)).symm
  refine ⟨some a',m,(nP len).map fun i=>(X i).1,by rw [hlen];exact h1,((nP len).map fun i=>(X i).2).flatten,?_,(nP len).map fun i=>(X i).2,by simp,fun i x vs hx hv=>?_,rfl⟩
  ·rw [hlen,hfl]
   refine wGZ hsz ?_ hl ?_
   ·rw [kX]
    simp [hV,kV]
   ·intro j v hj
    obtain ⟨k,i,h1,h2,rfl,h4⟩:=wJf (α:=Nat) (f:=V) hV id len j v hj
    have h5:(X k).2[i]?=some v:=by
     have:V k=(X k).2:=if_pos h1
     rw [<- this]
     exact h4
    rw [(hX k h1).2 i h2,h5]
  ·rw [ke] at hx hv
   have hi:i < len:=by
    rcases nV i len with h | h
    ·exact h
    ·rw [nz (by simpa using h)] at hx
     cases hx
   rw [List.getElem?_range hi] at hx hv
   cases hx
   cases hv
   exact (hX i hi).1
end
end Go.KL
namespace Go.KL
def wOb {α:Type} (l:List α):Option Unit:=if l.length=0 then none else some ()
theorem wKf {α:Type} {l:List α} {u:Unit} (h:wOb l=some u):l ≠ []:=by
 intro e
 subst e
 cases h
theorem wHk {α:Type} {l:List α} (h:l ≠ []):wOb l=some ():=if_neg fun e=>h (kW e)
end Go.KL
namespace Go.KL
open Go.RowKit
section
variable {P:Program} {σ:Env} {w:World} {o:Oper}
theorem Runs.eqNilR {t u:TypeId} {x y:Operand} {A:Option Addr} {n c e:Nat} {b:Bool} (ho:o.op=.binOp .eql t x y u) (hx:ev σ x=.slice A n c) (hy:ev σ y=.slice none 0 0) (ht:∀ w,(underlying t).run P w=.ok (.slice e) w) (h:A.isNone=b):Runs P σ w o (.bool b) w :=
 h ▸ Runs.eqNil ho hx hy ht
end
section
variable {N:Nat} {P:Program} {l:List Oper} {Q:wCp} {D:List Deferred} {ks:List Nat} {σ:Env} {w:World} {i d:Nat} {s:Sch} {o:Oper}
theorem OKS.rm {x:Operand} {v:Value} (ho:l[i]?=some o) (hd:o.dst=some d) (hN:nL d N=true) (hw:wanted l σ o=true) (hm:o.op=.move x) (hx:ev σ x=v)
  (k:OKS N P l Q D ks s (upd σ d v) w):OKS N P l Q D ks (.fl i s) σ w:=OKS.r ho hd hN hw (fun _=>Runs.mv hm hx) k
theorem OKS.ra {x:Operand} {v:Value} (ho:l[i]?=some o) (hd:o.dst=some d) (hN:nL d N=true) (hw:wanted l σ o=true) (hm:o.op=.assign x) (hx:ev σ x=v)
  (k:OKS N P l Q D ks s (upd σ d v) w):OKS N P l Q D ks (.fl i s) σ w:=OKS.r ho hd hN hw (fun _=>Runs.as hm hx) k
theorem OKS.mx2 {v:Value} (ho:l[i]?=some o) (hd:o.dst=some d) (hN:nL d N=true) (hw:wanted l σ o=true) (hr:wFu P σ w o v)
  (k:OKS N P l Q D ks s (upd σ d v) w):OKS N P l Q D ks (.fx i s .stop) σ w:=OKS.v ho hd hN hw (hr w (Keep.refl w _)) (.inr (Keep.refl w _)) k
end
theorem wJg {α:Type} [DecidableEq α] {B:Base} {U:PHeap} {L:List Res} {w:World} {j:Nat} {A:Option Addr} {c T sz:Nat} {xs:List α} {f:α->List Value} (hS:St B U L w) (hk:L[j]?=some (.row A c T sz (xs.flatMap f))) (hf:∀ x,(f x).length=sz) (hsz:0 < sz) (h:xs=[]->A=none) :
  A.isNone=decide (xs=[]):=by
 by_cases e:xs=[]
 ·rw [h e,decide_eq_true e]
  rfl
 ·rw [decide_eq_false e]
  rcases hS.at_ _ (hH hk) with ⟨_,_,h3⟩ | ⟨b,cur,h1,_⟩
  ·cases xs with
   | nil=>exact absurd rfl e
   | cons x xs =>
    have:=congrArg kz h3
    rw [nG,kJ,hf] at this
    simp at this
    omega
  ·rw [h1]
   rfl
end Go.KL
namespace Go.Proofs.YtabadkdjndnliaaGreat
open Go.KL
structure wAA where
 Classes:List Int
 Each:Int
 Laps:Int
 Spare:Int
 Loop:Int
 Unused:Int
deriving DecidableEq,Inhabited,Repr
structure wAB where
 Classes:List Int
 Times:List (List Int)
deriving DecidableEq,Inhabited,Repr
structure wAC where
 Classes:List Int
 Times:List (List Int)
deriving DecidableEq,Inhabited,Repr
structure wAE where
 of:(wAA->Option Int)
 lo:Int
 hi:Int
structure wAD where
 Classes:List Int
 Each:Int
 Laps:Int
 Spare:Int
 Loop:Int
 Unused:Int
deriving DecidableEq,Inhabited,Repr
structure wAI where
 Squad:wAB
 rules:wAA
deriving DecidableEq,Inhabited,Repr
def wBZ (p0:wAA) (p1:wAB):Option (Bool) :=
 if 6 < (↑p0.Classes.length:Int) then
  some true
 else
  if 10 < (↑p1.Classes.length:Int) then
   some true
  else
   if 10 < (↑p1.Times.length:Int) then
    some true
   else
    jn (wEy 0 (↑p1.Times.length:Int) (fun k19 _ =>
     (idx p1.Times (↑k19:Int)).bind fun x38 =>
     if 6 < (↑x38.length:Int) then
      esc (some true)
     else
      some (.inl ())) ()) fun _ =>
    some false
def wAi:Option Bool:=some true
def wAO (p0:List Int):Option ((List Int)) :=
 (app 8 ([]:List Int) p0).bind fun x4 =>
 some x4
def wAf (p0:wAA):Option (wAA) :=
 (wAO p0.Classes).bind fun x9 =>
 some (⟨x9,p0.Each,p0.Laps,p0.Spare,p0.Loop,p0.Unused⟩:wAA)
def wBC (p0:List (List Int)):Option ((List (List Int))) :=
 (wCy 0 (↑p0.length:Int) (fun k24 l18 =>
  (idx p0 (↑k24:Int)).bind fun x50 =>
  (wAO x50).bind fun x63 =>
  (app 24 l18 [x63]).bind fun x88 =>
  some x88) []).bind fun y29 =>
 some y29
def wAg (p0:wAB):Option (wAB) :=
 (wAO p0.Classes).bind fun x11 =>
 (wBC p0.Times).bind fun x25 =>
 some (⟨x11,x25⟩:wAB)
def wBi (p0:wAB):Option (wAC) :=
 (wAg p0).bind fun x9 =>
 some (⟨x9.Classes,x9.Times⟩:wAC)
def wBr (p0:Int) (p1:Int) (p2:Int):Option (Bool) :=
 if p1 <= p0 then
  some (decide (p0 <= p2))
 else
  some false
def wBc (p0:Int) (p1:(Int->Option Bool)):Option (Bool) :=
 (p1 p0).bind fun x1 =>
 some (!x1)
def wBX (p0:List Int) (p1:(Int->Option Bool)):Option (Int) :=
 jn (wEy 0 (↑p0.length:Int) (fun k2 _ =>
  (idx p0 (↑k2:Int)).bind fun x22 =>
  (p1 x22).bind fun x30 =>
  if x30=true then
   esc (some (↑k2:Int))
  else
   some (.inl ())) ()) fun _ =>
 some (-1)
def wBI (p0:List Int) (p1:(Int->Option Bool)):Option (Bool) :=
 (wBX p0 p1).bind fun x1 =>
 some (decide (0 <= x1))
def wAs (p0:List Int) (p1:(Int->Option Bool)):Option (Bool) :=
 (wBI p0 (fun x=>wBc x p1)).bind fun x13 =>
 some (!x13)
def wBa (p0:Int):Option (Bool) :=
 (wBr p0 0 3).bind fun x1 =>
 some x1
def wCA (p0:List Int):Option (Bool) :=
 (wAs p0 wBa).bind fun x2 =>
 some x2
def wBS (p0:wAA):Option (Int) :=
 some p0.Each
def wBT (p0:wAA):Option (Int) :=
 some p0.Laps
def wBU (p0:wAA):Option (Int) :=
 some p0.Spare
def wBV (p0:wAA):Option (Int) :=
 some p0.Loop
def wBW (p0:wAA):Option (Int) :=
 some p0.Unused
def wCr :Option ((List wAE)) :=
 some [(⟨wBS,1,4⟩:wAE),(⟨wBT,1,5⟩:wAE),(⟨wBU,0,600⟩:wAE),(⟨wBV,0,600⟩:wAE),(⟨wBW,0,6000⟩:wAE)]
def wBM (p0:wAE) (p1:wAA):Option (Bool) :=
 (p0.of p1).bind fun x7 =>
 (wBr x7 p0.lo p0.hi).bind fun x17 =>
 some x17
def wAb (p0:wAE) (p1:(wAE->Option Bool)):Option (Bool) :=
 (p1 p0).bind fun x5 =>
 some (!x5)
def wAS (p0:List wAE) (p1:(wAE->Option Bool)):Option (Int) :=
 jn (wEy 0 (↑p0.length:Int) (fun k2 _ =>
  (idx p0 (↑k2:Int)).bind fun x22 =>
  (p1 x22).bind fun x34 =>
  if x34=true then
   esc (some (↑k2:Int))
  else
   some (.inl ())) ()) fun _ =>
 some (-1)
def wAM (p0:List wAE) (p1:(wAE->Option Bool)):Option (Bool) :=
 (wAS p0 p1).bind fun x1 =>
 some (decide (0 <= x1))
def wBK (p0:List wAE) (p1:(wAE->Option Bool)):Option (Bool) :=
 (wAM p0 (fun x=>wAb x p1)).bind fun x13 =>
 some (!x13)
def wBv (p0:wAA):Option (Int) :=
 (wBr (↑p0.Classes.length:Int) 1 4).bind fun x10 =>
 if x10=true then
  (wCA p0.Classes).bind fun x25 =>
  if x25=true then
   (wCr).bind fun x37 =>
   (wBK x37 (fun x=>wBM x p0)).bind fun x64 =>
   if x64=true then
    some 0
   else
    some 3
  else
   some 3
 else
  some 2
def wBN (p0:List Int) (p1:wAA):Option (Bool) :=
 some (decide ((↑p0.length:Int)=(↑p1.Classes.length:Int)))
def wAz (p0:List Int) (p1:((List Int)->Option Bool)):Option (Bool) :=
 (p1 p0).bind fun x1 =>
 some (!x1)
def wAx (p0:List (List Int)) (p1:((List Int)->Option Bool)):Option (Int) :=
 jn (wEy 0 (↑p0.length:Int) (fun k2 _ =>
  (idx p0 (↑k2:Int)).bind fun x22 =>
  (p1 x22).bind fun x35 =>
  if x35=true then
   esc (some (↑k2:Int))
  else
   some (.inl ())) ()) fun _ =>
 some (-1)
def wAk (p0:List (List Int)) (p1:((List Int)->Option Bool)):Option (Bool) :=
 (wAx p0 p1).bind fun x1 =>
 some (decide (0 <= x1))
def wBO (p0:List (List Int)) (p1:((List Int)->Option Bool)):Option (Bool) :=
 (wAk p0 (fun x=>wAz x p1)).bind fun x13 =>
 some (!x13)
def wAj (p0:Int):Option (Bool) :=
 (wBr p0 0 100000).bind fun x1 =>
 some x1
def wBP (p0:List Int):Option (Bool) :=
 (wAs p0 wAj).bind fun x2 =>
 some x2
def wAl (p0:wAA) (p1:wAB):Option (Int) :=
 (wBv p0).bind fun x15 =>
 if x15=0 then
  (wBr (↑p1.Classes.length:Int) 1 8).bind fun x27 =>
  if x27=true then
   if (↑p1.Times.length:Int)=(↑p1.Classes.length:Int) then
    (wBO p1.Times (fun x=>wBN x p0)).bind fun x49 =>
    if x49=true then
     (wCA p1.Classes).bind fun x65 =>
     if x65=true then
      (wBO p1.Times wBP).bind fun x80 =>
      if x80=true then
       some 0
      else
       some 3
     else
      some 3
    else
     some 2
   else
    some 2
  else
   some 2
 else
  some x15
def wAG (p0:Int) (p1:Int) (p2:Int):Option (Bool) :=
 if p0 < p1 then
  some true
 else
  some (decide (p2 < p0))
def wBd (p0:List Int):Option (Bool) :=
 jn (wEy 0 (↑p0.length:Int) (fun k2 _ =>
  (idx p0 (↑k2:Int)).bind fun x20 =>
  (wAG x20 0 3).bind fun x28 =>
  if x28=true then
   esc (some true)
  else
   some (.inl ())) ()) fun _ =>
 some false
def wBD (p0:wAD):Option (Int) :=
 (wAG (↑p0.Classes.length:Int) 1 4).bind fun x5 =>
 if x5=true then
  some 2
 else
  (wBd p0.Classes).bind fun x19 =>
  if x19=true then
   some 3
  else
   (wAG p0.Each 1 4).bind fun x32 =>
   if x32=true then
    some 3
   else
    (wAG p0.Laps 1 5).bind fun x45 =>
    if x45=true then
     some 3
    else
     (wAG p0.Spare 0 600).bind fun x58 =>
     if x58=true then
      some 3
     else
      (wAG p0.Loop 0 600).bind fun x71 =>
      if x71=true then
       some 3
      else
       (wAG p0.Unused 0 6000).bind fun x84 =>
       if x84=true then
        some 3
       else
        some 0
def wAL (p0:wAD) (p1:wAC):Option (Int) :=
 (wBD p0).bind fun x9 =>
 if x9=0 then
  (wAG (↑p1.Classes.length:Int) 1 8).bind fun x21 =>
  if x21=true then
   some 2
  else
   if (↑p1.Times.length:Int)=(↑p1.Classes.length:Int) then
    iter (fun x39 =>
     if x39 < (↑p1.Times.length:Int) then
      (idx p1.Times x39).bind fun x57 =>
      if (↑x57.length:Int)=(↑p0.Classes.length:Int) then
       some (.inl (w64 (x39 + 1)))
      else
       esc (some 2)
     else
      esc ((wBd p1.Classes).bind fun x86 =>
      if x86=true then
       some 3
      else
       iter (fun x102 =>
        if x102 < (↑p1.Times.length:Int) then
         iter (fun x120 =>
          (idx p1.Times x102).bind fun x134 =>
          if x120 < (↑x134.length:Int) then
           (idx x134 x120).bind fun x163 =>
           (wAG x163 0 100000).bind fun x170 =>
           if x170=true then
            esc (esc (some 3))
           else
            some (.inl (w64 (x120 + 1)))
          else
           esc (some (.inl (w64 (x102 + 1))))) big 0
        else
         esc (some 0)) big 0)) big 0
   else
    some 2
 else
  some x9
def wBo (p0:Int) (p1:wAB):Option (Bool) :=
 (wBr p0 0 (w64 ((↑p1.Classes.length:Int) - 1))).bind fun x1 =>
 some x1
def wAT (p0:wAI) (p1:Int) (p2:Int):Option (Bool) :=
 (idx p0.Squad.Classes p1).bind fun x7 =>
 (idx p0.rules.Classes p2).bind fun x14 =>
 some (decide (x7=x14))
def wCG (p0:List Int):Option (Int) :=
 (wCy 0 (↑p0.length:Int) (fun k7 x6 =>
  (idx p0 (↑k7:Int)).bind fun x28 =>
  some (w64 (x6 + x28))) 0).bind fun y12 =>
 some y12
def wBQ (p0:wAI) (p1:List Int):Option (Int × Bool) :=
 jn (wEy 0 (↑p1.length:Int) (fun k31 (a26,l27) =>
  (idx p1 (↑k31:Int)).bind fun x56 =>
  (chk x56 8).bind fun _ =>
  (wAT p0 x56 (↑k31:Int)).bind fun x76 =>
  if x76=true then
   if p0.rules.Each < ((a26.set x56.toNat (w64 ((a26.get x56.toNat) + 1))).get x56.toNat) then
    esc (some (0,false))
   else
    (idx p0.Squad.Times x56).bind fun x95 =>
    (idx x95 (↑k31:Int)).bind fun x108 =>
    (app 8 l27 [x108]).bind fun x120 =>
    some (.inl ((a26.set x56.toNat (w64 ((a26.get x56.toNat) + 1))),x120))
  else
   esc (some (0,false))) ((Arr.fill 8 0),[])) fun (y140,y141) =>
 (wCG y141).bind fun x160 =>
 some (x160,true)
def wCe (p0:wAA) (p1:wAB) (p2:List Int):Option (Int × Int) :=
 (wAl p0 p1).bind fun x17 =>
 if x17=0 then
  if (↑p2.length:Int)=(↑p0.Classes.length:Int) then
   (wAs p2 (fun x=>wBo x p1)).bind fun x37 =>
   if x37=true then
    (wBQ (⟨p1,p0⟩:wAI) p2).bind fun (x55,x56) =>
    if x56=true then
     some (x55,0)
    else
     some (0,8)
   else
    some (0,1)
  else
   some (0,2)
 else
  some (0,x17)
def wAv (p0:wAD) (p1:wAC) (p2:List Int):Option (Int) :=
 jn (wEy 0 (↑p2.length:Int) (fun k15 x14 =>
  (wCy 0 (↑p2.length:Int) (fun k42 x41 =>
   (idx p2 (↑k42:Int)).bind fun x68 =>
   (idx p2 (↑k15:Int)).bind fun x77 =>
   if x68=x77 then
    some (w64 (x41 + 1))
   else
    some x41) 0).bind fun y47 =>
  if p0.Each < y47 then
   esc (some (-1))
  else
   (idx p2 (↑k15:Int)).bind fun x112 =>
   (idx p1.Classes x112).bind fun x121 =>
   (idx p0.Classes (↑k15:Int)).bind fun x130 =>
   if x121=x130 then
    (idx p1.Times x112).bind fun x147 =>
    (idx x147 (↑k15:Int)).bind fun x161 =>
    some (.inl (w64 (x14 + x161)))
   else
    esc (some (-1))) 0) fun y177 =>
 some y177
def wBj (p0:wAD) (p1:wAC) (p2:List Int):Option (Int × Int) :=
 (wAL p0 p1).bind fun x9 =>
 if x9=0 then
  if (↑p2.length:Int)=(↑p0.Classes.length:Int) then
   jn (wEy 0 (↑p2.length:Int) (fun k24 _ =>
    (idx p2 (↑k24:Int)).bind fun x46 =>
    (wAG x46 0 (w64 ((↑p1.Classes.length:Int) - 1))).bind fun x55 =>
    if x55=true then
     esc (some (0,1))
    else
     some (.inl ())) ()) fun _ =>
   (wAv p0 p1 p2).bind fun x91 =>
   if x91 < 0 then
    some (0,8)
   else
    some (x91,0)
  else
   some (0,2)
 else
  some (0,x9)
def wAZ (p0:Int):Option (Bool) :=
 (wBr p0 (-1000000) 1000000).bind fun x1 =>
 some x1
def wBs (p0:Int):Option (Bool) :=
 some (decide (0 <= p0))
def wCS (p0:wAA) (p1:wAB) (p2:List Int) (p3:List Int):Option (Int × Int) :=
 (wAl p0 p1).bind fun x9 =>
 if x9=0 then
  if (↑p2.length:Int)=(↑p0.Classes.length:Int) then
   if (↑p3.length:Int)=(↑p1.Classes.length:Int) then
    (wAs p2 wAZ).bind fun x27 =>
    if x27=true then
     (wAs p3 wAZ).bind fun x42 =>
     if x42=true then
      (wAs p3 wBs).bind fun x56 =>
      if x56=true then
       jn (wEy 0 (↑p3.length:Int) (fun k82 _ =>
        (idx p3 (↑k82:Int)).bind fun x106 =>
        jn (wEy 0 (↑p2.length:Int) (fun k116 _ =>
         (idx p2 (↑k116:Int)).bind fun x145 =>
         (wAT (⟨p1,p0⟩:wAI) (↑k82:Int) (↑k116:Int)).bind fun x175 =>
         if x175=true then
          (idx p1.Times (↑k82:Int)).bind fun x187 =>
          (idx x187 (↑k116:Int)).bind fun x200 =>
          if x200 < (w64 (x145 - x106)) then
           esc (esc (some (0,8)))
          else
           some (.inl ())
         else
          some (.inl ())) ()) fun _ =>
        some (.inl ())) ()) fun _ =>
       (wCG p2).bind fun x260 =>
       (wCG p3).bind fun x273 =>
       some (w64 (x260 - (w64 (p0.Each * x273))),0)
      else
       some (0,8)
     else
      some (0,3)
    else
     some (0,3)
   else
    some (0,2)
  else
   some (0,2)
 else
  some (0,x9)
def wBL (p0:wAD) (p1:wAC) (p2:List Int) (p3:List Int):Option (Int × Int) :=
 (wAL p0 p1).bind fun x9 =>
 if x9=0 then
  if (↑p2.length:Int)=(↑p0.Classes.length:Int) then
   if (↑p3.length:Int)=(↑p1.Classes.length:Int) then
    jn (wEy 0 (↑p2.length:Int) (fun k31 x30 =>
     (idx p2 (↑k31:Int)).bind fun x53 =>
     (wAG x53 (-1000000) 1000000).bind fun x62 =>
     if x62=true then
      esc (some (0,3))
     else
      some (.inl (w64 (x30 + x53)))) 0) fun y88 =>
    jn (wEy 0 (↑p3.length:Int) (fun k105 x104 =>
     (idx p3 (↑k105:Int)).bind fun x127 =>
     (wAG x127 (-1000000) 1000000).bind fun x137 =>
     if x137=true then
      esc (some (0,3))
     else
      some (.inl (w64 (x104 - (w64 (p0.Each * x127)))))) y88) fun y165 =>
    jn (wEy 0 (↑p3.length:Int) (fun k177 _ =>
     (idx p3 (↑k177:Int)).bind fun x199 =>
     if x199 < 0 then
      esc (some (0,8))
     else
      jn (wEy 0 (↑p2.length:Int) (fun k217 _ =>
       (idx p1.Classes (↑k177:Int)).bind fun x242 =>
       (idx p0.Classes (↑k217:Int)).bind fun x254 =>
       if x242=x254 then
        (idx p2 (↑k217:Int)).bind fun x268 =>
        (idx p1.Times (↑k177:Int)).bind fun x280 =>
        (idx x280 (↑k217:Int)).bind fun x297 =>
        if (w64 (x297 + x199)) < x268 then
         esc (esc (some (0,8)))
        else
         some (.inl ())
       else
        some (.inl ())) ()) fun _ =>
      some (.inl ())) ()) fun _ =>
    some (y165,0)
   else
    some (0,2)
  else
   some (0,2)
 else
  some (0,x9)
def wAU (p0:List Int):Option ((List Int)) :=
 (app 8 ([]:List Int) p0).bind fun x11 =>
 some x11
def wAc (rec_:(List Int)->wAI->(List Int)->Int->Int->Unit->Option ((List Int) × Int)) (p0:List Int) (p1:wAI) (p2:List Int) (p3:Int) (p4:Int) (p5:Unit):Option ((List Int) × Int) :=
 if (↑p0.length:Int)=(↑p1.rules.Classes.length:Int) then
  (wBQ p1 p0).bind fun (x6,x7) =>
  if x7=true then
   if p2=[] then
    (wAU p0).bind fun x23 =>
    (wOb x23).bind fun x36 =>
    some (x23,x6)
   else
    if x6 < p3 then
     (wAU p0).bind fun x49 =>
     (wOb x49).bind fun x62 =>
     some (x49,x6)
    else
     some (p2,p3)
  else
   some (p2,p3)
 else
  (wCy 0 (↑p1.Squad.Classes.length:Int) (fun k92 (l88,x91) =>
   if (↑k92:Int)=p4 then
    some (l88,x91)
   else
    (wAT p1 (↑k92:Int) (↑p0.length:Int)).bind fun x129 =>
    if x129=true then
     (wAU p0).bind fun x145 =>
     (app 8 x145 [(↑k92:Int)]).bind fun x163 =>
     (rec_ x163 p1 l88 x91 p4 ()).bind fun (x193,x194) =>
     some (x193,x194)
    else
     some (l88,x91)) (p2,p3)).bind fun (y97,y98) =>
  some (y97,y98)
def wAq:Nat->(List Int)->wAI->(List Int)->Int->Int->Unit->Option ((List Int) × Int)
 | 0=>fun _ _ _ _ _ _=>none
 | n_ + 1=>wAc (wAq n_)
def wAd (p0:wAI) (p1:Int):Option ((List Int) × Int) :=
 (wAq 1000 [] p0 ([]:List Int) 0 p1 ()).bind fun (x57,x58) =>
 some (x57,x58)
def wCv (p0:wAA) (p1:wAB) (p2:Int):Option (Int × Int) :=
 (wAl p0 p1).bind fun x9 =>
 if x9=0 then
  (wBr p2 0 (w64 ((↑p1.Classes.length:Int) - 1))).bind fun x21 =>
  if x21=true then
   (wAd (⟨p1,p0⟩:wAI) (-1)).bind fun (x46,x47) =>
   (wAd (⟨p1,p0⟩:wAI) p2).bind fun (x64,x65) =>
   if x64=[] then
    some (0,6)
   else
    some (w64 (x65 - x47),0)
  else
   some (0,1)
 else
  some (0,x9)
def wAr (p0:wAD) (p1:wAC) (p2:Int):Option ((List Int) × Int) :=
 iter (fun (x15,x16) =>
  if x16 < (↑p0.Classes.length:Int) then
   some (.inl (w64 (x15 * (↑p1.Classes.length:Int)),w64 (x16 + 1)))
  else
   esc ((wCy 0 x15 (fun k58 (l54,x57) =>
    ((mkz 8 (↑p0.Classes.length:Int) (0:Int)).bind fun x91 =>
    iter (fun (l111,x112,b113,x114) =>
     if 0 <= x114 then
      (rem x112 (↑p1.Classes.length:Int)).bind fun x139 =>
      (chk x114 l111.length).bind fun _ =>
      (quo x112 (↑p1.Classes.length:Int)).bind fun x148 =>
      if b113=true then
       (chk x114 (nt l111 x114.toNat x139).length).bind fun _ =>
       some (.inl ((nt l111 x114.toNat x139),x148,decide (¬ ((gd (nt l111 x114.toNat x139) x114.toNat)=p2)),w64 (x114 - 1)))
      else
       some (.inl ((nt l111 x114.toNat x139),x148,false,w64 (x114 - 1)))
     else
      esc ((wAv p0 p1 l111).bind fun x186 =>
      if b113=true then
       if 0 <= x186 then
        if x57 < 0 then
         some (l111,x186)
        else
         if x186 < x57 then
          some (l111,x186)
         else
          some (l54,x57)
       else
        some (l54,x57)
      else
       some (l54,x57))) big (x91,(↑k58:Int),true,w64 ((↑x91.length:Int) - 1))).bind fun (l84,x87) =>
    some (l84,x87)) ([],-1)).bind fun (y63,y64) =>
   some (y63,y64))) big (1,0)
def wBp (p0:wAD) (p1:wAC) (p2:Int):Option (Int × Int) :=
 (wAL p0 p1).bind fun x9 =>
 if x9=0 then
  (wAG p2 0 (w64 ((↑p1.Classes.length:Int) - 1))).bind fun x21 =>
  if x21=true then
   some (0,1)
  else
   (wAr p0 p1 (-1)).bind fun (x40,x41) =>
   (wAr p0 p1 p2).bind fun (x57,x58) =>
   if x58 < 0 then
    some (0,6)
   else
    some (w64 (x58 - x41),0)
 else
  some (0,x9)
def wBw (p0:wAA) (p1:wAB):Option ((List Int) × Int × Int) :=
 (wAl p0 p1).bind fun x9 =>
 if x9=0 then
  (wAd (⟨p1,p0⟩:wAI) (-1)).bind fun (x24,x25) =>
  if x24=[] then
   some ([],0,6)
  else
   some (x24,x25,0)
 else
  some ([],0,x9)
def wBq (p0:wAD) (p1:wAC):Option ((List Int) × Int × Int) :=
 (wAL p0 p1).bind fun x9 =>
 if x9=0 then
  (wAr p0 p1 (-1)).bind fun (x24,x25) =>
  if x25 < 0 then
   some ([],0,6)
  else
   some (x24,x25,0)
 else
  some ([],0,x9)
def wAK (p0:Int) (p1:Int) (p2:Bool):Option (Int × Bool) :=
 if p1 < p0 then
  some (p1,true)
 else
  some (p0,p2)
def wBm (p0:wAA) (p1:wAB):Option ((List Int) × (List Int) × Int) :=
 (wBw p0 p1).bind fun (x9,x10,x11) =>
 if x11=0 then
  (wCy 0 (↑x9.length:Int) (fun k44 a43 =>
   (chk (↑k44:Int) x9.length).bind fun _ =>
   (chk (gd x9 k44) 8).bind fun _ =>
   some (a43.set ((gd x9 k44).toNat) (w64 ((a43.get ((gd x9 k44).toNat)) + 1)))) (Arr.fill 8 0)).bind fun y49 =>
  ((mkz 8 (↑p0.Classes.length:Int) (0:Int)).bind fun x113 =>
  (mkz 8 (↑p1.Classes.length:Int) (0:Int)).bind fun x121 =>
  some (x113,x121)).bind fun (l102,l105) =>
  (iter (fun (x324,l325,l326) =>
   (wCy 0 (↑l326.length:Int) (fun k374 (b370,x371,l372,l373) =>
    (wCy 0 (↑l372.length:Int) (fun k424 (b421,l422,l423) =>
     (wAT (⟨p1,p0⟩:wAI) (↑k374:Int) (↑k424:Int)).bind fun x480 =>
     if x480=true then
      (chk (↑k374:Int) l423.length).bind fun _ =>
      (chk (↑k424:Int) l422.length).bind fun _ =>
      (idx p1.Times (↑k374:Int)).bind fun x503 =>
      (idx x503 (↑k424:Int)).bind fun x516 =>
      (wAK (gd l423 k374) (w64 ((gd l422 k424) + x516)) b421).bind fun (x525,x526) =>
      (chk (↑k424:Int) x9.length).bind fun _ =>
      if (gd x9 k424)=(↑k374:Int) then
       (chk (↑k374:Int) (nt l423 k374 x525).length).bind fun _ =>
       (wAK (gd l422 k424) (w64 ((gd (nt l423 k374 x525) k374) - x516)) x526).bind fun (x587,x588) =>
       some (x588,(nt l422 k424 x587),(nt l423 k374 x525))
      else
       some (x526,l422,(nt l423 k374 x525))
     else
      (chk (↑k424:Int) x9.length).bind fun _ =>
      if (gd x9 k424)=(↑k374:Int) then
       (chk (↑k424:Int) l422.length).bind fun _ =>
       (chk (↑k374:Int) l423.length).bind fun _ =>
       (idx p1.Times (↑k374:Int)).bind fun x627 =>
       (idx x627 (↑k424:Int)).bind fun x640 =>
       (wAK (gd l422 k424) (w64 ((gd l423 k374) - x640)) b421).bind fun (x649,x650) =>
       some (x650,(nt l422 k424 x649),l423)
      else
       some (b421,l422,l423)) (b370,l372,l373)).bind fun (y429,y430,y431) =>
    (chk (↑k374:Int) 8).bind fun _ =>
    if (y49.get k374) < p0.Each then
     (chk (↑k374:Int) y431.length).bind fun _ =>
     (wAK x371 (gd y431 k374) y429).bind fun (x711,x712) =>
     if 0 < (y49.get k374) then
      (wAK (gd y431 k374) x711 x712).bind fun (x730,x731) =>
      some (x731,x711,y430,(nt y431 k374 x730))
     else
      some (x712,x711,y430,y431)
    else
     if 0 < (y49.get k374) then
      (chk (↑k374:Int) y431.length).bind fun _ =>
      (wAK (gd y431 k374) x371 y429).bind fun (x765,x766) =>
      some (x766,x371,y430,(nt y431 k374 x765))
     else
      some (y429,x371,y430,y431)) (false,x324,l325,l326)).bind fun (y379,y380,y381,y382) =>
   if y379=true then
    some (.inl (y380,y381,y382))
   else
    esc (some (y380,y381,y382))) big (0,l102,l105)).bind fun (x309,l310,l311) =>
  (wCy 0 (↑l310.length:Int) (fun k856 l852 =>
   (chk (↑k856:Int) l310.length).bind fun _ =>
   (app 8 l852 [w64 (x309 - (gd l310 k856))]).bind fun x892 =>
   some x892) []).bind fun y861 =>
  (wCy 0 (↑l311.length:Int) (fun k939 l935 =>
   (chk (↑k939:Int) l311.length).bind fun _ =>
   (app 8 l935 [max 0 (w64 (x309 - (gd l311 k939)))]).bind fun x974 =>
   some x974) []).bind fun y944 =>
  some (y861,y944,0)
 else
  some ([],[],x11)
def wAJ (p0:List Int) (p1:List Int):Option (Bool) :=
 if (↑p0.length:Int)=(↑p1.length:Int) then
  jn (wEy 0 (↑p0.length:Int) (fun k4 _ =>
   (idx p0 (↑k4:Int)).bind fun x26 =>
   (idx p1 (↑k4:Int)).bind fun x34 =>
   if x26=x34 then
    some (.inl ())
   else
    esc (some false)) ()) fun _ =>
  some true
 else
  some false
def wAn (p0:wAA) (p1:wAA):Option (Bool) :=
 (wAJ p0.Classes p1.Classes).bind fun x9 =>
 if x9=true then
  if p0.Each=p1.Each then
   if p0.Laps=p1.Laps then
    if p0.Spare=p1.Spare then
     if p0.Loop=p1.Loop then
      some (decide (p0.Unused=p1.Unused))
     else
      some false
    else
     some false
   else
    some false
  else
   some false
 else
  some false
def wBE (p0:List (List Int)) (p1:List (List Int)):Option (Bool) :=
 if (↑p0.length:Int)=(↑p1.length:Int) then
  jn (wEy 0 (↑p0.length:Int) (fun k4 _ =>
   (idx p0 (↑k4:Int)).bind fun x26 =>
   (idx p1 (↑k4:Int)).bind fun x39 =>
   (wAJ x26 x39).bind fun x52 =>
   if x52=true then
    some (.inl ())
   else
    esc (some false)) ()) fun _ =>
  some true
 else
  some false
def wAo (p0:wAB) (p1:wAB):Option (Bool) :=
 (wAJ p0.Classes p1.Classes).bind fun x9 =>
 if x9=true then
  (wBE p0.Times p1.Times).bind fun x23 =>
  some x23
 else
  some false
def wBY (p0:wAA) (p1:wAB) (p2:List Int) (p3:List Int) (p4:List Int) (p5:Int):Option (Bool) :=
 (wBZ p0 p1).bind fun x9 =>
 if x9=true then
  (wAi).bind fun x21 =>
  some x21
 else
  if 12 < (↑p2.length:Int) then
   (wAi).bind fun x34 =>
   some x34
  else
   if 12 < (↑p3.length:Int) then
    (wAi).bind fun x47 =>
    some x47
   else
    if 12 < (↑p4.length:Int) then
     (wAi).bind fun x60 =>
     some x60
    else
     ((wAf p0).bind fun x102 =>
     (wAg p1).bind fun x119 =>
     (wAO p2).bind fun x140 =>
     (wAO p3).bind fun x157 =>
     (wAO p4).bind fun x175 =>
     some (x102.Classes,x102.Each,x102.Laps,x102.Spare,x102.Loop,x102.Unused,x119.Classes,x119.Times,x140,x157,x175)).bind fun (l73,x76,x77,x78,x79,x80,l83,l86,l89,l92,l95) =>
     ((wAf p0).bind fun x730 =>
     (wBi p1).bind fun x749 =>
     some (x730.Classes,x730.Each,x730.Laps,x730.Spare,x730.Loop,x730.Unused,x749.Classes,x749.Times)).bind fun (l623,x626,x627,x628,x629,x630,l633,l636) =>
     (wAl (⟨l73,x76,x77,x78,x79,x80⟩:wAA) (⟨l83,l86⟩:wAB)).bind fun x1716 =>
     (wAL (⟨l623,x626,x627,x628,x629,x630⟩:wAD) (⟨l633,l636⟩:wAC)).bind fun x1742 =>
     if x1716=x1742 then
      (wCe (⟨l73,x76,x77,x78,x79,x80⟩:wAA) (⟨l83,l86⟩:wAB) l89).bind fun (x1774,x1775) =>
      (wBj (⟨l623,x626,x627,x628,x629,x630⟩:wAD) (⟨l633,l636⟩:wAC) p2).bind fun (x1805,x1806) =>
      if x1775=x1806 then
       if x1774=x1805 then
        (wCS (⟨l73,x76,x77,x78,x79,x80⟩:wAA) (⟨l83,l86⟩:wAB) l92 l95).bind fun (x1843,x1844) =>
        (wBL (⟨l623,x626,x627,x628,x629,x630⟩:wAD) (⟨l633,l636⟩:wAC) p3 p4).bind fun (x1915,x1916) =>
        if x1844=x1916 then
         if x1843=x1915 then
          (wCv (⟨l73,x76,x77,x78,x79,x80⟩:wAA) (⟨l83,l86⟩:wAB) p5).bind fun (x1936,x1937) =>
          (wBp (⟨l623,x626,x627,x628,x629,x630⟩:wAD) (⟨l633,l636⟩:wAC) p5).bind fun (x1953,x1954) =>
          if x1937=x1954 then
           if x1936=x1953 then
            (wBw (⟨l73,x76,x77,x78,x79,x80⟩:wAA) (⟨l83,l86⟩:wAB)).bind fun (x1990,x1991,x1992) =>
            (wBq (⟨l623,x626,x627,x628,x629,x630⟩:wAD) (⟨l633,l636⟩:wAC)).bind fun (x2011,x2012,x2013) =>
            (wBm (⟨l73,x76,x77,x78,x79,x80⟩:wAA) (⟨l83,l86⟩:wAB)).bind fun (x2032,x2033,x2034) =>
            (if x1992=x2013 then
             if x2034=x2013 then
              if x1991=x2012 then
               (wAJ x1990 x2011).bind fun x2090 =>
               if x2090=true then
                if x2013=0 then
                 some false
                else
                 some (decide (0 < (w64 ((↑x2032.length:Int) + (↑x2033.length:Int)))))
               else
                some true
              else
               some true
             else
              some true
            else
             some true).bind fun b2050 =>
            if b2050=true then
             some false
            else
             if x2013=0 then
              (wBL (⟨l623,x626,x627,x628,x629,x630⟩:wAD) (⟨l633,l636⟩:wAC) x2032 x2033).bind fun (x2168,x2169) =>
              if x2169=0 then
               if x2168=x2012 then
                (wAn (⟨l73,x76,x77,x78,x79,x80⟩:wAA) p0).bind fun x2225 =>
                if x2225=true then
                 (wAo (⟨l83,l86⟩:wAB) p1).bind fun x2301 =>
                 if x2301=true then
                  (wAJ l89 p2).bind fun x2346 =>
                  if x2346=true then
                   (wAJ l92 p3).bind fun x2385 =>
                   if x2385=true then
                    (wAJ l95 p4).bind fun x2426 =>
                    if x2426=true then
                     (wAi).bind fun x2438 =>
                     some x2438
                    else
                     some false
                   else
                    some false
                  else
                   some false
                 else
                  some false
                else
                 some false
               else
                some false
              else
               some false
             else
              (wAn (⟨l73,x76,x77,x78,x79,x80⟩:wAA) p0).bind fun x2480 =>
              if x2480=true then
               (wAo (⟨l83,l86⟩:wAB) p1).bind fun x2544 =>
               if x2544=true then
                (wAJ l89 p2).bind fun x2583 =>
                if x2583=true then
                 (wAJ l92 p3).bind fun x2616 =>
                 if x2616=true then
                  (wAJ l95 p4).bind fun x2651 =>
                  if x2651=true then
                   (wAi).bind fun x2663 =>
                   some x2663
                  else
                   some false
                 else
                  some false
                else
                 some false
               else
                some false
              else
               some false
           else
            some false
          else
           some false
         else
          some false
        else
         some false
       else
        some false
      else
       some false
     else
      some false
end Go.Proofs.YtabadkdjndnliaaGreat
namespace Go.KL
open Go.RowKit
section
variable {B:Base} {U U':PHeap} {L:List Res} {w w':World}
theorem Res.At.agree {w2:World} {r:Res} (h:r.At w) (he:∀ b,r.has b->w2.heap[b]?=w.heap[b]?):r.At w2:=by
 cases r with
 | blk b T cs=>exact (he b rfl).trans h
 | obj b o=>exact (he b rfl).trans h
 | abs fp P=>exact ⟨h.2.2 w2 he,fun b hb=>wAV ((he b hb).trans (kG (h.2.1 b hb))),fun w3 h3=>h.2.2 w3 fun b hb=>(h3 b hb).trans (he b hb)⟩
 | row A c T sz cs =>
  rcases h with h | ⟨b,cur,rfl,h1,h2⟩
  ·exact .inl h
  ·exact .inr ⟨b,cur,rfl,(he b rfl).trans h1,h2⟩
def DjL (rs:List Res):Prop:=∀ (i j:Nat) (r s:Res) (b:Nat),rs[i]?=some r->rs[j]?=some s->r.has b->s.has b->i=j
def pack (p:Prop) (rs:List Res):Res:=.abs (fun b=>∃ r ∈ rs,r.has b) (fun w=>p/\(∀ r ∈ rs,r.At w)/\DjL rs)
theorem wPp {p:Prop} {rs:List Res} (hp:p) (ha:∀ r ∈ rs,r.At w) (hd:DjL rs):(pack p rs).At w :=
 ⟨⟨hp,ha,hd⟩,fun b ⟨r,hr,hb⟩=>(ha r hr).lt hb,fun w2 h2=>⟨hp,fun r hr=>(ha r hr).agree fun b hb=>h2 b ⟨r,hr,hb⟩,hd⟩⟩
theorem wMU {α:Type} {X Y:List α} {i:Nat} {r:α} (h:(X ++ Y)[i]?=some r):X[i]?=some r \/ (X.length <= i/\Y[i - X.length]?=some r):=by
 rcases nV i X.length with h1 | h1
 ·rw [nD h1] at h;exact .inl h
 ·rw [nH h1] at h;exact .inr ⟨h1,h⟩
theorem St.unpack {p:Prop} {rs:List Res} (h:St B U (pack p rs :: L) w):p/\St B U (rs ++ L) w:=by
 obtain ⟨⟨hp,ha,hd⟩,_⟩:=h.at_ _ (kZ ..)
 have ho:=h.own _ (kZ ..)
 refine ⟨hp,h.os,h.tape,h.output,h.size,h.old,h.fro,h.le,h.src,fun r hr=>?_,fun r hr b hb=>?_,fun i j r s b hi hj hr hs=>?_⟩
 ·rcases nO.1 hr with hr | hr
  ·exact ha r hr
  ·exact h.at_ r (aB _ hr)
 ·rcases nO.1 hr with hr | hr
  ·exact ho b ⟨r,hr,hb⟩
  ·exact h.own r (aB _ hr) b hb
 ·rcases wMU hi with hi | ⟨h1,hi⟩ <;> rcases wMU hj with hj | ⟨h2,hj⟩
  ·exact hd i j r s b hi hj hr hs
  ·have:=h.dj 0 (j - rs.length + 1) _ s b rfl (by simpa using hj) ⟨r,hH hi,hr⟩ hs;omega
  ·have:=h.dj (i - rs.length + 1) 0 r _ b (by simpa using hi) rfl hr ⟨s,hH hj,hs⟩;omega
  ·have:=h.dj (i - rs.length + 1) (j - rs.length + 1) r s b (by simpa using hi) (by simpa using hj) hr hs;omega
theorem St.pack {p:Prop} {rs:List Res} (hp:p) (h:St B U (rs ++ L) w):St B U (pack p rs :: L) w:=by
 refine ⟨h.os,h.tape,h.output,h.size,h.old,h.fro,h.le,h.src,fun r hr=>?_,fun r hr b hb=>?_,fun i j r s b hi hj hr hs=>?_⟩
 ·rcases nI.1 hr with rfl | hr
  ·refine wPp hp (fun r hr=>h.at_ r (nk _ hr)) fun i j r s b hi hj hr hs=>?_
   exact h.dj i j r s b (by rw [nD (nA.1 hi).1];exact hi) (by rw [nD (nA.1 hj).1];exact hj) hr hs
  ·exact h.at_ r (kB _ hr)
 ·rcases nI.1 hr with rfl | hr
  ·obtain ⟨r,hr,hb⟩:=hb
   exact h.own r (nk _ hr) b hb
  ·exact h.own r (kB _ hr) b hb
 ·have up:∀ (q:Nat) (t:Res),L[q]?=some t->(rs ++ L)[rs.length + q]?=some t:=fun q t hq=>by rw [nH (by omega)];simpa using hq
  have lo:∀ (q:Nat) (t:Res),rs[q]?=some t->(rs ++ L)[q]?=some t:=fun q t hq=>by rw [nD (nA.1 hq).1];exact hq
  cases i with
  | zero =>
   simp only [nT,nN] at hi;subst hi
   cases j with
   | zero=>rfl
   | succ j =>
    obtain ⟨r,hr,hb⟩:=hr
    obtain ⟨q,hq⟩:=nM hr
    have:=h.dj q (rs.length + j) r s b (lo q r hq) (up j s (by simpa using hj)) hb hs
    have:=(nA.1 hq).1;omega
  | succ i =>
   cases j with
   | zero =>
    simp only [nT,nN] at hj;subst hj
    obtain ⟨s,hs,hb⟩:=hs
    obtain ⟨q,hq⟩:=nM hs
    have:=h.dj (rs.length + i) q r s b (up i r (by simpa using hi)) (lo q s hq) hr hb
    have:=(nA.1 hq).1;omega
   | succ j =>
    have:=h.dj (rs.length + i) (rs.length + j) r s b (up i r (by simpa using hi)) (up j s (by simpa using hj)) hr hs;omega
structure Hd where
 A:Option Addr
 n:Nat
 c:Nat
instance:Inhabited Hd:=⟨⟨none,0,0⟩⟩
def wEi (h:Hd):List Value:=[.slice h.A h.n h.c]
variable {α:Type} {T sz:Nat} {enc:α->List Value} {hs hs2:List Hd} {m m2:List (List α)}
def inR (T sz:Nat) (enc:α->List Value) (h:Hd) (l:List α):Res:=.row h.A h.c T sz (ng enc l)
def Fit (hs:List Hd) (m:List (List α)):Prop:=hs.map (·.n)=m.map kz
def inn (T sz:Nat) (enc:α->List Value) (hs:List Hd) (m:List (List α)):Res:=pack (Fit hs m) (kk (inR T sz enc) hs m)
theorem Fit.len (h:Fit hs m):hs.length=m.length:=by simpa using congrArg kz h
theorem St.innFit {j:Nat} (h:St B U L w) (hk:L[j]?=some (inn T sz enc hs m)):Fit hs m:=(h.at_ _ (hH hk)).1.1
theorem St.innNil (T sz:Nat) (enc:α->List Value) (h:St B U L w):St B U (inn T sz enc [] [] :: L) w:=St.pack (p:=Fit [] ([]:List (List α))) (rs:=[]) rfl h
theorem St.innOne {A:Option Addr} {c:Nat} {l:List α} (h:St B U (.row A c T sz (ng enc l) :: L) w):St B U (inn T sz enc [⟨A,l.length,c⟩] [l] :: L) w:=St.pack (p:=Fit [⟨A,l.length,c⟩] [l]) (rs:=[.row A c T sz (ng enc l)]) rfl h
theorem St.swap {r s:Res} (h:St B U (r :: s :: L) w):St B U (s :: r :: L) w:=by
 have:=h.front (k:=1) (r:=s) rfl
 exact this
theorem St.innApp (h:St B U (inn T sz enc hs m :: inn T sz enc hs2 m2 :: L) w):St B U (inn T sz enc (hs ++ hs2) (m ++ m2) :: L) w:=by
 obtain ⟨p1,h1⟩:=h.swap.unpack
 have h2:St B U (inn T sz enc hs m :: (kk (inR T sz enc) hs2 m2 ++ L)) w:=by
  have:=h1.front (k:=(kk (inR T sz enc) hs2 m2).length) (r:=inn T sz enc hs m) (by rw [nH (nJ _)];simp)
  rw [List.eraseIdx_append_of_length_le (nJ _)] at this
  simpa using this
 obtain ⟨p2,h3⟩:=h2.unpack
 refine St.pack (by unfold Fit at *;rw [na,na,p1,p2]) ?_
 rw [List.zipWith_append p2.len]
 rw [nc]
 exact h3
theorem St.innFreeze {R:Rl (List α)} (hR:∀ U A c l,Sl U sz A c l.length (ng enc l)->R.r U l [.slice A l.length c]) (he:∀ x,(enc x).length=sz) (hz:0 < sz):∀ {hs:List Hd} {m:List (List α)} {U:PHeap} {L:List Res},Fit hs m->St B U (kk (inR T sz enc) hs m ++ L) w->∃ U',PHeap.Le U U'/\RlL U' R m (ng wEi hs)/\St B U' L w
 | [],[],U,L,_,h=>⟨U,PHeap.Le.refl U,RlL.nil,h⟩
 | [],_ :: _,_,_,p,_=>by cases p
 | _ :: _,[],_,_,p,_=>by cases p
 | a :: hs,l :: m,U,L,p,h=>by
  have p1:a.n=l.length/\Fit hs m:=by simpa [Fit] using p
  obtain ⟨U1,g1,g2,g3⟩:=St.freezeR (n:=l.length) (sz:=sz) h (k:=0) rfl (wAH he l) hz
  obtain ⟨U2,k1,k2,k3⟩:=St.innFreeze hR he hz p1.2 g3
  refine ⟨U2,g1.trans k1,?_,k3⟩
  have:=RlL.cons (hR U2 a.A a.c l (g2.le k1)) k2
  rw [<- p1.1] at this
  exact this
theorem St.freezeN {R:Rl (List α)} {A:Option Addr} {c S:Nat} (h:St B U (.row A c S 1 (ng wEi hs) :: inn T sz enc hs m :: L) w) (hR:∀ U A c l,Sl U sz A c l.length (ng enc l)->R.r U l [.slice A l.length c]) (he:∀ x,(enc x).length=sz) (hz:0 < sz) (hR1:R.sz=1) :
  ∃ U',PHeap.Le U U'/\SlR U' R A c m/\St B U' L w:=by
 obtain ⟨p,h1⟩:=h.swap.unpack
 obtain ⟨U1,g1,g2,g3⟩:=St.innFreeze hR he hz p h1
 obtain ⟨U2,k1,k2,k3⟩:=g3.freezeRR (k:=0) rfl g2 hR1 (by decide)
 exact ⟨U2,g1.trans k1,k2,k3⟩
theorem wRU {bytes:Nat} {z:List (List α)} (h:app bytes m m2=some z) (p:Fit hs m) (p2:Fit hs2 m2):app bytes hs hs2=some (hs ++ hs2)/\z=m ++ m2:=by
 obtain ⟨rfl,hb⟩:=wMN h
 refine ⟨?_,rfl⟩
 unfold app
 rw [p.len,p2.len,if_pos hb]
theorem slen {σ:Env} {x:Operand} {A:Option Addr} {c:Nat} (h:ev σ x=.slice A m.length c) (p:Fit hs m):ev σ x=.slice A hs.length c:=by rw [h,p.len]
end
end Go.KL
namespace Go.KL
open Go.RowKit
section
variable {B:Base} {U:PHeap} {L:List Res} {w:World}
def DjQ (rs:List Res):Prop:=∀ (i j:Nat) (r s:Res) (b:Nat),rs[i]?=some r->rs[j]?=some s->r.has b->s.has b->i=j
theorem djQ (L:List Res):DjQ L ↔ L.Pairwise (fun r s=>∀ b,r.has b->¬ s.has b):=by
 rw [List.pairwise_iff_getElem]
 constructor
 ·intro h i j hi hj hij b h1 h2
  have:=h i j _ _ b (nB hi) (nB hj) h1 h2
  omega
 ·intro h i j r s b hi hj h1 h2
  obtain ⟨hi',rfl⟩:=nA.1 hi
  obtain ⟨hj',rfl⟩:=nA.1 hj
  rcases Nat.lt_trichotomy i j with q | q | q
  ·exact absurd h2 (h i j hi' hj' q b h1)
  ·exact q
  ·exact absurd h1 (h j i hj' hi' q b h2)
theorem St.permQ {L':List Res} (h:St B U L w) (p:L.Perm L'):St B U L' w :=
 ⟨h.os,h.tape,h.output,h.size,h.old,h.fro,h.le,h.src,fun r hr=>h.at_ r (p.mem_iff.2 hr),fun r hr=>h.own r (p.mem_iff.2 hr),
  (djQ L').2 ((p.pairwise_iff fun hab b h1 h2=>hab b h2 h1).1 ((djQ L).1 h.dj))⟩
end
structure Ad where
 i:Nat
 d:Nat
 post:Value->List Res->Prop
def Kn:List (Nat × Value)->Env->Prop
 | [],_=>True
 | p :: l,σ=>σ p.1=p.2/\Kn l σ
theorem Kn.upd {d:Nat} {v:Value} {σ:Env}:∀ {kn:List (Nat × Value)},Kn kn σ->kn.all (fun p=>!Nat.beq p.1 d)=true->Kn kn (upd σ d v)
 | [],_,_=>trivial
 | p :: l,⟨h1,h2⟩,h=>by
  rw [List.all_cons,nK] at h
  refine ⟨?_,h2.upd h.2⟩
  have hne:p.1 ≠ d:=fun e=>by rw [e] at h;simp at h
  have hb:nf p.1 d=false:=by
   cases hq:nf p.1 d with
   | false=>rfl
   | true=>exact absurd (kQ hq) hne
  show (bif nf p.1 d then v else σ p.1)=p.2
  rw [hb]
  exact h1
theorem wRV (σ:Env) (d:Nat) (v:Value):upd σ d v d=v:=by
 show (bif nf d d then v else σ d)=v
 rw [Nat.beq_refl];rfl
theorem wPq {σ:Env} {d t:Nat} {v:Value} (h:t ≠ d):upd σ d v t=σ t:=by
 have hb:nf t d=false:=by
  cases hq:nf t d with
  | false=>rfl
  | true=>exact absurd (kQ hq) h
 show (bif nf t d then v else σ t)=σ t
 rw [hb];rfl
def adT (pr:List (Nat × List Nat)) (t:Sch):Nat->List Nat->List Nat->Sch
 | 0,_,_=>.stop
 | _ + 1,[],_=>t
 | n + 1,i :: td,dn=>((i :: td).filter fun j=>(pr.all fun q=>!Nat.beq q.1 j || q.2.all fun x=>dn.contains x)).foldr (fun j a=>.fx j (adT pr t n ((i :: td).erase j) (j :: dn)) a) .stop
def wRW (ads:List Ad) (kn:List (Nat × Value)):Bool:=decide ((ads.map (·.i)).Nodup) && decide ((ads.map (·.d)).Nodup) && ads.all fun a=>kn.all fun p=>!Nat.beq p.1 a.d
theorem wKg {α β:Type} {f:α->β}:∀ {ys:List β} {xs:List α},(xs.map f).Perm ys->∃ zs:List α,zs.Perm xs/\zs.map f=ys
 | [],xs,h=>⟨[],by
  have:=h.length_eq
  simp at this
  subst this;exact .refl _,rfl⟩
 | y :: ys,xs,h=>by
  obtain ⟨x,hx,e⟩:=nq.1 (h.mem_iff.2 (kZ (a:=y) (l:=ys)))
  obtain ⟨s,t,rfl⟩:=kY hx
  have h2:((s ++ t).map f).Perm ys:=by
   rw [na,ni,e] at h
   rw [na]
   exact (List.Perm.cons_inv ((km (a:=y)).symm.trans h))
  obtain ⟨zs,p,q⟩:=wKg h2
  exact ⟨x :: zs,(p.cons x).trans km.symm,by rw [ni,e,q]⟩
theorem wMV {α β:Type} (g:α->List β) {xs ys:List α} (h:xs.Perm ys):(xs.flatMap g).Perm (ys.flatMap g):=by
 induction h with
 | nil=>exact .refl _
 | cons x _ ih=>rw [nG,nG];exact ih.append_left _
 | swap x y l =>
  rw [nG,nG,nG,nG,<- nc,<- nc]
  exact (List.perm_append_comm).append_right _
 | trans _ _ a b=>exact a.trans b
def AdE (G:List (Nat × Value)->List Res->Prop):List Ad->List (Nat × Value)->List Res->Prop
 | [],vs,L=>G vs L
 | a :: l,vs,L=>∀ v R,a.post v R->AdE G l (vs ++ [(a.d,v)]) (L ++ R)
section
variable {N:Nat} {P:Program} {Q:wCp} {D:List Deferred} {l:List Oper} {ks:List Nat} {B:Base} {U0:PHeap} {L0:List Res}
def AdOK (N:Nat) (P:Program) (l:List Oper) (Q:wCp) (D:List Deferred) (ks:List Nat) (B:Base) (U0:PHeap) (L0:List Res) (kn:List (Nat × Value)) (a:Ad):Prop :=
 ∀ (s:Sch) (σ:Env) (w:World) (U:PHeap) (L:List Res),Kn kn σ->PHeap.Le U0 U->St B U (L ++ L0) w ->
  (∀ v w' U' R,PHeap.Le U U'->St B U' (R ++ (L ++ L0)) w'->a.post v R->OKS N P l Q D ks s (upd σ a.d v) w')->OKS N P l Q D ks (.fx a.i s .stop) σ w
theorem wPN {G:List (Nat × Value)->List Res->Prop}:∀ (xs:List (Ad × Value × List Res)) (vs:List (Nat × Value)) (L:List Res),AdE G (xs.map (·.1)) vs L->(∀ x ∈ xs,x.1.post x.2.1 x.2.2)->G (vs ++ xs.map fun x=>(x.1.d,x.2.1)) (L ++ xs.flatMap (·.2.2))
 | [],vs,L,h,_=>by
  have h:G vs L:=h
  simpa using h
 | x :: xs,vs,L,h,hp=>by
  have:=wPN xs _ _ (h x.2.1 x.2.2 (hp x (.head _))) fun y hy=>hp y (.tail _ hy)
  simpa [nc] using this
theorem wRX {σ:Env}:∀ (xs:List (Ad × Value × List Res)),(∀ x ∈ xs,σ x.1.d=x.2.1)->Kn (xs.map fun x=>(x.1.d,x.2.1)) σ
 | [],_=>trivial
 | x :: xs,h=>⟨h x (.head _),wRX xs fun y hy=>h y (.tail _ hy)⟩
theorem OKS.adders {t:Sch} (pr:List (Nat × List Nat)) (ads:List Ad) (kn:List (Nat × Value)) (F:List Nat) (hc:wRW ads kn=true) (H:∀ a ∈ ads,AdOK N P l Q D ks B U0 L0 kn a)
  (E:AdE (fun vs L=>∀ (σ:Env) (w:World) (U:PHeap),Kn kn σ->Kn vs σ->PHeap.Le U0 U->St B U (L ++ L0) w->OKS N P l Q D ks t σ w) ads [] []) {σ:Env} {w:World} (hk:Kn kn σ) (hS:St B U0 L0 w) :
  OKS N P l Q D ks (adT pr t (ads.length + 1) (ads.map (·.i)) F) σ w:=by
 unfold wRW at hc
 simp only [nK,decide_eq_true_eq] at hc
 obtain ⟨⟨hi,hd⟩,hkn⟩:=hc
 have hkn:=nW.1 hkn
 have main:∀ (n:Nat) (td:List Ad) (dn:List (Ad × Value × List Res)) (F:List Nat) (σ:Env) (w:World) (U:PHeap),td.length < n->(dn.map (·.1) ++ td).Perm ads->Kn kn σ->PHeap.Le U0 U->(∀ x ∈ dn,σ x.1.d=x.2.1/\x.1.post x.2.1 x.2.2)->St B U (dn.flatMap (·.2.2) ++ L0) w->OKS N P l Q D ks (adT pr t n (td.map (·.i)) F) σ w:=by
  intro n
  induction n with
  | zero=>intro td dn F σ w U h;omega
  | succ n ih =>
   intro td dn F σ w U hn hp hk hle hx hS
   cases td with
   | nil =>
    rw [kv] at hp
    obtain ⟨zs,p,q⟩:=wKg hp
    have hz:∀ x ∈ zs,σ x.1.d=x.2.1/\x.1.post x.2.1 x.2.2:=fun x h=>hx x (p.mem_iff.1 h)
    have:=wPN zs [] [] (by rw [q];exact E) fun x h=>(hz x h).2
    exact this σ w U hk (wRX zs fun x h=>(hz x h).1) hle (hS.permQ ((wMV _ p.symm).append_right _))
   | cons b td =>
    have hids:(((b :: td).map (·.i))).Nodup:=by
     have h1:=(hp.map (·.i)).nodup_iff.2 hi
     rw [na] at h1
     exact (nj.1 h1).2.1
    have each:∀ sub:List Nat,(∀ j ∈ sub,j ∈ (b :: td).map (·.i))->OKS N P l Q D ks (sub.foldr (fun j a=>.fx j (adT pr t n (((b :: td).map (·.i)).erase j) (j :: F)) a) .stop) σ w:=by
     intro sub
     induction sub with
     | nil=>exact fun _=>trivial
     | cons j sub ih2 =>
      intro hsub
      refine OKS.both ?_ (ih2 fun x h=>hsub x (.tail _ h))
      obtain ⟨a,ha,e⟩:=nq.1 (hsub j (.head _))
      subst e
      obtain ⟨s1,s2,es⟩:=kY ha
      rw [es] at hids hp hn ⊢
      have her:(((s1 ++ a :: s2).map (·.i)).erase a.i)=(s1 ++ s2).map (·.i):=by
       rw [na,ni] at hids ⊢
       have hno:a.i ∉ s1.map (·.i):=fun h=>(nj.1 hids).2.2 _ h _ (.head _) rfl
       rw [List.erase_append_right _ hno,List.erase_cons_head,na]
      rw [her]
      have ham:a ∈ ads:=hp.mem_iff.1 (nO.2 (.inr (nO.2 (.inr (.head _)))))
      refine H a ham _ σ w U _ hk hle hS fun v w' U' R h1 h2 h3=>?_
      refine ih (s1 ++ s2) ((a,v,R) :: dn) (a.i :: F) (upd σ a.d v) w' U' (by simp only [kJ,kM] at hn ⊢;omega) ?_ (hk.upd (hkn a ham)) (hle.trans h1) (fun x hxm=>?_) (by rw [nG,nc];exact h2)
      ·rw [ni,List.cons_append,<- nc]
       refine List.Perm.trans ?_ hp
       rw [<- nc]
       exact km.symm
      ·rcases nI.1 hxm with rfl | hxm
       ·exact ⟨wRV σ a.d v,h3⟩
       ·have hne:x.1.d ≠ a.d:=fun e=>by
         have h1:=(hp.map (·.d)).nodup_iff.2 hd
         rw [na] at h1
         exact (nj.1 h1).2.2 x.1.d (nq.2 ⟨x.1,nq.2 ⟨x,hxm,rfl⟩,rfl⟩) a.d (nq.2 ⟨a,nO.2 (.inr (.head _)),rfl⟩) e
        refine ⟨?_,(hx x hxm).2⟩
        rw [wPq hne]
        exact (hx x hxm).1
    exact each _ fun j hj=>(kS.1 hj).1
 exact main _ ads [] F σ w U0 (Nat.lt_succ_self _) (by simpa using .refl _) hk (PHeap.Le.refl _) (fun (x:Ad × Value × List Res) (h:x ∈ [])=>by cases h) (by simpa using hS)
end
end Go.KL
