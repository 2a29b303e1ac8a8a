import Derived.Test.YtlkkhhcfemmmdaaGreatA1
import Derived.Lib.AppendZeros
import Derived.Test.YtlkkhhcfemmmdaaGreatA0
set_option linter.all false
open Option renaming bind_some->nA,rec->kW
open Bool renaming and_eq_true->nB,false_eq_true->nM,or_eq_true->nX,false_or->ni,not_eq_true'->nm,not_true->nu
open Nat renaming eq_of_beq_eq_true->nD,beq->nE,le_refl->nI,le_of_ble_eq_true->nV,ble->nW,zero_add->nc,blt_eq->np,ble_eq->kB,le_of_mul_le_mul_right->kC,add_zero->kK,le_trans->kM,blt->kQ,ble_eq_true_of_le->kS,sub_zero->kh,le_mul_of_pos_right->kj,add_mul->kx,mul_le_mul_right->aB,beq_eq->aC,lt_or_ge->aO
open List renaming length_append->nG,length_singleton->nH,map_cons->nJ,all_eq_true->nL,length_cons->nN,mem_cons->nO,pairwise_cons->nQ,length_take->nR,getElem?_eq_getElem->nT,mem_append->nU,mem_append_left->nY,pairwise_append->nZ,mem_of_mem_take->na,take_of_length_le->nb,take_append_drop->nh,append_assoc->nj,drop_eq_getElem_cons->nq,replicate->nr,take_length->nt,drop_eq_nil_of_le->nv,eq_nil_of_length_eq_zero->nw,getElem?_map->ny,mem_map->nz,mem_append_right->kA,nodup_iff_pairwise_ne->kD,getElem_of_mem->kE,mergeSort_perm->kG,nil_append->kH,pairwise_iff_getElem->kJ,filter_append->kO,getElem?_eq_none->kR,length_filter_le->kU,range->kV,append_nil->kX,foldl_cons->kY,length_take_le->kZ,drop_zero->ka,mem_range->kb,length->ke,mem_singleton->kf,pairwise_map->kg,set->ki,pairwise_mergeSort->kl,filter_cons_of_neg->km,length_set->kr,filter_nil->ku,length_map->kv,set_append_right->aA,any_cons->aF,all_cons->aG,map_eq_nil_iff->aI,filter_eq_self->aJ,length_reverse->aK,getElem?_take->aM,map_nil->aN,countP_append->aP,size_toArray->aQ,ext_getElem?->aT,getElem?_set->aU,foldl_append->aV
open List.cons renaming injEq->nK,inj->aW
open Array renaming ext'->nP,range->kc,getElem?_toList->ky,toList_append->aH,size_append->aR
open Int renaming toNat_natCast->nS,le_refl->kP,ofNat->kq,le_of_lt->aL
open Option.some renaming inj->ng,injEq->aS
open Go.Value renaming int->ko
open List.Perm renaming refl->kz
open Prod.mk renaming injEq->aD
namespace Go.KX
noncomputable section
open Go.RowKit Go.KL
section
variable {C:Chk} {P:Program} {μ μ':Mu} {w w':World} {h h':AH} {σ:Env} {σA:Tr AV} {t e:TypeId} {o:Oper}
def wKr (place:Nat->Option (Nat × Nat)):List (Nat × Nat × AOd)->List (Nat × Operand)->Bool
 | [],[]=>true
 | (off,n,x) :: ps,(i,y) :: qs=>(match place i with | some (o,s)=>nE o off && nE s n | none=>false) && (wCt x y && wKr place ps qs)
 | _,_=>false
theorem wJt {place:Nat->Option (Nat × Nat)} (hE:EnvR μ σA σ):∀ {ps:List (Nat × Nat × AOd)} {qs:List (Nat × Operand)} {cs r:List AV} {CS:List Value},wJk σA cs ps=some r->wKr place ps qs=true->RvL μ cs CS ->
  ∃ R,lay place CS (qs.map fun (p:Nat × Operand)=>(p.1,ev σ p.2))=some R/\RvL μ r R/\R.length=CS.length
 | [],[],cs,r,CS,hr,_,hl=>by
  simp only [wJk] at hr;cases hr;exact ⟨CS,rfl,hl,rfl⟩
 | (off,n,x) :: ps,(i,y) :: qs,cs,r,CS,hr,hc,hl=>by
  simp only [wKr,nB] at hc
  obtain ⟨c1,c2,c3⟩:=hc
  split at c1
  ·rename_i o s hp
   simp only [nB] at c1
   have e1:=nD c1.1
   have e2:=nD c1.2
   subst e1 e2
   simp only [wJk] at hr
   split at hr
   ·rename_i hn
    have hn:=nD hn
    split at hr
    ·rename_i cs' ho
     obtain ⟨vs,v1,v2⟩:=wJp (wAO c2 hE)
     obtain ⟨g1,g2⟩:=wJo ho hl v1
     have hlen:vs.length=s:=by rw [wEp v1,<- wGf,hn]
     obtain ⟨R,r1,r2,r3⟩:=wJt hE hr c3 g2
     refine ⟨R,?_,r2,by rw [r3,wCS]⟩
     rw [nJ,lay,hp]
     simp only [v2,aQ,hlen,beq_self_eq_true,Bool.true_and]
     rw [if_pos (by rw [kB];omega)]
     exact r1
    ·cases hr
   ·cases hr
  ·cases c1
 | [],_ :: _,cs,r,CS,hr,hc,hl=>by simp [wKr] at hc
 | _ :: _,[],cs,r,CS,hr,hc,hl=>by simp [wKr] at hc
def plL (P:Program):List Field->Option (List (Nat × Nat))
 | []=>some []
 | f :: fs=>match P.info? f.type,plL P fs with
  | some i,some l=>some ((f.offset,i.size) :: l)
  | _,_=>none
theorem wUW:∀ {fs:List Field} {pl:List (Nat × Nat)},plL P fs=some pl->wRB P fs.toArray pl:=by
 intro fs pl hp w
 rw [List.mapM_toArray]
 have key:∀ (fs:List Field) (pl:List (Nat × Nat)),plL P fs=some pl->((fs.mapM fun f=>do pure (f.offset,<- sizeOf f.type):Sem (List (Nat × Nat)))).run P w=.ok pl w:=by
  intro fs
  induction fs with
  | nil=>intro pl hp;cases hp;simp
  | cons f fs ih =>
   intro pl hp
   unfold plL at hp
   split at hp
   ·rename_i i l h1 h2
    cases hp
    have hs:(sizeOf f.type).run P w=.ok i.size w:=by simp [sizeOf,typeInfo,h1]
    simp only [List.mapM_cons,Sem.run_bind,hs,Result.andThen_ok,Sem.run_pure,ih l h2]
   ·cases hp
 have:=key fs pl hp
 simp only [Sem.run_map,this,Result.andThen_ok]
def wSe (P:Program) (z:List AV) (ps:List (Nat × Nat × AOd)):Op->Bool
 | .build t qs=>zT P t z && wFx P t (fun d=>match d with
   | .struct fs=>match plL P fs.toList with
    | some pl=>wKr (fun i=>pl[i]?) ps qs.toList
    | none=>false
   | .array _ e=>match P.info? e with
    | some j=>wKr (fun i=>some (i * j.size,j.size)) ps qs.toList
    | none=>false
   | _=>false)
 | _=>false
theorem p_bld {z:List AV} {ps:List (Nat × Nat × AOd)} {op:Op} (hc:wSe P z ps op=true):OkP P op (wOc z ps):=by
 intro σA h v h' hr
 unfold wSe at hc
 split at hc
 ·rename_i t qs
  simp only [nB] at hc
  obtain ⟨c1,c2⟩:=hc
  obtain ⟨hr2,rfl⟩:=wCM hr
  obtain ⟨r,hr3,rfl⟩:=wFB hr2
  obtain ⟨i,zv,z1,z2,z3⟩:=wIc c1
  obtain ⟨d,d1,d2⟩:=wBF c2
  refine ⟨rfl,fun μ σ hE=>?_⟩
  split at d2
  ·rename_i fs
   split at d2
   ·rename_i pl hpl
    obtain ⟨R,r1,r2,_⟩:=wJt hE hr3 d2 (z3 μ)
    refine ⟨_,⟨R,r2,rfl⟩,fun o w ho=>?_⟩
    exact Runs.build (P:=P) (ps:=qs.toList) (z:=zv.cells.toList) ho rfl (wGW z1 z2) ⟨fs,wBP d1,wUW hpl⟩ (by simp) r1
   ·cases d2
  ·rename_i n e
   split at d2
   ·rename_i j hj
    obtain ⟨R,r1,r2,_⟩:=wJt hE hr3 d2 (z3 μ)
    refine ⟨_,⟨R,r2,rfl⟩,fun o w ho=>?_⟩
    exact Runs.buildA (P:=P) (ps:=qs.toList) (z:=zv.cells.toList) ho rfl (wGW z1 z2) (wBP d1) (fun w=>by simp [sizeOf,typeInfo,hj]) (by simp) r1
   ·cases d2
  ·cases d2
 ·cases hc
def wNX (P:Program) (b:Builtin) (x:AOd):Op->Bool
 | .call c=>match c.callee with
  | .builtin b'=>(b' == b) && (match c.args.toList,c.argTypes.toList with
   | [y],[t]=>wFx P t (fun d=>match d with | .slice _=>true | _=>false) && wCt x y
   | _,_=>false)
  | _=>false
 | _=>false
theorem wMg {b:Builtin} {x:AOd} {op:Op} (hc:wNX P b x op=true):∃ y t e,op=.call { callee:=.builtin b,args:=#[y],argTypes:=#[t] }/\P.underlying t=some (.slice e)/\wCt x y=true:=by
 unfold wNX at hc
 split at hc
 ·rename_i c
  obtain ⟨ce,args,tys⟩:=c
  simp only at hc
  split at hc
  ·rename_i b'
   simp only [nB,beq_iff_eq] at hc
   obtain ⟨rfl,h2⟩:=hc
   split at h2
   ·rename_i y t h3 h4
    simp only [nB] at h2
    obtain ⟨d,d1,d2⟩:=wBF h2.1
    cases d <;> first | (cases d2;done) | skip
    refine ⟨y,t,_,?_,d1,h2.2⟩
    congr 2
    ·exact nP (by simpa using h3)
    ·exact nP (by simpa using h4)
   ·cases h2
  ·cases hc
 ·cases hc
theorem p_len {x:AOd} {op:Op} (hc:wNX P .len x op=true):OkP P op (wOd x):=by
 intro σA h v h' hr
 obtain ⟨y,t,e,rfl,d1,c2⟩:=wMg hc
 unfold wOd at hr
 split at hr <;> cases hr <;> rename_i hb
 ·refine ⟨rfl,fun μ σ hE=>⟨_,rfl,fun o w ho=>?_⟩⟩
  have g:=wAO c2 hE;rw [hb] at g
  exact Runs.len ho g (wBP d1)
 ·refine ⟨rfl,fun μ σ hE=>⟨_,rfl,fun o w ho=>?_⟩⟩
  have g:=wAO c2 hE;rw [hb] at g
  obtain ⟨c,_,_,g⟩:=g
  exact Runs.len ho g (wBP d1)
 ·refine ⟨rfl,fun μ σ hE=>⟨_,rfl,fun o w ho=>?_⟩⟩
  have g:=wAO c2 hE;rw [hb] at g
  obtain ⟨c,_,_,g⟩:=g
  exact Runs.len ho g (wBP d1)
 ·refine ⟨rfl,fun μ σ hE=>⟨_,rfl,fun o w ho=>?_⟩⟩
  have g:=wAO c2 hE;rw [hb] at g
  obtain ⟨c,_,q,g⟩:=g
  exact Runs.len ho g (wBP d1)
theorem Runs.cap {t e:TypeId} {x:Operand} {a:Option Addr} {n c:Nat} (ho:o.op=.call { callee:=.builtin .cap,args:=#[x],argTypes:=#[t] }) (hx:ev σ x=.slice a n c)
  (ht:∀ w,(underlying t).run P w=.ok (.slice e) w):Runs P σ w o (.int .i64 c) w :=
 ⟨by rw [ho];rfl,by simp [execOp,ho,resolve,invoke,builtin,Builtin.cap_,hx,ht,goInt]⟩
theorem p_cap {x:AOd} {op:Op} (hc:wNX P .cap x op=true):OkP P op (wOe x):=by
 intro σA h v h' hr
 obtain ⟨y,t,e,rfl,d1,c2⟩:=wMg hc
 unfold wOe at hr
 split at hr <;> cases hr <;> rename_i hb
 ·refine ⟨rfl,fun μ σ hE=>⟨_,rfl,fun o w ho=>?_⟩⟩
  have g:=wAO c2 hE;rw [hb] at g
  exact Runs.cap ho g (wBP d1)
 ·refine ⟨rfl,fun μ σ hE=>⟨_,rfl,fun o w ho=>?_⟩⟩
  have g:=wAO c2 hE;rw [hb] at g
  obtain ⟨c,_,_,g⟩:=g
  exact Runs.cap ho g (wBP d1)
def wTn (b:Builtin) (x y:AOd):Op->Bool
 | .call c=>match c.callee with
  | .builtin b'=>(b' == b) && (match c.args.toList with
   | [x',y']=>wCt x x' && wCt y y'
   | _=>false)
  | _=>false
 | _=>false
theorem wOw {b:Builtin} {x y:AOd} {op:Op} (hc:wTn b x y op=true):∃ x' y' tys,op=.call { callee:=.builtin b,args:=#[x',y'],argTypes:=tys }/\wCt x x'=true/\wCt y y'=true:=by
 unfold wTn at hc
 split at hc
 ·rename_i c
  obtain ⟨ce,args,tys⟩:=c
  simp only at hc
  split at hc
  ·rename_i b'
   simp only [nB,beq_iff_eq] at hc
   obtain ⟨rfl,h2⟩:=hc
   split at h2
   ·rename_i x' y' h3
    simp only [nB] at h2
    refine ⟨x',y',tys,?_,h2.1,h2.2⟩
    congr 2
    exact nP (by simpa using h3)
   ·cases h2
  ·cases hc
 ·cases hc
theorem p_min {x y:AOd} {op:Op} (hc:wTn .min x y op=true):OkP P op (wSH x y):=by
 intro σA h v h' hr
 obtain ⟨x',y',tys,rfl,c1,c2⟩:=wOw hc
 obtain ⟨hr2,rfl⟩:=wCM hr
 split at hr2
 ·rename_i a b e1 e2
  cases hr2
  refine ⟨rfl,fun μ σ hE=>⟨_,rfl,fun o w ho=>?_⟩⟩
  have g1:=wAO c1 hE;rw [e1] at g1
  have g2:=wAO c2 hE;rw [e2] at g2
  refine (Runs.min ho g1 g2).to ?_
  have:(match zlt b a with | true=>b | false=>a)=Min.min a b:=by
   rw [wIa,Int.min_def]
   by_cases hq:b < a
   ·simp [hq,Int.not_le.2 hq]
   ·simp [hq,Int.not_lt.1 hq]
  exact congrArg (ko .i64) this.symm
 ·cases hr2
theorem p_max {x y:AOd} {op:Op} (hc:wTn .max x y op=true):OkP P op (wSI x y):=by
 intro σA h v h' hr
 obtain ⟨x',y',tys,rfl,c1,c2⟩:=wOw hc
 obtain ⟨hr2,rfl⟩:=wCM hr
 split at hr2
 ·rename_i a b e1 e2
  cases hr2
  refine ⟨rfl,fun μ σ hE=>⟨_,rfl,fun o w ho=>?_⟩⟩
  have g1:=wAO c1 hE;rw [e1] at g1
  have g2:=wAO c2 hE;rw [e2] at g2
  refine (Runs.max ho g1 g2).to ?_
  have:(match zlt a b with | true=>b | false=>a)=Max.max a b:=by
   rw [wIa,Int.max_def]
   by_cases hq:a < b
   ·simp [hq,aL hq]
   ·by_cases hq2:a <= b
    ·have:a=b:=by omega
     simp [this]
    ·simp [hq,hq2]
  exact congrArg (ko .i64) this.symm
 ·cases hr2
def OkL (C:Chk) (P:Program) (op:Op) (f:Tr AV->AH->Option (AV × AH)):Prop :=
 ∀ σA h v h',f σA h=some (v,h')->h'=h/\∀ μ σ w,EnvR μ σA σ->Sim C P μ h w->∃ cv,Rv μ v cv/\∀ (o:Oper),o.op=op->wFb P σ w o cv
theorem wGY {b:Pos} {l:List AV} (hr:wGJ h b=some l) (S:Sim C P μ h w):∃ c vs,μ b=some c/\RvL μ l vs/\∀ w',Keep w w' Non->∀ j v,vs[j]?=some v->w'.cell? ⟨c.1,j,none⟩=some v:=by
 unfold wGJ at hr
 split at hr
 ·rename_i B hB
  obtain ⟨c,h1,h2⟩:=S.at_ b B hB
  cases B <;> simp only [wMW] at hr <;> first | (cases hr;done) | cases hr
  ·obtain ⟨vs,h3,h4⟩:=h2
   exact ⟨c,vs,h1,h3,fun w' K j v hv=>(h4.non K).cell hv⟩
  ·obtain ⟨vs,h3,h4⟩:=h2
   refine ⟨c,vs,h1,h3,fun w' K j v hv=>?_⟩
   obtain ⟨cur,g1,g2,g3,g4,g5⟩:=RowAt.cells h4
   have g1':=(K.block _ (wAi g1) id).trans g1
   have:cur.toList[j]?=some v:=by
    rw [<- g5,aM] at hv
    split at hv
    ·exact hv
    ·cases hv
   simp only [World.cell?,g1']
   simpa using this
 ·cases hr
def c_ld (P:Program) (x:AOd):Op->Bool
 | .load t y=>wQN P t false && wCt x y
 | _=>false
theorem l_ld {x:AOd} {op:Op} (hc:c_ld P x op=true):OkL C P op (o_ld x):=by
 intro σA h v h' hr
 unfold c_ld at hc
 split at hc
 ·simp only [nB] at hc
  unfold o_ld at hr
  split at hr
  ·rename_i b off hb
   split at hr
   ·rename_i l hl
    obtain ⟨hr2,rfl⟩:=wCM hr
    refine ⟨rfl,fun μ σ w hE S=>?_⟩
    obtain ⟨c,vs,h1,h2,h3⟩:=wGY hl S
    have g:=wAO hc.2 hE;rw [hb] at g
    obtain ⟨c',g1,g2⟩:=g
    rw [h1] at g1;cases g1
    rw [wHn] at hr2
    obtain ⟨cv,g3,g4⟩:=wGo h2 hr2
    exact ⟨cv,g4,fun o ho w' K=>Runs.ld ho g2 (wGK hc.1) (h3 w' K _ _ g3)⟩
   ·cases hr
  ·cases hr
 ·cases hc
def wSf (P:Program) (n:Nat) (x:AOd):Op->Bool
 | .load t y=>(wQN P t true && szT P t n) && wCt x y
 | _=>false
theorem l_ldA {n:Nat} {x:AOd} {op:Op} (hc:wSf P n x op=true):OkL C P op (wQG n x):=by
 intro σA h v h' hr
 unfold wSf at hc
 split at hc
 ·simp only [nB] at hc
  unfold wQG at hr
  split at hr
  ·rename_i b off hb
   split at hr
   ·rename_i l hl
    obtain ⟨hr2,rfl⟩:=wCM hr
    obtain ⟨r,hr3,rfl⟩:=wFB hr2
    refine ⟨rfl,fun μ σ w hE S=>?_⟩
    obtain ⟨c,vs,h1,h2,h3⟩:=wGY hl S
    have g:=wAO hc.2 hE;rw [hb] at g
    obtain ⟨c',g1,g2⟩:=g
    rw [h1] at g1;cases g1
    obtain ⟨g3,g4⟩:=wGp hr3 h2
    refine ⟨_,⟨_,g3,rfl⟩,fun o ho w' K=>Runs.ldA ho g2 (wGK hc.1.1) (wFL hc.1.2) (by simp;omega) fun j u hu=>?_⟩
    exact h3 w' K _ _ (wGF rfl j u hu)
   ·cases hr
  ·cases hr
 ·cases hc
def OkE (C:Chk) (P:Program) (op:Op) (f:Tr AV->AH->Option (AV × AH)):Prop :=
 ∀ σA h v h',f σA h=some (v,h')->∀ μ σ w,EnvR μ σA σ->Sim C P μ h w->∀ (o:Oper),o.op=op->∃ μ' w' cv,Ext μ h.fl.nat w μ' w'/\Sim C P μ' h' w'/\Rv μ' v cv/\h'.fl=h.fl/\Runs P σ w o cv w'
def OkU (C:Chk) (P:Program) (op:Op) (f:Tr AV->AH->Option (AV × AH)):Prop :=
 ∀ σA h v h',f σA h=some (v,h')->∀ μ σ w,EnvR μ σA σ->Sim C P μ h w->∀ (o:Oper),o.op=op->∃ μ' w',Ext μ h.fl.nat w μ' w'/\Sim C P μ' h' w'/\v=u/\h'.fl=h.fl/\Does P σ w o w'
theorem OkP.toL {op:Op} {f:Tr AV->AH->Option (AV × AH)} (hp:OkP P op f):OkL C P op f:=by
 intro σA h v h' hr
 obtain ⟨h1,h2⟩:=hp σA h v h' hr
 exact ⟨h1,fun μ σ w hE _=>let ⟨cv,g1,g2⟩:=h2 μ σ hE;⟨cv,g1,fun o ho w' _=>g2 o w' ho⟩⟩
theorem OkL.toE {op:Op} {f:Tr AV->AH->Option (AV × AH)} (hp:OkL C P op f):OkE C P op f:=by
 intro σA h v h' hr μ σ w hE S o ho
 obtain ⟨rfl,h2⟩:=hp σA h v h' hr
 obtain ⟨cv,g1,g2⟩:=h2 μ σ w hE S
 exact ⟨μ,w,cv,Ext.refl μ _ w,S,g1,rfl,g2 o ho w (Keep.refl w _)⟩
def wSg (P:Program) (T:Nat) (z:List AV):Op->Bool
 | .alloc t=>nE T t && zT P t z
 | _=>false
def wSh (T:Nat) (x:AOd):Op->Bool
 | .box t y=>nE T t && wCt x y
 | _=>false
def wSi:Op->Bool
 | .makeMap _ none=>true
 | _=>false
theorem wIg {zc:Array Value} {n:Nat}:∀ c,((kc (c * zc.size)).map (zc[· % zc.size]!)).toList=(nr c zc.toList).flatten \/ False:=by
 intro c
 left
 induction c with
 | zero=>simp
 | succ c ih =>
  rw [Array.toList_map,Array.toList_range] at ih ⊢
  rw [Nat.succ_mul,List.range_add,List.map_append,ih,List.replicate_succ',List.flatten_append]
  congr 1
  simp only [List.map_map,List.flatten_singleton]
  apply List.ext_getElem
  ·simp
  ·intro i h1 h2
   simp at h1
   simp [Nat.add_mul_mod_self_right,Nat.mod_eq_of_lt h1,Nat.add_comm (c * zc.size) i,h1]
def wSj (P:Program) (T sz by_:Nat) (z:List AV) (x y:AOd):Op->Bool
 | .makeSlice t x' y'=>wFx P t (fun d=>match d with | .slice e=>nE e T | _=>false) && (szT P T sz && (byT P T by_ && (zT P T z && (nE (len z) sz && (wCt x x' && wCt y y')))))
 | _=>false
def wOx (P:Program) (T n:Nat) (z:List AV) (ps:List (Nat × Nat × AOd)):Op->Bool
 | .buildSlice t m qs=>nE m n && (wFx P t (fun d=>match d with | .slice e=>nE e T | _=>false) && (match P.info? T with
   | some i=>nW (n * i.size) 16777216 && (wKr (fun k=>some (k * i.size,i.size)) ps qs.toList && (match i.zero with
    | some v=>wQM z ((kV (n * i.size)).map fun k=>v.cells[k % v.cells.size]!)
    | none=>false))
   | none=>false))
 | _=>false
def OkA (C:Chk) (P:Program) (op:Op) (f:Tr AV->AH->Option (AV × AH)):Prop :=
 ∀ σA h v h',f σA h=some (v,h')->∃ (B:AB) (vf:Pos->AV),h'=h.push B/\v=vf h.nx/\(∀ h2:AH,f σA h2=some (vf h2.nx,h2.push B))/\wNl B/\∀ μ σ,EnvR μ σA σ->∀ o:Oper,o.op=op ->
 ∃ (ob:Obj) (val:Nat->Value),(∀ w:World,Runs P σ w o (val w.heap.size) (w.alloc ob)) /\
 (∀ μ' (w:World) b,μ.Le μ'->w.heap[b]?=some ob->AbR C P μ' w ⟨b,0,g0⟩ B)/\∀ μ' p b,μ' p=some ⟨b,0,g0⟩->Rv μ' (vf p) (val b)
theorem wNY {α:Type} {b:Bool} {x:Option α} (h:b=true):ifO b x=x:=by subst h;rfl
theorem wUX {T:Nat} {z:List AV} {op:Op} (hc:wSg P T z op=true):OkA C P op (wUJ T z):=by
 intro σA h v h' hr
 cases hr
 unfold wSg at hc
 split at hc
 ·simp only [nB] at hc
  have e:=nD hc.1
  subst e
  obtain ⟨i,zv,z1,z2,z3⟩:=wIc hc.2
  refine ⟨.cells T z,fun p=>.ptr p 0,rfl,rfl,fun h2=>rfl,trivial,fun μ σ hE o ho=>?_⟩
  refine ⟨_,fun b=>.pointer (some ⟨b,0,none⟩),fun w=>⟨by rw [ho];rfl,?_⟩,fun μ' w b hm hb=>⟨_,z3 μ',hb⟩,fun μ' p b hp=>⟨_,hp,rfl⟩⟩
  simp [execOp,ho,Instr.alloc,wGW z1 z2,newVar,newRow,newObj,Sem.run]
 ·cases hc
theorem wUY {T:Nat} {x:AOd} {op:Op} (hc:wSh T x op=true):OkA C P op (wRu T x):=by
 intro σA h v h' hr
 cases hr
 unfold wSh at hc
 split at hc
 ·simp only [nB] at hc
  have e:=nD hc.1
  subst e
  refine ⟨.cells T _,fun p=>.ptr p 0,rfl,rfl,fun h2=>rfl,trivial,fun μ σ hE o ho=>?_⟩
  obtain ⟨vs,v1,v2⟩:=wJp (wAO hc.2 hE)
  refine ⟨.cells vs.toArray T,fun b=>.pointer (some ⟨b,0,none⟩),fun w=>⟨by rw [ho];rfl,?_⟩,fun μ' w b hm hb=>⟨vs,v1.mono hm,hb⟩,fun μ' p b hp=>⟨_,hp,rfl⟩⟩
  simp [execOp,ho,Instr.box,newVar,newRow,newObj,v2,Sem.run]
 ·cases hc
theorem wUZ {op:Op} (hc:wSi op=true):OkA C P op wUK:=by
 intro σA h v h' hr
 cases hr
 unfold wSi at hc
 split at hc
 ·refine ⟨.map0,fun p=>.map p,rfl,rfl,fun h2=>rfl,trivial,fun μ σ hE o ho=>?_⟩
  refine ⟨.map #[] 0,fun b=>.map (some b),fun w=>⟨by rw [ho];rfl,?_⟩,fun μ' w b hm hb=>⟨0,hb⟩,fun μ' p b hp=>⟨_,hp,rfl⟩⟩
  simp [execOp,ho,Instr.makeMap,newObj,Sem.run,Result.andThen]
 ·cases hc
theorem wUa {T sz by_:Nat} {z:List AV} {x y:AOd} {op:Op} (hc:wSj P T sz by_ z x y op=true):OkA C P op (wOW T sz by_ z x y):=by
 intro σA h v h' hr
 unfold wSj at hc
 split at hc
 ·rename_i t x' y'
  simp only [nB] at hc
  obtain ⟨c1,c2,c3,c4,c5,c6,c7⟩:=hc
  obtain ⟨d,d1,d2⟩:=wBF c1
  split at d2 <;> first | (cases d2;done) | skip
  have e:=nD d2
  subst e
  rename_i e
  obtain ⟨i,i1,i2⟩:=wJq c2
  obtain ⟨i',j1,j2⟩:=wJr c3
  obtain ⟨i'',zv,k1,k2,k3⟩:=wIc c4
  rw [i1] at j1 k1;cases j1;cases k1
  have hz:=nD c5
  unfold wOW at hr
  split at hr
  ·rename_i l c hl hcc
   obtain ⟨hb,hr⟩:=wCN hr
   cases hr
   simp only [nB,kB] at hb
   obtain ⟨⟨⟨b1,b2⟩,b3⟩,b4⟩:=hb
   refine ⟨.cells e (rep c z),fun p=>.sl p 0 l c,rfl,rfl,fun h2=>(by simp only [wOW,hl,hcc];exact wNY (by simp [b1,b2,b3,b4])),trivial,fun μ σ hE o ho=>?_⟩
   have hx:=wAO c6 hE;rw [wDi hl] at hx
   have hy:=wAO c7 hE;rw [wDi hcc] at hy
   have hx:ev σ x'=.int .i64 (l:Int):=hx
   have hy:ev σ y'=.int .i64 (c:Int):=hy
   have zlen:zv.cells.size=sz:=by rw [<- hz,wGf,<- wEp (k3 μ)];simp
   have hcells:(madeCells zv.cells (c * sz))=((nr c zv.cells.toList).flatten).toArray:=by
    apply nP
    have:=wIg (zc:=zv.cells) (n:=0) c
    simp only [or_false] at this
    rw [zlen] at this
    show ((kc (c * sz)).map (zv.cells[· % zv.cells.size]!)).toList=_
    rw [zlen,this]
   refine ⟨.cells ((nr c zv.cells.toList).flatten).toArray e,fun b=>.slice (some ⟨b,0,none⟩) l c,fun w=>⟨by rw [ho];rfl,?_⟩,fun μ' w b hm hb=>⟨_,wJn (k3 μ') c,hb⟩,fun μ' p b hp=>⟨_,hp,b1,rfl⟩⟩
   have hrun:=run_makeSlice (P:=P) w t e i zv d1 i1 k2 .i64 .i64 (l:Int) (c:Int) (by omega) (by omega) (by rw [i2,nS];exact b2) (by rw [j2];have hb:=Int.ofNat_le.2 b3;rw [Int.natCast_mul] at hb;exact hb) (by omega)
   simp only [nS,i2] at hrun
   rw [hcells] at hrun
   simp [execOp,ho,hx,hy,hrun,Result.andThen]
  ·cases hr
 ·cases hc
theorem wRQ {T n:Nat} {z:List AV} {ps:List (Nat × Nat × AOd)} {op:Op} (hc:wOx P T n z ps op=true):OkA C P op (wIY T n z ps):=by
 intro σA h v h' hr
 unfold wOx at hc
 split at hc
 ·rename_i t m qs
  simp only [nB] at hc
  obtain ⟨c1,c2,c3⟩:=hc
  have e:=nD c1
  subst e
  obtain ⟨d,d1,d2⟩:=wBF c2
  split at d2 <;> first | (cases d2;done) | skip
  have e:=nD d2
  subst e
  rename_i e
  split at c3
  ·rename_i i hi
   simp only [nB,kB] at c3
   obtain ⟨c3,c4,c5⟩:=c3
   split at c5
   ·rename_i zv hz
    unfold wIY at hr
    split at hr
    ·rename_i r hr3
     cases hr
     refine ⟨.cells e r,fun p=>.sl p 0 m m,rfl,rfl,fun h2=>by simp only [wIY,hr3],trivial,fun μ σ hE o ho=>?_⟩
     obtain ⟨R,r1,r2,r3⟩:=wJt hE hr3 c4 (wIb μ c5)
     have hf:=wFd _ _ _ _ r1
     refine ⟨.cells R.toArray e,fun b=>.slice (some ⟨b,0,none⟩) m m,fun w=>⟨by rw [ho];rfl,?_⟩,fun μ' w b hm hb=>⟨_,r2.mono hm,hb⟩,fun μ' p b hp=>⟨_,hp,nI _,rfl⟩⟩
     have hs:∀ w,(sizeOf e).run P w=.ok i.size w:=fun w=>by simp [sizeOf,typeInfo,hi]
     have hn':¬ m * i.size > 2 ^ 24:=by omega
     have hq:(qs.map fun (p:Nat × Operand)=>(p.1,ev σ p.2)).toList=qs.toList.map fun (p:Nat × Operand)=>(p.1,ev σ p.2):=by simp
     by_cases h0:m * i.size=0
     ·rw [h0] at hf
      simp only [List.range_zero,aN] at hf
      have hr0:(kc 0).map (fun x=>(#[]:Array Value)[x % (#[]:Array Value).size]!)=#[]:=by rw [show (kc 0)=#[] from rfl,Array.map_empty]
      have hn0:¬ (0:Nat) > 2 ^ 24:=by decide
      simp only [execOp,ho,Instr.buildSlice,Sem.run_bind,wBP d1,hs,Result.andThen_ok,h0,if_neg hn0,if_true,Sem.run_pure,hq,hr0,hf]
      simp [newRow,newObj,Sem.run,Result.andThen]
     ·have hzs:(kc (m * i.size)).map (zv.cells[· % zv.cells.size]!)=((kV (m * i.size)).map fun k=>zv.cells[k % zv.cells.size]!).toArray:=by rw [<- List.toArray_range,List.map_toArray]
      simp only [execOp,ho,Instr.buildSlice,Sem.run_bind,wBP d1,hs,wGW hi hz,Result.andThen_ok,if_neg hn',if_neg h0,Sem.run_pure,hq,hzs,hf]
      simp [newRow,newObj,Sem.run,Result.andThen]
    ·cases hr
   ·cases c5
  ·cases c3
 ·cases hc
theorem OkA.toE {op:Op} {f:Tr AV->AH->Option (AV × AH)} (hp:OkA C P op f):OkE C P op f:=by
 intro σA h v h' hr μ σ w hE S o ho
 obtain ⟨B,vf,rfl,rfl,_,_,hh⟩:=hp σA h v h' hr
 obtain ⟨ob,val,g1,g2,g3⟩:=hh μ σ hE o ho
 have hle:=Mu.add_le (c:=⟨w.heap.size,0,g0⟩) (S.nx h.nx (nI _))
 obtain ⟨h1,h2,h3,h4⟩:=S.push (w':=w.alloc ob) (c:=⟨w.heap.size,0,g0⟩) (B:=B) (wAq w _) (nI _) (by rw [wJM];exact Nat.lt_succ_self _) (g2 _ _ _ hle (heap_alloc_new w _))
 exact ⟨_,_,_,h2,h1,g3 _ _ _ h4,h3,g1 w⟩
end
end
noncomputable section
open Go.RowKit Go.KL
section
variable {C:Chk} {P:Program} {μ μ':Mu} {w w':World} {h h':AH} {σ:Env} {σA:Tr AV} {t e:TypeId} {o:Oper}
theorem wHI {b:Pos} {off:Nat} {vs:List AV} {VS:List Value} {c:Cl} (hr:wLk h b off vs=some h') (S:Sim C P μ h w) (hv:RvL μ vs VS) (h1:∀ v ∈ VS,one v=true) (hc:μ b=some c) :
  ∃ w',(storeCells ⟨c.1,off,none⟩ VS).run P w=.ok () w'/\Sim C P μ h' w'/\Ext μ h.fl.nat w μ w'/\h'.fl=h.fl:=by
 unfold wLk at hr
 split at hr
 ·rename_i T l hB
  split at hr
  ·rename_i l' hl
   obtain ⟨c',g1,vs0,g2,g3⟩:=S.at_ b _ hB
   rw [hc] at g1;cases g1
   obtain ⟨k1,k2⟩:=wJo hl g2 hv
   obtain ⟨w',q1,q2,q3,q4⟩:=wDG (P:=P) off VS 0 vs0 w g3 k1 h1
   obtain ⟨s1,s2,s3⟩:=S.put hr hB trivial hc q3 (B':=.cells T l') ⟨_,k2,q2⟩
   exact ⟨w',q1,s1,s2,s3⟩
  ·cases hr
 ·rename_i T sz l hB
  split at hr
  ·rename_i l' hl
   obtain ⟨c',g1,vs0,g2,g3⟩:=S.at_ b _ hB
   rw [hc] at g1;cases g1
   obtain ⟨k1,k2⟩:=wJo hl g2 hv
   obtain ⟨cur,r1,r2,r3,r4,r5⟩:=RowAt.cells g3
   have hB':Blk w c.1 T cur.toList:=by unfold Blk;rw [r1]
   have hcl:vs0.length <= cur.toList.length:=by rw [<- r5];simp;omega
   obtain ⟨w',q1,q2,q3,q4⟩:=wDG (P:=P) off VS 0 cur.toList w hB' (by omega) h1
   obtain ⟨s1,s2,s3⟩:=S.put hr hB trivial hc q3 (B':=.row T sz l') ⟨_,k2,.inr ⟨c.1,(wEw cur.toList (off + 0) VS).toArray,rfl,q2,by rw [wCS];exact r2,r3,by simp [wCS,r4],by
    rw [wCS,kK]
    show (wEw cur.toList off VS).take vs0.length=_
    rw [wIP _ _ _ _ k1,r5]⟩⟩
   exact ⟨w',q1,s1,s2,s3⟩
  ·cases hr
 ·cases hr
def c_st (P:Program) (n:Nat) (x y:AOd):Op->Bool
 | .store t x' y'=>szT P t n && (wCt x x' && wCt y y')
 | _=>false
theorem u_st {n:Nat} {x y:AOd} {op:Op} (hc:c_st P n x y op=true):OkU C P op (o_st n x y):=by
 intro σA h v h' hr μ σ w hE S o ho
 unfold c_st at hc
 split at hc
 ·rename_i t x' y'
  simp only [nB] at hc
  obtain ⟨c1,c2,c3⟩:=hc
  unfold o_st at hr
  split at hr
  ·rename_i b off hb
   split at hr
   ·rename_i hk
    simp only [nB] at hk
    split at hr
    ·rename_i h1 hs
     cases hr
     have g:=wAO c2 hE;rw [hb] at g
     obtain ⟨c,g1,g2⟩:=g
     obtain ⟨VS,v1,v2⟩:=wJp (wAO c3 hE)
     obtain ⟨w',q1,q2,q3,q4⟩:=wHI hs S v1 (wFi v1 hk.2) g1
     have hn:=nD hk.1
     have hlen:VS.length=n:=by rw [wEp v1,<- wGf,hn]
     refine ⟨μ,w',q3,q2,rfl,q4,by rw [ho];rfl,?_⟩
     simp [execOp,ho,Instr.storeAt,g2,Instr.sureAddr,storeVar,v2,wFL c1,hlen,q1]
    ·cases hr
   ·cases hr
  ·cases hr
 ·cases hc
theorem wJu {sz m:Nat} {a:AV} {l:List AV} {y:Value} (hr:slice h sz a=some (m,l)) (S:Sim C P μ h w) (hy:Rv μ a y) :
  ∃ A c VS,y=.slice A m c/\RvL μ l VS/\VS.length=m * sz/\(m=0 \/ ∃ ad,A=some ad/\∀ j u,VS[j]?=some u->w.cell? (ad.add j)=some u):=by
 have key:∀ (b:Pos) (off m:Nat) (c:Cl) (l0 r:List AV),μ b=some c->wGJ h b=some l0->sub l0 off (m * sz)=some r->∃ VS,RvL μ r VS/\VS.length=m * sz/\∀ j u,VS[j]?=some u->w.cell? ((⟨c.1,off,none⟩:Addr).add j)=some u:=by
  intro b off m c l0 r hc hl hs
  obtain ⟨c',vs,h1,h2,h3⟩:=wGY hl S
  rw [hc] at h1;cases h1
  obtain ⟨g1,g2⟩:=wGp hs h2
  exact ⟨_,g1,by simp;omega,fun j u hu=>by rw [wGq];exact h3 w (Keep.refl w _) _ _ (wGF rfl j u hu)⟩
 unfold slice at hr
 split at hr
 ·cases hr
  have hy:y=.slice none 0 0:=hy
  exact ⟨none,0,[],hy,rfl,by simp,.inl rfl⟩
 ·cases hr
  obtain ⟨d,_,q,rfl⟩:=hy
  exact ⟨_,_,[],rfl,rfl,by simp,.inl rfl⟩
 ·split at hr
  ·rename_i l0 hl
   split at hr
   ·rename_i r hs
    cases hr
    obtain ⟨d,h1,_,rfl⟩:=hy
    obtain ⟨VS,v1,v2,v3⟩:=key _ _ _ _ _ _ h1 hl hs
    exact ⟨_,_,VS,rfl,v1,v2,.inr ⟨_,rfl,v3⟩⟩
   ·cases hr
  ·cases hr
 ·split at hr
  ·rename_i l0 hl
   split at hr
   ·rename_i r hs
    cases hr
    obtain ⟨d,h1,_,rfl⟩:=hy
    obtain ⟨VS,v1,v2,v3⟩:=key _ _ _ _ _ _ h1 hl hs
    exact ⟨_,_,VS,rfl,v1,v2,.inr ⟨_,rfl,v3⟩⟩
   ·cases hr
  ·cases hr
 ·cases hr
theorem wIh {A A2:Option Addr} {n c c2 ty:Nat} {inf:TypeInfo} (ht:P.underlying t=some (.slice e)) (hi:P.info? e=some inf) (hnc:n <= c):(Builtin.append_ #[t,t] ty #[.slice A n c,.slice A2 0 c2]).run P w=.ok (.slice A n c) w:=by
 have hs:∀ w,(sizeOf e).run P w=.ok inf.size w:=fun w=>by simp [sizeOf,typeInfo,hi]
 cases A <;> cases A2 <;> simp [Builtin.append_,wBP ht,hs,Builtin.lenOf,Builtin.firstCells,hnc,storeCells,loadCells,loadCellsFrom]
theorem wOy {T sz c:Nat} {l:List AV} {cs:List Value} {cur:Array Value} (S:Sim C P μ h w) (K:Keep w w' Non) (hl:RvL μ l cs) (hn:w'.heap[w.heap.size]?=some (.cells cur T (0,0))) (h1:cs.length <= c * sz) (h2:c <= maxLen) (h3:cur.size=c * sz) (h4:cur.toList.take cs.length=cs) :
  ∃ μ',Ext μ h.fl.nat w μ' w'/\Sim C P μ' (h.push (.row T sz l)) w'/\(h.push (.row T sz l)).fl=h.fl/\μ' h.nx=some ⟨w.heap.size,c,g0⟩:=by
 have hle:=Mu.add_le (c:=⟨w.heap.size,c,g0⟩) (S.nx h.nx (nI _))
 obtain ⟨q1,q2,q3,q4⟩:=S.push (w':=w') (c:=⟨w.heap.size,c,g0⟩) (B:=.row T sz l) K (nI _) (wAi hn) ⟨cs,hl.mono hle,.inr ⟨_,cur,rfl,hn,h1,h2,h3,h4⟩⟩
 exact ⟨_,q2,q1,q3,q4⟩
def wQQ (P:Program) (T sz by_:Nat) (x y:AOd):Op->Bool
 | .call c=>match c.callee with
  | .builtin b=>(b == .append) && (match c.args.toList,c.argTypes.toList with
   | [x',y'],[t,t']=>nE t t' && (wFx P t (fun d=>match d with | .slice e=>nE e T | _=>false) && (wCt x x' && (wCt y y' && (szT P T sz && (byT P T by_ && (match P.info? T with
    | some i=>match i.zero with | some v=>nE v.cells.size sz && (kQ 0 sz && kQ 0 by_) | none=>false
    | none=>false))))))
   | _,_=>false)
  | _=>false
 | _=>false
theorem wQR {T sz by_:Nat} {x y:AOd} {op:Op} (hc:wQQ P T sz by_ x y op=true) :
  ∃ x' y' t i z,op=.call { callee:=.builtin .append,args:=#[x',y'],argTypes:=#[t,t] }/\P.underlying t=some (.slice T)/\wCt x x'=true/\wCt y y'=true/\P.info? T=some i/\i.zero=some z/\i.size=sz/\i.bytes=by_/\z.cells.size=sz/\0 < sz/\0 < by_:=by
 unfold wQQ at hc
 split at hc
 ·rename_i c
  obtain ⟨ce,args,tys⟩:=c
  simp only at hc
  split at hc
  ·rename_i b
   simp only [nB,beq_iff_eq] at hc
   obtain ⟨rfl,h2⟩:=hc
   split at h2
   ·rename_i x' y' t t' h3 h4
    simp only [nB] at h2
    obtain ⟨a1,a2,a3,a4,a5,a6,a7⟩:=h2
    have e:=nD a1
    subst e
    obtain ⟨d,d1,d2⟩:=wBF a2
    split at d2 <;> first | (cases d2;done) | skip
    have e:=nD d2
    subst e
    obtain ⟨i,i1,i2⟩:=wJq a5
    obtain ⟨j,j1,j2⟩:=wJr a6
    rw [i1] at j1;cases j1
    rw [i1] at a7
    simp only at a7
    split at a7
    ·rename_i z hz
     simp only [nB,np] at a7
     refine ⟨x',y',t,i,z,?_,d1,a3,a4,i1,hz,i2,j2,nD a7.1,a7.2.1,a7.2.2⟩
     congr 2
     ·exact nP (by simpa using h3)
     ·exact nP (by simpa using h4)
    ·cases a7
   ·cases h2
  ·cases hc
 ·cases hc
theorem wUb (v:Value) (h1:one v=true):v.oneCell'=true:=by cases v <;> first | rfl | cases h1
theorem e_app {T sz by_:Nat} {x y:AOd} {op:Op} (hc:wQQ P T sz by_ x y op=true):OkE C P op (wQH T sz by_ x y):=by
 intro σA h v h' hr μ σ w hE S o ho
 obtain ⟨x',y',t,i,z,rfl,ht,c1,c2,hi,hz,i2,j2,hzs,hsz,hby⟩:=wQR hc
 unfold wQH at hr
 split at hr
 ·rename_i m news hs
  obtain ⟨hones,hr'⟩:=wCN hr
  clear hr;have hr:=hr';clear hr'
  obtain ⟨A2,cc2,NS,e2,n1,n2,n3⟩:=wJu hs S (wAO c2 hE)
  have hx:=wAO c1 hE
  have h1:∀ u ∈ NS,u.oneCell'=true:=fun u hu=>wUb u (wFi n1 hones u hu)
  have fin:∀ {μ':Mu} {w':World} {cv:Value},Ext μ h.fl.nat w μ' w'->Sim C P μ' h' w'->Rv μ' v cv->h'.fl=h.fl->(Builtin.append_ #[t,t] o.type #[ev σ x',ev σ y']).run P w=.ok cv w' ->
    ∃ μ' w' cv,Ext μ h.fl.nat w μ' w'/\Sim C P μ' h' w'/\Rv μ' v cv/\h'.fl=h.fl/\Runs P σ w o cv w':=fun a b c d f =>
   ⟨_,_,_,a,b,c,d,by rw [ho];rfl,by simp [execOp,ho,resolve,invoke,builtin,f]⟩
  unfold app at hr
  split at hr
  ·have zero:∀ {A:Option Addr} {n c:Nat},ev σ x'=.slice A n c->n <= c->Rv μ v (.slice A n c)->h'=h->∃ μ' w' cv,Ext μ h.fl.nat w μ' w'/\Sim C P μ' h' w'/\Rv μ' v cv/\h'.fl=h.fl/\Runs P σ w o cv w':=by
    intro A n c hA hnc hv hh
    subst hh
    exact fin (Ext.refl μ _ w) S hv rfl (by rw [hA,e2];exact wIh ht hi hnc)
   split at hr <;> cases hr <;> rename_i hb <;> rw [hb] at hx
   ·have g:ev σ x'=.slice none 0 0:=hx
    exact zero g (nI _) rfl rfl
   ·obtain ⟨d,g1,g2,g3⟩:=hx
    exact zero g3 g2 ⟨d,g1,g2,rfl⟩ rfl
   ·obtain ⟨d,g1,g2,g3⟩:=hx
    exact zero g3 (by omega) ⟨d,g1,g2,rfl⟩ rfl
  ·rename_i m
   obtain ⟨ad,rfl,hcell⟩:∃ ad,A2=some ad/\∀ j u,NS[j]?=some u->w.cell? (ad.add j)=some u:=by
    rcases n3 with h0 | h0
    ·cases h0
    ·exact h0
   have maxb:(140737488355328:Nat) <= maxLen:=by decide
   have lenb:∀ n:Nat,n * by_ <= 140737488355328->n <= 140737488355328:=fun n hn=>kM (kj _ hby) hn
   split at hr
   ·rename_i hb
    rw [hb] at hx
    have hx:ev σ x'=.slice none 0 0:=hx
    obtain ⟨hble,hr'⟩:=wCN hr
    clear hr;have hr:=hr';clear hr'
    cases hr
    have hble:=nV hble
    obtain ⟨A',c',w',r1,r2,r3,r4⟩:=wEd (P:=P) (w:=w) (A:=none) (c:=0) (n:=0) (cs:=[]) (ty:=o.type) (c2:=cc2) ht hi hz i2 hzs hsz (.inl ⟨rfl,rfl,rfl⟩) (by simp) n2 (.inr ⟨ad,rfl,hcell⟩) h1 (by rw [j2,nc];exact hble) (by omega)
    rcases r2 with ⟨_,_,q⟩ | ⟨b,cur,rfl,q1,q2,q3,q4,q5⟩
    ·exfalso
     have:([] ++ NS).length=0:=by rw [q];rfl
     rw [kH,n2] at this
     have:=Nat.mul_pos (Nat.succ_pos m) hsz
     omega
    ·have hb:w.heap.size <= b:=by
      rcases r4 b rfl with q | q
      ·cases q
      ·exact q
     have K:Keep w w' Non:=r3.weak fun i _ q=>by cases q
     rw [kH] at q2 q5
     have hle:=Mu.add_le (c:=⟨b,c',g0⟩) (S.nx h.nx (nI _))
     obtain ⟨s1,s2,s3,s4⟩:=S.push (w':=w') (c:=⟨b,c',g0⟩) (B:=.row T sz news) K hb (wAi q1) ⟨NS,n1.mono hle,.inr ⟨_,cur,rfl,q1,q2,q3,q4,q5⟩⟩
     refine fin s2 s1 ⟨_,s4,?_,?_⟩ s3 (by rw [hx,e2];exact r1)
     ·rw [n2] at q2
      have:=kC q2 hsz
      simpa using this
     ·simp
   ·rename_i b off n c hb
    rw [hb] at hx
    obtain ⟨d,g1,g2,g3⟩:=hx
    split at hr
    ·rename_i hle
     have hle:=nV hle
     split at hr
     ·rename_i h1' hset
      cases hr
      obtain ⟨w',q1,q2,q3,q4⟩:=wHI hset S n1 (wFi n1 hones) g1
      refine fin q3 q2 ⟨d,g1,hle,rfl⟩ q4 ?_
      rw [g3,e2]
      have hf:=run_firstCells_some (P:=P) w i.size (m + 1) ad (m + 1) cc2 NS (by rw [i2];exact n2) hcell
      rw [i2] at hf
      simp [Builtin.append_,wBP ht,sizeOf,typeInfo,hi,Builtin.lenOf,hle,hf,wGq,i2,q1]
     ·cases hr
    ·rename_i hlt
     obtain ⟨hble,hr'⟩:=wCN hr
     clear hr;have hr:=hr';clear hr'
     have hble:=nV hble
     split at hr
     ·rename_i nn olds wHm
      cases hr
      have hgt:c < n + (m + 1):=by
       rcases aO c (n + (m + 1)) with q | q
       ·exact q
       ·have q':nW (n + (m + 1)) c=true:=by rw [kB];exact q
        rw [q'] at hlt;cases hlt
      obtain ⟨A1,cc1,OS,k1,k2,k3,k4⟩:=wJu wHm S (show Rv μ (.sl b off n c) _ from ⟨d,g1,g2,rfl⟩)
      cases k1
      have hlen:=lenb _ hble
      have olds':∀ j v,OS[j]?=some v->w.cell? ((⟨d.1,off,none⟩:Addr).add j)=some v:=by
       rcases k4 with q | ⟨ad',q1,q2⟩
       ·intro j v hv
        have hnil:OS=[]:=nw (by rw [k3,q];simp)
        rw [hnil] at hv
        simp at hv
       ·cases q1;exact q2
      have hr:=run_append_grow (P:=P) w t o.type T i z ht hi hz ⟨d.1,off,none⟩ n c OS (by rw [i2];exact k3) olds' ad (m + 1) cc2 NS (by rw [i2];exact n2) hcell hgt (by omega) (growslice_fits hgt (by rw [j2];exact hble))
      have hge:=grownCap_ge w (n + (m + 1)) c T
      have hcm:grownCap w (n + (m + 1)) c T <= maxLen:=grownCap_le_maxLen w (n + (m + 1)) c T (by omega)
      have hlen2:(OS ++ NS).length=(n + (m + 1)) * sz:=by rw [nG,k3,n2,kx]
      obtain ⟨μ',s1,s2,s3,s4⟩:=wOy (T:=T) (sz:=sz) (c:=grownCap w (n + (m + 1)) c T) (w':=w.drew.alloc (.cells (OS.toArray ++ NS.toArray ++ Builtin.zeroCells z.cells (grownCap w (n + (m + 1)) c T - (n + (m + 1)))) T)) (cur:=OS.toArray ++ NS.toArray ++ Builtin.zeroCells z.cells (grownCap w (n + (m + 1)) c T - (n + (m + 1)))) S
       ((Keep.drew w).non (wAq w.drew _)) (wFh k2 n1) (heap_alloc_new w.drew _) (by rw [hlen2];exact aB _ hge) hcm
       (by
        simp only [aR,aQ,size_zeroCells,hzs,k3,n2,<- kx]
        congr 1
        omega)
       (by simp only [aH,nj];rw [<- nj];exact List.take_left)
      refine fin s1 s2 ⟨_,s4,?_,?_⟩ s3 (by rw [g3,e2];exact hr)
      ·simpa using hge
      ·simp
     ·cases hr
   ·rename_i b eo co n hb
    rw [hb] at hx
    obtain ⟨d,g1,g2,g3⟩:=hx
    split at hr
    ·rename_i T' sz' l hB
     split at hr
     ·rename_i hin
      simp only [nB] at hin
      obtain ⟨p1,p2,p3,p4⟩:=hin
      have p1:=nV p1
      have p2:=nD p2
      have p3:=nD p3
      have p4:=nD p4
      subst p2 p3 p4
      split at hr
      ·rename_i h1' hset
       cases hr
       obtain ⟨d',k1,OS,k2,k3⟩:=S.at_ b _ hB
       rw [g1] at k1;cases k1
       obtain ⟨cur,r1,r2,_⟩:=RowAt.cells k3
       have hle:n + (m + 1) <= d.2:=by
        rw [wGf,<- wEp k2] at p1
        exact kC (kM p1 r2) hsz
       obtain ⟨w',q1,q2,q3,q4⟩:=wHI hset S n1 (wFi n1 hones) g1
       refine fin q3 q2 ⟨d,g1,by omega,rfl⟩ q4 ?_
       rw [g3,e2]
       have hf:=run_firstCells_some (P:=P) w i.size (m + 1) ad (m + 1) cc2 NS (by rw [i2];exact n2) hcell
       rw [i2] at hf
       simp [Builtin.append_,wBP ht,sizeOf,typeInfo,hi,Builtin.lenOf,hle,hf,wGq,i2,q1]
      ·cases hr
     obtain ⟨hcond,hr'⟩:=wCN hr
     clear hr;have hr:=hr';clear hr'
     simp only [nB] at hcond
     obtain ⟨⟨⟨⟨⟨q1,q2⟩,q3⟩,q4⟩,q5⟩,q6⟩:=hcond
     have q1:=nD q1
     have q2:=nD q2
     have q3:=nD q3
     have q4:=nD q4
     have q5:=nD q5
     have hble:=nV q6
     subst q1 q2 q3 q4
     split at hr
     ·rename_i h1' hput
      cases hr
      obtain ⟨d',k1,OS,k2,k3⟩:=S.at_ b _ hB
      rw [g1] at k1;cases k1
      have hol:OS.length=n * sz:=by rw [wEp k2,<- wGf,<- q5]
      obtain ⟨A',c',w',r1,r2,r3,r4⟩:=wEd (P:=P) (w:=w) (A:=some ⟨d.1,0,none⟩) (c:=d.2) (n:=n) (cs:=OS) (ty:=o.type) (c2:=cc2) ht hi hz i2 hzs hsz k3 hol n2 (.inr ⟨ad,rfl,hcell⟩) h1 (by rw [j2];exact hble) (by omega)
      rcases r2 with ⟨_,_,q⟩ | ⟨b',cur,rfl,p1,p2,p3,p4,p5⟩
      ·exfalso
       have:(OS ++ NS).length=0:=by rw [q];rfl
       rw [nG,n2] at this
       have:=Nat.mul_pos (Nat.succ_pos m) hsz
       omega
      ·have hb':b'=d.1 \/ w.heap.size <= b':=by
        rcases r4 b' rfl with q | q
        ·cases q;exact .inl rfl
        ·exact .inr q
       have K:Keep w w' (·=d.1):=r3.weak fun i _ q=>by cases q;rfl
       have hle:=Mu.add_le (c:=⟨b',c',g0⟩) (S.nx h.nx (nI _))
       have hnx:h.nx=h.nx:=rfl
       obtain ⟨s1,s2,s3,s4⟩:=S.move (w':=w') (d:=⟨b',c',g0⟩) (B':=.row T sz (l ++ news)) hput hB trivial g1 K hb' (wAi p1) ⟨OS ++ NS,(wFh k2 n1).mono hle,.inr ⟨_,cur,rfl,p1,p2,p3,p4,p5⟩⟩
       refine fin s2 s1 ⟨_,s4,?_,?_⟩ s3 (by rw [g3,e2];simpa using r1)
       ·rw [nG,hol,n2,<- kx] at p2
        have:=kC p2 hsz
        simpa using this
       ·simp
     ·cases hr
    ·cases hr
   ·cases hr
 ·cases hr
def wSk (P:Program) (sz:Nat) (x y:AOd):Op->Bool
 | .call c=>match c.callee with
  | .builtin b=>(b == .copy) && (match c.args.toList,c.argTypes.toList with
   | [x',y'],t :: _=>wFx P t (fun d=>match d with | .slice e=>szT P e sz | _=>false) && (wCt x x' && wCt y y')
   | _,_=>false)
  | _=>false
 | _=>false
theorem e_cpy {sz:Nat} {x y:AOd} {op:Op} (hc:wSk P sz x y op=true):OkE C P op (wQI sz x y):=by
 intro σA h v h' hr μ σ w hE S o ho
 unfold wSk at hc
 split at hc
 ·rename_i c
  obtain ⟨ce,args,tys⟩:=c
  simp only at hc
  split at hc
  ·rename_i b
   simp only [nB,beq_iff_eq] at hc
   obtain ⟨rfl,h2⟩:=hc
   split at h2
   ·rename_i x' y' t ts h3 h4
    simp only [nB] at h2
    obtain ⟨a1,a2,a3⟩:=h2
    obtain ⟨d,d1,d2⟩:=wBF a1
    split at d2 <;> first | (cases d2;done) | skip
    rename_i e
    have ea:args=#[x',y']:=nP (by simpa using h3)
    have et:tys[0]?=some t:=by rw [<- ky,h4];rfl
    unfold wQI at hr
    split at hr
    ·rename_i b off n cc m news hx hs
     split at hr
     ·rename_i vs hsub
      obtain ⟨hones,hr'⟩:=wCN hr
      clear hr;have hr:=hr';clear hr'
      split at hr
      ·rename_i h1' hset
       cases hr
       have g:=wAO a2 hE;rw [hx] at g
       obtain ⟨c0,g1,_,g3⟩:=g
       obtain ⟨A2,cc2,NS,e2,n1,n2,n3⟩:=wJu hs S (wAO a3 hE)
       generalize hk:(if nW m n=true then m else n)=k at hsub ⊢
       have hmin:Nat.min m n=k:=by
        rw [<- hk]
        by_cases q:m <= n
        ·rw [if_pos (by rw [kB];exact q)];exact Nat.min_eq_left q
        ·rw [if_neg (by rw [kB];exact q)];exact Nat.min_eq_right (by omega)
       obtain ⟨k1,k2⟩:=wGp hsub n1
       rw [ka] at k1
       obtain ⟨w',q1,q2,q3,q4⟩:=wHI hset S k1 (wFi k1 hones) g1
       refine ⟨μ,w',_,q3,q2,rfl,q4,by rw [ho];rfl,?_⟩
       have hf:∀ (w1:World),w1=w->(Builtin.firstCells sz k (.slice A2 m cc2)).run P w1=.ok (NS.take (k * sz)).toArray w1:=by
        intro w1 hw1
        subst hw1
        cases A2 with
        | none =>
         have hm:m=0:=by
          rcases n3 with q | ⟨_,q,_⟩
          ·exact q
          ·cases q
         have hN:NS=[]:=nw (by rw [n2,hm];simp)
         subst hN
         simp [Builtin.firstCells]
        | some ad =>
         have hcell:∀ j u,(NS.take (k * sz))[j]?=some u->w1.cell? (ad.add j)=some u:=by
          intro j u hu
          rw [aM] at hu
          split at hu
          ·rcases n3 with q | ⟨ad',q,q'⟩
           ·have hN:NS=[]:=nw (by rw [n2,q];simp)
            subst hN;simp at hu
           ·cases q;exact q' j u hu
          ·cases hu
         exact run_firstCells_some (P:=P) w1 sz k ad m cc2 (NS.take (k * sz)) (by rw [nR];omega) hcell
       have hs2:=wFL d2
       simp [execOp,ho,ea,et,resolve,invoke,builtin,Builtin.copy_,wBP d1,g3,e2,Builtin.lenOf,hmin,hs2,hf w rfl,q1,goInt,Result.andThen]
      ·cases hr
     ·cases hr
    ·cases hr
   ·cases h2
  ·cases hc
 ·cases hc
def wSl (P:Program) (z:List AV) (x:AOd):Op->Bool
 | .call c=>match c.callee with
  | .builtin b=>(b == .clear) && (match c.args.toList,c.argTypes.toList with
   | [x'],[t]=>wFx P t (fun d=>match d with | .slice e=>zT P e z | _=>false) && wCt x x'
   | _,_=>false)
  | _=>false
 | _=>false
theorem wFP {zc:Array Value} (c:Nat):(Builtin.zeroCells zc c).toList=(nr c zc.toList).flatten:=by
 have:=wIg (zc:=zc) (n:=0) c
 simp only [or_false] at this
 exact this
def wSm (P:Program) (T sz by_:Nat) (z:List AV) (x y:AOd):Op->Bool
 | .call c=>match c.callee with
  | .builtin b=>(b == .append) && (match c.args.toList,c.argTypes.toList with
   | [x',y'],[t,t']=>wFx P t (fun d=>match d with | .slice e=>nE e T | _=>false) && (wFx P t' (fun d=>match d with | .int _=>true | _=>false) && (wCt x x' && (wCt y y' && (szT P T sz && (byT P T by_ && (zT P T z && (nE (len z) sz && (kQ 0 sz && kQ 0 by_))))))))
   | _,_=>false)
  | _=>false
 | _=>false
theorem e_apz {T sz by_:Nat} {z:List AV} {x y:AOd} {op:Op} (hc:wSm P T sz by_ z x y op=true):OkE C P op (wQK T sz by_ z x y):=by
 intro σA h v h' hr μ σ w hE S o ho
 unfold wSm at hc
 split at hc <;> first | (cases hc;done) | skip
 rename_i c
 obtain ⟨ce,args,tys⟩:=c
 simp only at hc
 split at hc <;> first | (cases hc;done) | skip
 rename_i b
 simp only [nB,beq_iff_eq] at hc
 obtain ⟨rfl,h2⟩:=hc
 split at h2 <;> first | (cases h2;done) | skip
 rename_i x' y' t t' h3 h4
 simp only [nB] at h2
 obtain ⟨a1,a2,a3,a4,a5,a6,a7,a8,a9,a10⟩:=h2
 have hargs:args=#[x',y']:=nP (by simpa using h3)
 have htys:tys=#[t,t']:=nP (by simpa using h4)
 subst hargs htys
 obtain ⟨d,d1,d2⟩:=wBF a1
 split at d2 <;> first | (cases d2;done) | skip
 have e:=nD d2
 subst e
 rename_i e
 obtain ⟨dn,n1,n2⟩:=wBF a2
 split at n2 <;> first | (cases n2;done) | skip
 rename_i kn
 obtain ⟨i,i1,i2⟩:=wJq a5
 obtain ⟨i',j1,j2⟩:=wJr a6
 obtain ⟨i'',zv,k1,k2,k3⟩:=wIc a7
 rw [i1] at j1 k1;cases j1;cases k1
 have hz:=nD a8
 have hsz:0 < sz:=by simpa [np] using a9
 have hx:=wAO a3 hE
 have hy:=wAO a4 hE
 have fin:∀ {μ':Mu} {w':World} {cv:Value},Ext μ h.fl.nat w μ' w'->Sim C P μ' h' w'->Rv μ' v cv->h'.fl=h.fl->(Builtin.append_ #[t,t'] o.type #[ev σ x',ev σ y']).run P w=.ok cv w' ->
   ∃ μ' w' cv,Ext μ h.fl.nat w μ' w'/\Sim C P μ' h' w'/\Rv μ' v cv/\h'.fl=h.fl/\Runs P σ w o cv w':=fun a b c d f =>
  ⟨_,_,_,a,b,c,d,by rw [ho];rfl,by simp [execOp,ho,resolve,invoke,builtin,f]⟩
 have zlen:zv.cells.size=sz:=by rw [<- hz,wGf,<- wEp (k3 μ)];simp
 unfold wQK at hr
 split at hr
 ·rename_i nn hxs hn
  rw [hxs] at hx
  rw [wDi hn] at hy
  have hx:ev σ x'=.slice none 0 0:=hx
  have hy:ev σ y'=.int .i64 (nn:Int):=hy
  cases nn with
  | zero =>
   cases hr
   refine fin (Ext.refl μ _ w) S rfl rfl ?_
   rw [hx,hy]
   simp [Builtin.append_,run_underlying d1,run_underlying n1,sizeOf,typeInfo,i1,asInt,asIntOf,IntKind.wrap_i64]
  | succ m =>
   obtain ⟨hble,hr⟩:=wCN hr
   have hble:=nV hble
   cases hr
   have hby:0 < by_:=by simpa [np] using a10
   have hnb:m + 1 <= 140737488355328:=kM (kj _ hby) hble
   have hrun:=Go.Lib.run_append_nil_zeros (P:=P) w t t' o.type e i zv .i64 kn d1 n1 i1 k2 (m + 1) (by omega) (by rw [i2];exact hsz) (by omega) (by rw [j2];omega)
   have hge:=grownCap_ge w (m + 1) 0 e
   have maxb:(140737488355328:Nat) <= maxLen:=by decide
   have hcm:grownCap w (m + 1) 0 e <= maxLen:=grownCap_le_maxLen w (m + 1) 0 e (by omega)
   have hcs:((nr (m + 1) zv.cells.toList).flatten).length=(m + 1) * sz:=by rw [<- wFP];simp [size_zeroCells,zlen]
   obtain ⟨μ',s1,s2,s3,s4⟩:=wOy (T:=e) (sz:=sz) (c:=grownCap w (m + 1) 0 e) (w':=w.drew.alloc (.cells (Builtin.zeroCells zv.cells (m + 1) ++ Builtin.zeroCells zv.cells (grownCap w (m + 1) 0 e - (m + 1))) e)) (cur:=Builtin.zeroCells zv.cells (m + 1) ++ Builtin.zeroCells zv.cells (grownCap w (m + 1) 0 e - (m + 1))) S
    ((Keep.drew w).non (wAq w.drew _)) (wJn (k3 μ) (m + 1)) (heap_alloc_new w.drew _) (by rw [hcs];exact aB _ hge) hcm
    (by
     simp only [aR,size_zeroCells,zlen,<- kx]
     congr 1
     omega)
    (by
     rw [aH,wFP]
     exact List.take_left)
   refine fin s1 s2 ⟨_,s4,?_,?_⟩ s3 (by rw [hx,hy];exact hrun)
   ·simpa using hge
   ·simp
 ·cases hr
theorem e_clr {z:List AV} {x:AOd} {op:Op} (hc:wSl P z x op=true):OkE C P op (wQJ z x):=by
 intro σA h v h' hr μ σ w hE S o ho
 unfold wSl at hc
 split at hc
 ·rename_i c
  obtain ⟨ce,args,tys⟩:=c
  simp only at hc
  split at hc
  ·rename_i b
   simp only [nB,beq_iff_eq] at hc
   obtain ⟨rfl,h2⟩:=hc
   split at h2
   ·rename_i x' t h3 h4
    simp only [nB] at h2
    obtain ⟨a1,a2⟩:=h2
    obtain ⟨d,d1,d2⟩:=wBF a1
    split at d2 <;> first | (cases d2;done) | skip
    rename_i e
    have ea:args=#[x']:=nP (by simpa using h3)
    have et:tys=#[t]:=nP (by simpa using h4)
    subst ea et
    have hx:=wAO a2 hE
    obtain ⟨i,zv,z1,z2,z3⟩:=wIc d2
    have zero:∀ {A:Option Addr} {c:Nat},ev σ x'=.slice A 0 c->v=u->h'=h->∃ μ' w' cv,Ext μ h.fl.nat w μ' w'/\Sim C P μ' h' w'/\Rv μ' v cv/\h'.fl=h.fl/\Runs P σ w o cv w':=by
     intro A c hA hv hh
     subst hv hh
     refine ⟨μ,w,undef,Ext.refl μ _ w,S,wTm μ,rfl,by rw [ho];rfl,?_⟩
     cases A <;> simp [execOp,ho,resolve,invoke,builtin,Builtin.clear_,hA,wBP d1,undef]
    have full:∀ {b:Pos} {c:Cl} {off n cap:Nat},μ b=some c->ev σ x'=.slice (some ⟨c.1,off,none⟩) n cap->clr h z b off n=some (v,h')->∃ μ' w' cv,Ext μ h.fl.nat w μ' w'/\Sim C P μ' h' w'/\Rv μ' v cv/\h'.fl=h.fl/\Runs P σ w o cv w':=by
     intro b c off n cap hb hA hr
     unfold clr at hr
     split at hr
     ·cases hr;exact zero hA rfl rfl
     ·rename_i n
      obtain ⟨hones,hr'⟩:=wCN hr
      split at hr'
      ·rename_i h1' hset
       cases hr'
       have k1:=wJn (z3 μ) (n + 1)
       have k2:∀ v ∈ (nr (n + 1) zv.cells.toList).flatten,one v=true:=by
        intro v hv
        simp only [List.mem_flatten,List.mem_replicate] at hv
        obtain ⟨l,⟨_,rfl⟩,hv⟩:=hv
        exact wFi (z3 μ) hones v hv
       obtain ⟨w',q1,q2,q3,q4⟩:=wHI hset S k1 k2 hb
       refine ⟨μ,w',undef,q3,q2,wTm μ,q4,by rw [ho];rfl,?_⟩
       rw [<- wFP] at q1
       simp [execOp,ho,resolve,invoke,builtin,Builtin.clear_,hA,wBP d1,wGW z1 z2,q1,undef,Result.andThen]
      ·cases hr'
    unfold wQJ at hr
    split at hr
    ·rename_i hb;rw [hb] at hx;obtain ⟨c,g1,_,g3⟩:=hx;exact full g1 g3 hr
    ·rename_i hb;rw [hb] at hx;obtain ⟨c,g1,_,g3⟩:=hx;exact full g1 g3 hr
    ·rename_i hb;rw [hb] at hx;cases hr;obtain ⟨c,g1,q,g3⟩:=hx;exact zero g3 rfl rfl
    ·rename_i hb;rw [hb] at hx;cases hr;have hx:ev σ x'=.slice none 0 0:=hx;exact zero hx rfl rfl
    ·cases hr
   ·cases h2
  ·cases hc
 ·cases hc
end
end
noncomputable section
open Go.RowKit Go.KL
section
variable {C:Chk} {P:Program} {μ μ':Mu} {w w':World} {h h':AH} {σ:Env} {σA:Tr AV} {t e:TypeId} {o:Oper} {K:Type} [DecidableEq K]
def wPs (P:Program) (two:Bool) (k:IntKind) (kt:TypeId):Bool:=match two with
 | false=>wFx P kt fun d=>match wOo d with | some k'=>keq k k' | none=>false
 | true=>(!P.stoodInHeld kt) && wFx P kt fun d=>match d with
  | .struct fs=>match fs.toList with
   | [f, g] => nE f.type g.type && (nE f.offset 0 && (nE g.offset 1 && ((f.name != "_") && ((g.name != "_") && wFx P f.type fun d => match wOo d with | some k' => keq k k' | none => false))))
   | _=>false
  | _=>false
theorem keyI {k:IntKind} {kt:TypeId} (hc:wPs P false k kt=true):KeyR P kt (fun n:Int=>ko k n):=by
 obtain ⟨d,d1,d2⟩:=wBF hc
 cases d <;> first | (cases d2;done) | skip
 have:=wCG d2
 subst this
 exact KeyR.ofInt d1
theorem key2 {k:IntKind} {kt:TypeId} (hc:wPs P true k kt=true):KeyR P kt (mk2 k):=by
 simp only [wPs,nB,nm] at hc
 obtain ⟨c0,c1⟩:=hc
 obtain ⟨d,d1,d2⟩:=wBF c1
 split at d2
 ·rename_i fs
  split at d2
  ·rename_i f g hfs
   simp only [nB] at d2
   obtain ⟨a1,a2,a3,a4,a5,a6⟩:=d2
   obtain ⟨di,i1,i2⟩:=wBF a6
   cases di <;> first | (cases i2;done) | skip
   have ek:=wCG i2
   subst ek
   have efs:fs=#[f,g]:=nP (by simpa using hfs)
   subst efs
   have T:Two P kt f.type f g k:=⟨d1,rfl,nD a2,by simpa using a4,(nD a1).symm,nD a3,by simpa using a5,i1,fun w=>wId i1 w,c0⟩
   exact T.keyR (mk2 k) (·.1) (·.2) (fun _=>rfl) fun x y h1 h2=>Prod.ext h1 h2
  ·cases d2
 ·cases d2
theorem mrI {l:List (Int × AV)} {tt:List (Int × Value)} (hm:MR μ l tt) (n:Int):(wNQ l n=none/\wGV tt n=none) \/ ∃ a v,wNQ l n=some a/\wGV tt n=some v/\Rv μ a v:=by
 induction l generalizing tt with
 | nil=>cases tt with
  | nil=>exact .inl ⟨rfl,rfl⟩
  | cons q tt=>have:=hm.1;simp at this
 | cons p l ih =>
  cases tt with
  | nil=>have:=hm.1;simp at this
  | cons q tt =>
   obtain ⟨a,x⟩:=p
   obtain ⟨b,v⟩:=q
   obtain ⟨h1,h2⟩:=hm
   simp only [nJ,nK] at h1
   obtain ⟨v',ws,g1,g2,g3⟩:=h2
   simp only [nJ,nK] at g3
   obtain ⟨rfl,rfl⟩:=g3
   obtain ⟨rfl,h1⟩:=h1
   simp only [wNQ,wGV]
   by_cases e:n=a
   ·right;exact ⟨x,v,by simp [wFj,e],by simp [e],g1⟩
   ·have:=ih (tt:=tt) ⟨h1,g2⟩
    simpa [wFj,e] using this
theorem wSn {l:List (Int × AV)} {tt:List (Int × Value)} (hm:MR μ l tt) (n:Int) {a:AV} {v:Value} (hv:Rv μ a v):MR μ (wON l n a) (mput tt n v):=by
 induction l generalizing tt with
 | nil=>cases tt with
  | nil=>exact ⟨rfl,wCF hv wIZ⟩
  | cons q tt=>have:=hm.1;simp at this
 | cons p l ih =>
  cases tt with
  | nil=>have:=hm.1;simp at this
  | cons q tt =>
   obtain ⟨b,x⟩:=p
   obtain ⟨b',v0⟩:=q
   obtain ⟨h1,h2⟩:=hm
   simp only [nJ,nK] at h1
   obtain ⟨v',ws,g1,g2,g3⟩:=h2
   simp only [nJ,nK] at g3
   obtain ⟨rfl,rfl⟩:=g3
   obtain ⟨rfl,h1⟩:=h1
   simp only [wON,mput,wFj]
   by_cases e:n=b
   ·simp only [e,decide_true,if_true]
    exact ⟨by simp [h1],wCF hv g2⟩
   ·have:=ih (tt:=tt) ⟨h1,g2⟩
    simp only [e,decide_false,if_false]
    exact ⟨by simp [this.1],wCF g1 this.2⟩
theorem wSo {l:List (Int × AV)} {tt:List (Int × Value)} (hm:MR μ l tt) (n:Int):MR μ (wOP l n) (mdel tt n):=by
 induction l generalizing tt with
 | nil=>cases tt with
  | nil=>exact ⟨rfl,rfl⟩
  | cons q tt=>have:=hm.1;simp at this
 | cons p l ih =>
  cases tt with
  | nil=>have:=hm.1;simp at this
  | cons q tt =>
   obtain ⟨b,x⟩:=p
   obtain ⟨b',v0⟩:=q
   obtain ⟨h1,h2⟩:=hm
   simp only [nJ,nK] at h1
   obtain ⟨v',ws,g1,g2,g3⟩:=h2
   simp only [nJ,nK] at g3
   obtain ⟨rfl,rfl⟩:=g3
   obtain ⟨rfl,h1⟩:=h1
   simp only [wOP,mdel,wFj]
   by_cases e:n=b
   ·simp only [e,decide_true,if_true]
    exact ⟨h1,g2⟩
   ·have:=ih (tt:=tt) ⟨h1,g2⟩
    simp only [e,decide_false,if_false]
    exact ⟨by simp [this.1],wCF g1 this.2⟩
theorem z2 (x y a b:Int):(zeq x a && zeq y b)=decide ((x,y)=(a,b)):=by
 rw [wFj,wFj]
 by_cases h1:x=a <;> by_cases h2:y=b <;> simp [h1,h2]
theorem mr2 {l:List ((Int × Int) × AV)} {tt:List ((Int × Int) × Value)} (hm:MR μ l tt) (x y:Int):(wNP l x y=none/\wGV tt (x,y)=none) \/ ∃ a v,wNP l x y=some a/\wGV tt (x,y)=some v/\Rv μ a v:=by
 induction l generalizing tt with
 | nil=>cases tt with
  | nil=>exact .inl ⟨rfl,rfl⟩
  | cons q tt=>have:=hm.1;simp at this
 | cons p l ih =>
  cases tt with
  | nil=>have:=hm.1;simp at this
  | cons q tt =>
   obtain ⟨⟨a,b⟩,x0⟩:=p
   obtain ⟨b',v⟩:=q
   obtain ⟨h1,h2⟩:=hm
   simp only [nJ,nK] at h1
   obtain ⟨v',ws,g1,g2,g3⟩:=h2
   simp only [nJ,nK] at g3
   obtain ⟨rfl,rfl⟩:=g3
   obtain ⟨rfl,h1⟩:=h1
   simp only [wNP,wGV,z2]
   by_cases e:(x,y)=(a,b)
   ·right;exact ⟨x0,v,by simp only [e,decide_true],by simp only [e,if_true],g1⟩
   ·have:=ih (tt:=tt) ⟨h1,g2⟩
    simp only [e,decide_false,if_false]
    exact this
theorem wSp {l:List ((Int × Int) × AV)} {tt:List ((Int × Int) × Value)} (hm:MR μ l tt) (x y:Int) {a:AV} {v:Value} (hv:Rv μ a v):MR μ (wOM l x y a) (mput tt (x,y) v):=by
 induction l generalizing tt with
 | nil=>cases tt with
  | nil=>exact ⟨rfl,wCF hv wIZ⟩
  | cons q tt=>have:=hm.1;simp at this
 | cons p l ih =>
  cases tt with
  | nil=>have:=hm.1;simp at this
  | cons q tt =>
   obtain ⟨⟨b1,b2⟩,x0⟩:=p
   obtain ⟨b',v0⟩:=q
   obtain ⟨h1,h2⟩:=hm
   simp only [nJ,nK] at h1
   obtain ⟨v',ws,g1,g2,g3⟩:=h2
   simp only [nJ,nK] at g3
   obtain ⟨rfl,rfl⟩:=g3
   obtain ⟨rfl,h1⟩:=h1
   simp only [wOM,mput,z2]
   by_cases e:(x,y)=(b1,b2)
   ·simp only [e,decide_true,if_true]
    exact ⟨by simp [h1],wCF hv g2⟩
   ·have:=ih (tt:=tt) ⟨h1,g2⟩
    simp only [e,decide_false,if_false]
    exact ⟨by simp [this.1],wCF g1 this.2⟩
theorem wSq {l:List ((Int × Int) × AV)} {tt:List ((Int × Int) × Value)} (hm:MR μ l tt) (x y:Int):MR μ (wOO l x y) (mdel tt (x,y)):=by
 induction l generalizing tt with
 | nil=>cases tt with
  | nil=>exact ⟨rfl,rfl⟩
  | cons q tt=>have:=hm.1;simp at this
 | cons p l ih =>
  cases tt with
  | nil=>have:=hm.1;simp at this
  | cons q tt =>
   obtain ⟨⟨b1,b2⟩,x0⟩:=p
   obtain ⟨b',v0⟩:=q
   obtain ⟨h1,h2⟩:=hm
   simp only [nJ,nK] at h1
   obtain ⟨v',ws,g1,g2,g3⟩:=h2
   simp only [nJ,nK] at g3
   obtain ⟨rfl,rfl⟩:=g3
   obtain ⟨rfl,h1⟩:=h1
   simp only [wOO,mdel,z2]
   by_cases e:(x,y)=(b1,b2)
   ·simp only [e,decide_true,if_true]
    exact ⟨h1,g2⟩
   ·have:=ih (tt:=tt) ⟨h1,g2⟩
    simp only [e,decide_false,if_false]
    exact ⟨by simp [this.1],wCF g1 this.2⟩
theorem wUc {mt kt et:TypeId} {m ck:Nat} {es:Array MapEntry} {mk:K->Value} {tt:List (K × Value)} {a:K} {z:Value} {ok:Bool} (hm:w.heap[m]?=some (.map es ck)) (hu:P.underlying mt=some (.map kt et)) (R:KeyR P kt mk) (hz:∀ w,(zeroValue et).run P w=.ok z w) (hh:MpR es mk id tt) :
  (Instr.lookup mt (.map (some m)) (mk a) ok).run P w=.ok (if ok then .tuple #[wAk tt a z,.bool (wKT tt a)] else wAk tt a z) w:=by
 have hf:=R.find id es.toList tt a w hh
 have hg:=wFc tt a 0
 unfold wAk wKT
 simp [Instr.lookup,run_underlying hu,MapKept.run_getObj_map hm,R.chk,hf,Result.andThen,<- hg]
 cases e:wEB tt a 0 <;> simp [hz,Result.andThen]
theorem wSr {mt kt et:TypeId} {m ck:Nat} {es:Array MapEntry} {mk:K->Value} {tt:List (K × Value)} {a:K} {v:Value} (hm:w.heap[m]?=some (.map es ck)) (hu:P.underlying mt=some (.map kt et)) (R:KeyR P kt mk) (hh:MpR es mk id tt) :
  ∃ es' ck',MpR es' mk id (mput tt a v)/\(Instr.mapUpdate mt (.map (some m)) (mk a) v).run P w=.ok () (w.putObj m (.map es' ck')):=by
 have hf:=R.find id es.toList tt a w hh
 cases e:wEB tt a 0 with
 | none =>
  obtain ⟨e1,_⟩:=wGj e v
  refine ⟨es.push { key:=mk a,val:=v,born:=ck },ck + 1,?_,?_⟩
  ·unfold MpR at hh ⊢;rw [e1];simp [hh]
  ·simp [Instr.mapUpdate,run_underlying hu,MapKept.run_getObj_map hm,R.chk,hf,e,Result.andThen,MapKept.run_setObj_map _ hm]
   rfl
 | some p =>
  obtain ⟨q,u⟩:=p
  obtain ⟨_,h2,h3,_⟩:=wGk e v
  rw [kh] at h2 h3
  have hq:q < tt.length:=(List.getElem?_eq_some_iff.1 h2).1
  have hl:es.size=tt.length:=by have:=congrArg ke hh;simpa using this
  have hkq:((es[q]?).map (·.key)).getD (mk a)=mk a:=by
   have h4:(es.toList.map (fun e=>(e.key,e.val)))[q]?=some (mk a,u):=by rw [hh,ny,h2];rfl
   rw [ny] at h4
   cases h5:es.toList[q]? with
   | none=>rw [h5] at h4;cases h4
   | some e =>
    rw [h5] at h4
    simp only [Option.map_some,aS,aD] at h4
    have h6:es[q]?=some e:=by simpa using h5
    rw [h6];simp [h4.1]
  refine ⟨es.modify q fun e=>{ e with key:=mk a,val:=v },ck,?_,?_⟩
  ·unfold MpR at hh ⊢
   rw [h3]
   apply aT
   intro n
   have hn:=congrArg (·[n]?) hh
   simp only [ny] at hn ⊢
   rw [aU]
   simp only [Array.toList_modify,List.getElem?_modify]
   by_cases hqn:q=n
   ·subst hqn
    have h5:es.toList[q]?=some (es.toList[q]'(by simpa [hl] using hq)):=nT _
    simp [h5,hq]
   ·simp only [hqn,if_false]
    simpa [hqn] using hn
  ·simp [Instr.mapUpdate,run_underlying hu,MapKept.run_getObj_map hm,R.chk,hf,e,Result.andThen,MapKept.run_setObj_map _ hm,Instr.keyThatStays,hkq,R.same]
   rfl
theorem wSs {mt kt et ty:TypeId} {tys:Array TypeId} {m ck:Nat} {es:Array MapEntry} {mk:K->Value} {tt:List (K × Value)} {a:K} (hty:tys[0]?=some mt) (hm:w.heap[m]?=some (.map es ck)) (hu:P.underlying mt=some (.map kt et)) (R:KeyR P kt mk) (hh:MpR es mk id tt) :
  ∃ es' ck',MpR es' mk id (mdel tt a)/\(Builtin.delete_ tys ty #[.map (some m),mk a]).run P w=.ok (.tuple #[]) (w.putObj m (.map es' ck')):=by
 have hf:=R.find id es.toList tt a w hh
 cases e:wEB tt a 0 with
 | none =>
  obtain ⟨_,e1⟩:=wGj e (.bool true)
  refine ⟨es,ck,by rw [e1];exact hh,?_⟩
  simp [Builtin.delete_,hty,run_underlying hu,MapKept.run_getObj_map hm,R.chk,hf,e,Result.andThen,MapKept.run_setObj_map _ hm]
  rfl
 | some p =>
  obtain ⟨q,u⟩:=p
  obtain ⟨_,h2,_,h3⟩:=wGk e (.bool true)
  rw [kh] at h2 h3
  refine ⟨es.eraseIdxIfInBounds q,ck,?_,?_⟩
  ·unfold MpR at hh ⊢
   rw [h3,<- wFe,<- hh,wFe]
   simp
  ·simp [Builtin.delete_,hty,run_underlying hu,MapKept.run_getObj_map hm,R.chk,hf,e,Result.andThen,MapKept.run_setObj_map _ hm]
   rfl
def wSt (C:Chk) (P:Program) (μ:Mu) (w:World) (c:Cl) (two:Bool) (k:IntKind) (kt:TypeId) (B:AB) (y:AV) (Y:Value):Prop :=
 ∃ (K:Type) (_:DecidableEq K) (mk:K->Value) (a:K) (es:Array MapEntry) (ck:Nat) (tt:List (K × Value)),Y=mk a/\w.heap[c.1]?=some (.map es ck)/\KeyR P kt mk/\MpR es mk id tt /\
 (∀ q,wIW two k B y=some q->(q=none/\wGV tt a=none) \/ ∃ x v,q=some x/\wGV tt a=some v/\Rv μ x v) /\
 (∀ x v B',wPq two k B y x=some B'->Rv μ x v->wNl B'/\∀ w' es' ck',w'.heap[c.1]?=some (.map es' ck')->MpR es' mk id (mput tt a v)->AbR C P μ w' c B') /\
 (∀ B',wPr two k B y=some B'->wNl B'/\∀ w' es' ck',w'.heap[c.1]?=some (.map es' ck')->MpR es' mk id (mdel tt a)->AbR C P μ w' c B')
theorem wOz {two:Bool} {k:IntKind} {kt:TypeId} {B:AB} {y:AV} {Y:Value} {c:Cl} (hk:wPs P two k kt=true) (hB:AbR C P μ w c B) (hY:Rv μ y Y) (hr:(wIW two k B y).isSome=true \/ (∃ v,(wPq two k B y v).isSome=true) \/ (wPr two k B y).isSome=true) :
  wSt C P μ w c two k kt B y Y/\wNl B:=by
 have caseI:two=false->∀ (n:Int) (es:Array MapEntry) (ck:Nat) (tt:List (Int × Value)) (l:List (Int × AV)),y=.int k n->w.heap[c.1]?=some (.map es ck)->MpR es (fun n:Int=>ko k n) id tt->MR μ l tt ->
   (∀ q,wIW two k B y=some q->q=wNQ l n)->(∀ x B',wPq two k B y x=some B'->B'=.mapI k (wON l n x))->(∀ B',wPr two k B y=some B'->B'=.mapI k (wOP l n) \/ (B'=.map0/\l=[]))->wSt C P μ w c two k kt B y Y:=by
  intro h2 n es ck tt l hy hm hp hM q1 q2 q3
  subst h2 hy
  have hY:Y=.int k n:=hY
  refine ⟨Int,inferInstance,fun n=>ko k n,n,es,ck,tt,hY,hm,keyI hk,hp,?_,?_,?_⟩
  ·intro q hq
   rw [q1 q hq]
   exact mrI hM n
  ·intro x v B' hB' hv
   have:=q2 x B' hB'
   subst this
   exact ⟨trivial,fun w' es' ck' g1 g2=>⟨es',ck',_,g1,g2,wSn hM n hv⟩⟩
  ·intro B' hB'
   rcases q3 B' hB' with rfl | ⟨rfl,rfl⟩
   ·exact ⟨trivial,fun w' es' ck' g1 g2=>⟨es',ck',_,g1,g2,wSo hM n⟩⟩
   ·refine ⟨trivial,fun w' es' ck' g1 g2=>⟨ck',?_⟩⟩
    cases tt with
    | cons p tt=>have:=hM.1;simp at this
    | nil =>
     have:es'=#[]:=by
      unfold MpR at g2
      simp only [mdel,aN,aI] at g2
      exact nP (by simpa using g2)
     rw [this] at g1;exact g1
 have case2:two=true->∀ (n m:Int) (es:Array MapEntry) (ck:Nat) (tt:List ((Int × Int) × Value)) (l:List ((Int × Int) × AV)),y=.agg [.int k n,.int k m]->w.heap[c.1]?=some (.map es ck)->MpR es (mk2 k) id tt->MR μ l tt ->
   (∀ q,wIW two k B y=some q->q=wNP l n m)->(∀ x B',wPq two k B y x=some B'->B'=.map2 k (wOM l n m x))->(∀ B',wPr two k B y=some B'->B'=.map2 k (wOO l n m) \/ (B'=.map0/\l=[]))->wSt C P μ w c two k kt B y Y:=by
  intro h2 n m es ck tt l hy hm hp hM q1 q2 q3
  subst h2 hy
  have hY:Y=mk2 k (n,m):=by
   obtain ⟨vs,g1,rfl⟩:=hY
   obtain ⟨v1,ws,g2,g3,rfl⟩:=g1
   obtain ⟨v2,ws2,g4,g5,rfl⟩:=g3
   cases g5
   have g2:v1=.int k n:=g2
   have g4:v2=.int k m:=g4
   subst g2 g4
   rfl
  refine ⟨Int × Int,inferInstance,mk2 k,(n,m),es,ck,tt,hY,hm,key2 hk,hp,?_,?_,?_⟩
  ·intro q hq
   rw [q1 q hq]
   exact mr2 hM n m
  ·intro x v B' hB' hv
   have:=q2 x B' hB'
   subst this
   exact ⟨trivial,fun w' es' ck' g1 g2=>⟨es',ck',_,g1,g2,wSp hM n m hv⟩⟩
  ·intro B' hB'
   rcases q3 B' hB' with rfl | ⟨rfl,rfl⟩
   ·exact ⟨trivial,fun w' es' ck' g1 g2=>⟨es',ck',_,g1,g2,wSq hM n m⟩⟩
   ·refine ⟨trivial,fun w' es' ck' g1 g2=>⟨ck',?_⟩⟩
    cases tt with
    | cons p tt=>have:=hM.1;simp at this
    | nil =>
     have:es'=#[]:=by
      unfold MpR at g2
      simp only [mdel,aN,aI] at g2
      exact nP (by simpa using g2)
     rw [this] at g1;exact g1
 have shape:(∃ n,two=false/\y=.int k n/\(B=.map0 \/ ∃ l,B=.mapI k l)) \/ (∃ n m,two=true/\y=.agg [.int k n,.int k m]/\(B=.map0 \/ ∃ l,B=.map2 k l)):=by
  have fI:∀ {k':IntKind} {b:Bool} {α:Type} {x:Option α},(ifO b x).isSome=true->b=true:=fun {k' b α x} hq=>by cases b <;> first | rfl | cases hq
  rcases hr with hr | ⟨v,hr⟩ | hr
  ·unfold wIW at hr
   split at hr <;> first | (cases hr;done) | skip
   ·have:=wCG (fI (k':=k) hr);subst this;exact .inl ⟨_,rfl,rfl,.inl rfl⟩
   ·have:=fI (k':=k) hr;simp only [nB] at this
    have e1:=wCG this.1;have e2:=wCG this.2;subst e1 e2;exact .inr ⟨_,_,rfl,rfl,.inl rfl⟩
   ·have:=fI (k':=k) hr;simp only [nB] at this
    have e1:=wCG this.1;have e2:=wCG this.2;subst e1 e2;exact .inl ⟨_,rfl,rfl,.inr ⟨_,rfl⟩⟩
   ·have:=fI (k':=k) hr;simp only [nB] at this
    have e1:=wCG this.1;have e2:=wCG this.2.1;have e3:=wCG this.2.2;subst e1 e2 e3;exact .inr ⟨_,_,rfl,rfl,.inr ⟨_,rfl⟩⟩
  ·unfold wPq at hr
   split at hr <;> first | (cases hr;done) | skip
   ·have:=wCG (fI (k':=k) hr);subst this;exact .inl ⟨_,rfl,rfl,.inl rfl⟩
   ·have:=fI (k':=k) hr;simp only [nB] at this
    have e1:=wCG this.1;have e2:=wCG this.2;subst e1 e2;exact .inr ⟨_,_,rfl,rfl,.inl rfl⟩
   ·have:=fI (k':=k) hr;simp only [nB] at this
    have e1:=wCG this.1;have e2:=wCG this.2;subst e1 e2;exact .inl ⟨_,rfl,rfl,.inr ⟨_,rfl⟩⟩
   ·have:=fI (k':=k) hr;simp only [nB] at this
    have e1:=wCG this.1;have e2:=wCG this.2.1;have e3:=wCG this.2.2;subst e1 e2 e3;exact .inr ⟨_,_,rfl,rfl,.inr ⟨_,rfl⟩⟩
  ·unfold wPr at hr
   split at hr <;> first | (cases hr;done) | skip
   ·have:=wCG (fI (k':=k) hr);subst this;exact .inl ⟨_,rfl,rfl,.inl rfl⟩
   ·have:=fI (k':=k) hr;simp only [nB] at this
    have e1:=wCG this.1;have e2:=wCG this.2;subst e1 e2;exact .inr ⟨_,_,rfl,rfl,.inl rfl⟩
   ·have:=fI (k':=k) hr;simp only [nB] at this
    have e1:=wCG this.1;have e2:=wCG this.2;subst e1 e2;exact .inl ⟨_,rfl,rfl,.inr ⟨_,rfl⟩⟩
   ·have:=fI (k':=k) hr;simp only [nB] at this
    have e1:=wCG this.1;have e2:=wCG this.2.1;have e3:=wCG this.2.2;subst e1 e2 e3;exact .inr ⟨_,_,rfl,rfl,.inr ⟨_,rfl⟩⟩
 have iS:∀ {b:Bool} {α:Type} {x:Option α} {v:α},ifO b x=some v->x=some v:=fun hq=>(wCN hq).2
 rcases shape with ⟨n,rfl,rfl,rfl | ⟨l,rfl⟩⟩ | ⟨n,m,rfl,rfl,rfl | ⟨l,rfl⟩⟩
 ·obtain ⟨ck,hm⟩:=hB
  refine ⟨?_,trivial⟩
  exact caseI rfl n #[] ck [] [] rfl hm rfl ⟨rfl,rfl⟩ (fun q hq=>by simp only [wIW] at hq;cases iS hq;rfl) (fun x B' hq=>by simp only [wPq] at hq;cases iS hq;rfl) (fun B' hq=>by simp only [wPr] at hq;cases iS hq;exact .inr ⟨rfl,rfl⟩)
 ·obtain ⟨es,ck,tt,hm,hp,hM⟩:=hB
  refine ⟨?_,trivial⟩
  exact caseI rfl n es ck tt l rfl hm hp hM (fun q hq=>by simp only [wIW] at hq;cases iS hq;rfl) (fun x B' hq=>by simp only [wPq] at hq;cases iS hq;rfl) (fun B' hq=>by simp only [wPr] at hq;cases iS hq;exact .inl rfl)
 ·obtain ⟨ck,hm⟩:=hB
  refine ⟨?_,trivial⟩
  exact case2 rfl n m #[] ck [] [] rfl hm rfl ⟨rfl,rfl⟩ (fun q hq=>by simp only [wIW] at hq;cases iS hq;rfl) (fun x B' hq=>by simp only [wPq] at hq;cases iS hq;rfl) (fun B' hq=>by simp only [wPr] at hq;cases iS hq;exact .inr ⟨rfl,rfl⟩)
 ·obtain ⟨es,ck,tt,hm,hp,hM⟩:=hB
  refine ⟨?_,trivial⟩
  exact case2 rfl n m es ck tt l rfl hm hp hM (fun q hq=>by simp only [wIW] at hq;cases iS hq;rfl) (fun x B' hq=>by simp only [wPq] at hq;cases iS hq;rfl) (fun B' hq=>by simp only [wPr] at hq;cases iS hq;exact .inl rfl)
def c_lk (P:Program) (two:Bool) (k:IntKind) (ok:Bool) (z:AV) (x y:AOd):Op->Bool
 | .lookup t x' y' ok'=>wFx P t (fun d=>match d with
   | .map kt et=>wPs P two k kt && (match P.info? et with
    | some i=>match i.zero with | some v=>okc z v | none=>false
    | none=>false)
   | _=>false) && ((ok == ok') && (wCt x x' && wCt y y'))
 | _=>false
def lkV (ok:Bool) (z:AV) (q:Option AV):AV:=match ok with
 | true=>.tup [q.getD z,.bool q.isSome]
 | false=>q.getD z
theorem l_lk {two:Bool} {k:IntKind} {ok:Bool} {z:AV} {x y:AOd} {op:Op} (hc:c_lk P two k ok z x y op=true):OkL C P op (o_lk two k ok z x y):=by
 intro σA h v h' hr
 unfold c_lk at hc
 split at hc
 ·rename_i t x' y' ok'
  simp only [nB,beq_iff_eq] at hc
  obtain ⟨c1,rfl,c2,c3⟩:=hc
  obtain ⟨d,d1,d2⟩:=wBF c1
  split at d2 <;> first | (cases d2;done) | skip
  rename_i kt et
  simp only [nB] at d2
  obtain ⟨k1,k2⟩:=d2
  split at k2 <;> first | (cases k2;done) | skip
  rename_i i hi
  split at k2 <;> first | (cases k2;done) | skip
  rename_i zv hz
  unfold o_lk at hr
  split at hr <;> first | (cases hr;done) | skip
  rename_i b hx
  split at hr <;> first | (cases hr;done) | skip
  rename_i B hB
  have key:∀ q,wIW two k B (evA σA y)=some q->h'=h->v=lkV ok z q->h'=h/\∀ μ σ w,EnvR μ σA σ->Sim C P μ h w->∃ cv,Rv μ v cv/\∀ (o:Oper),o.op=.lookup t x' y' ok->wFb P σ w o cv:=by
   intro q hq hh hv
   subst hh hv
   refine ⟨rfl,fun μ σ w hE S=>?_⟩
   have g:=wAO c2 hE;rw [hx] at g
   obtain ⟨c,g1,g2⟩:=g
   obtain ⟨c',g3,g4⟩:=S.at_ b B hB
   rw [g1] at g3;cases g3
   obtain ⟨⟨K,_,mk,a,es,ck,tt,e1,e2,e3,e4,e5,_,_⟩,hl⟩:=wOz k1 g4 (wAO c3 hE) (.inl (by rw [hq];rfl))
   have hrun:∀ w',Keep w w' Non->∀ (o:Oper),o.op=.lookup t x' y' ok->Runs P σ w' o (if ok then .tuple #[wAk tt a zv,.bool (wKT tt a)] else wAk tt a zv) w':=by
    intro w' K o ho
    have hm:=(K.block _ (wAi e2) id).trans e2
    have:=wUc (P:=P) (ok:=ok) hm d1 e3 (wGW hi hz) e4 (a:=a)
    exact ⟨by rw [ho];rfl,by simp [execOp,ho,g2,e1,this,Result.andThen]⟩
   refine ⟨_,?_,fun o ho w' K=>hrun w' K o ho⟩
   have hval:Rv μ (q.getD z) (wAk tt a zv)/\q.isSome=wKT tt a:=by
    rcases e5 q hq with ⟨rfl,q2⟩ | ⟨x,v,rfl,q2,q3⟩
    ·unfold wAk wKT;rw [q2];exact ⟨wOk μ k2,rfl⟩
    ·unfold wAk wKT;rw [q2];exact ⟨q3,rfl⟩
   cases ok
   ·exact hval.1
   ·exact ⟨_,wCF hval.1 (wCF (v:=.bool (wKT tt a)) (by rw [<- hval.2];rfl) wIZ),rfl⟩
  split at hr
  ·rename_i q hq
   cases hr
   exact key _ hq rfl (by cases ok <;> rfl)
  ·rename_i hq
   cases hr
   exact key _ hq rfl (by cases ok <;> rfl)
  ·cases hr
 ·cases hc
def wMh (P:Program) (two:Bool) (k:IntKind) (x y z:AOd):Op->Bool
 | .mapUpdate t x' y' z' | .insert t x' y' z'=>wFx P t (fun d=>match d with
   | .map kt et=>wPs P two k kt
   | _=>false) && (wCt x x' && (wCt y y' && wCt z z'))
 | _=>false
theorem wPA {two:Bool} {k:IntKind} {x y z:AOd} {op:Op} (hc:wMh P two k x y z op=true):∃ t kt et x' y' z',(op=.mapUpdate t x' y' z' \/ op=.insert t x' y' z')/\P.underlying t=some (.map kt et)/\wPs P two k kt=true/\wCt x x'=true/\wCt y y'=true/\wCt z z'=true:=by
 have key:∀ {t:TypeId} {x' y' z':Operand},(wFx P t (fun d=>match d with | .map kt et=>wPs P two k kt | _=>false) && (wCt x x' && (wCt y y' && wCt z z')))=true->∃ kt et,P.underlying t=some (.map kt et)/\wPs P two k kt=true/\wCt x x'=true/\wCt y y'=true/\wCt z z'=true:=by
  intro t x' y' z' hq
  simp only [nB] at hq
  obtain ⟨d,d1,d2⟩:=wBF hq.1
  split at d2 <;> first | (cases d2;done) | skip
  exact ⟨_,_,d1,d2,hq.2⟩
 unfold wMh at hc
 split at hc
 ·obtain ⟨kt,et,g⟩:=key hc;exact ⟨_,kt,et,_,_,_,.inl rfl,g⟩
 ·obtain ⟨kt,et,g⟩:=key hc;exact ⟨_,kt,et,_,_,_,.inr rfl,g⟩
 ·cases hc
theorem wUd {two:Bool} {k:IntKind} {x y z:AOd} {op:Op} (hc:wMh P two k x y z op=true):OkU C P op (wMX two k x y z):=by
 intro σA h v h' hr μ σ w hE S o ho
 obtain ⟨t,kt,et,x',y',z',hop,d1,k1,c1,c2,c3⟩:=wPA hc
 unfold wMX at hr
 split at hr <;> first | (cases hr;done) | skip
 rename_i b hx
 split at hr <;> first | (cases hr;done) | skip
 rename_i B hB
 split at hr <;> first | (cases hr;done) | skip
 rename_i B' hp
 split at hr <;> first | (cases hr;done) | skip
 rename_i h1' hput
 cases hr
 have g:=wAO c1 hE;rw [hx] at g
 obtain ⟨c,g1,g2⟩:=g
 obtain ⟨c',g3,g4⟩:=S.at_ b B hB
 rw [g1] at g3;cases g3
 obtain ⟨⟨K,_,mk,a,es,ck,tt,e1,e2,e3,e4,_,e6,_⟩,hl⟩:=wOz k1 g4 (wAO c2 hE) (.inr (.inl ⟨_,by rw [hp];rfl⟩))
 obtain ⟨es',ck',r1,r2⟩:=wSr (P:=P) (v:=ev σ z') e2 d1 e3 e4 (a:=a)
 obtain ⟨l1,l2⟩:=e6 _ (ev σ z') B' hp (wAO c3 hE)
 obtain ⟨s1,s2,s3⟩:=S.put hput hB hl g1 (wCf w c.1 (.map es' ck')) (l2 _ es' ck' (wGm _ (wAi e2)) r1)
 refine ⟨μ,_,s2,s1,rfl,s3,by rw [ho];rcases hop with e | e <;> (rw [e];rfl),?_⟩
 rcases hop with e | e <;> rw [e] at ho <;> simp [execOp,ho,g2,e1,r2,Result.andThen]
def wPB (P:Program) (two:Bool) (k:IntKind) (x y:AOd):Op->Bool
 | .call c=>match c.callee with
  | .builtin b=>(b == .delete) && (match c.args.toList,c.argTypes.toList with
   | [x',y'],t :: _=>wFx P t (fun d=>match d with | .map kt _=>wPs P two k kt | _=>false) && (wCt x x' && wCt y y')
   | _,_=>false)
  | _=>false
 | _=>false
theorem wUe {two:Bool} {k:IntKind} {x y:AOd} {op:Op} (hc:wPB P two k x y op=true):OkE C P op (wMY two k x y):=by
 intro σA h v h' hr μ σ w hE S o ho
 unfold wPB at hc
 split at hc <;> first | (cases hc;done) | skip
 rename_i c
 obtain ⟨ce,args,tys⟩:=c
 simp only at hc
 split at hc <;> first | (cases hc;done) | skip
 rename_i b
 simp only [nB,beq_iff_eq] at hc
 obtain ⟨rfl,h2⟩:=hc
 split at h2 <;> first | (cases h2;done) | skip
 rename_i x' y' t ts h3 h4
 simp only [nB] at h2
 obtain ⟨a1,a2,a3⟩:=h2
 obtain ⟨d,d1,d2⟩:=wBF a1
 split at d2 <;> first | (cases d2;done) | skip
 rename_i kt et
 have ea:args=#[x',y']:=nP (by simpa using h3)
 have et':tys[0]?=some t:=by rw [<- ky,h4];rfl
 unfold wMY at hr
 split at hr <;> first | (cases hr;done) | skip
 rename_i b hx
 split at hr <;> first | (cases hr;done) | skip
 rename_i B hB
 split at hr <;> first | (cases hr;done) | skip
 rename_i B' hp
 split at hr <;> first | (cases hr;done) | skip
 rename_i h1' hput
 cases hr
 have g:=wAO a2 hE;rw [hx] at g
 obtain ⟨c,g1,g2⟩:=g
 obtain ⟨c',g3,g4⟩:=S.at_ b B hB
 rw [g1] at g3;cases g3
 obtain ⟨⟨K,_,mk,a,es,ck,tt,e1,e2,e3,e4,_,_,e7⟩,hl⟩:=wOz d2 g4 (wAO a3 hE) (.inr (.inr (by rw [hp];rfl)))
 obtain ⟨es',ck',r1,r2⟩:=wSs (P:=P) (ty:=o.type) et' e2 d1 e3 e4 (a:=a)
 obtain ⟨l1,l2⟩:=e7 B' hp
 obtain ⟨s1,s2,s3⟩:=S.put hput hB hl g1 (wCf w c.1 (.map es' ck')) (l2 _ es' ck' (wGm _ (wAi e2)) r1)
 refine ⟨μ,_,_,s2,s1,wTm μ,s3,by rw [ho];rfl,?_⟩
 simp [execOp,ho,ea,resolve,invoke,builtin,g2,e1,r2,undef,Result.andThen]
def wPC (P:Program) (x:AOd):Op->Bool
 | .call c=>match c.callee with
  | .builtin b=>(b == .len) && (match c.args.toList,c.argTypes.toList with
   | [x'],[t]=>wFx P t (fun d=>match d with | .map _ _=>true | _=>false) && wCt x x'
   | _,_=>false)
  | _=>false
 | _=>false
theorem wUf {x:AOd} {op:Op} (hc:wPC P x op=true):OkL C P op (wMZ x):=by
 intro σA h v h' hr
 unfold wPC at hc
 split at hc <;> first | (cases hc;done) | skip
 rename_i c
 obtain ⟨ce,args,tys⟩:=c
 simp only at hc
 split at hc <;> first | (cases hc;done) | skip
 rename_i b
 simp only [nB,beq_iff_eq] at hc
 obtain ⟨rfl,h2⟩:=hc
 split at h2 <;> first | (cases h2;done) | skip
 rename_i x' t h3 h4
 simp only [nB] at h2
 obtain ⟨a1,a2⟩:=h2
 obtain ⟨d,d1,d2⟩:=wBF a1
 split at d2 <;> first | (cases d2;done) | skip
 rename_i kt et
 have ea:args=#[x']:=nP (by simpa using h3)
 have et':tys=#[t]:=nP (by simpa using h4)
 subst ea et'
 unfold wMZ at hr
 split at hr
 ·rename_i hx
  cases hr
  refine ⟨rfl,fun μ σ w hE S=>⟨_,rfl,fun o ho w' K=>?_⟩⟩
  have g:=wAO a2 hE;rw [hx] at g
  have g:ev σ x'=.map none:=g
  exact ⟨by rw [ho];rfl,by simp [execOp,ho,resolve,invoke,builtin,Builtin.len_,g,run_underlying d1,goInt,Result.andThen]⟩
 ·rename_i b hx
  split at hr <;> first | (cases hr;done) | skip
  rename_i B hB
  split at hr <;> first | (cases hr;done) | skip
  rename_i n hn
  cases hr
  refine ⟨rfl,fun μ σ w hE S=>⟨_,rfl,fun o ho w' K=>?_⟩⟩
  have g:=wAO a2 hE;rw [hx] at g
  obtain ⟨c,g1,g2⟩:=g
  obtain ⟨c',g3,g4⟩:=S.at_ b B hB
  rw [g1] at g3;cases g3
  have hmap:∃ es ck,w.heap[c.1]?=some (.map es ck)/\es.size=n:=by
   unfold lenB at hn
   split at hn <;> first | (cases hn;done) | skip
   ·cases hn;obtain ⟨ck,q⟩:=g4;exact ⟨_,ck,q,rfl⟩
   ·cases hn
    obtain ⟨es,ck,tt,q1,q2,q3⟩:=g4
    refine ⟨es,ck,q1,?_⟩
    have e1:=congrArg ke q2
    have e2:=congrArg ke q3.1
    simp at e1 e2
    rw [wGf];omega
   ·cases hn
    obtain ⟨es,ck,tt,q1,q2,q3⟩:=g4
    refine ⟨es,ck,q1,?_⟩
    have e1:=congrArg ke q2
    have e2:=congrArg ke q3.1
    simp at e1 e2
    rw [wGf];omega
  obtain ⟨es,ck,q1,q2⟩:=hmap
  have hm:=(K.block _ (wAi q1) id).trans q1
  refine ⟨by rw [ho];rfl,?_⟩
  simp [execOp,ho,resolve,invoke,builtin,Builtin.len_,g2,run_underlying d1,MapKept.run_getObj_map hm,goInt,Result.andThen,q2]
 ·cases hr
end
end
noncomputable section
open Go.RowKit Go.KL
def kdA:AOp->Nat
 | .mv _ | .pick _ _ _ | .nilc _ | .add _ _ | .sub _ _ | .mul _ _ | .quo _ _ | .rem _ _ | .lss _ _ | .leq _ _ | .gtr _ _ | .geq _ _ | .eql _ _ | .neq _ _ | .eqb _ _ _ | .eqn _ _ _ _ | .eqs _ _ _ _
 | .bad | .and _ _ | .shr _ _ | .ixs _ _ | .neg _ | .not _ | .cvt _ _ | .mkf _ _ _ | .slc _ _ _ _ _ | .slcA _ _ _ _ _ | .fad _ _ | .fld _ _ | .fldA _ _ _ | .iad _ _ _ | .iadA _ _ _ _ | .ix _ _ _ | .ixA _ _ _ _ | .ext _ _ | .bld _ _ | .len _ | .cap _ | .min _ _ | .max _ _=>3
 | .ld _ | .ldA _ _ | .lk _ _ _ _ _ _ | .lenM _=>1
 | .st _ _ _ | .mput _ _ _ _ _=>4
 | .call _ _=>5
 | _=>0
def wPD (x:AOd) (l:List AOd):Op->Bool
 | .call c=>match c.callee with
  | .value f=>wCt x f && wKp l c.args.toList
  | _=>false
 | _=>false
def wTo:List UInt8->List Nat->Bool
 | [],[]=>true
 | a :: l,b :: k=>nE a.toNat b && wTo l k
 | _,_=>false
theorem wPE:∀ {l:List UInt8} {k:List Nat},wTo l k=true->l.map UInt8.toNat=k
 | [],[],_=>rfl
 | a :: l,b :: k,h=>by
  simp only [wTo,nB] at h
  rw [nJ,nD h.1,wPE h.2]
 | [],_ :: _,h=>by simp [wTo] at h
 | _ :: _,[],h=>by simp [wTo] at h
def wSu (P:Program) (l:List Nat) (y:AOd):Op->Bool
 | .index t (.const (.string s)) y'=>wFx P t (fun d=>match d with | .string=>true | _=>false) && (wTo s.data.toList l && wCt y y')
 | _=>false
def wLt (P:Program) (a:AOp) (op:Op):Bool:=match a with
 | .mv x=>c_mv x op
 | .pick c x y=>wOl c x y op
 | .new T z=>wSg P T z op
 | .box T x=>wSh T x op
 | .ld x=>c_ld P x op
 | .ldA n x=>wSf P n x op
 | .st n x y=>c_st P n x y op
 | .nilc x=>wOm x op
 | .add x y=>wDy .add x y op
 | .sub x y=>wDy .sub x y op
 | .mul x y=>wDy .mul x y op
 | .quo x y=>wDy .quo x y op
 | .rem x y=>wDy .rem x y op
 | .lss x y=>wDy .lss x y op
 | .leq x y=>wDy .leq x y op
 | .gtr x y=>wDy .gtr x y op
 | .geq x y=>wDy .geq x y op
 | .eql x y=>wDy .eql x y op
 | .neq x y=>wDy .neq x y op
 | .eqb ne x y=>wSW P ne x y op
 | .eqn k ne x y=>wSX P k ne x y op
 | .eqs ne s x y=>wSY P ne s x y op
 | .neg x=>wSR x op
 | .not x=>wSS x op
 | .cvt k x=>wST (P:=P) k x op
 | .mkf f fi ca=>wSU f fi ca op
 | .mkm=>wSi op
 | .mks T sz by_ z x y=>wSj P T sz by_ z x y op
 | .slc sz x lo hi mx=>wSd P sz x lo hi mx op
 | .slcA sz n x lo hi=>wOv P sz n x lo hi op
 | .fad off x=>wSZ P off x op
 | .fld off x=>wSa P off x op
 | .fldA off n x=>wOr P off n x op
 | .iad sz x y=>wSb P sz x y op
 | .iadA sz n x y=>wOs P sz n x y op
 | .ix n x y=>c_ix P n x y op
 | .ixA sz n x y=>wSc P sz n x y op
 | .lk two k ok z x y=>c_lk P two k ok z x y op
 | .mput two k x y z=>wMh P two k x y z op
 | .mdel two k x y=>wPB P two k x y op
 | .ext i x=>wSV i x op
 | .bld z ps=>wSe P z ps op
 | .blds T n z ps=>wOx P T n z ps op
 | .len x=>wNX P .len x op
 | .lenM x=>wPC P x op
 | .cap x=>wNX P .cap x op
 | .app T sz by_ x y=>wQQ P T sz by_ x y op
 | .cpy sz x y=>wSk P sz x y op
 | .clr z x=>wSl P z x op
 | .min x y=>wTn .min x y op
 | .max x y=>wTn .max x y op
 | .call x l=>wPD x l op
 | .bad=>true
 | .and x y=>wDy .and x y op
 | .shr x y=>wDy .shr x y op
 | .ixs l y=>wSu P l y op
 | .apz T sz by_ z x y=>wSm P T sz by_ z x y op
section
variable {C:Chk} {P:Program} {tb:Tr AF} {ex exY:Run}
theorem p_bad {op:Op}:OkP P op (wSM):=by
 intro σA h v h' hr
 cases hr
theorem p_and {x y:AOd} {op:Op} (hc:wDy .and x y op=true):OkP P op (wSK x y):=by
 intro σA h v h' hr
 obtain ⟨t,x',y',t',rfl,h1,h2⟩:=wHH hc
 obtain ⟨hr2,rfl⟩:=wCM hr
 split at hr2
 ·rename_i k a k' b ha hb
  split at hr2
  ·rename_i hk
   cases hr2
   have hk:=wCG hk
   subst hk
   refine ⟨rfl,fun μ σ hE=>⟨_,rfl,fun o w ho=>?_⟩⟩
   have g1:=wAO h1 hE;rw [ha] at g1
   have g2:=wAO h2 hE;rw [hb] at g2
   have g1:ev σ x'=.int k a:=g1
   have g2:ev σ y'=.int k b:=g2
   exact ⟨by rw [ho];rfl,by simp [execOp,ho,g1,g2,binOp,eqGuard,Op.intBits,andI]⟩
  ·cases hr2
 ·cases hr2
theorem p_shr {x y:AOd} {op:Op} (hc:wDy .shr x y op=true):OkP P op (wSL x y):=by
 intro σA h v h' hr
 obtain ⟨t,x',y',t',rfl,h1,h2⟩:=wHH hc
 obtain ⟨hr2,rfl⟩:=wCM hr
 split at hr2
 ·rename_i k a k' b ha hb
  cases hr2
  refine ⟨rfl,fun μ σ hE=>⟨_,rfl,fun o w ho=>?_⟩⟩
  have g1:=wAO h1 hE;rw [ha] at g1
  have g2:=wAO h2 hE;rw [hb] at g2
  have g1:ev σ x'=.int k a:=g1
  have g2:ev σ y'=.int k' (kq b):=g2
  have hn:¬ (kq b) < 0:=by simp
  exact ⟨by rw [ho];rfl,by simp [execOp,ho,g1,g2,binOp,eqGuard,Op.shift];intro hb0;omega⟩
 ·cases hr2
theorem p_ixs {l:List Nat} {y:AOd} {op:Op} (hc:wSu P l y op=true):OkP P op (wOh l y):=by
 intro σA h v h' hr
 unfold wSu at hc
 split at hc <;> first | (cases hc;done) | skip
 rename_i t s y'
 simp only [nB] at hc
 obtain ⟨c1,c2,c3⟩:=hc
 obtain ⟨d,d1,d2⟩:=wBF c1
 split at d2 <;> first | (cases d2;done) | skip
 have hl:=wPE c2
 unfold wOh at hr
 split at hr
 ·rename_i k i hy
  obtain ⟨hr2,rfl⟩:=wCM hr
  split at hr2
  ·rename_i b hb
   cases hr2
   rw [wHn,<- hl,ny] at hb
   have hi:i < s.data.toList.length:=by
    rcases aO i s.data.toList.length with q | q
    ·exact q
    ·rw [kR q] at hb;cases hb
   have hi2:i < s.size:=by simpa using hi
   rw [nT hi] at hb
   have hb:(s.data.toList[i]).toNat=b:=by simpa using hb
   refine ⟨rfl,fun μ σ hE=>⟨_,rfl,fun o w ho=>?_⟩⟩
   have g:=wAO c3 hE;rw [hy] at g
   have g:ev σ y'=.int k (kq i):=g
   have hx:ev σ (.const (.string s))=.string s:=rfl
   have hrun:=run_index_string (P:=P) w t s k (kq i) d1
   rw [dif_pos ⟨by simp,by simpa using hi2⟩] at hrun
   have hbb:(s[(kq i).toNat]'(by simpa using hi2)).toNat=b:=by rw [<- hb];rfl
   rw [hbb] at hrun
   simp only [Int.ofNat_eq_natCast] at hrun
   exact ⟨by rw [ho];rfl,by simp only [execOp,ho,hx,g];simp [hrun]⟩
  ·cases hr2
 ·cases hr
theorem wRR {a:AOp} {op:Op} (hk:kdA a=3) (hc:wLt P a op=true):OkP P op (opY a tb ex exY):=by
 cases a <;> first
  | (simp [kdA] at hk;done)
  | exact p_bad | exact p_and hc | exact p_shr hc | exact p_ixs hc | exact p_mv hc | exact wUQ hc | exact wUR hc | exact p_add hc | exact p_sub hc | exact p_mul hc | exact p_quo hc | exact p_rem hc
  | exact p_lss hc | exact p_leq hc | exact p_gtr hc | exact p_geq hc | exact p_eql hc | exact p_neq hc | exact p_eqb hc | exact p_eqn hc | exact p_eqs hc
  | exact p_neg hc | exact p_not hc | exact p_cvt hc | exact p_mkf hc | exact p_slc hc | exact wUV hc | exact p_fad hc | exact p_fld hc | exact wUT hc
  | exact p_iad hc | exact wUU hc | exact p_ix hc | exact p_ixA hc | exact p_ext hc | exact p_bld hc | exact p_len hc | exact p_cap hc | exact p_min hc | exact p_max hc
theorem wKs {a:AOp} {op:Op} (hk:kdA a=1 \/ kdA a=3) (hc:wLt P a op=true):OkL C P op (opY a tb ex exY):=by
 rcases hk with hk | hk
 ·cases a <;> first
   | (simp [kdA] at hk;done)
   | exact l_ld hc | exact l_ldA hc | exact l_lk hc | exact wUf hc
 ·exact (wRR hk hc).toL
theorem wUg {a:AOp} {op:Op} (hk:kdA a=0 \/ kdA a=1 \/ kdA a=3) (hc:wLt P a op=true):OkE C P op (opY a tb ex exY):=by
 rcases hk with hk | hk
 ·cases a <;> first
   | (simp [kdA] at hk;done)
   | exact (wUX hc).toE | exact (wUY hc).toE | exact (wUZ hc).toE | exact (wUa hc).toE | exact (wRQ hc).toE | exact wUe hc | exact e_app hc | exact e_apz hc | exact e_cpy hc | exact e_clr hc
 ·exact (wKs hk hc).toE
theorem wUh {a:AOp} {op:Op} (hk:kdA a=4) (hc:wLt P a op=true):OkU C P op (opY a tb ex exY):=by
 cases a <;> first
  | (simp [kdA] at hk;done)
  | exact u_st hc | exact wUd hc
def wJW (C:Chk) (P:Program) (tb:Tr AF) (ex:Run):Prop:=∀ f args h v h',wNS tb ex f args h=some (v,h') ->
 (∀ (a:Array Value) (w:World),(callFunc (f.nat - 1) a).run P w=.ok (.enter (f.nat - 1) a) w) /\
 ∀ μ w vs,Sim C P μ h w->RvL μ args vs->Gv P (f.nat - 1) vs w fun cv w'=>∃ μ',Ext μ h.fl.nat w μ' w'/\Sim C P μ' h' w'/\Rv μ' v cv/\h'.fl=h.fl
def wIi (C:Chk) (P:Program) (ex:Run):Prop:=∀ b args h v h',wOg ex b args h=some (v,h') ->
 ∀ μ w x c,Sim C P μ h w->RvL μ args x->μ b=some c->Yd P c.1 x w fun t w'=>∃ μ',Ext μ h.fl.nat w μ' w'/\Sim C P μ' h' w'/\v=.bool t/\h'.fl=h.fl
def isAl:AOp->Bool
 | .new _ _ | .box _ _ | .mkm | .mks _ _ _ _ _ _ | .blds _ _ _ _=>true
 | _=>false
def wJv (P:Program) (N:Nat) (l:List Oper) (a:AO):Bool:=match l[a.ix]? with
 | none=>false
 | some o=>wLt P a.op o.op && ((match a.dst,o.dst with
   | none,none=>true
   | some p,some d=>nE p.nat (d + 1) && kQ d N
   | _,_=>false) && ((match a.grd,o.guard with
   | none,none=>true
   | some (p,b),some (j,b')=>(b == b') && (match (l[j]?).bind (·.dst) with | some d=>nE p.nat (d + 1) | none=>false)
   | _,_=>false) && ((match a.kd with
   | 0 | 2=>true
   | 3=>nE (kdA a.op) 3
   | 1 | 5=>nE (kdA a.op) 1 || nE (kdA a.op) 3
   | k=>nW 8 k && isAl a.op) && (!Nat.beq (kdA a.op) 4 || o.dst.isNone))))
structure AOK (P:Program) (N:Nat) (l:List Oper) (a:AO) (o:Oper):Prop where
 get:l[a.ix]?=some o
 op:wLt P a.op o.op=true
 dst:(a.dst=none/\o.dst=none) \/ ∃ p d,a.dst=some p/\o.dst=some d/\d=p.nat - 1/\d < N
 grd:(a.grd=none/\o.guard=none) \/ ∃ p b j d,a.grd=some (p,b)/\o.guard=some (j,b)/\(l[j]?).bind (·.dst)=some d/\d=p.nat - 1
 kd:(a.kd=0 \/ a.kd=2) \/ (a.kd=3/\kdA a.op=3) \/ ((a.kd=1 \/ a.kd=5)/\(kdA a.op=1 \/ kdA a.op=3)) \/ 8 <= a.kd/\isAl a.op=true
 un:kdA a.op=4->o.dst=none
theorem wJw {N:Nat} {l:List Oper} {a:AO} (hc:wJv P N l a=true):∃ o,AOK P N l a o:=by
 unfold wJv at hc
 split at hc
 ·cases hc
 ·rename_i o ho
  simp only [nB] at hc
  obtain ⟨c1,c2,c3,c4,c5⟩:=hc
  refine ⟨o,ho,c1,?_,?_,?_,?_⟩
  ·split at c2
   ·rename_i h1 h2;exact .inl ⟨h1,h2⟩
   ·rename_i p d h1 h2
    simp only [nB,np] at c2
    have:=nD c2.1
    exact .inr ⟨p,d,h1,h2,by rw [this];rfl,c2.2⟩
   ·cases c2
  ·split at c3
   ·rename_i h1 h2;exact .inl ⟨h1,h2⟩
   ·rename_i p b j b' h1 h2
    simp only [nB,beq_iff_eq] at c3
    obtain ⟨rfl,c3⟩:=c3
    split at c3
    ·rename_i d hd
     have:=nD c3
     exact .inr ⟨p,b,j,d,h1,h2,hd,by rw [this];rfl⟩
    ·cases c3
   ·cases c3
  ·split at c4
   ·exact .inl (.inl ‹_›)
   ·exact .inl (.inr ‹_›)
   ·exact .inr (.inl ⟨‹_›,nD c4⟩)
   ·simp only [nX] at c4
    exact .inr (.inr (.inl ⟨.inl ‹_›,c4.imp nD nD⟩))
   ·simp only [nX] at c4
    exact .inr (.inr (.inl ⟨.inr ‹_›,c4.imp nD nD⟩))
   ·simp only [nB,kB] at c4
    exact .inr (.inr (.inr c4))
  ·intro hk;rw [hk] at c5
   simpa using c5
theorem wSv {N:Nat} {l:List Oper} {a:AO} {o:Oper} {μ:Mu} {σA:Tr AV} {σ:Env} (A:AOK P N l a o) (hE:EnvR μ σA σ):wanted l σ o=wNT σA a.grd:=by
 unfold wanted
 rcases A.grd with ⟨h1,h2⟩ | ⟨p,b,j,d,h1,h2,h3,h4⟩
 ·rw [h1,h2];rfl
 ·rw [h1,h2]
  simp only [h3]
  show _=isB b (evA σA (.t p))
  have g:=hE p
  rw [<- h4] at g
  unfold isB
  cases hv:evA σA (.t p) <;> rw [hv] at g <;> simp only [Rv] at g <;>
   first | (rw [g];done) | (obtain ⟨_,_,_,_,_,g⟩:=g;rw [g];done) | (obtain ⟨_,_,_,_,g⟩:=g;rw [g];done) | (obtain ⟨_,_,_,g⟩:=g;rw [g];done) | (obtain ⟨_,_,g⟩:=g;rw [g];done) | (obtain ⟨_,g⟩:=g;rw [g];done) | rw [g]
theorem wHJ {N:Nat} {l:List Oper} {a:AO} {o:Oper} {μ:Mu} {σA:Tr AV} {σ:Env} {v:AV} {cv:Value} (A:AOK P N l a o) (hE:EnvR μ σA σ) (hv:Rv μ v cv):EnvR μ (wHG a.dst σA v) (put' σ o cv):=by
 rcases A.dst with ⟨h1,h2⟩ | ⟨p,d,h1,h2,h3,_⟩
 ·rw [h1];unfold put';rw [h2];exact hE
 ·rw [h1];unfold put';rw [h2];subst h3;exact hE.put hv
theorem wMi {N:Nat} {l:List Oper} {a:AO} {o:Oper} (A:AOK P N l a o):∀ d,o.dst=some d->d < N:=by
 intro d hd
 rcases A.dst with ⟨_,h2⟩ | ⟨p,d',_,h2,_,h4⟩
 ·rw [h2] at hd;cases hd
 ·rw [h2] at hd;cases hd;exact h4
theorem wUi (HC:wJW C P tb ex) (HY:wIi C P exY) {N:Nat} {l:List Oper} {a:AO} {o:Oper} {μ:Mu} {σA:Tr AV} {σ:Env} {h h':AH} {v:AV} {w:World} (A:AOK P N l a o) (hw:wanted l σ o=true) (hr:opY a.op tb ex exY σA h=some (v,h')) (hE:EnvR μ σA σ) (S:Sim C P μ h w) :
  Step1 P l o σ w fun cv w'=>∃ μ',Ext μ h.fl.nat w μ' w'/\Sim C P μ' h' w'/\EnvR μ' (wHG a.dst σA v) (put' σ o cv)/\h'.fl=h.fl:=by
 have hop:=A.op
 by_cases k4:kdA a.op=4
 ·obtain ⟨μ',w',h1,h2,rfl,h4,h5⟩:=wUh (C:=C) k4 hop σA h v h' hr μ σ w hE S o rfl
  exact .inl ⟨hw,.inl ⟨A.un k4,w',h5,μ',h1,h2,wHJ A (hE.mono h1.mono) (wTm μ'),h4⟩⟩
 ·by_cases k5:kdA a.op=5
  ·cases hq:a.op <;> rw [hq] at k5 <;> first | (simp [kdA] at k5;done) | skip
   rename_i x args
   rw [hq] at hop hr
   have hop:wPD x args o.op=true:=hop
   unfold wPD at hop
   split at hop <;> first | (cases hop;done) | skip
   rename_i c hoc
   obtain ⟨ce,cargs,tys⟩:=c
   simp only at hop
   split at hop <;> first | (cases hop;done) | skip
   rename_i f
   simp only [nB] at hop
   have hx:=wAO hop.1 hE
   have ha:=wIH hop.2 hE
   have hr:wJT x args tb ex exY σA h=some (v,h'):=hr
   unfold wJT at hr
   split at hr
   ·rename_i g fi ca hg
    rw [hg] at hx
    obtain ⟨fv,cv,g1,g2,g3⟩:=hx
    obtain ⟨hcall,hgv⟩:=HC _ _ _ _ _ hr
    have G:=hgv μ w _ S (wFh g1 (wFh ha g2))
    refine .inl ⟨hw,.inr (.inr (.inl ⟨_,_,_,Enters.mk (l:=cargs.toList) hoc g3 hcall rfl (by rw [nj]),G,?_⟩))⟩
    rintro cv' w' ⟨μ',h1,h2,h3,h4⟩
    exact ⟨μ',h1,h2,wHJ A (hE.mono h1.mono) h3,h4⟩
   ·rename_i b hb
    rw [hb] at hx
    obtain ⟨c,g1,g2⟩:=hx
    have hy:=HY _ _ _ _ _ hr
    have Y:=hy μ w _ c S ha g1
    have R:=Yd.rounds (σ:=σ) hoc g2 rfl Y
    refine .inl ⟨hw,.inr (.inr (.inr (R.mono ?_)))⟩
    rintro cv w' ⟨t,rfl,μ',h1,h2,rfl,h4⟩
    exact ⟨μ',h1,h2,wHJ A (hE.mono h1.mono) rfl,h4⟩
   ·cases hr
  ·have hk:kdA a.op=0 \/ kdA a.op=1 \/ kdA a.op=3:=by
    cases hq:a.op <;> rw [hq] at k4 k5 <;> simp [kdA] at k4 k5 ⊢
   obtain ⟨μ',w',cv,h1,h2,h3,h4,h5⟩:=wUg (C:=C) hk hop σA h v h' hr μ σ w hE S o rfl
   exact .inl ⟨hw,.inr (.inl ⟨cv,w',h5,μ',h1,h2,wHJ A (hE.mono h1.mono) h3,h4⟩)⟩
theorem stepK (HC:wJW C P tb ex) (HY:wIi C P exY) {N:Nat} {l:List Oper} {a:AO} {o:Oper} {μ:Mu} {σA:Tr AV} {σ:Env} {h h':AH} {v:AV} {w:World} (A:AOK P N l a o) (hw:wanted l σ o=true) (hr:opK a.kd a.op tb ex exY σA h=some (v,h')) (hE:EnvR μ σA σ) (S:Sim C P μ h w) :
  Step1 P l o σ w fun cv w'=>(a.kd=2->Keep w w' Non)/\∃ μ',Ext μ h.fl.nat w μ' w'/\Sim C P μ' h' w'/\EnvR μ' (wHG a.dst σA v) (put' σ o cv)/\h'.fl=h.fl:=by
 by_cases k2:a.kd=2
 ·have hr:wTl a.op tb ex exY σA h=some (v,h'):=by rw [k2] at hr;exact hr
  unfold wTl at hr
  split at hr
  ·rename_i v0 h0 hq
   cases hr
   refine (wUi HC HY A hw hq hE (S.floor h.nx)).mono ?_
   rintro cv w' ⟨μ',h1,h2,h3,h4⟩
   obtain ⟨g1,g2⟩:=S.non h1 h.fl.nat
   exact ⟨fun _=>g1,μ',g2,h2.floor h.fl,h3,rfl⟩
  ·cases hr
 ·have hr:opY a.op tb ex exY σA h=some (v,h'):=by
   have hb:nE a.kd 2=false:=by
    cases hb:nE a.kd 2 with
    | false=>rfl
    | true=>exact absurd (nD hb) k2
   have:opK a.kd a.op=opY a.op:=by unfold opK;rw [hb]
   rw [this] at hr;exact hr
  exact (wUi HC HY A hw hr hE S).mono fun cv w' hq=>⟨fun e=>absurd e k2,hq⟩
def flK (k:Nat):Bool:=nE k 1 || nE k 3
end
end
open Go.RowKit Go.KL
section
variable {C:Chk} {P:Program} {tb:Tr AF} {ex exY:Run} {σ:Tr AV} {h h':AH} {v:AV}
def wKt:AOp->List AOd
 | .mv x=>[x]
 | .pick c x y=>[c] ++ [x] ++ [y]
 | .new _ _=>[]
 | .box _ x=>[x]
 | .ld x=>[x]
 | .ldA _ x=>[x]
 | .st _ x y=>[x] ++ [y]
 | .nilc x=>[x]
 | .add x y=>[x] ++ [y]
 | .sub x y=>[x] ++ [y]
 | .mul x y=>[x] ++ [y]
 | .quo x y=>[x] ++ [y]
 | .rem x y=>[x] ++ [y]
 | .lss x y=>[x] ++ [y]
 | .leq x y=>[x] ++ [y]
 | .gtr x y=>[x] ++ [y]
 | .geq x y=>[x] ++ [y]
 | .eql x y=>[x] ++ [y]
 | .neq x y=>[x] ++ [y]
 | .eqb _ x y=>[x] ++ [y]
 | .eqn _ _ x y=>[x] ++ [y]
 | .eqs _ _ x y=>[x] ++ [y]
 | .neg x=>[x]
 | .not x=>[x]
 | .cvt _ x=>[x]
 | .mkf _ fi ca=>fi ++ ca
 | .mkm =>[]
 | .mks _ _ _ _ x y=>[x] ++ [y]
 | .slc _ x lo hi mx=>[x] ++ lo.toList ++ hi.toList ++ mx.toList
 | .slcA _ _ x lo hi=>[x] ++ lo.toList ++ hi.toList
 | .fad _ x=>[x]
 | .fld _ x=>[x]
 | .fldA _ _ x=>[x]
 | .iad _ x y=>[x] ++ [y]
 | .iadA _ _ x y=>[x] ++ [y]
 | .ix _ x y=>[x] ++ [y]
 | .ixA _ _ x y=>[x] ++ [y]
 | .lk _ _ _ _ x y=>[x] ++ [y]
 | .mput _ _ x y z=>[x] ++ [y] ++ [z]
 | .mdel _ _ x y=>[x] ++ [y]
 | .ext _ x=>[x]
 | .bld _ ps=>(ps.map fun q=>q.2.2)
 | .blds _ _ _ ps=>(ps.map fun q=>q.2.2)
 | .len x=>[x]
 | .lenM x=>[x]
 | .cap x=>[x]
 | .app _ _ _ x y=>[x] ++ [y]
 | .cpy _ x y=>[x] ++ [y]
 | .clr _ x=>[x]
 | .min x y=>[x] ++ [y]
 | .max x y=>[x] ++ [y]
 | .and x y=>[x] ++ [y]
 | .shr x y=>[x] ++ [y]
 | .ixs _ y=>[y]
 | .apz _ _ _ _ x y=>[x] ++ [y]
 | .call x l=>[x] ++ l
 | .bad=>[]
theorem wHK {σ1 σ2:Tr AV}:∀ {l:List AOd},(∀ x ∈ l,evA σ1 x=evA σ2 x)->evs σ1 l=evs σ2 l
 | [],_=>rfl
 | x :: l,h=>by
  show evA σ1 x :: evs σ1 l=evA σ2 x :: evs σ2 l
  rw [h x (by simp),wHK fun y hy=>h y (by simp [hy])]
theorem wGr {σ1 σ2:Tr AV}:∀ {ps:List (Nat × Nat × AOd)} {cs:List AV},(∀ q ∈ ps,evA σ1 q.2.2=evA σ2 q.2.2)->wJk σ1 cs ps=wJk σ2 cs ps
 | [],cs,_=>rfl
 | (off,n,x) :: ps,cs,h=>by
  have e:evA σ1 x=evA σ2 x:=h (off,n,x) (by simp)
  simp only [wJk,e]
  cases nE (len (evA σ2 x).cells) n with
  | false=>rfl
  | true =>
   cases wRs cs off (evA σ2 x).cells with
   | none=>rfl
   | some cs'=>exact wGr fun q hq=>h q (by simp [hq])
theorem wGL {σ1 σ2:Tr AV} {o:Option AOd} (h:∀ x ∈ o.toList,evA σ1 x=evA σ2 x):bnd σ1 o=bnd σ2 o:=by
 cases o with
 | none=>rfl
 | some x =>
  have e:=h x (by simp)
  simp only [bnd,e]
theorem wPF {σ1 σ2:Tr AV} (op:AOp) (h:∀ x ∈ wKt op,evA σ1 x=evA σ2 x) (hh:AH):opY op tb ex exY σ1 hh=opY op tb ex exY σ2 hh:=by
  cases op with
  | bld z ps=>exact (show wOc z ps σ1 hh=wOc z ps σ2 hh by simp only [wOc];rw [wGr fun q hq=>h q.2.2 (nz.2 ⟨q,hq,rfl⟩)])
  | blds T n z ps=>exact (show wIY T n z ps σ1 hh=wIY T n z ps σ2 hh by simp only [wIY];rw [wGr fun q hq=>h q.2.2 (nz.2 ⟨q,hq,rfl⟩)])
  | mkf f fi ca=>exact (show wNR f fi ca σ1 hh=wNR f fi ca σ2 hh by simp only [wNR];rw [wHK fun x hx=>h x (nY _ hx),wHK fun x hx=>h x (kA _ hx)])
  | call x l=>exact (show wJT x l tb ex exY σ1 hh=wJT x l tb ex exY σ2 hh by simp only [wJT];rw [h x (nY _ (by simp)),wHK fun y hy=>h y (kA _ hy)])
  | slc sz x lo hi mx=>exact (show wLl sz x lo hi mx σ1 hh=wLl sz x lo hi mx σ2 hh by
      simp only [wLl]
      rw [h x (by simp [wKt]),wGL fun y hy=>h y (by simp only [wKt,nU];exact .inl (.inl (.inr hy))),wGL fun y hy=>h y (by simp only [wKt,nU];exact .inl (.inr hy)),wGL fun y hy=>h y (by simp only [wKt,nU];exact .inr hy)])
  | slcA sz n x lo hi=>exact (show wIX sz n x lo hi σ1 hh=wIX sz n x lo hi σ2 hh by
      simp only [wIX]
      rw [h x (by simp [wKt]),wGL fun y hy=>h y (by simp only [wKt,nU];exact .inl (.inr hy)),wGL fun y hy=>h y (by simp only [wKt,nU];exact .inr hy)])
  | _=>first
    | rfl
    | (simp only [wKt,List.cons_append,kH,nO,List.not_mem_nil,or_false,forall_eq_or_imp,forall_eq] at h
       dsimp only [opY]
       simp only [o_mv,wKi,wRu,o_ld,wQG,o_st,wKj,wRv,wRw,wRx,wRy,wRz,wSA,wSB,wSC,wSD,wSE,wSF,wOR,wOS,wOT,wSG,wOU,wOV,wOW,wOX,wOY,wKk,wOZ,wKl,wUL,wOa,o_lk,wMX,wMY,wOb,wOd,wMZ,wOe,wQH,wQI,wQJ,wSH,wSI,wSK,wOh,wQK,wSL,h])
theorem wLu {o:Option AV} (hr:okV h o=some (v,h')) (h2:AH):okV h2 o=some (v,h2):=by
 cases o with
 | none=>cases hr
 | some x=>cases hr;rfl
theorem wSw {b:Bool} {x:AV} (hr:ifO b (some (x,h))=some (v,h')) (h2:AH):ifO b (some (x,h2))=some (v,h2):=by
 cases b with
 | true=>cases hr;rfl
 | false=>cases hr
theorem wSx {b:Bool} {o:Option AV} (hr:ifO b (okV h o)=some (v,h')) (h2:AH):ifO b (okV h2 o)=some (v,h2):=by
 cases b with
 | true=>exact wLu hr h2
 | false=>cases hr
theorem wRS (op:AOp) (hk:kdA op=3) (hr:opY op tb ex exY σ h=some (v,h')) (h2:AH):opY op tb ex exY σ h2=some (v,h2):=by
  cases op <;> first
    | (simp [kdA] at hk;done)
    | (dsimp only [opY] at hr ⊢
       first
        | exact wLu hr h2
        | (simp only [o_mv,wKi,wKj,wOR,wOS,wOT,wOU,wOV,wNR,wLl,wIX,wOX,wOY,wKk,wOZ,wKl,wUL,wOa,wOb,wOd,wOe,wSM,wOh] at hr ⊢
           repeat' (split at hr)
           all_goals first
             | exact wLu hr h2
             | (cases hr;rfl)
             | (cases hr;done)
             | exact wSw hr h2
             | exact wSx hr h2))
theorem wUj {a:AOp} {op:Op} (hk:isAl a=true) (hc:wLt P a op=true):OkA C P op (opY a tb ex exY):=by
 cases a <;> first
  | (simp [isAl] at hk;done)
  | exact wUX hc | exact wUY hc | exact wUZ hc | exact wUa hc | exact wRQ hc
theorem Tr.one_set {α:Type}:∀ {p q:Pos} {a b:α},p ≠ q->(Tr.one p a).set q b=(Tr.one q b).set p a
 | .H,.H,_,_,h=>absurd rfl h
 | .H,.O q,a,b,_=>rfl
 | .H,.I q,a,b,_=>rfl
 | .O p,.H,a,b,_=>rfl
 | .I p,.H,a,b,_=>rfl
 | .O p,.I q,a,b,_=>rfl
 | .I p,.O q,a,b,_=>rfl
 | .O p,.O q,a,b,h=>by simp only [Tr.one_O,Tr.set_O];rw [Tr.one_set fun e=>h (by rw [e])]
 | .I p,.I q,a,b,h=>by simp only [Tr.one_I,Tr.set_I];rw [Tr.one_set fun e=>h (by rw [e])]
theorem Tr.set_comm {α:Type}:∀ {t:Tr α} {p q:Pos} {a b:α},p ≠ q->(t.set p a).set q b=(t.set q b).set p a
 | .e,p,q,a,b,h=>by rw [Tr.set_e,Tr.set_e,Tr.one_set h]
 | .n l v r,.H,.H,_,_,h=>absurd rfl h
 | .n l v r,.H,.O q,a,b,_=>rfl
 | .n l v r,.H,.I q,a,b,_=>rfl
 | .n l v r,.O p,.H,a,b,_=>rfl
 | .n l v r,.I p,.H,a,b,_=>rfl
 | .n l v r,.O p,.I q,a,b,_=>rfl
 | .n l v r,.I p,.O q,a,b,_=>rfl
 | .n l v r,.O p,.O q,a,b,h=>by simp only [Tr.set_O];rw [Tr.set_comm fun e=>h (by rw [e])]
 | .n l v r,.I p,.I q,a,b,h=>by simp only [Tr.set_I];rw [Tr.set_comm fun e=>h (by rw [e])]
theorem wGM (p:Pos) (n:Nat):(adv p n).nat=p.nat + n:=by
 induction n with
 | zero=>rfl
 | succ n ih=>show (adv p n).succ.nat=_;rw [Pos.nat_succ,ih];omega
def rdT (d:Option Pos) (l:List AOd):Bool:=l.any fun x=>match x with
 | .t q=>decide (d=some q)
 | _=>false
theorem wLv {d:Option Pos} {x:AV} {l:List AOd} (hn:rdT d l=false):∀ a ∈ l,evA (wHG d σ x) a=evA σ a:=by
 intro a ha
 cases d with
 | none=>rfl
 | some p =>
  cases a with
  | c _=>rfl
  | t q =>
   have:¬ some p=some q:=fun e=>by
    have:=List.any_eq_false.1 hn _ ha
    simp [e] at this
   have hq:q ≠ p:=fun e=>this (by rw [e])
   show kW (motive:=fun _=>AV) u (fun v=>v) ((σ.set p x).get q)=kW (motive:=fun _=>AV) u (fun v=>v) (σ.get q)
   rw [Tr.get_set,if_neg hq]
theorem wHg {d:Option Pos} {x:AV} {op:AOp} (hn:rdT d (wKt op)=false):opY op tb ex exY (wHG d σ x) h=opY op tb ex exY σ h:=wPF op (wLv hn) h
theorem wPG {d:Option Pos} {x:AV} {q:Pos} {o:AO} (hn:rdT d (wKt o.op)=false):opP q o tb ex exY (wHG d σ x) h=opP q o tb ex exY σ h:=by
 unfold opP opN opK
 cases nW 8 o.kd
 ·cases nE o.kd 2
  ·exact wHg hn
  ·show wTl o.op tb ex exY _ h=wTl o.op tb ex exY _ h
   unfold wTl;rw [wHg hn]
 ·show kW (motive:=fun _=>Option (AV × AH)) none _ (opY o.op tb ex exY (wHG d σ x) _)=kW (motive:=fun _=>Option (AV × AH)) none _ (opY o.op tb ex exY σ _)
  rw [wHg hn]
theorem wKu {d e:Option Pos} {x y:AV} (hn:d=none \/ e=none \/ d ≠ e):wHG d (wHG e σ y) x=wHG e (wHG d σ x) y:=by
 cases d with
 | none=>rfl
 | some p =>
  cases e with
  | none=>rfl
  | some q =>
   refine Tr.set_comm fun e=>?_
   rcases hn with h | h | h
   ·cases h
   ·cases h
   ·exact h (by rw [e])
theorem wGZ {q:Pos} {op:AOp}:opN q op tb ex exY σ h=some (v,h') ↔ ∃ h1 B,opY op tb ex exY σ ⟨.e,q,h.fl⟩=some (v,h1)/\h1.m.get q=some B/\h'=⟨h.m.set q B,h.nx,h.fl⟩:=by
 unfold opN
 cases opY op tb ex exY σ ⟨.e,q,h.fl⟩ with
 | none=>exact ⟨fun e=>(by cases e),fun ⟨_,_,e,_⟩=>(by cases e)⟩
 | some r =>
  obtain ⟨v1,h1⟩:=r
  show putN h q (v1,h1)=_ ↔ _
  unfold putN
  cases hg:h1.m.get q with
  | none=>exact ⟨fun e=>(by simp only [hg] at e;cases e),fun ⟨_,_,e,g,_⟩=>(by cases e;rw [hg] at g;cases g)⟩
  | some B=>exact ⟨fun e=>(by simp only [hg] at e;cases e;exact ⟨_,B,rfl,hg,rfl⟩),fun ⟨_,_,e,g,e2⟩=>(by cases e;rw [hg] at g;cases g;subst e2;simp only [hg])⟩
theorem wIj {q:Pos} {o:AO} (hk:nW 8 o.kd=false) (h2:o.kd ≠ 2):opP q o tb ex exY σ h=opY o.op tb ex exY σ h:=by
 unfold opP opK
 rw [hk]
 cases hb:nE o.kd 2 with
 | false=>rfl
 | true=>exact absurd (nD hb) h2
theorem wMj {q:Pos} {o:AO} (hk:nW 8 o.kd=true):opP q o tb ex exY σ h=opN (adv q (o.kd - 8)) o.op tb ex exY σ h:=by
 unfold opP
 rw [hk]
 rfl
theorem wUk {a b:AV} (h:eqv a b=true):a=b:=by
 unfold eqv at h
 split at h <;> first | (cases h;done) | skip
 ·rw [nB] at h;rw [wCG h.1,wKo.1 h.2]
 ·rw [nB] at h;rw [Pos.beq_eq h.1,nD h.2]
 ·rw [Pos.beq_eq h]
def Sep (c o:AO):Prop:=c.kd=5->rdT o.dst (wKt c.op)=false/\(c.dst=none \/ o.dst=none \/ c.dst ≠ o.dst)
def wUl (b x:AO):Bool :=
 (((wQL x.kd || nE x.kd 5) && (nE b.kd 3 || (nE b.kd 5 && !rdT b.dst (wKt b.op)))) || (nW 8 x.kd && (nE b.kd 3 || (nW 8 b.kd && !Nat.beq b.kd x.kd)))) &&
 (x.grd.isNone && (b.grd.isNone && (!rdT b.dst (wKt x.op) && (!rdT x.dst (wKt b.op) && decide (b.dst=none \/ x.dst=none \/ b.dst ≠ x.dst)))))
theorem wQS {c:AO} {d:Option Pos} {x:AV} (h1:rdT d (wKt c.op)=false) (h2:c.dst=none \/ d=none \/ c.dst ≠ d):wRN c tb ex exY (wHG d σ x) h=wRN c tb ex exY σ h:=by
 unfold wRN
 rw [wHg h1]
 cases hc:c.dst with
 | none=>rfl
 | some p =>
  cases d with
  | none=>rfl
  | some p' =>
   have:evA (wHG (some p') σ x) (.t p)=evA σ (.t p):=wLv (l:=[.t p]) (by
    simp only [rdT,aF,List.any_nil,Bool.or_false,decide_eq_false_iff_not]
    rcases h2 with h2 | h2 | h2
    ·rw [hc] at h2;cases h2
    ·cases h2
    ·intro e;exact h2 (by rw [hc,e])) _ (.head _)
   cases opY c.op tb ex exY σ h with
   | none=>rfl
   | some r=>obtain ⟨v,_⟩:=r;show eqv v _=eqv v _;rw [this]
theorem wPH {b x c:AO} {acc:List AO}:c ∈ wLn b (wLn x acc)->c ∈ wLn x (wLn b acc):=by
 unfold wLn
 cases nE b.kd 5 <;> cases nE x.kd 5 <;> simp only [cond_true,cond_false,nO,imp_self]
 rintro (h | h | h)
 ·exact .inr (.inl h)
 ·exact .inl h
 ·exact .inr (.inr h)
theorem wJx {q:Pos} {r:Tr AV × AH}:∀ (os acc acc':List AO) (σ:Tr AV) (h:AH),(∀ c,c ∈ acc'->c ∈ acc)->wKm q tb ex exY os acc σ h=some r->wKm q tb ex exY os acc' σ h=some r
 | [],_,_,_,_,_,hr=>hr
 | o :: os,acc,acc',σ,h,hs,hr=>by
  rcases wDW.1 hr with ⟨hw,hr⟩ | ⟨hw,v,h1,e1,e2,hr⟩
  ·exact wDW.2 (.inl ⟨hw,wJx os _ _ _ _ hs hr⟩)
  ·refine wDW.2 (.inr ⟨hw,v,h1,e1,?_,wJx os _ _ _ _ (fun c hc=>?_) hr⟩)
   ·unfold wLm at e2 ⊢
    cases hf:wQL o.kd with
    | false=>rfl
    | true =>
     rw [hf,nu,ni,nB,nL (l:=acc)] at e2
     rw [nu,ni,nB,nL (l:=acc')]
     exact ⟨e2.1,fun c hc=>e2.2 c (hs c hc)⟩
   ·unfold wLn at hc ⊢
    cases e5:nE o.kd 5 with
    | false=>rw [e5] at hc;exact hs c hc
    | true =>
     rw [e5] at hc
     exact (nO.1 hc).elim (fun e=>e ▸ .head _) fun hc=>.tail _ (hs c hc)
theorem exch1 {N:Nat} {l:List Oper} {b x:AO} {R acc:List AO} {q:Pos} {r:Tr AV × AH} (hb:wJv P N l b=true) (hx:wJv P N l x=true) (hj:wUl b x=true) (hA:∀ c ∈ acc,c.kd=5/\Sep c b)
  (hr:wKm q tb ex exY (b :: x :: R) acc σ h=some r):wKm q tb ex exY (x :: b :: R) acc σ h=some r:=by
 obtain ⟨ob,B⟩:=wJw hb
 obtain ⟨ox,X⟩:=wJw hx
 unfold wUl at hj
 simp only [nB,nX,aC,kB,Option.isNone_iff_eq_none,nm,decide_eq_true_eq] at hj
 obtain ⟨hk,gx,gb,n1,n2,n3⟩:=hj
 rcases wDW.1 hr with ⟨hw,_⟩ | ⟨_,vb,h1,hob,hs1,hr⟩
 ·rw [gb] at hw;cases hw
 rcases wDW.1 hr with ⟨hw,_⟩ | ⟨_,vx,h2,hox,hs,hr⟩
 ·rw [gx] at hw;cases hw
 rw [wPG n1] at hox
 have n4:x.dst=none \/ b.dst=none \/ x.dst ≠ b.dst:=n3.elim (fun e=>.inr (.inl e)) fun e=>e.elim .inl fun e=>.inr (.inr e.symm)
 have pure3:∀ {a:AO} {o:Oper} {σ:Tr AV} {h h1:AH} {v:AV},AOK P N l a o->a.kd=3->opP q a tb ex exY σ h=some (v,h1)->h1=h/\∀ h2,opP q a tb ex exY σ h2=some (v,h2):=fun {a o σ h h1 v} A e ho=>by
  have k3:kdA a.op=3:=by
   rcases A.kd with (e | e) | ⟨_,e⟩ | ⟨e | e,_⟩ | ⟨e,_⟩ <;> first | exact e | omega
  have e8:nW 8 a.kd=false:=by rw [e];rfl
  rw [wIj e8 (by omega)] at ho
  have e1:=wRS _ k3 ho h
  rw [ho] at e1;cases e1
  exact ⟨rfl,fun h2=>by rw [wIj e8 (by omega)];exact wRS _ k3 ho h2⟩
 have key:∃ h1',opP q x tb ex exY σ h=some (vx,h1')/\opP q b tb ex exY σ h1'=some (vb,h2)/\wLm x.kd (b :: R) acc tb ex exY (wHG x.dst σ vx) h1'=true/\wQL b.kd=false:=by
  have nf:∀ {k:Nat},3 <= k->wQL k=false:=fun {k} e=>by
   unfold wQL
   cases e0:nE k 0 <;> cases e2:nE k 2 <;> first | rfl | (simp only [aC] at e0 e2;omega)
  have ldk:∀ {a:AO} {o:Oper} {σ:Tr AV} {h h1:AH} {v:AV},AOK P N l a o->a.kd=5->opP q a tb ex exY σ h=some (v,h1)->h1=h/\opY a.op tb ex exY σ h=some (v,h):=fun {a o σ h h1 v} A e ho=>by
   have kL:kdA a.op=1 \/ kdA a.op=3:=by
    rcases A.kd with (e | e) | ⟨e,_⟩ | ⟨_,e⟩ | ⟨e,_⟩ <;> first | exact e | omega
   rw [wIj (by rw [e];rfl) (by omega)] at ho
   obtain ⟨e1,_⟩:=wKs (C:=fun _ _ _=>True) kL A.op _ _ _ _ ho
   subst e1
   exact ⟨rfl,ho⟩
  rcases hk with ⟨hf | hx5,hk⟩ | ⟨hf,hk⟩
  ·have hx5:x.kd ≠ 5:=fun e=>by rw [e] at hf;cases hf
   have hx8:x.kd < 8:=by
    unfold wQL at hf
    simp only [nX,aC] at hf
    omega
   have st:∀ {R:List AO} {σ:Tr AV} {h:AH},((R.all fun x=>kQ x.kd 8)=true/\(acc.all fun c=>wRN c tb ex exY σ h)=true)->wLm x.kd R acc tb ex exY σ h=true:=fun e=>by
    unfold wLm;rw [hf,nu,ni,nB];exact e
   unfold wLm at hs
   rw [hf,nu,ni,nB] at hs
   have hs':(acc.all fun c=>wRN c tb ex exY (wHG x.dst σ vx) h2)=true:=by
    rw [nL]
    intro c hc
    have hm:c ∈ wLn b acc:=by
     unfold wLn
     cases nE b.kd 5
     ·exact hc
     ·exact .tail _ hc
    have:=nL.1 hs.2 c hm
    obtain ⟨a1,a2⟩:=(hA c hc).2 (hA c hc).1
    rw [wKu n4,wQS a1 a2] at this
    exact this
   have hb8:b.kd < 8:=by omega
   rcases hk with hk | ⟨hk,hself⟩
   ·obtain ⟨rfl,g⟩:=pure3 B hk hob
    exact ⟨h2,hox,g h2,st ⟨by rw [aG,hs.1,Bool.and_true];rw [np];exact hb8,hs'⟩,nf (by omega)⟩
   ·have kL:kdA b.op=1 \/ kdA b.op=3:=by
     rcases B.kd with (e | e) | ⟨e,_⟩ | ⟨_,e⟩ | ⟨e,_⟩ <;> first | exact e | omega
    have e8:nW 8 b.kd=false:=by rw [hk];rfl
    rw [wIj e8 (by omega)] at hob
    obtain ⟨e1,_⟩:=wKs (C:=fun _ _ _=>True) kL B.op _ _ _ _ hob
    subst e1
    refine ⟨h2,hox,?_,st ⟨by rw [aG,hs.1,Bool.and_true];rw [np];exact hb8,hs'⟩,nf (by omega)⟩
    have hl:wRN b tb ex exY (wHG x.dst (wHG b.dst σ vb) vx) h2=true:=nL.1 hs.2 b (by unfold wLn;rw [hk];exact .head _)
    rw [wIj e8 (by omega)]
    unfold wRN at hl
    rw [wHg n2,wHg hself] at hl
    split at hl
    ·rename_i p v' h' hp e2
     obtain ⟨e1,_⟩:=wKs (C:=fun _ _ _=>True) kL B.op _ _ _ _ e2
     subst e1
     have ev1:evA (wHG x.dst (wHG b.dst σ vb) vx) (.t p)=vb:=by
      rw [wLv (l:=[.t p]) (by
       simp only [rdT,aF,List.any_nil,Bool.or_false,decide_eq_false_iff_not]
       intro e
       rcases n3 with e3 | e3 | e3
       ·rw [hp] at e3;cases e3
       ·rw [e3] at e;cases e
       ·exact e3 (by rw [hp,e])) _ (.head _),hp]
      show kW (motive:=fun _=>AV) u (fun v=>v) ((σ.set p vb).get p)=vb
      rw [Tr.get_set,if_pos rfl]
     rw [ev1] at hl
     rw [e2,wUk hl]
    ·cases hl
  ·have hst:wLm x.kd (b :: R) acc tb ex exY (wHG x.dst σ vx) h=true:=by
    unfold wLm;rw [nf (by omega)];rfl
   have e8:nW 8 x.kd=false:=by rw [hx5];rfl
   rcases hk with hk | ⟨hk,_⟩
   ·obtain ⟨rfl,g⟩:=pure3 B hk hob
    obtain ⟨rfl,_⟩:=ldk X hx5 hox
    exact ⟨_,hox,hob,hst,nf (by omega)⟩
   ·obtain ⟨rfl,_⟩:=ldk B hk hob
    obtain ⟨rfl,_⟩:=ldk X hx5 hox
    exact ⟨_,hox,hob,hst,nf (by omega)⟩
  ·have e8:nW 8 x.kd=true:=kS hf
   have hx5:x.kd ≠ 5:=by omega
   have hst:∀ {R:List AO} {σ:Tr AV} {h:AH},wLm x.kd R acc tb ex exY σ h=true:=by
    intro R σ h
    unfold wLm;rw [nf (by omega)];rfl
   rw [wMj e8] at hox ⊢
   obtain ⟨hx0,Bx,g1,g2,rfl⟩:=wGZ.1 hox
   rcases hk with hk | ⟨hk,hne⟩
   ·obtain ⟨rfl,g⟩:=pure3 B hk hob
    exact ⟨_,wGZ.2 ⟨hx0,Bx,g1,g2,rfl⟩,g _,hst,nf (by omega)⟩
   ·have f8:nW 8 b.kd=true:=kS hk
    rw [wMj f8] at hob
    obtain ⟨hb0,Bb,f1,f2,rfl⟩:=wGZ.1 hob
    refine ⟨_,wGZ.2 ⟨hx0,Bx,g1,g2,rfl⟩,?_,hst,nf (by omega)⟩
    rw [wMj f8]
    refine wGZ.2 ⟨hb0,Bb,f1,f2,?_⟩
    simp only [AH.mk.injEq,and_true]
    refine Tr.set_comm fun e=>?_
    have:=congrArg Pos.nat e
    rw [wGM,wGM] at this
    have:b.kd=x.kd:=by omega
    rw [this] at hne
    simp at hne
 obtain ⟨h1',a1,a2,a3,a4⟩:=key
 refine wDW.2 (.inr ⟨by rw [gx];rfl,vx,h1',a1,a3,wDW.2 (.inr ⟨by rw [gb];rfl,vb,h2,by rw [wPG n2];exact a2,by unfold wLm;rw [a4];rfl,by rw [wKu n3];exact wJx _ _ _ _ _ (fun _=>wPH) hr⟩)⟩)
theorem exch {N:Nat} {l:List Oper} {x:AO} {post:List AO} {q:Pos} {r:Tr AV × AH} (hx:wJv P N l x=true):∀ (pre acc:List AO) (σ:Tr AV) (h:AH),(∀ b ∈ pre,wJv P N l b=true)->(pre.all fun b=>wUl b x)=true->pre.Pairwise Sep->(∀ c ∈ acc,c.kd=5/\∀ b ∈ pre,Sep c b) ->
  wKm q tb ex exY (pre ++ x :: post) acc σ h=some r->wKm q tb ex exY (x :: (pre ++ post)) acc σ h=some r
 | [],_,_,_,_,_,_,_,hr=>hr
 | b :: pre,acc,σ,h,hb,hj,hp,hA,hr=>by
  simp only [aG,nB] at hj
  have hp:=nQ.1 hp
  have hA':∀ c ∈ wLn b acc,c.kd=5/\∀ b ∈ pre,Sep c b:=fun c hc=>by
   unfold wLn at hc
   cases e5:nE b.kd 5 with
   | false=>rw [e5] at hc;exact ⟨(hA c hc).1,fun y hy=>(hA c hc).2 y (.tail _ hy)⟩
   | true =>
    rw [e5] at hc
    rcases nO.1 hc with rfl | hc
    ·exact ⟨nD e5,hp.1⟩
    ·exact ⟨(hA c hc).1,fun y hy=>(hA c hc).2 y (.tail _ hy)⟩
  refine exch1 (hb b (.head _)) hx hj.1 (fun c hc=>⟨(hA c hc).1,(hA c hc).2 b (.head _)⟩) ?_
  rcases wDW.1 hr with ⟨hw,hr⟩ | ⟨hw,v,h1,e1,e2,hr⟩
  ·exact wDW.2 (.inl ⟨hw,exch hx pre acc _ _ (fun c hc=>hb c (.tail _ hc)) hj.2 hp.2 (fun c hc=>⟨(hA c hc).1,fun y hy=>(hA c hc).2 y (.tail _ hy)⟩) hr⟩)
  ·refine wDW.2 (.inr ⟨hw,v,h1,e1,?_,exch hx pre _ _ _ (fun c hc=>hb c (.tail _ hc)) hj.2 hp.2 hA' hr⟩)
   unfold wLm at e2 ⊢
   cases hf:wQL b.kd with
   | false=>rfl
   | true =>
    rw [hf,nu,ni,nB,nL] at e2
    rw [nu,ni,nB,nL]
    refine ⟨fun y hy=>e2.1 y ?_,e2.2⟩
    rcases nO.1 hy with rfl | hy
    ·exact kA _ (.head _)
    ·exact (nU.1 hy).elim (nY _) fun hy=>kA _ (.tail _ hy)
end
def kk (k:Nat):Nat:=bif nE k 5 || nW 8 k then 2 else k
def can (d:Bool) (l:List Oper) (pre:List AO) (x:AO):Bool :=
 pre.isEmpty || (d && ((pre.all fun b=>wUl b x) && ((prI l x.ix).all fun p=>pre.all fun y=>!Nat.beq y.ix p)))
def wUm (d:Bool) (l:List Oper) (f:List AO->Sch):List AO->List AO->Sch
 | _,[]=>.stop
 | pre,x :: post=>bif !flK x.kd && can d l pre x then .fx x.ix (f (pre ++ post)) (wUm d l f (pre ++ [x]) post) else wUm d l f (pre ++ [x]) post
def wPI (d:Bool) (l:List Oper):Nat->List AO->Sch
 | 0,_=>.nil
 | _,[]=>.nil
 | n + 1,x :: r=>bif flK x.kd then .fl x.ix (wPI d l n r) else wUm d l (wPI d l n) [] (x :: r)
def wPJ (a b:AO):Prop:=8 <= a.kd->a.kd ≠ b.kd
section
variable {C:Chk} {P:Program} {tb:Tr AF} {ex exY:Run} {d:Bool} {l:List Oper}
theorem okP (HC:wJW C P tb ex) (HY:wIi C P exY) {N:Nat} {ks:List Nat} {Q:wDr} {D:List Deferred} {q:Pos}:∀ (n:Nat) (os acc:List AO) (σA:Tr AV) (h:AH) (σA':Tr AV) (h':AH),os.length=n->wKm q tb ex exY os acc σA h=some (σA',h') ->
  (∀ a ∈ os,wJv P N l a=true/\kOf ks a.ix=kk a.kd)->os.Pairwise wPJ->os.Pairwise Sep->(∀ c ∈ acc,c.kd=5/\∀ b ∈ os,Sep c b)->∀ (μ:Mu) (σ:Env) (w:World),(∀ a ∈ os,8 <= a.kd->μ (adv q (a.kd - 8))=none/\(adv q (a.kd - 8)).nat < h.nx.nat)->Sim C P μ h w->EnvR μ σA σ ->
  (∀ μ' w' σ',Ext μ h.fl.nat w μ' w'->Sim C P μ' h' w'->EnvR μ' σA' σ'->h'.fl=h.fl->Q D .normal σ' w')->OKS N P l Q D ks (wPI d l n os) σ w
 | 0,os,acc,σA,h,σA',h',hn,hr,_,_,_,_,μ,σ,w,_,S,hE,hQ=>by
  rw [List.length_eq_zero_iff.1 hn] at hr
  cases hr
  exact hQ μ w σ (Ext.refl μ _ w) S hE rfl
 | n + 1,os,acc,σA,h,σA',h',hn,hr,hc,hd,hsp,hA,μ,σ,w,hf,S,hE,hQ=>by
  have stp:∀ x r,os.Perm (x :: r)->(x :: r).Pairwise Sep->wKm q tb ex exY (x :: r) acc σA h=some (σA',h')->(flK x.kd=true->OKS N P l Q D ks (.fl x.ix (wPI d l n r)) σ w) /\
    (flK x.kd=false->∃ o,l[x.ix]?=some o/\(∀ d,o.dst=some d->d < N)/\Step1 P l o σ w fun v w'=>KeepD l ks x.ix w w'/\OKS N P l Q D ks (wPI d l n r) (put' σ o v) w'):=by
   intro x r hp hxr hr
   have hlen:r.length=n:=by have:=hp.length_eq;simp only [nN] at this;omega
   have hcx:=hc x (hp.mem_iff.2 (.head _))
   have hcr:∀ a ∈ r,wJv P N l a=true/\kOf ks a.ix=kk a.kd:=fun a ha=>hc a (hp.mem_iff.2 (.tail _ ha))
   have hdp:=nQ.1 ((hp.pairwise_iff fun {a b} h1 h2 e=>h1 (by rw [<- e];exact h2) e.symm).1 hd)
   have hfr:∀ a ∈ r,8 <= a.kd->μ (adv q (a.kd - 8))=none/\(adv q (a.kd - 8)).nat < h.nx.nat:=fun a ha=>hf a (hp.mem_iff.2 (.tail _ ha))
   have hsr:=nQ.1 hxr
   have hAr:∀ c ∈ acc,c.kd=5/\∀ b ∈ r,Sep c b:=fun c hm=>⟨(hA c hm).1,fun b hb=>(hA c hm).2 b (hp.mem_iff.2 (.tail _ hb))⟩
   obtain ⟨o,A⟩:=wJw hcx.1
   have hk:=hcx.2
   have hw:=wSv A hE
   rcases wDW.1 hr with ⟨hwa,hr⟩ | ⟨hwa,v,h1,hop,hs,hr⟩
   ·rw [hwa] at hw
    have K:=okP HC HY n r acc _ h σA' h' hlen hr hcr hdp.2 hsr.2 hAr μ (put' σ o undef) w hfr S (wHJ A hE (wTm μ)) hQ
    exact ⟨fun _=>⟨o,A.get,wMi A,.inr ⟨hw,K⟩⟩,fun _=>⟨o,A.get,wMi A,.inr ⟨hw,KeepD.refl l ks _ w,K⟩⟩⟩
   ·rw [hwa] at hw
    have hAn:∀ c ∈ wLn x acc,c.kd=5/\∀ b ∈ r,Sep c b:=fun c hm=>by
     unfold wLn at hm
     cases e5:nE x.kd 5 with
     | false=>rw [e5] at hm;exact hAr c hm
     | true =>
      rw [e5] at hm
      rcases nO.1 hm with rfl | hm
      ·exact ⟨nD e5,hsr.1⟩
      ·exact hAr c hm
    have next:∀ μ1 σ1 w1,Ext μ h.fl.nat w μ1 w1->Sim C P μ1 h1 w1->EnvR μ1 (wHG x.dst σA v) σ1->h1.fl=h.fl->(∀ a ∈ r,8 <= a.kd->μ1 (adv q (a.kd - 8))=none/\(adv q (a.kd - 8)).nat < h1.nx.nat)->OKS N P l Q D ks (wPI d l n r) σ1 w1 :=
     fun μ1 σ1 w1 E1 S1 hE1 e1 hf1=>okP HC HY n r _ _ h1 σA' h' hlen hr hcr hdp.2 hsr.2 hAn μ1 σ1 w1 hf1 S1 hE1 fun μ' w' σ' r1 r2 r3 r4=>by
      rw [e1] at r1 r4
      exact hQ μ' w' σ' (E1.trans r1) r2 r3 r4
    have ld:(x.kd=1 \/ x.kd=5) \/ x.kd=3->kdA x.op=1 \/ kdA x.op=3->h1=h/\∃ cv,Rv μ v cv/\wFb P σ w o cv:=fun e hL=>by
     rw [wIj (by rcases e with (e | e) | e <;> rw [e] <;> rfl) (by omega)] at hop
     obtain ⟨e1,hh⟩:=wKs (C:=C) hL A.op σA h v h1 hop
     obtain ⟨cv,g1,g2⟩:=hh μ σ w hE S
     exact ⟨e1,cv,g1,g2 o rfl⟩
    constructor
    ·intro hfl
     refine ⟨o,A.get,wMi A,.inl ⟨hw,?_⟩⟩
     unfold flK at hfl
     simp only [nX,aC] at hfl
     rcases A.kd with e | ⟨e,k3⟩ | ⟨e,hL⟩ | ⟨e,_⟩
     ·omega
     ·have e8:nW 8 x.kd=false:=by rw [e];rfl
      have hop':=hop
      rw [wIj e8 (by omega)] at hop'
      obtain ⟨e1,hp⟩:=wRR (tb:=tb) (ex:=ex) (exY:=exY) k3 A.op σA h v h1 hop'
      subst e1
      obtain ⟨cv,g1,g2⟩:=hp μ σ hE
      exact ⟨cv,fun w' _=>g2 o w' rfl,⟨fun _ w'=>g2 o w' rfl,fun _ w' _=>g2 o w' rfl⟩,next μ _ w (Ext.refl μ _ w) S (wHJ A hE g1) rfl hfr⟩
     ·obtain ⟨e1,cv,g1,g2⟩:=ld (.inl e) hL
      subst e1
      have e1:x.kd=1:=by omega
      rw [hk,e1]
      exact ⟨cv,g2,⟨fun e=>(by cases e),fun e=>(by cases e)⟩,next μ _ w (Ext.refl μ _ w) S (wHJ A hE g1) rfl hfr⟩
     ·omega
    ·intro hfl
     refine ⟨o,A.get,wMi A,?_⟩
     have nk:∀ w',Keep w w' Non->kk x.kd=2->KeepD l ks x.ix w w':=fun w' k e2=>⟨fun _=>k,fun e=>by rw [hk,e2] at e;cases e⟩
     rcases A.kd with e | ⟨e,_⟩ | ⟨e | e,hL⟩ | ⟨e,hal⟩
     ·have e8:nW 8 x.kd=false:=by rcases e with e | e <;> rw [e] <;> rfl
      have hop:opK x.kd x.op tb ex exY σA h=some (v,h1):=by unfold opP at hop;rw [e8] at hop;exact hop
      have hx:wQL x.kd=true:=by rcases e with e | e <;> rw [e] <;> rfl
      have ekk:kk x.kd=x.kd:=by rcases e with e | e <;> rw [e] <;> rfl
      unfold wLm at hs
      rw [hx,nu,ni,nB,nL] at hs
      refine (stepK HC HY A hw hop hE S).mono ?_
      rintro cv w1 ⟨q0,μ1,q1,q2,q3,q4⟩
      refine ⟨⟨fun e2=>q0 (by rw [hk,ekk] at e2;exact e2),fun e2=>by rw [hk,ekk] at e2;omega⟩,next μ1 _ w1 q1 q2 q3 q4 fun a ha e9=>?_⟩
      have:=hs.1 a ha
      rw [np] at this
      omega
     ·rw [e] at hfl;cases hfl
     ·rw [e] at hfl;cases hfl
     ·obtain ⟨e1,cv,g1,g2⟩:=ld (.inl (.inr e)) hL
      subst e1
      exact .inl ⟨hw,.inr (.inl ⟨cv,w,g2 w (Keep.refl w _),nk w (Keep.refl w _) (by rw [e];rfl),next μ _ w (Ext.refl μ _ w) S (wHJ A hE g1) rfl hfr⟩)⟩
     ·have e8:nW 8 x.kd=true:=kS e
      rw [wMj e8] at hop
      obtain ⟨h0,B,f1,f2,rfl⟩:=wGZ.1 hop
      obtain ⟨B',vf,rfl,rfl,_,_,hh⟩:=wUj (C:=C) hal A.op _ _ _ _ f1
      have f2:(Tr.set .e (adv q (x.kd - 8)) B').get (adv q (x.kd - 8))=some B:=f2
      rw [Tr.get_set,if_pos rfl] at f2
      cases f2
      obtain ⟨ob,val,g1,g2,g3⟩:=hh μ σ hE o rfl
      have hx0:=hf x (hp.mem_iff.2 (.head _)) e
      obtain ⟨s1,s2,s3⟩:=S.pushAt (n':=h.nx) (c:=⟨w.heap.size,0,g0⟩) hx0.1 (nI _) hx0.2 (wAq w ob) (nI _) (by rw [wJM];exact Nat.lt_succ_self _) (g2 _ _ _ (Mu.add_le hx0.1) (heap_alloc_new w _))
      refine .inl ⟨hw,.inr (.inl ⟨_,_,g1 w,nk _ (wAq w ob) (by unfold kk;rw [e8,Bool.or_true];rfl),next _ _ _ s2 s1 (wHJ A (hE.mono s2.mono) (g3 _ _ _ s3)) rfl fun a ha e9=>⟨?_,(hfr a ha e9).2⟩⟩)⟩
      unfold Mu.add
      rw [if_neg fun e2=>?_]
      ·exact (hfr a ha e9).1
      ·have:=congrArg Pos.nat e2
       rw [wGM,wGM] at this
       exact hdp.1 a ha e (by omega)
  have ex1:∀ pre x post,os=pre ++ x :: post->flK x.kd=false->can d l pre x=true->wKm q tb ex exY (x :: (pre ++ post)) acc σA h=some (σA',h')/\(x :: (pre ++ post)).Pairwise Sep:=by
   intro pre x post e hfl hcan
   subst e
   cases pre with
   | nil=>exact ⟨hr,hsp⟩
   | cons b pre =>
    unfold can at hcan
    simp only [List.isEmpty_cons,ni,nB] at hcan
    have hp:=nZ.1 hsp
    have hsx:∀ y ∈ b :: pre,Sep x y:=fun y hy _=>by
     have:=nL.1 hcan.2.1 y hy
     unfold wUl at this
     simp only [nB,nm,decide_eq_true_eq] at this
     obtain ⟨_,_,_,n1,_,n3⟩:=this
     exact ⟨n1,n3.elim (fun e=>.inr (.inl e)) fun e=>e.elim .inl fun e=>.inr (.inr e.symm)⟩
    exact ⟨exch (hc x (by simp)).1 (b :: pre) acc σA h (fun c hm=>(hc c (nY _ hm)).1) hcan.2.1 hp.1 (fun c hm=>⟨(hA c hm).1,fun y hy=>(hA c hm).2 y (nY _ hy)⟩) hr,
     nQ.2 ⟨fun y hy=>(nU.1 hy).elim (hsx y) ((nQ.1 hp.2.1).1 y),nZ.2 ⟨hp.1,(nQ.1 hp.2.1).2,fun a ha y hy=>hp.2.2 a ha y (.tail _ hy)⟩⟩⟩
  have halt:∀ suf pre,os=pre ++ suf->OKS N P l Q D ks (wUm d l (wPI d l n) pre suf) σ w:=by
   intro suf
   induction suf with
   | nil=>intro _ _;trivial
   | cons x post ih =>
    intro pre e
    unfold wUm
    cases hcn:!flK x.kd && can d l pre x with
    | false=>exact ih (pre ++ [x]) (by simp [e])
    | true =>
     simp only [nB,nm] at hcn
     have hx:=ex1 _ _ _ e hcn.1 hcn.2
     exact ⟨(stp x _ (e ▸ List.perm_middle) hx.2 hx.1).2 hcn.1,ih (pre ++ [x]) (by simp [e])⟩
  cases os with
  | nil=>cases hn
  | cons x r =>
   unfold wPI
   cases hfl:flK x.kd with
   | true=>exact (stp x r (kz _) hsp hr).1 hfl
   | false=>exact halt (x :: r) [] rfl
end
noncomputable section
open Go.RowKit Go.KL
def kdAt (i:Nat):List AO->Nat
 | []=>0
 | a :: os=>match nE a.ix i with
  | true=>kk a.kd
  | false=>kdAt i os
def ndp:List AO->Bool
 | []=>true
 | a :: os=>(kQ a.kd 8 || os.all fun b=>!Nat.beq a.kd b.kd) && ndp os
theorem wRT:∀ {os:List AO},ndp os=true->os.Pairwise wPJ
 | [],_=>.nil
 | a :: os,h=>by
  simp only [ndp,nB,nX,np,nL] at h
  refine nQ.2 ⟨fun b hb h8 e=>?_,wRT h.2⟩
  rcases h.1 with h1 | h1
  ·omega
  ·have:=h1 b hb
   rw [e] at this
   simp at this
def sep:List AO->Bool
 | []=>true
 | a :: os=>(!Nat.beq a.kd 5 || os.all fun b=>!rdT b.dst (wKt a.op) && decide (a.dst=none \/ b.dst=none \/ a.dst ≠ b.dst)) && sep os
theorem wRU:∀ {os:List AO},sep os=true->os.Pairwise Sep
 | [],_=>.nil
 | a :: os,h=>by
  simp only [sep,nB,nX,nL,nm,decide_eq_true_eq] at h
  refine nQ.2 ⟨fun b hb e=>?_,wRU h.2⟩
  rcases h.1 with h1 | h1
  ·rw [e] at h1;cases h1
  ·exact h1 b hb
def chkR (P:Program) (N:Nat) (os:List AO) (l:List Oper) (draw:Bool):Bool :=
 let ks:=(kV l.length).map fun i=>kdAt i os
 os.all (fun a=>wJv P N l a && (nE (kOf ks a.ix) (kk a.kd) && kQ a.kd (8 + wUN os))) && (ndp os && (sep os && (match draw with
  | true=>wNr l ks (wPI true l os.length os)
  | false=>inOrder 0 (wPI false l os.length os) l.length)))
def wNZ (N:Nat):List Pos->List Nat->Bool
 | [],[]=>true
 | t :: ts,p :: ps=>(nE t.nat (p + 1) && kQ p N) && wNZ N ts ps
 | _,_=>false
theorem wMk {N:Nat}:∀ {ts:List Pos} {ps:List Nat},wNZ N ts ps=true->ts.map Pos.nat=ps.map (· + 1)/\∀ x ∈ ps,x < N
 | [],[],_=>by simp
 | t :: ts,p :: ps,h=>by
  simp only [wNZ,nB,np] at h
  obtain ⟨⟨h1,h2⟩,h3⟩:=h
  obtain ⟨h4,h5⟩:=wMk h3
  refine ⟨by simp [h4,nD h1],?_⟩
  intro x hx
  rcases nO.1 hx with rfl | hx
  ·exact h2
  ·exact h5 x hx
 | [],_ :: _,h=>by simp [wNZ] at h
 | _ :: _,[],h=>by simp [wNZ] at h
theorem wMl {μ:Mu}:∀ {ts:List Pos} {ns:List Nat} {σA σB:Tr AV} {σ:Env} {as:List AV} {vs:List Value},wSJ σA ts as=some σB->ts.map Pos.nat=ns.map (· + 1)->RvL μ as vs->EnvR μ σA σ->EnvR μ σB (wNz σ ns vs)/\ns.length=vs.length
 | [],ns,σA,σB,σ,as,vs,hs,hn,hv,hE=>by
  cases ns with
  | cons _ _=>simp at hn
  | nil =>
   cases as with
   | cons _ _=>simp [wSJ] at hs
   | nil=>cases hv;simp only [wSJ,aS] at hs;subst hs;exact ⟨hE,rfl⟩
 | t :: ts,ns,σA,σB,σ,as,vs,hs,hn,hv,hE=>by
  cases ns with
  | nil=>simp at hn
  | cons n ns =>
   cases as with
   | nil=>simp [wSJ] at hs
   | cons a as =>
    obtain ⟨v,ws,h1,h2,rfl⟩:=hv
    simp only [nJ,nK] at hn
    have hp:=hE.put (p:=t) h1
    have e:t.nat - 1=n:=by omega
    rw [e] at hp
    obtain ⟨g1,g2⟩:=wMl (ts:=ts) (ns:=ns) (σA:=σA.set t a) (σ:=upd σ n v) (by simpa [wSJ] using hs) hn.2 h2 hp
    exact ⟨g1,by simp [g2]⟩
def wHX (P:Program) (N:Nat):AC->Code->Bool
 | .skip,.skip=>true
 | .skip,.label _=>true
 | .rg os,.region _ ops draw=>chkR P N os ops.toList draw
 | .seq a b,.seq c d=>wHX P N a c && wHX P N b d
 | .cond x a b,.cond y c d=>wCt x y && (wHX P N a c && wHX P N b d)
 | .block i a,.block j c=>nE i j && wHX P N a c
 | .loop a,.loop c=>wHX P N a c
 | .scope a,.scope c=>wHX P N a c
 | .rf g t asg body,.rangeFunc g' ps asg' body'=>wCt g g' && (wNZ N t ps.toList && (wHX P N asg asg' && wHX P N body body'))
 | .exit i,.exit j=>nE i j
 | .ret,.ret=>true
 | .no,_=>true
 | _,_=>false
def CC (P:Program):Chk:=fun a c N=>wHX P N a c=true
section
variable {P:Program} {tb:Tr AF} {μ μ' μ'':Mu} {w w' w'':World} {h h' h'':AH} {σ:Env} {σA:Tr AV}
def Mk (μ:Mu) (w:World) (n0:Nat) (D:List Deferred):Prop:=∃ rbs:List Nat,D=rbs.map mark/\rbs.Nodup/\∀ rb ∈ rbs,Dfr w rb/\n0 <= rb/\∀ p c,μ p=some c->c.1 ≠ rb
theorem Mk.nil (μ:Mu) (w:World) (n0:Nat):Mk μ w n0 []:=⟨[],rfl,by simp,by simp⟩
theorem Mk.ext {n0 fl:Nat} {D:List Deferred} (M:Mk μ w n0 D) (E:Ext μ fl w μ' w'):Mk μ' w' n0 D:=by
 obtain ⟨rbs,h1,h2,h3⟩:=M
 refine ⟨rbs,h1,h2,fun rb hrb=>?_⟩
 obtain ⟨g1,g2,g3⟩:=h3 rb hrb
 refine ⟨g1.keep E.keep fun ⟨p,d,q1,q2,_⟩=>g3 p d q1 q2,g2,fun p c hp=>?_⟩
 rcases E.new p c hp with q | ⟨p',d,q1,q2,_⟩ | q
 ·exact g3 p c q
 ·rw [<- q2];exact g3 p' d q1
 ·have:=g1.lt;omega
def PostX (P:Program) (μ:Mu) (fl:Pos) (w:World) (n0:Nat) (rr:Option Nat) (D:List Deferred) (e:Ex) (σA':Tr AV) (h':AH):wDr:=fun D' e' σ' w' =>
 e'=exC e/\∃ μ',Ext μ fl.nat w μ' w'/\Sim (CC P) P μ' h' w'/\EnvR μ' σA' σ'/\Mk μ' w' n0 D'/\h'.fl=fl/\(rr.isSome=true->D'=D)
def wKv (P:Program) (ex:Run) (r:Bool):Prop:=∀ c σA h e σA' h',ex c σA h=some (e,σA',h')->∀ code N,wHX P N c code=true->∀ (rr:Option Nat) (μ:Mu) (σ:Env) (w:World) (D:List Deferred) (n0:Nat),
 rr.isSome=r->Sim (CC P) P μ h w->EnvR μ σA σ->Mk μ w n0 D->n0 <= w.heap.size->CK rr N P code (PostX P μ h.fl w n0 rr D e σA' h') D σ w
def wPK (P:Program) (ex:Run) (r:Bool) (m:Nat):Prop:=∀ c σA h e σA' h',ex (.loop c) σA h=some (e,σA',h')->∀ code N,wHX P N c code=true->∀ (rr:Option Nat) (μ:Mu) (σ:Env) (w:World) (D:List Deferred) (n0:Nat),
 rr.isSome=r->Sim (CC P) P μ h w->EnvR μ σA σ->Mk μ w n0 D->n0 <= w.heap.size->∀ a,Rep N D a σ->Code.roundsIn (WF rr) 0 P code (wJC N (PostX P μ h.fl w n0 rr D e σA' h')) m a w
theorem PostX.trans {fl:Pos} {n0:Nat} {rr:Option Nat} {D D1 D':List Deferred} {e:Ex} {e':Exit} {σA':Tr AV} {σ':Env} (E:Ext μ fl.nat w μ' w') (hD:rr.isSome=true->D1=D) (hP:PostX P μ' fl w' n0 rr D1 e σA' h' D' e' σ' w''):PostX P μ fl w n0 rr D e σA' h' D' e' σ' w'':=by
 obtain ⟨h1,μ2,h2,h3,h4,h5,h6,h7⟩:=hP
 exact ⟨h1,μ2,E.trans h2,h3,h4,h5,h6,fun hr=>(h7 hr).trans (hD hr)⟩
theorem wIk {F:Fence} {n:Nat} {c:Code} {Q Q':Exit->Act->World->Prop} (hQ:∀ e a w,Q e a w->Q' e a w):∀ (m:Nat) (a:Act) (w:World),Code.roundsIn F n P c Q m a w->Code.roundsIn F n P c Q' m a w
 | 0,_,_,h=>h.elim
 | m + 1,a,w,h=>by
  rw [roundsIn_succ] at h ⊢
  refine wpIn_mono h fun e a w q=>?_
  cases e with
  | normal=>exact wIk hQ m a w q
  | _=>exact hQ _ _ _ q
theorem Ext.drew (μ:Mu) (fl:Nat) (w:World):Ext μ fl w μ { w with drawn:=w.drawn + 1 }:=⟨Mu.Le.refl μ,fun _ _ h=>.inl h,(Keep.drew w).weak fun _ _ h=>h.elim⟩
theorem Sim.keepX {C:Chk} {X:Nat->Prop} (S:Sim C P μ h w) (K:Keep w w' X) (hX:∀ p c,μ p=some c->¬ X c.1):Sim C P μ h w' :=
 ⟨S.nx,fun p c hp=>Nat.lt_of_lt_of_le (S.lt p c hp) K.size,S.inj,fun p b hb=>let ⟨c,h1,h2⟩:=S.at_ p b hb;⟨c,h1,h2.keep K (hX p c h1)⟩⟩
def wFs (P:Program):List AR->List ResultVar->Bool
 | [],[]=>true
 | .t p :: l,.tmp t :: k=>nE p.nat (t + 1) && wFs P l k
 | .c p n :: l,.cell a t :: k=>nE p.nat (a + 1) && ((match n with | none=>wQN P t false | some n=>wQN P t true && szT P t n) && wFs P l k)
 | _,_=>false
def chkF (P:Program) (k:Nat) (af:AF):Bool:=match P.funcs[k]? with
 | none=>false
 | some fn=>match fn.body with
  | none=>false
  | some c => nE fn.ntmps af.n && (wFs P af.res fn.results.toList && (!(fn.name == "runtime.NumGoroutine") && wHX P fn.ntmps af.body c))
theorem wLw {C:Chk} (hE:EnvR μ σA σ) (S:Sim C P μ h w):∀ {l:List AR} {k:List ResultVar} {vs:List AV},wFs P l k=true->wTk σA h l=some vs->∃ VS,RvL μ vs VS/\wTi P w σ k VS
 | [],[],vs,_,hr=>by simp only [wTk] at hr;cases hr;exact ⟨[],rfl,trivial⟩
 | .t p :: l,.tmp t :: k,vs,hc,hr=>by
  simp only [wFs,nB] at hc
  simp only [wTk,res1] at hr
  split at hr
  ·rename_i vs' hvs
   cases hr
   obtain ⟨VS,g1,g2⟩:=wLw hE S hc.2 hvs
   have e:=nD hc.1
   have g:=hE p
   rw [e] at g
   exact ⟨_,wCF g g1,rfl,g2⟩
  ·cases hr
 | .c p n :: l,.cell a t :: k,vs,hc,hr=>by
  simp only [wFs,nB] at hc
  obtain ⟨c1,c2,c3⟩:=hc
  have e:=nD c1
  have g:=hE p
  rw [e] at g
  rw [wTk] at hr
  split at hr
  ·rename_i v hv
   split at hr
   ·rename_i vs' hvs
    cases hr
    obtain ⟨VS,g1,g2⟩:=wLw hE S c3 hvs
    simp only [res1] at hv
    split at hv
    ·rename_i b off hb
     split at hv
     ·rename_i cl hcl
      obtain ⟨c,ws,q1,q2,q3⟩:=wGY hcl S
      rw [hb] at g
      obtain ⟨c',k1,k2⟩:=g
      rw [q1] at k1;cases k1
      have k2:σ a=.pointer (some ⟨c.1,off,none⟩):=k2
      split at hv
      ·rw [wHn] at hv
       obtain ⟨cv,r1,r2⟩:=wGo q2 hv
       refine ⟨_,wCF r2 g1,⟨_,k2,?_⟩,g2⟩
       simp [loadVar,wGK c2,load,Sem.run,q3 w (Keep.refl w _) _ _ r1]
      ·rename_i n
       simp only [nB] at c2
       obtain ⟨r,hr3,rfl⟩:=wFB hv
       obtain ⟨r1,r2⟩:=wGp hr3 q2
       refine ⟨_,wCF ⟨_,r1,rfl⟩ g1,⟨_,k2,?_⟩,g2⟩
       have:=KL.run_loadCells (P:=P) (w:=w) (b:=c.1) (off:=off) (n:=n) ((ws.drop off).take n) (by simp;omega) fun j u hu=>q3 w (Keep.refl w _) _ _ (wGF rfl j u hu)
       simp [loadVar,wGK c2.1,wFL c2.2,this]
     ·cases hv
    ·cases hv
   ·cases hr
  ·cases hr
 | [],_ :: _,_,hc,_=>by simp [wFs] at hc
 | .t _ :: _,[],_,hc,_=>by simp [wFs] at hc
 | .c _ _ :: _,[],_,hc,_=>by simp [wFs] at hc
 | .t _ :: _,.cell _ _ :: _,_,hc,_=>by simp [wFs] at hc
 | .c _ _ :: _,.tmp _ :: _,_,hc,_=>by simp [wFs] at hc
theorem wSy {C:Chk} {l:List AR} {rs:Array ResultVar} {v:AV} (hE:EnvR μ σA σ) (S:Sim C P μ h w) (hc:wFs P l rs.toList=true) (hr:wUM σA h l=some (v,h')):h'=h/\∃ cv,Rv μ v cv/\(wDm rs σ).run P w=.ok cv w:=by
 unfold wUM at hr
 split at hr
 ·rename_i vs hvs
  cases hr
  refine ⟨rfl,?_⟩
  obtain ⟨VS,g1,g2⟩:=wLw hE S hc hvs
  have hrs:rs=rs.toList.toArray:=by simp
  unfold tupA
  split
  ·rename_i v
   obtain ⟨cv,ws,q1,q2,q3⟩:=g1
   cases q2
   subst q3
   refine ⟨cv,q1,?_⟩
   have hl:∃ r,rs=#[r]:=by
    cases hq:rs.toList with
    | nil=>rw [hq] at g2;exact g2.elim
    | cons r k =>
     cases k with
     | nil=>exact ⟨r,nP (by simpa using hq)⟩
     | cons r' k=>rw [hq] at g2;cases r <;> cases r' <;> exact g2.2.elim
   obtain ⟨r,rfl⟩:=hl
   exact wJg g2
  ·rename_i hne
   refine ⟨_,⟨VS,g1,rfl⟩,?_⟩
   rw [hrs]
   refine wHs g2 ?_
   have hl:=wEp g1
   cases hb:VS.length == 1 with
   | false=>rfl
   | true =>
    have:vs.length=1:=by rw [<- hl];exact eq_of_beq hb
    obtain ⟨v,hv⟩:=List.length_eq_one_iff.1 this
    exact absurd hv (hne v)
 ·cases hr
def wNa (P:Program) (tb:Tr AF):Prop:=∀ p af,tb.get p=some af->chkF P (p.nat - 1) af=true
theorem wPL (T:wNa P tb) {ex:Run} (HE:wKv P ex false):wJW (CC P) P tb ex:=by
 intro f args h v h' hr
 unfold wNS at hr
 split at hr
 ·rename_i af haf
  have hcf:=T f af haf
  unfold chkF at hcf
  split at hcf
  ·cases hcf
  ·rename_i fn hfn
   split at hcf
   ·cases hcf
   ·rename_i c hbody
    simp only [nB,nm] at hcf
    obtain ⟨c1,c2,c3,c4⟩:=hcf
    refine ⟨fun a w=>?_,fun μ w vs S hv=>?_⟩
    ·have c3' : ¬ fn.name = "runtime.NumGoroutine" := by simpa using c3
     simp [callFunc,program,Sem.run,hfn,hbody,c3']
    ·split at hr
     ·rename_i hle
      have hle:=nV hle
      have e1:=nD c1
      have key:∀ e σA' h1,ex af.body (wOf args .H .e) h=some (e,σA',h1)->(e=.nrm \/ e=.ret)->wUM σA' h1 af.res=some (v,h')->Gv P (f.nat - 1) vs w fun cv w'=>∃ μ',Ext μ h.fl.nat w μ' w'/\Sim (CC P) P μ' h' w'/\Rv μ' v cv/\h'.fl=h.fl:=by
       intro e σA' h1 hx he hres
       refine Gv.ofM hfn hbody rfl rfl (by rw [wEp hv,<- wGf,e1];exact hle) ?_
       refine (HE _ _ _ _ _ _ hx c fn.ntmps c4 none μ (wQx vs) w [] w.heap.size rfl S (wSQ hv) (Mk.nil μ w _) (nI _)).mono ?_
       rintro D' e' σ' w' ⟨rfl,μ',q1,q2,q3,q4,q5,_⟩
       obtain ⟨rbs,m1,m2,m3⟩:=q4
       have fin:∃ rbs:List Nat,D'=rbs.map mark/\rbs.Nodup/\(∀ rb ∈ rbs,Dfr w' rb)/\∀ w2,Keep w' w2 (· ∈ rbs)->w2.heap.size=w'.heap.size->∃ cv,(wDm fn.results σ').run P w2=.ok cv w2/\∃ μ',Ext μ h.fl.nat w μ' w2/\Sim (CC P) P μ' h' w2/\Rv μ' v cv/\h'.fl=h.fl:=by
        refine ⟨rbs,m1,m2,fun rb hrb=>(m3 rb hrb).1,fun w2 K hs=>?_⟩
        have S2:=q2.keepX K fun p c hp hm=>(m3 _ hm).2.2 p c hp rfl
        obtain ⟨rfl,cv,r1,r2⟩:=wSy q3 S2 c2 hres
        refine ⟨cv,r2,μ',⟨q1.mono,q1.new,?_⟩,S2,r1,q5⟩
        exact q1.keep.step K fun i hi hm=>absurd (m3 i hm).2.1 (Nat.not_le.2 hi)
       rcases he with rfl | rfl
       ·exact fin
       ·exact fin
      split at hr
      ·exact key _ _ _ (by assumption) (.inl rfl) hr
      ·exact key _ _ _ (by assumption) (.inr rfl) hr
      ·cases hr
     ·cases hr
 ·cases hr
theorem wQT {ex:Run} (HE:wKv P ex true):wIi (CC P) P ex:=by
 intro b args h v h' hr
 unfold wOg at hr
 split at hr
 ·rename_i σA t asg body hB
  intro μ w xv c S hx hc
  split at hr <;> first | (cases hr;done) | skip
  rename_i σS hset
  split at hr <;> first | (cases hr;done) | skip
  rename_i σ1 h1 hasg
  split at hr <;> first | (cases hr;done) | skip
  rename_i σx tx ax bx hB1
  split at hr <;> first | (cases hr;done) | skip
  rename_i h2 hput2
  split at hr <;> first | (cases hr;done) | skip
  rename_i e σ3 h3 hbody
  split at hr <;> first | (cases hr;done) | skip
  rename_i σy ty ay by_ hB3
  split at hr <;> first | (cases hr;done) | skip
  rename_i h4 hput4
  cases hr
  obtain ⟨c',g1,g2⟩:=S.at_ b _ hB
  rw [hc] at g1;cases g1
  have L:wNU (CC P) μ w c σA t asg body .ready:=g2
  obtain ⟨hSE,hSl⟩:=wMl hset L.ht hx L.env
  refine Yd.of L.at_ L.tN hSl fun σ0 hσ0=>?_
  have hE0:EnvR μ σS σ0:=by
   intro p
   rw [hσ0];exact hSE p
  refine (HE _ _ _ _ _ _ hasg c.g.ac c.g.N L.asg (some c.1) μ σ0 w [] 0 rfl S hE0 (Mk.nil μ w _) (Nat.zero_le _)).mono ?_
  rintro D' e' σ' w1 ⟨rfl,μ1,q1,q2,q3,q4,q5,q6⟩
  have hc1:=q1.mono b c hc
  obtain ⟨c',r1,r2⟩:=q2.at_ b _ hB1
  rw [hc1] at r1;cases r1
  have L1:wNU (CC P) μ1 w1 c σx tx ax bx .ready:=r2
  refine ⟨rfl,q6 rfl,L1.at_,fun w2 hl2 K hs=>?_⟩
  obtain ⟨s1,s2,s3⟩:=q2.put hput2 hB1 trivial hc1 K (B':=.loop σA t asg body .busy) ⟨hl2,L.env.mono q1.mono,L.ht,L.tN,L.asg,L.body⟩
  rw [q5] at s2 s3
  refine (HE _ _ _ _ _ _ hbody c.g.bc c.g.N L.body (some c.1) μ1 σ' w2 [] 0 rfl s1 q3 (Mk.nil μ1 w2 _) (Nat.zero_le _)).mono ?_
  rintro D'' e'' σ'' w3 ⟨rfl,μ3,t1,t2,t3,t4,t5,t6⟩
  rw [s3] at t1 t5
  have hc3:=t1.mono b c hc1
  obtain ⟨c',u1,u2⟩:=t2.at_ b _ hB3
  rw [hc3] at u1;cases u1
  have L3:wNU (CC P) μ3 w3 c σy ty ay by_ .busy:=u2
  have fin:∀ w4,LoopAt w4 c.1 c.g.N c.g.σ c.g.t c.g.ac c.g.bc c.g.rb c.g.fn (lsC e.done).1 (lsC e.done).2->Keep w3 w4 (·=c.1)->∃ μ',Ext μ h.fl.nat w μ' w4/\Sim (CC P) P μ' h' w4/\AV.bool e.go=.bool e.go/\h'.fl=h.fl:=by
   intro w4 hl4 K4
   obtain ⟨v1,v2,v3⟩:=t2.put hput4 hB3 trivial hc3 K4 (B':=.loop σA t asg body e.done) ⟨hl4,(L.env.mono q1.mono).mono t1.mono,L.ht,L.tN,L.asg,L.body⟩
   rw [t5] at v2 v3
   exact ⟨μ3,(q1.trans s2).trans (t1.trans v2),v1,rfl,v3⟩
  cases e with
  | nrm=>exact ⟨L3.at_,fun w4 hl K4 _=>fin w4 hl K4⟩
  | ret=>exact ⟨L3.at_,fun w4 hl K4 _=>fin w4 hl K4⟩
  | exit i=>exact ⟨L3.at_,fun w4 hl K4 _=>fin w4 hl K4⟩
 ·cases hr
end
end
theorem wPM (b:AC) (exR:Run) (e:Ex) (σ:Tr AV) (h:AH):seqK b exR (e,σ,h)=(match e with | .nrm=>exR b σ h | e=>some (e,σ,h)):=by cases e <;> rfl
theorem optR {α:Type} {x:Option α} {k:α->R} {r:Ex × Tr AV × AH} (hr:kW (motive:=fun _=>R) none k x=some r):∃ y,x=some y/\k y=some r:=by
 cases x with
 | none=>cases hr
 | some y=>exact ⟨y,rfl,hr⟩
section
variable {P:Program} {tb:Tr AF}
theorem wPN (hm:P.follows .mixedOrders=true) {ex exY:Run} (HC:wJW (CC P) P tb ex) (HY:wIi (CC P) P exY) {os:List AO} {σA σA':Tr AV} {h h':AH} (hr:wKm h.nx tb ex exY os [] σA ⟨h.m,adv h.nx (wUN os),h.fl⟩=some (σA',h')) {id N:Nat} {ops:Array Oper} {draw:Bool} (hc:chkR P N os ops.toList draw=true)
  {rr:Option Nat} {μ:Mu} {σ:Env} {w:World} {D:List Deferred} {n0:Nat} (S:Sim (CC P) P μ h w) (hE:EnvR μ σA σ) (M:Mk μ w n0 D):CK rr N P (.region id ops draw) (PostX P μ h.fl w n0 rr D .nrm σA' h') D σ w:=by
 unfold chkR at hc
 simp only [nB,nL,np] at hc
 obtain ⟨c1,c3,c4,c2⟩:=hc
 have hop:ops=ops.toList.toArray:=by simp
 have hnx:h.nx.nat <= (adv h.nx (wUN os)).nat:=by rw [wGM];omega
 have post:∀ {w0:World} {d:Bool},Ext μ h.fl.nat w μ w0->Sim (CC P) P μ h w0->OKS N P ops.toList (PostX P μ h.fl w n0 rr D .nrm σA' h') D ((kV ops.toList.length).map fun i=>kdAt i os) (wPI d ops.toList os.length os) σ w0:=by
  intro w0 d E0 S0
  refine okP HC HY os.length os [] σA _ σA' h' rfl hr (fun a ha=>⟨(c1 a ha).1,nD (c1 a ha).2.1⟩) (wRT c3) (wRU c4) (fun _ hm=>by cases hm) μ σ w0 (fun a ha e=>⟨S0.nx _ (by rw [wGM];omega),?_⟩) ⟨fun p hp=>S0.nx p (kM hnx hp),S0.lt,S0.inj,S0.at_⟩ hE fun μ' w' σ' q1 q2 q3 q4=>?_
  ·show _ < (adv h.nx (wUN os)).nat
   rw [wGM,wGM]
   have:=(c1 a ha).2.2
   omega
  ·have E:=E0.trans q1
   exact ⟨rfl,μ',E,q2,q3,M.ext E,q4,fun _=>rfl⟩
 rw [hop]
 cases draw with
 | true=>exact CK.anyOrd hm _ _ c2 (post (Ext.drew μ _ w) (S.keep (Keep.drew w)))
 | false=>exact CK.reg _ c2 (post (Ext.refl μ _ w) S)
theorem wQU {ex:Run} (HC:wJW (CC P) P tb ex) {g:AOd} {t:List Pos} {asg body:AC} {g':Operand} {ps:Array Tmp} {asg' body':Code} {N:Nat} (hc:wHX P N (.rf g t asg body) (.rangeFunc g' ps asg' body')=true)
  {σA σA':Tr AV} {h h':AH} {e:Ex} (hr:sRf true g t asg body tb ex σA h=some (e,σA',h')) {μ:Mu} {σ:Env} {w:World} {D:List Deferred} {n0:Nat} (S:Sim (CC P) P μ h w) (hE:EnvR μ σA σ) (M:Mk μ w n0 D) (hn:n0 <= w.heap.size) :
  CK none N P (.rangeFunc g' ps asg' body') (PostX P μ h.fl w n0 none D e σA' h') D σ w:=by
 simp only [wHX,nB] at hc
 obtain ⟨c1,c2,c3,c4⟩:=hc
 obtain ⟨p,rfl⟩:∃ p:List Nat,ps=p.toArray:=⟨ps.toList,by simp⟩
 ·obtain ⟨ht,c6⟩:=wMk (by simpa using c2)
  unfold sRf at hr
  split at hr
  ·rename_i f fi ca hg
   have hx:=wAO c1 hE
   rw [hg] at hx
   obtain ⟨fv,cv,g1,g2,g3⟩:=hx
   split at hr <;> first | (cases hr;done) | skip
   rename_i rv h2 hcall
   obtain ⟨hcf,hgv⟩:=HC _ _ _ _ _ hcall
   refine CK.rangeFunc (t:=p) g3 hcf fun fn l rb w1 e1 e2 hl hd K hs=>?_
   subst e1 e2
   have hle:=Mu.add_le (c:=(⟨w.heap.size + 1,0,⟨N,σ,p,asg',body',w.heap.size,fn⟩⟩:Cl)) (S.nx h.nx (nI _))
   obtain ⟨s1,s2,s3,s4⟩:=S.push (w':=w1) (c:=⟨w.heap.size + 1,0,⟨N,σ,p,asg',body',w.heap.size,fn⟩⟩) (B:=.loop σA t asg body .ready) K (Nat.le_succ _) (by show w.heap.size + 1 < _;omega) ⟨hl,hE.mono hle,ht,c6,c3,c4⟩
   generalize hμ1:μ.add h.nx (⟨w.heap.size + 1,0,⟨N,σ,p,asg',body',w.heap.size,fn⟩⟩:Cl)=μ1 at *
   have M1:Mk μ1 w1 n0 (mark w.heap.size :: D):=by
    have M':=M.ext s2
    obtain ⟨rbs,m1,m2,m3⟩:=M'
    have wHm:∀ rb ∈ rbs,rb < w.heap.size:=by
     obtain ⟨rbs0,k1,k2,k3⟩:=M
     intro rb hrb
     have hmm:rbs.map mark=rbs0.map mark:=by rw [<- m1,<- k1]
     have hinj:rbs=rbs0:=by
      have:∀ (a b:List Nat),a.map mark=b.map mark->a=b:=by
       intro a
       induction a with
       | nil=>intro b hb;cases b with
        | nil=>rfl
        | cons _ _=>simp at hb
       | cons x a ih=>intro b hb;cases b with
        | nil=>simp at hb
        | cons y b =>
         simp only [nJ,nK] at hb
         have hxy:x=y:=by have:=hb.1;simp [mark] at this;exact this
         rw [hxy,ih b hb.2]
      exact this _ _ hmm
     exact (k3 rb (hinj ▸ hrb)).1.lt
    refine ⟨w.heap.size :: rbs,by rw [nJ,<- m1],List.nodup_cons.2 ⟨fun hm=>absurd (wHm _ hm) (Nat.lt_irrefl _),m2⟩,fun rb hrb=>?_⟩
    rcases nO.1 hrb with rfl | hrb
    ·refine ⟨hd,hn,fun q c hq=>?_⟩
     rw [<- hμ1] at hq
     unfold Mu.add at hq
     split at hq
     ·cases hq;show w.heap.size + 1 ≠ _;omega
     ·have:=S.lt q c hq;omega
    ·exact m3 rb hrb
   have G:=hgv μ1 w1 (fv ++ (.func (.yield (w.heap.size + 1)) #[] #[] :: cv)) s1 (wFh (g1.mono s2.mono) (wCF ⟨_,s4,rfl⟩ (g2.mono s2.mono)))
   rw [nj]
   refine G.mono ?_
   rintro v3 w3 ⟨μ3,q1,q2,q3,q4⟩
   rw [s3] at q1 q4
   have E13:=s2.trans q1
   have hc3:=q1.mono _ _ s4
   have fin:∀ {B:AB} {h3:AH} (w4:World),h2.m.get h.nx=some B->wNl B->h2.put h.nx .dead=some h3->Keep w3 w4 (·=w.heap.size + 1)->w4.heap.size=w3.heap.size->∃ μ',Ext μ h.fl.nat w μ' w4/\Sim (CC P) P μ' h3 w4/\EnvR μ' σA σ/\Mk μ' w4 n0 (mark w.heap.size :: D)/\h3.fl=h.fl:=by
    intro B h3 w4 hB hlv hput K4 _
    obtain ⟨v1,v2,v3⟩:=q2.put hput hB hlv hc3 K4 (B':=.dead) trivial
    rw [q4] at v2 v3
    exact ⟨μ3,E13.trans v2,v1,hE.mono E13.mono,(M1.ext q1).ext v2,v3⟩
   split at hr
   ·rename_i sx tx ax bx hB
    split at hr <;> first | (cases hr;done) | skip
    rename_i h3 hput
    cases hr
    obtain ⟨c',u1,u2⟩:=q2.at_ _ _ hB
    rw [hc3] at u1;cases u1
    have L3:wNU (CC P) μ3 w3 ⟨w.heap.size + 1,0,⟨N,σ,p,asg',body',w.heap.size,fn⟩⟩ sx tx ax bx .ready:=u2
    refine .inl ⟨L3.at_,fun w4 K4 hs4=>?_⟩
    obtain ⟨μ',a1,a2,a3,a4,a5⟩:=fin w4 hB trivial hput K4 hs4
    exact ⟨rfl,μ',a1,a2,a3,a4,a5,fun hq=>by cases hq⟩
   ·rename_i sx tx ax bx ee hB
    split at hr <;> first | (cases hr;done) | skip
    rename_i h3 hput
    cases hr
    obtain ⟨c',u1,u2⟩:=q2.at_ _ _ hB
    rw [hc3] at u1;cases u1
    have L3:wNU (CC P) μ3 w3 ⟨w.heap.size + 1,0,⟨N,σ,p,asg',body',w.heap.size,fn⟩⟩ sx tx ax bx (.done e):=u2
    cases e with
    | nrm =>
     refine .inl ⟨L3.at_,fun w4 K4 hs4=>?_⟩
     obtain ⟨μ',a1,a2,a3,a4,a5⟩:=fin w4 hB trivial hput K4 hs4
     exact ⟨rfl,μ',a1,a2,a3,a4,a5,fun hq=>by cases hq⟩
    | ret =>
     refine .inr ⟨.ret,.inl rfl,L3.at_,fun w4 K4 hs4=>?_⟩
     obtain ⟨μ',a1,a2,a3,a4,a5⟩:=fin w4 hB trivial hput K4 hs4
     exact ⟨rfl,μ',a1,a2,a3,a4,a5,fun hq=>by cases hq⟩
    | exit i =>
     refine .inr ⟨.exit i,.inr ⟨i,rfl⟩,L3.at_,fun w4 K4 hs4=>?_⟩
     obtain ⟨μ',a1,a2,a3,a4,a5⟩:=fin w4 hB trivial hput K4 hs4
     exact ⟨rfl,μ',a1,a2,a3,a4,a5,fun hq=>by cases hq⟩
   ·cases hr
  ·cases hr
theorem CK.ofRounds {rr:Option Nat} {N:Nat} {c:Code} {Q:wDr} {D:List Deferred} {σ:Env} {w:World} (m:Nat) (hh:∀ a,Rep N D a σ->Code.roundsIn (WF rr) 0 P c (wJC N Q) m a w):CK rr N P (.loop c) Q D σ w :=
 fun a ha=>wpIn_loop_rounds m (hh a ha)
theorem wUn {exR:Run} {r:Bool} (HE:wKv P exR r) {a b:AC} {σA σA':Tr AV} {h h':AH} {e:Ex} (hr:sSeq a b exR σA h=some (e,σA',h')) {c d:Code} {N:Nat} (hc1:wHX P N a c=true) (hc2:wHX P N b d=true)
  {rr:Option Nat} {μ:Mu} {σ:Env} {w:World} {D:List Deferred} {n0:Nat} (hrr:rr.isSome=r) (S:Sim (CC P) P μ h w) (hE:EnvR μ σA σ) (M:Mk μ w n0 D) (hn:n0 <= w.heap.size):CK rr N P (.seq c d) (PostX P μ h.fl w n0 rr D e σA' h') D σ w:=by
 obtain ⟨⟨e1,σ1,h1⟩,ha,hb⟩:=optR hr
 rw [wPM] at hb
 refine CK.seq ((HE _ _ _ _ _ _ ha c N hc1 rr μ σ w D n0 hrr S hE M hn).mono ?_)
 intro D' e' σ' w' hp
 obtain ⟨rfl,μ1,q1,q2,q3,q4,q5,q6⟩:=hp
 cases e1 with
 | nrm =>
  refine (HE _ _ _ _ _ _ hb d N hc2 rr μ1 σ' w' D' n0 hrr q2 q3 q4 (kM hn q1.keep.size)).mono ?_
  intro D'' e'' σ'' w'' hp
  rw [q5] at hp
  exact PostX.trans q1 q6 hp
 | ret=>cases hb;exact ⟨rfl,μ1,q1,q2,q3,q4,q5,q6⟩
 | exit i=>cases hb;exact ⟨rfl,μ1,q1,q2,q3,q4,q5,q6⟩
theorem wSz {exR:Run} {r:Bool} {m:Nat} (HE:wKv P exR r) (HL:wPK P exR r m) {a:AC} {σA σA':Tr AV} {h h':AH} {e:Ex} (hr:wSO a exR σA h=some (e,σA',h')) {c:Code} {N:Nat} (hc:wHX P N a c=true)
  {rr:Option Nat} {μ:Mu} {σ:Env} {w:World} {D:List Deferred} {n0:Nat} (hrr:rr.isSome=r) (S:Sim (CC P) P μ h w) (hE:EnvR μ σA σ) (M:Mk μ w n0 D) (hn:n0 <= w.heap.size):∀ act,Rep N D act σ->Code.roundsIn (WF rr) 0 P c (wJC N (PostX P μ h.fl w n0 rr D e σA' h')) (m + 1) act w:=by
 obtain ⟨⟨e1,σ1,h1⟩,ha,hb⟩:=optR hr
 rw [wPM] at hb
 intro act hact
 rw [roundsIn_succ]
 refine wpIn_mono (HE _ _ _ _ _ _ ha c N hc rr μ σ w D n0 hrr S hE M hn act hact) ?_
 rintro e' act' w' ⟨σ',D',hrep,hp⟩
 obtain ⟨rfl,μ1,q1,q2,q3,q4,q5,q6⟩:=hp
 cases e1 with
 | nrm =>
  refine wIk ?_ m act' w' (HL _ _ _ _ _ _ hb c N hc rr μ1 σ' w' D' n0 hrr q2 q3 q4 (kM hn q1.keep.size) act' hrep)
  rintro e'' act'' w'' ⟨σ'',D'',hrep',hp⟩
  rw [q5] at hp
  exact ⟨σ'',D'',hrep',PostX.trans q1 q6 hp⟩
 | ret=>cases hb;exact ⟨σ',D',hrep,rfl,μ1,q1,q2,q3,q4,q5,q6⟩
 | exit i=>cases hb;exact ⟨σ',D',hrep,rfl,μ1,q1,q2,q3,q4,q5,q6⟩
theorem wTA (hm:P.follows .mixedOrders=true) (T:wNa P tb):∀ (n:Nat) (r:Bool),wKv P (exec tb n r) r/\wPK P (exec tb n r) r n:=by
 intro n
 induction n with
 | zero=>intro r;exact ⟨fun c σA h e σA' h' hr=>(by cases hr),fun c σA h e σA' h' hr=>(by cases hr)⟩
 | succ n ih =>
  intro r
  have HC:=wPL T (ih false).1
  have HY:=wQT (P:=P) (ih true).1
  obtain ⟨HE,HL⟩:=ih r
  have loop:wPK P (exec tb (n + 1) r) r (n + 1):=by
   intro c σA h e σA' h' hr code N hc rr μ σ w D n0 hrr S hE M hn
   have hr:wSO c (exec tb n r) σA h=some (e,σA',h'):=hr
   exact wSz HE HL hr hc hrr S hE M hn
  refine ⟨?_,loop⟩
  intro c σA h e σA' h' hr code N hc rr μ σ w D n0 hrr S hE M hn
  rw [wOi] at hr
  cases c with
  | skip =>
   have hr:sNrm σA h=some (e,σA',h'):=hr
   cases hr
   have fin:PostX P μ h.fl w n0 rr D .nrm σA h D .normal σ w:=⟨rfl,μ,Ext.refl μ _ w,S,hE,M,rfl,fun _=>rfl⟩
   cases code <;> simp only [wHX,nM] at hc
   ·exact CK.skip fin
   ·exact CK.label fin
  | rg os =>
   have hr:sRg os tb (exec tb n false) (exec tb n true) σA h=some (e,σA',h'):=hr
   unfold sRg at hr
   obtain ⟨y,h1,h2⟩:=optR hr
   cases h2
   cases code <;> simp only [wHX,nM] at hc
   exact wPN hm HC HY h1 hc S hE M
  | seq a b =>
   have hr:sSeq a b (exec tb n r) σA h=some (e,σA',h'):=hr
   cases code <;> simp only [wHX,nM,nB] at hc
   exact wUn HE hr hc.1 hc.2 hrr S hE M hn
  | cond x a b =>
   have hr:wSN x a b (exec tb n r) σA h=some (e,σA',h'):=hr
   cases code <;> simp only [wHX,nM,nB] at hc
   have hx:=wAO hc.1 hE
   unfold wSN at hr
   split at hr
   ·rename_i hb;rw [hb] at hx
    exact CK.condT hx (HE _ _ _ _ _ _ hr _ N hc.2.1 rr μ σ w D n0 hrr S hE M hn)
   ·rename_i hb;rw [hb] at hx
    exact CK.condF hx (HE _ _ _ _ _ _ hr _ N hc.2.2 rr μ σ w D n0 hrr S hE M hn)
   ·cases hr
  | block i a =>
   have hr:wRO i a (exec tb n r) σA h=some (e,σA',h'):=hr
   cases code <;> simp only [wHX,nM,nB] at hc
   rename_i j code
   have hij:=nD hc.1
   subst hij
   obtain ⟨⟨e1,σ1,h1⟩,ha,hb⟩:=optR hr
   refine CK.block ((HE _ _ _ _ _ _ ha code N hc.2 rr μ σ w D n0 hrr S hE M hn).mono ?_)
   rintro D' e' σ' w' ⟨rfl,μ1,q1,q2,q3,q4,q5,q6⟩
   cases e1 with
   | nrm=>cases hb;exact ⟨rfl,μ1,q1,q2,q3,q4,q5,q6⟩
   | ret=>cases hb;exact ⟨rfl,μ1,q1,q2,q3,q4,q5,q6⟩
   | exit k =>
    have hb:Bool.rec (motive:=fun _=>R) (some (.exit k,σ1,h1)) (some (.nrm,σ1,h1)) (nE k i)=some (e,σA',h'):=hb
    cases hk:nE k i with
    | true =>
     rw [hk] at hb;cases hb
     have:=nD hk
     subst this
     exact wJc ⟨rfl,μ1,q1,q2,q3,q4,q5,q6⟩
    | false =>
     rw [hk] at hb;cases hb
     exact wMN ⟨rfl,μ1,q1,q2,q3,q4,q5,q6⟩ hk
  | loop a =>
   have hr':exec tb (n + 1) r (.loop a) σA h=some (e,σA',h'):=hr
   cases code <;> simp only [wHX,nM] at hc
   exact CK.ofRounds (n + 1) (loop _ _ _ _ _ _ hr' _ N hc rr μ σ w D n0 hrr S hE M hn)
  | rf g t asg body =>
   have hr:sRf (!r) g t asg body tb (exec tb n false) σA h=some (e,σA',h'):=hr
   cases r with
   | true=>unfold sRf at hr;simp at hr
   | false =>
    have hnone:rr=none:=by cases rr <;> first | rfl | cases hrr
    subst hnone
    cases code <;> first | (simp only [wHX,nM] at hc;done) | skip
    exact wQU HC hc hr S hE M hn
  | exit i =>
   have hr:some (Ex.exit i,σA,h)=some (e,σA',h'):=hr
   cases hr
   cases code <;> simp only [wHX,nM] at hc
   have:=nD hc
   subst this
   exact CK.exit ⟨rfl,μ,Ext.refl μ _ w,S,hE,M,rfl,fun _=>rfl⟩
  | scope a =>
   have hr:exec tb n r a σA h=some (e,σA',h'):=hr
   cases code <;> simp only [wHX,nM] at hc
   refine CK.scope ((HE _ _ _ _ _ _ hr _ N hc rr μ σ w D n0 hrr S hE M hn).mono ?_)
   rintro D' e' σ' w' ⟨rfl,q⟩
   cases e with
   | nrm=>exact ⟨rfl,q⟩
   | ret=>exact ⟨rfl,q⟩
   | exit k=>exact ⟨rfl,q⟩
  | ret =>
   have hr:some (Ex.ret,σA,h)=some (e,σA',h'):=hr
   cases hr
   cases code <;> simp only [wHX,nM] at hc
   exact CK.ret ⟨rfl,μ,Ext.refl μ _ w,S,hE,M,rfl,fun _=>rfl⟩
  | no =>
   have hr:(none:R)=some (e,σA',h'):=hr
   cases hr
theorem Sim.empty (C:Chk) (P:Program) (w:World):Sim C P (fun _=>none) ⟨.e,.H,.H⟩ w :=
 ⟨fun _ _=>rfl,fun _ _ h=>(by cases h),fun _ _ _ _ _ _ h=>(by rw [Tr.get_e] at h;cases h),fun _ _ h=>(by rw [Tr.get_e] at h;cases h)⟩
theorem wNb (hm:P.follows .mixedOrders=true) (T:wNa P tb) (n:Nat) (f:Pos) (args:List AV) (vs:List Value) (v:AV) (h:AH) (hv:∀ μ,RvL μ args vs) (hr:wNS tb (exec tb n false) f args ⟨.e,.H,.H⟩=some (v,h)) (w:World) :
  Gv P (f.nat - 1) vs w fun cv w'=>∃ μ,Rv μ v cv/\Keep w w' Non:=by
 obtain ⟨_,hg⟩:=wPL T (wTA hm T n false).1 f args _ v h hr
 refine (hg _ w vs (Sim.empty _ _ w) (hv _)).mono ?_
 rintro cv w' ⟨μ',h1,h2,h3,_⟩
 exact ⟨μ',h3,h1.keep.weak fun i _ ⟨p,d,hp,_⟩=>by cases hp⟩
noncomputable def okB (tb:Tr AF) (n:Nat) (f:Pos) (b:Bool):Bool:=match wNS tb (exec tb n false) f [] ⟨.e,.H,.H⟩ with
 | some (.bool b',_)=>b' == b
 | _=>false
theorem wQV (hm:P.follows .mixedOrders=true) (T:wNa P tb) (n:Nat) (f:Pos) (k:Nat) (hk:f.nat=k + 1) (b:Bool) (hr:okB tb n f b=true) (w:World):Gv P k [] w fun cv w'=>cv=.bool b/\Keep w w' Non:=by
 unfold okB at hr
 split at hr
 ·rename_i b' h hq
  have hb:=eq_of_beq hr
  subst hb
  have:=wNb hm T n f [] [] _ h (fun _=>rfl) hq w
  rw [hk] at this
  refine this.mono ?_
  rintro cv w' ⟨μ,h1,h2⟩
  exact ⟨h1,h2⟩
 ·cases hr
def wPO (f:Nat->AF->Prop):Tr AF->(Nat->Nat)->Prop
 | .e,_=>True
 | .n l v r,g=>(match v with | none=>True | some a=>f (g 1) a)/\wPO f l (fun n=>g (2 * n))/\wPO f r (fun n=>g (2 * n + 1))
theorem wIl {f:Nat->AF->Prop}:∀ {t:Tr AF} {g:Nat->Nat},wPO f t g->∀ p a,t.get p=some a->f (g p.nat) a
 | .e,g,_,p,a,hq=>by rw [Tr.get_e] at hq;cases hq
 | .n l v r,g,⟨h1,h2,h3⟩,.H,a,hq=>by
  rw [Tr.get_H] at hq;subst hq;exact h1
 | .n l v r,g,⟨h1,h2,h3⟩,.O p,a,hq=>wIl h2 p a hq
 | .n l v r,g,⟨h1,h2,h3⟩,.I p,a,hq=>wIl h3 p a hq
theorem wUo (h:wPO (fun n a=>chkF P (n - 1) a=true) tb fun n=>n):wNa P tb:=fun p af hq=>wIl h p af hq
end
end Go.KX
namespace Go.KL
variable {S S' B B' α:Type}
theorem wIK {body:Nat->S->Option (S ⊕ B)} (I:Nat->S->Prop) (Z:B->Prop):∀ (m k:Nat) (s:S),I k s ->
  (∀ i s,k <= i->i < k + m->I i s->(∃ s',body i s=some (.inl s')/\I (i + 1) s') \/ ∃ b,body i s=some (.inr b)/\Z b) ->
  (∃ s',forN body m k s=some (.inl s')/\I (k + m) s') \/ ∃ b,forN body m k s=some (.inr b)/\Z b
 | 0,k,s,h,_=>.inl ⟨s,rfl,h⟩
 | m + 1,k,s,h,hb=>by
  simp only [forN]
  rcases hb k s (nI _) (by omega) h with ⟨s',h1,h2⟩ | ⟨b,h1,h2⟩
  ·rw [h1]
   have:=wIK I Z m (k + 1) s' h2 fun i s h2 h3 h4=>hb i s (by omega) (by omega) h4
   rwa [show k + 1 + m=k + (m + 1) from by omega] at this
  ·rw [h1];exact .inr ⟨b,rfl,h2⟩
theorem wIw {body:Nat->S->Option S} (I:Nat->S->Prop):∀ (m k:Nat) (s:S),I k s ->
  (∀ i s,k <= i->i < k + m->I i s->∃ s',body i s=some s'/\I (i + 1) s')->∃ s',forN' body m k s=some s'/\I (k + m) s'
 | 0,k,s,h,_=>⟨s,rfl,h⟩
 | m + 1,k,s,h,hb=>by
  simp only [forN']
  obtain ⟨s',h1,h2⟩:=hb k s (nI _) (by omega) h
  rw [h1]
  have:=wIw I m (k + 1) s' h2 fun i s h2 h3 h4=>hb i s (by omega) (by omega) h4
  rwa [show k + 1 + m=k + (m + 1) from by omega] at this
theorem wEl {body:Nat->S->Option (S ⊕ B)} {n:Nat} {s:S} (hn:n <= 9223372036854775807):wGa 0 (n:Int) body s=forN body n 0 s:=by
 unfold wGa
 rw [if_pos (by omega),show ((n:Int) - 0).toNat=n from by omega]
theorem wEG {body:Nat->S->Option S} {n:Nat} {s:S} (hn:n <= 9223372036854775807):wCs 0 (n:Int) body s=forN' body n 0 s:=by
 unfold wCs
 rw [if_pos (by omega),show ((n:Int) - 0).toNat=n from by omega]
def first (p:α->Bool):List α->Nat->Int
 | [],_=>-1
 | a :: l,k=>if p a then (k:Int) else first p l (k + 1)
theorem wGT (p:α->Bool):∀ (l:List α) (k:Nat),decide (0 <= first p l k)=l.any p
 | [],k=>by simp [first]
 | a :: l,k=>by
  rw [first,aF]
  by_cases h:p a
  ·simp [h]
  ·simp [h,wGT p l (k + 1)]
theorem wFY {R:Type} {l:List α} {f:α->Option Bool} {p:α->Bool} (hf:∀ a ∈ l,f a=some (p a)) (hn:l.length <= 9223372036854775807) (z:Int->R) :
  (jn (wGa 0 (↑l.length:Int) (fun k2 (_:Unit)=>(idx l (↑k2:Int)).bind fun x=>(f x).bind fun y=>if y=true then esc (some (z (↑k2:Int))) else some (.inl ())) ()) fun _=>some (z (-1)))=some (z (first p l 0)):=by
 rw [wEl hn]
 have key:∀ (m k:Nat),k + m=l.length->(jn (forN (fun k2 (_:Unit)=>(idx l (↑k2:Int)).bind fun x=>(f x).bind fun y=>if y=true then esc (some (z (↑k2:Int))) else some (.inl ())) m k ()) fun _=>some (z (-1)))=some (z (first p (l.drop k) k)):=by
  intro m
  induction m with
  | zero=>intro k hk;rw [nv (by omega)];rfl
  | succ m ih =>
   intro k hk
   have hlt:k < l.length:=by omega
   rw [nq hlt,first,forN,wJe,nT hlt]
   simp only [nA,hf _ (List.getElem_mem hlt)]
   by_cases h:p l[k]=true
   ·simp [h]
   ·simp only [h,if_false,nM]
    exact ih (k + 1) (by omega)
 exact key l.length 0 (by omega)
theorem wNe [DecidableEq α] {l m:List α} (hn:l.length <= 9223372036854775807) :
  (if (↑l.length:Int)=(↑m.length:Int) then jn (wGa 0 (↑l.length:Int) (fun k4 (_:Unit)=>(idx l (↑k4:Int)).bind fun x26=>(idx m (↑k4:Int)).bind fun x34=>if x26=x34 then some (.inl ()) else esc (some false)) ()) fun _=>some true else some false)=some (decide (l=m)):=by
 by_cases hl:l.length=m.length
 ·rw [if_pos (by omega),wEl hn]
  have key:∀ (n k:Nat),k + n=l.length->(jn (forN (fun k4 (_:Unit)=>(idx l (↑k4:Int)).bind fun x26=>(idx m (↑k4:Int)).bind fun x34=>if x26=x34 then some (.inl ()) else esc (some false)) n k ()) fun _=>some true)=some (decide (l.drop k=m.drop k)):=by
   intro n
   induction n with
   | zero=>intro k hk;rw [nv (by omega),nv (by omega)];simp [forN]
   | succ n ih =>
    intro k hk
    have h1:k < l.length:=by omega
    have h2:k < m.length:=by omega
    rw [nq h1,nq h2,forN,wJe,wJe,nT h1,nT h2]
    simp only [nA]
    by_cases h:l[k]=m[k]
    ·rw [if_pos h]
     simp only
     rw [ih (k + 1) (by omega)]
     congr 1
     exact decide_eq_decide.2 ⟨fun e=>by rw [e,h],fun e=>(aW e).2⟩
    ·rw [if_neg h]
     have:¬ l[k] :: l.drop (k + 1)=m[k] :: m.drop (k + 1):=fun e=>h (aW e).1
     simp only [wPu,wLZ,this,decide_false]
  have:=key l.length 0 (by omega)
  simpa using this
 ·rw [if_neg (by omega)]
  have:l ≠ m:=fun e=>hl (by rw [e])
  simp [this]
theorem wDZ {bytes:Nat} {l m:List α} (h:(l.length + m.length) * bytes <= 140737488355328):app bytes l m=some (l ++ m):=if_pos h
variable {S B R α β:Type}
theorem wMp {body:Nat->S->Option (S ⊕ B)} (s:Nat->S):∀ (m k:Nat),(∀ i,k <= i->i < k + m->body i (s i)=some (.inl (s (i + 1))))->forN body m k (s k)=some (.inl (s (k + m)))
 | 0,_,_=>rfl
 | m + 1,k,h=>by
  rw [forN,h k (nI _) (by omega)]
  have:=wMp s m (k + 1) fun i h1 h2=>h i (by omega) (by omega)
  rw [show k + 1 + m=k + (m + 1) by omega] at this
  exact this
theorem wLE {body:Nat->S->Option S} (s:Nat->S):∀ (m k:Nat),(∀ i,k <= i->i < k + m->body i (s i)=some (s (i + 1)))->forN' body m k (s k)=some (s (k + m))
 | 0,_,_=>rfl
 | m + 1,k,h=>by
  rw [forN',h k (nI _) (by omega)]
  have:=wLE s m (k + 1) fun i h1 h2=>h i (by omega) (by omega)
  rw [show k + 1 + m=k + (m + 1) by omega] at this
  exact this
theorem wFZ {body:Nat->S->Option S} {n:Nat} {s0:S} (s:Nat->S) (h0:s 0=s0) (hn:n <= 9223372036854775807) (h:∀ i,i < n->body i (s i)=some (s (i + 1))):wCs 0 (n:Int) body s0=some (s n):=by
 rw [wEG hn,<- h0]
 have:=wLE s n 0 fun i _ hi=>h i (by omega)
 rwa [nc] at this
theorem wMq {body:Nat->S->Option (S ⊕ B)} {n:Nat} {s0:S} (s:Nat->S) (h0:s 0=s0) (hn:n <= 9223372036854775807) (h:∀ i,i < n->body i (s i)=some (.inl (s (i + 1)))):wGa 0 (n:Int) body s0=some (.inl (s n)):=by
 rw [wEl hn,<- h0]
 have:=wMp s n 0 fun i _ hi=>h i (by omega)
 rwa [nc] at this
theorem wCi [Inhabited α] {l:List α} {k:Nat} (h:k < l.length):idx l (k:Int)=some (gd l k):=by
 rw [wJe]
 exact wBt h
theorem wDp [Inhabited α] {l:List α} {k:Nat} (h:k < l.length):gd l k ∈ l:=List.mem_of_getElem? (wBt h)
theorem wFR [Inhabited α] {l:List α} {k:Nat} (h:k < l.length):l.take (k + 1)=l.take k ++ [gd l k]:=by
 rw [List.take_add_one,wBt h]
 rfl
theorem wKK [Inhabited α] {l:List α} {k:Nat} (h:k < l.length):l.drop k=gd l k :: l.drop (k + 1):=by
 have:=wBt h
 rw [nT h] at this
 rw [nq h,ng this]
theorem wFo [Inhabited α] {l m:List α} {k:Nat} (h:k < l.length):gd (l ++ m) k=gd l k:=by
 have h1:=wBt (xs:=l ++ m) (k:=k) (by rw [nG];omega)
 rw [List.getElem?_append_left h,wBt h] at h1
 exact (ng h1).symm
theorem wFp [Inhabited α] (l m:List α) (x:α):gd (l ++ x :: m) l.length=x:=by
 have h1:=wBt (xs:=l ++ x :: m) (k:=l.length) (by simp)
 rw [List.getElem?_append_right (nI _),Nat.sub_self] at h1
 exact (ng h1).symm
theorem wTE [Inhabited α] [Inhabited β] (f:α->β) {l:List α} {k:Nat} (h:k < l.length):gd (l.map f) k=f (gd l k):=by
 have h1:=wBt (xs:=l.map f) (k:=k) (by simpa using h)
 rw [ny,wBt h] at h1
 exact (ng h1).symm
theorem wRX [Inhabited α] {l m:List α} (h:l.length=m.length) (hk:∀ k,k < l.length->gd l k=gd m k):l=m:=by
 apply aT
 intro k
 rcases aO k l.length with h1 | h1
 ·rw [wBt h1,wBt (by omega),hk k h1]
 ·rw [kR h1,kR (by omega)]
variable {S B α:Type}
theorem wPS {body:S->Option (S ⊕ B)} (F:Nat):∀ (m:Nat) (s:Nat->S),(∀ i,i < m->body (s i)=some (.inl (s (i + 1))))->iter body (m + F) (s 0)=iter body F (s m)
 | 0,s,_=>by rw [nc]
 | m + 1,s,h=>by
  rw [show m + 1 + F=(m + F) + 1 by omega,iter,h 0 (by omega)]
  exact wPS F m (fun i=>s (i + 1)) fun i hi=>h (i + 1) (by omega)
theorem wKL {body:S->Option (S ⊕ B)} {m:Nat} (s:Nat->S) (h:∀ i,i < m->body (s i)=some (.inl (s (i + 1)))) {b:B} (hb:body (s m)=some (.inr b)) {s0:S} (h0:s 0=s0) (hm:m < 1000000):iter body big s0=some b:=by
 subst h0
 have:=wPS (big - m - 1 + 1) m s h
 rw [show m + (big - m - 1 + 1)=big by unfold big;omega] at this
 rw [this,iter,hb]
theorem wHT {body:S->Option (S ⊕ B)} (I:Nat->S->Prop) (Z:B->Prop) (m:Nat) (step:∀ i s,i <= m->I i s->(i < m/\∃ s',body s=some (.inl s')/\I (i + 1) s') \/ ∃ b,body s=some (.inr b)/\Z b) {s0:S} (h0:I 0 s0) (hm:m < 1000000):∃ b,iter body big s0=some b/\Z b:=by
 have key:∀ (d i:Nat) (s:S),i + d=m->I i s->∀ F,d < F->∃ b,iter body F s=some b/\Z b:=by
  intro d
  induction d with
  | zero =>
   intro i s hi hI F hF
   obtain ⟨F,rfl⟩:∃ G,F=G + 1:=⟨F - 1,by omega⟩
   rcases step i s (by omega) hI with ⟨h,_⟩ | ⟨b,h1,h2⟩
   ·omega
   ·exact ⟨b,by rw [iter,h1],h2⟩
  | succ d ih =>
   intro i s hi hI F hF
   obtain ⟨F,rfl⟩:∃ G,F=G + 1:=⟨F - 1,by omega⟩
   rcases step i s (by omega) hI with ⟨_,s',h1,h2⟩ | ⟨b,h1,h2⟩
   ·obtain ⟨b,h3,h4⟩:=ih (i + 1) s' (by omega) h2 F (by omega)
    exact ⟨b,by rw [iter,h1];exact h3,h4⟩
   ·exact ⟨b,by rw [iter,h1],h2⟩
 exact key m 0 s0 (by omega) h0 big (by unfold big;omega)
theorem wMA {body:S->Option (S ⊕ B)} (I:Nat->S->Prop) {b:B} (m:Nat) {s0:S} (h0:I 0 s0) (hm:m < 1000000) (step:∀ i s,i <= m->I i s->(i < m/\∃ s',body s=some (.inl s')/\I (i + 1) s') \/ body s=some (.inr b)):iter body big s0=some b:=by
 obtain ⟨c,h1,h2⟩:=wHT (body:=body) I (fun c=>c=b) m (fun i s hi hI=>by
  rcases step i s hi hI with h | h
  ·exact .inl h
  ·exact .inr ⟨b,h,rfl⟩) h0 hm
 rw [h1,h2]
theorem wPT [Inhabited α] {l:List α} {i k:Nat} {x:α} (hi:i < l.length) (hk:k < l.length):gd (l.set i x) k=if k=i then x else gd l k:=by
 have h1:=wBt (xs:=l.set i x) (k:=k) (by rw [kr];exact hk)
 rw [aU] at h1
 by_cases e:i=k
 ·subst e
  rw [if_pos rfl,if_pos hi] at h1
  rw [if_pos rfl]
  exact (ng h1).symm
 ·rw [if_neg e,wBt hk] at h1
  rw [if_neg (fun h=>e h.symm)]
  exact (ng h1).symm
theorem wFq [Inhabited α] {l:List α} {k:Nat} (h:k < l.length):gd l k=l[k]:=by
 have:=wBt h
 rw [nT h] at this
 exact (ng this).symm
theorem wNf [DecidableEq α] {l:List α} (hn:l.length <= 9223372036854775807) :
  (if (↑l.length:Int)=(↑l.length:Int) then jn (wGa 0 (↑l.length:Int) (fun k4 (_:Unit)=>(idx l (↑k4:Int)).bind fun x26=>(idx l (↑k4:Int)).bind fun x34=>if x26=x34 then some (.inl ()) else esc (some false)) ()) fun _=>some true else some false)=some true:=by
 rw [wNe hn]
 simp
end Go.KL
namespace Go.Proofs.YtlkkhhcfemmmdaaGreat
open Go.KL
theorem wIx {l:List Int} (b:Int) (hn:l.length <= 1000):wAy l b=some (decide (b ∈ l)):=by
 have key:∀ (m k:Nat),k + m=l.length->∃ q,jn (forN (B:=Int) (fun k2 _ =>
   (idx l (↑k2:Int)).bind fun x22 =>
   if b=x22 then
    esc (some (↑k2:Int))
   else
    some (.inl ())) m k ()) (fun _=>some (-1))=some q/\(0 <= q ↔ b ∈ l.drop k):=by
  intro m
  induction m with
  | zero=>intro k hk;exact ⟨-1,rfl,by rw [nv (by omega)];simp⟩
  | succ m ih =>
   intro k hk
   have hlt:k < l.length:=by omega
   rw [forN,wKK hlt,wCi hlt,nA]
   by_cases e:b=gd l k
   ·rw [if_pos e]
    exact ⟨(k:Int),rfl,by simp [e]⟩
   ·rw [if_neg e]
    obtain ⟨q,h1,h2⟩:=ih (k + 1) (by omega)
    exact ⟨q,h1,by rw [h2];simp [e]⟩
 unfold wAy wCV
 obtain ⟨q,h1,h2⟩:=key l.length 0 (by omega)
 rw [wEl (by omega),h1,nA]
 rw [ka] at h2
 simp [h2]
theorem wFr {K V:Type} [DecidableEq K] {m:List (K × V)} {x y:K} {v:V}:wGV (mput m x v) y=if y=x then some v else wGV m y:=by
 induction m with
 | nil=>simp only [mput,wGV]
 | cons p m ih =>
  obtain ⟨a,u⟩:=p
  rw [mput]
  by_cases h:x=a
  ·subst h
   rw [if_pos rfl,wGV,wGV]
   split <;> rfl
  ·rw [if_neg h,wGV,wGV,ih]
   by_cases h2:y=a
   ·rw [if_pos h2,if_neg (fun e:y=x=>h (e.symm.trans h2)),if_pos h2]
   ·rw [if_neg h2,if_neg h2]
theorem wEm {S:Type} {body:Nat->S->Option S} {n:Nat} {s0:S} (I:Nat->S->Prop) (hn:n <= 1000) (h0:I 0 s0) (h:∀ i s,i < n->I i s->∃ s',body i s=some s'/\I (i + 1) s'):∃ s,wCs 0 (n:Int) body s0=some s/\I n s:=by
 rw [wEG (by omega)]
 have:=wIw (body:=body) I n 0 s0 h0 fun i s _ h2 h3=>h i s (by omega) h3
 rwa [nc] at this
theorem wLF {S S':Type} {f:Nat->S->Option S} {g:Nat->S'->Option S'} (I:Nat->S->S'->Prop):∀ (m k:Nat) (s:S) (s':S'),I k s s'->(∀ i s s',k <= i->i < k + m->I i s s'->∃ u u',f i s=some u/\g i s'=some u'/\I (i + 1) u u')->∃ u u',forN' f m k s=some u/\forN' g m k s'=some u'/\I (k + m) u u'
 | 0,k,s,s',h,_=>⟨s,s',rfl,rfl,h⟩
 | m + 1,k,s,s',h,hb=>by
  obtain ⟨u,u',h1,h2,h3⟩:=hb k s s' (nI _) (by omega) h
  simp only [forN',h1,h2]
  have:=wLF I m (k + 1) u u' h3 fun i s s' h2 h3 h4=>hb i s s' (by omega) (by omega) h4
  rwa [show k + 1 + m=k + (m + 1) from by omega] at this
theorem wIy {S S':Type} {f:Nat->S->Option S} {g:Nat->S'->Option S'} {n:Nat} {s0:S} {t0:S'} (I:Nat->S->S'->Prop) (hn:n <= 1000) (h0:I 0 s0 t0) (h:∀ i s s',i < n->I i s s'->∃ u u',f i s=some u/\g i s'=some u'/\I (i + 1) u u'):∃ u u',wCs 0 (n:Int) f s0=some u/\wCs 0 (n:Int) g t0=some u'/\I n u u':=by
 rw [wEG (by omega),wEG (by omega)]
 have:=wLF (f:=f) (g:=g) I n 0 s0 t0 h0 fun i s s' _ h2 h3=>h i s s' (by omega) h3
 rwa [nc] at this
theorem wJX {S:Type} {f:Nat->S->Option S}:∀ (m k:Nat) (s:S),forN' f (m + 1) k s=(forN' f m k s).bind (f (k + m))
 | 0,k,s=>by
  simp only [forN',nA,kK]
  cases f k s <;> rfl
 | m + 1,k,s=>by
  rw [forN',forN']
  cases f k s with
  | none=>rfl
  | some u =>
   simp only
   rw [wJX m (k + 1) u,show k + 1 + m=k + (m + 1) by omega]
theorem wNg {S:Type} {f:Nat->S->Option S} {n:Nat} (hn:n <= 1000) (s:S):wCs 0 ((n + 1:Nat):Int) f s=(wCs 0 (n:Int) f s).bind (f n):=by
 rw [wEG (by omega),wEG (by omega),wJX,nc]
theorem wQc {S S' B B':Type} {f:Nat->S->Option (S ⊕ B)} {g:Nat->S'->Option (S' ⊕ B')} {n:Nat} {s0:S} {t0:S'} (I:S->S'->Prop) (Z:B->B'->Prop) (hn:n <= 1000) (h0:I s0 t0)
  (h:∀ i s s',i < n->I s s'->(∃ u u',f i s=some (.inl u)/\g i s'=some (.inl u')/\I u u') \/ ∃ b b',f i s=some (.inr b)/\g i s'=some (.inr b')/\Z b b') :
  (∃ u u',wGa 0 (n:Int) f s0=some (.inl u)/\wGa 0 (n:Int) g t0=some (.inl u')/\I u u') \/ ∃ b b',wGa 0 (n:Int) f s0=some (.inr b)/\wGa 0 (n:Int) g t0=some (.inr b')/\Z b b':=by
 rw [wEl (by omega),wEl (by omega)]
 have key:∀ (m k:Nat) (s:S) (s':S'),k + m=n->I s s'->(∃ u u',forN f m k s=some (.inl u)/\forN g m k s'=some (.inl u')/\I u u') \/ ∃ b b',forN f m k s=some (.inr b)/\forN g m k s'=some (.inr b')/\Z b b':=by
  intro m
  induction m with
  | zero=>exact fun k s s' _ hI=>.inl ⟨s,s',rfl,rfl,hI⟩
  | succ m ih =>
   intro k s s' hk hI
   rcases h k s s' (by omega) hI with ⟨u,u',h1,h2,h3⟩ | ⟨b,b',h1,h2,h3⟩
   ·simp only [forN,h1,h2]
    exact ih (k + 1) u u' (by omega) h3
   ·simp only [forN,h1,h2]
    exact .inr ⟨b,b',rfl,rfl,h3⟩
 exact key n 0 s0 t0 (by omega) h0
theorem wDl (x a b:Int):wAd x a b=some (decide (a <= x) && decide (x <= b)):=by
 unfold wAd
 by_cases h:a <= x <;> simp [h]
theorem allJS {l:List wAH} {f:wAH->Option Bool} (hf:∀ a ∈ l,f a=some true) (hn:l.length <= 1000):wBv l f=some true:=by
 have e:wAc l (fun x=>wAx x f)=some (first (fun a=>!true) l 0):=by
  unfold wAc
  exact wFY (p:=fun a=>!true) (fun a ha=>by unfold wAx;rw [hf a ha];rfl) (by omega) id
 unfold wBv wAj
 rw [e,nA,nA,wGT]
 simp
theorem wTF {l:List wAA} {f:wAA->Option Bool} (hf:∀ a ∈ l,f a=some true) (hn:l.length <= 1000):wAu l f=some true:=by
 have e:wAW l (fun x=>wAn x f)=some (first (fun a=>!true) l 0):=by
  unfold wAW
  exact wFY (p:=fun a=>!true) (fun a ha=>by unfold wAn;rw [hf a ha];rfl) (by omega) id
 unfold wAu wAZ
 rw [e,nA,nA,wGT]
 simp
theorem wRY {l:List Int} (hl:l.length <= 1000) (hd:l.Nodup):wEC l=some false:=by
 unfold wEC
 rw [wEl (by omega)]
 rcases wIK (body:=fun (k20:Nat) (l17:List (Int × Bool)) =>
  (idx l (↑k20:Int)).bind fun x41 =>
  if (wAk l17 x41 false)=true then
   esc (some true)
  else
   some (.inl (mput l17 x41 true))) (fun k m=>∀ b:Int,wAk m b false=true->b ∈ l.take k) (fun _=>False) l.length 0 [] (fun b h=>by simp [wAk,wGV] at h) (by
  intro k m _ hk I
  left
  have hk':k < l.length:=by omega
  rw [wCi hk',nA]
  have hn:¬ wAk m (gd l k) false=true:=fun h=>by
   have h1:=I _ h
   have pw:=kD.1 hd
   rw [<- nh k l,wKK hk'] at pw
   exact (nZ.1 pw).2.2 _ h1 (gd l k) (by simp) rfl
  rw [if_neg hn]
  refine ⟨_,rfl,fun b hb=>?_⟩
  rw [wFR hk']
  unfold wAk at hb
  rw [wFr] at hb
  by_cases e:b=gd l k
  ·simp [e]
  ·rw [if_neg e] at hb
   exact nY _ (I b hb)) with ⟨m,h,_⟩ | ⟨b,_,h⟩
 ·rw [h];rfl
 ·exact h.elim
theorem wUy {r:wAI} (hl:r.Skiers.length <= 1000):wCC r=some (r.Skiers.map (·.Bib)):=by
 unfold wCC
 have e:=wFZ (S:=List Int) (n:=r.Skiers.length) (body:=fun k22 l18 =>
  (idx r.Skiers (↑k22:Int)).bind fun x45 =>
  (app 8 l18 [x45.Bib]).bind fun x65 =>
  some x65) (s0:=[]) (fun k=>(r.Skiers.take k).map (·.Bib)) rfl (by omega) (fun i hi=>by
   rw [wCi hi,nA,wDZ (by simp;omega),nA,wFR hi]
   simp)
 rw [nt] at e
 rw [e];rfl
theorem wQd {r:wAI} (hl:r.Decisions.length <= 1000):wBw r=some (r.Decisions.map (·.Number)):=by
 unfold wBw
 have e:=wFZ (S:=List Int) (n:=r.Decisions.length) (body:=fun k22 l18 =>
  (idx r.Decisions (↑k22:Int)).bind fun x45 =>
  (app 8 l18 [x45.Number]).bind fun x65 =>
  some x65) (s0:=[]) (fun k=>(r.Decisions.take k).map (·.Number)) rfl (by omega) (fun i hi=>by
   rw [wCi hi,nA,wDZ (by simp;omega),nA,wFR hi]
   simp)
 rw [nt] at e
 rw [e];rfl
theorem wHU (a b:Int):wAz a b=some (if a < b then -1 else if b < a then 1 else 0):=by
 unfold wAz wDT
 simp
 split
 ·rfl
 ·split <;> rfl
theorem wUz {α:Type} [DecidableEq α] {g:α->Int} {c:α × α->Option Int} (hc:∀ a b,c (a,b)=some (if g a < g b then -1 else if g b < g a then 1 else 0)) {l s:List α} (hl:l.length <= 1000) (hp:l.Perm s) (hi:s.Pairwise fun a b=>g a < g b):wLe c l=some s:=by
 have lt:∀ x y,ltB c x y=decide (g x < g y):=fun x y=>by
  unfold ltB
  rw [hc]
  by_cases h:g x < g y
  ·simp [h]
  ·by_cases h2:g y < g x <;> simp [h,h2]
 have inj:∀ x ∈ l,∀ y ∈ l,g x=g y->x=y:=fun x hx y hy e=>by
  obtain ⟨i,hi',rfl⟩:=kE (hp.mem_iff.1 hx)
  obtain ⟨j,hj',rfl⟩:=kE (hp.mem_iff.1 hy)
  rcases Nat.lt_trichotomy i j with h | h | h
  ·have:=kJ.1 hi i j hi' hj' h;omega
  ·subst h;rfl
  ·have:=kJ.1 hi j i hj' hi' h;omega
 have C:Cmp c l:=by
  refine ⟨by omega,fun x _ y _=>by rw [hc];rfl,fun x _=>by rw [lt];simp,fun x _ y _ z _ a b=>?_,fun x _ y _ z _ a b=>?_,fun x hx y hy a b=>?_⟩
  ·rw [lt] at a b ⊢
   simp at a b ⊢;omega
  ·rw [lt] at a b ⊢
   simp at a b ⊢;omega
  ·rw [lt] at a b
   simp at a b
   exact inj x hx y hy (by omega)
 rw [wPy C]
 congr 1
 refine List.Perm.eq_of_pairwise (le:=fun x y=>(!ltB c y x)=true) (fun a b ha hb h1 h2=>?_) ?_ ?_ ((kG _ _).trans hp)
 ·rw [lt] at h1 h2
  simp at h1 h2
  exact inj a ((kG _ _).mem_iff.1 ha) b (hp.mem_iff.2 hb) (by omega)
 ·refine kl (le:=fun x y=>!ltB c y x) (fun a b d h1 h2=>?_) (fun a b=>?_) l
  ·rw [lt] at h1 h2 ⊢
   simp at h1 h2 ⊢;omega
  ·rw [lt,lt]
   simp;omega
 ·refine hi.imp fun h=>?_
  rw [lt]
  simp;omega
theorem wMB {α:Type} {m ys:List α} (h:m.length=ys.length):wPp m 0 ys=some ys:=by
 unfold wPp cpy
 rw [if_pos (by omega)]
 simp [h]
theorem wHl (x a b:Int):wCO x a b=some (decide (a <= x) && decide (x <= b)):=by
 unfold wCO
 by_cases h:a <= x <;> simp [h]
theorem wRZ {l:List Int} {f:Int->Option Bool} {p:Int->Bool} (hf:∀ a ∈ l,f a=some (p a)) (hn:l.length <= 1000):wAm l f=some (first p l 0):=by
 unfold wAm
 exact wFY (p:=p) (fun a ha=>by rw [hf a ha]) (by omega) id
theorem wVA {l:List Int} {f:Int->Option Bool} {p:Int->Bool} (hf:∀ a ∈ l,f a=some (p a)) (hn:l.length <= 1000):wCY l f=some (l.all p):=by
 unfold wCY wBJ
 rw [wRZ (p:=fun a=>!p a) (fun a ha=>by unfold wCD;rw [hf a ha];rfl) hn,nA,nA,wGT,<- List.not_all_eq_any_not,Bool.not_not]
theorem wVB {l:List (List Int)} {f:List Int->Option Bool} {p:List Int->Bool} (hf:∀ a ∈ l,f a=some (p a)) (hn:l.length <= 1000):wAo l f=some (l.any p):=by
 have e:wBR l f=some (first p l 0):=by
  unfold wBR
  exact wFY (p:=p) (fun a ha=>by rw [hf a ha]) (by omega) id
 unfold wAo
 rw [e,nA,wGT]
theorem wVC {l:List (List Int)} {f:List Int->Option Bool} (hf:∀ a ∈ l,f a=some true) (hn:l.length <= 1000):wDb l f=some true:=by
 unfold wDb
 rw [wVB (p:=fun a=>false) (fun a ha=>by unfold wCn;rw [hf a ha];rfl) hn,nA]
 simp
theorem wVD {L:List Int} (hl:L.length <= 1000) {f:Int->Option Bool} {p:Int->Bool} (hf:∀ a ∈ L,f a=some (p a)):wBL L f=some (L.filter fun a=>!p a):=by
 have fs:∀ (l:List Int) (k:Nat),(first p l k=-1/\∀ a ∈ l,p a=false) \/ ∃ j:Nat,first p l k=((k + j:Nat):Int)/\j < l.length/\p (gd l j)=true/\∀ a ∈ l.take j,p a=false:=by
  intro l
  induction l with
  | nil=>intro k;exact .inl ⟨rfl,fun a h=>by cases h⟩
  | cons a l ih =>
   intro k
   rw [first]
   by_cases c:p a=true
   ·rw [if_pos c]
    exact .inr ⟨0,rfl,by simp,c,fun a h=>by cases h⟩
   ·rw [if_neg c]
    have c':p a=false:=by simpa using c
    rcases ih (k + 1) with ⟨e,h⟩ | ⟨j,e,h1,h2,h3⟩
    ·exact .inl ⟨e,fun x hx=>by
      rcases nO.1 hx with q | q
      ·rw [q];exact c'
      ·exact h x q⟩
    ·refine .inr ⟨j + 1,by rw [e];omega,by simp only [nN];omega,h2,fun x hx=>?_⟩
     rw [List.take_succ_cons] at hx
     rcases nO.1 hx with q | q
     ·rw [q];exact c'
     ·exact h3 x q
 unfold wBL
 rw [wRZ hf hl,nA]
 rcases fs L 0 with ⟨e,h⟩ | ⟨q,e,h1,h2,h3⟩
 ·rw [if_pos e]
  congr 1
  exact (aJ.2 fun a ha=>by rw [h a ha];rfl).symm
 ·rw [e,if_neg (by omega),nc]
  rw [wAT (by omega) (by omega)]
  have fq:(L.take (q + 1)).filter (fun a=>!p a)=L.take q:=by
   rw [wFR h1,kO,km (by simp [h2]),ku,kX]
   exact aJ.2 fun a ha=>by rw [h3 a ha];rfl
  refine wMA (S:=List Int × Int × Int) (fun k st=>q + 1 + k <= L.length/\st.1.length=L.length/\st.2.2=((q + 1 + k:Nat):Int)/\st.2.1=(((L.take (q + 1 + k)).filter fun a=>!p a).length:Int)/\st.1.take ((L.take (q + 1 + k)).filter fun a=>!p a).length=(L.take (q + 1 + k)).filter (fun a=>!p a)/\∀ j,q + 1 + k <= j->j < L.length->gd st.1 j=gd L j) 1000 ⟨by omega,rfl,rfl,?_,?_,fun j _ _=>rfl⟩ (by omega) ?_
  ·simp only [kK]
   rw [fq,nR];omega
  ·simp only [kK]
   rw [fq,nR,show min q L.length=q by omega]
  rintro k ⟨l,i,j⟩ _ ⟨k0,ll,hj,hi,ht,hd⟩
  simp only at k0 ll hj hi ht hd ⊢
  subst hj
  have fl:((L.take (q + 1 + k)).filter fun a=>!p a).length <= q + k:=by
   have a:L.take (q + 1 + k)=L.take (q + 1) ++ (L.drop (q + 1)).take k:=by
    rw [List.take_add]
   rw [a,kO,nG,fq,nR]
   have:=kU (fun a=>!p a) ((L.drop (q + 1)).take k)
   have:=kZ k (L.drop (q + 1))
   omega
  by_cases c:q + 1 + k < L.length
  ·rw [if_pos (by omega),wDA (by omega) (by omega),nA,nS,hd _ (nI _) c,hf _ (wDp c),nA]
   have tk:L.take (q + 1 + (k + 1))=L.take (q + 1 + k) ++ [gd L (q + 1 + k)]:=wFR c
   by_cases c2:p (gd L (q + 1 + k))=true
   ·rw [if_pos c2,wAT (by omega) (by omega)]
    have fe:(L.take (q + 1 + (k + 1))).filter (fun a=>!p a)=(L.take (q + 1 + k)).filter fun a=>!p a:=by
     rw [tk,kO,km (by simp [c2]),ku,kX]
    refine .inl ⟨by omega,_,rfl,by omega,ll,by simp only;omega,?_,?_,fun j h4 h5=>hd j (by omega) h5⟩
    ·simp only;rw [fe];exact hi
    ·simp only;rw [fe];exact ht
   ·have fe:(L.take (q + 1 + (k + 1))).filter (fun a=>!p a)=(L.take (q + 1 + k)).filter (fun a=>!p a) ++ [gd L (q + 1 + k)]:=by
     rw [tk,kO,List.filter_cons_of_pos (by simpa using c2),ku]
    rw [if_neg c2,hi,wDA (by omega) (by omega),nA,nS,wAT (by omega) (by omega),wAT (by omega) (by omega)]
    refine .inl ⟨by omega,_,rfl,by omega,by simp [ll],by simp only;omega,?_,?_,fun j h4 h5=>?_⟩
    ·simp only;rw [fe,nG,nH];omega
    ·simp only
     rw [fe,nG,nH,wFR (by rw [kr];omega),List.take_set_of_le (nI _),ht,wPT (by omega) (by omega),if_pos rfl]
    ·simp only
     rw [wPT (by omega) (by omega),if_neg (by omega)]
     exact hd j (by omega) h5
  ·rw [if_neg (by omega),hi]
   refine .inr ?_
   rw [show q + 1 + k=L.length by omega,nt] at ht hi ⊢
   unfold cut
   rw [if_pos ⟨by omega,by omega,by have:=kU (fun a=>!p a) L;omega⟩]
   simp only [nS,Int.toNat_zero,ka,kh,nA]
   rw [ht]
   rfl
structure wFv (r:List Int):Prop where
 len:r.length=5
 in_:∀ p ∈ r,0 <= p/\p <= 5
 rk:∀ p ∈ r,p ≠ 0->p=1 + ((r.countP fun q=>decide (q ≠ 0) && decide (q < p):Nat):Int)
theorem wQe {r:List Int} (R:wFv r):wDx r=some false:=by
 have rl:=R.len
 unfold wDx wAt
 rw [wDZ (by simp;omega),nA,nA,kH,wVD (f:=wDe) (p:=fun a=>decide (a=0)) (by omega) (fun a _=>rfl),nA]
 have fl:=kU (fun a=>!decide (a=0)) r
 have R1:∀ p ∈ r.filter (fun a=>!decide (a=0)),p=1 + (((r.filter fun a=>!decide (a=0)).countP fun q=>decide (q < p):Nat):Int):=fun p hp=>by
  obtain ⟨h1,h2⟩:=List.mem_filter.1 hp
  have h3:p ≠ 0:=by simpa using h2
  have:=R.rk p h1 h3
  rw [List.countP_filter]
  refine this.trans ?_
  congr 2
  exact List.countP_congr fun q _=>by simp [and_comm]
 generalize (r.filter fun a=>!decide (a=0))=pl at fl R1
 have pos:∀ p ∈ pl,1 <= p:=fun p hp=>by have:=R1 p hp;omega
 unfold wBx
 rw [wIS,if_pos (by omega),nA]
 have pm:(pl.mergeSort fun x y=>decide (x <= y)).Perm pl:=kG _ _
 have so:(pl.mergeSort fun x y=>decide (x <= y)).Pairwise (· <= ·):=by
  have:=kl (le:=fun (x y:Int)=>decide (x <= y)) (by intro a b c;simp only [decide_eq_true_eq];omega) (by intro a b;simp only [nX,decide_eq_true_eq];omega) pl
  exact this.imp fun h=>by simpa using h
 have R':∀ p ∈ (pl.mergeSort fun x y=>decide (x <= y)),p=1 + (((pl.mergeSort fun x y=>decide (x <= y)).countP fun q=>decide (q < p):Nat):Int):=fun p hp=>by
  rw [pm.countP_eq]
  exact R1 p (pm.mem_iff.1 hp)
 have hl':=pm.length_eq
 generalize (pl.mergeSort fun x y=>decide (x <= y))=q at pm so R' hl'
 have at_:∀ i j,i < j->j < q.length->gd q i <= gd q j:=fun i j hij hj=>by
  rw [wFq (by omega),wFq hj]
  exact kJ.1 so i j _ _ hij
 have new:∀ i,i < q.length->(i=0 \/ gd q i ≠ gd q (i - 1))->gd q i=(i:Int) + 1:=by
  intro i hi h
  have hr:=R' _ (wDp hi)
  have c1:(q.take i).countP (fun x=>decide (x < gd q i))=i:=by
   have:(q.take i).countP (fun x=>decide (x < gd q i))=(q.take i).length:=List.countP_eq_length.2 fun x hx=>by
    obtain ⟨j,hj,rfl⟩:=kE hx
    rw [nR] at hj
    rw [List.getElem_take,<- wFq (by omega),decide_eq_true_eq]
    rcases h with h | h
    ·omega
    ·have a1:=at_ (i - 1) i (by omega) hi
     by_cases e:j=i - 1
     ·subst e;omega
     ·have:=at_ j (i - 1) (by omega) (by omega)
      omega
   rw [this,nR]
   omega
  have c2:(q.drop i).countP (fun x=>decide (x < gd q i))=0:=List.countP_eq_zero.2 fun x hx=>by
   obtain ⟨j,hj,rfl⟩:=kE hx
   rw [List.length_drop] at hj
   rw [List.getElem_drop,<- wFq (by omega),decide_eq_true_eq]
   by_cases e:j=0
   ·subst e;rw [kK];omega
   ·have:=at_ i (i + j) (by omega) (by omega)
    omega
  have c3:q.countP (fun x=>decide (x < gd q i))=i:=by
   rw [<- nh i q,aP]
   rw [nh i q,c1,c2,kK]
  rw [c3] at hr
  omega
 rw [wMq (S:=Int) (n:=q.length) (fun k=>(k:Int) + 1) (s0:=1) rfl (by omega) fun k hk=>?_]
 ·show some (decide (61 < (q.length:Int) + 1))=_
  rw [decide_eq_false (by omega)]
 ·rw [wDA (by omega) (by omega),nA]
  by_cases c:k=0
  ·subst c
   have:=new 0 hk (.inl rfl)
   rw [if_pos (show ((0:Nat):Int)=0 from rfl),if_neg (by omega),this,wAT (by omega) (by omega)]
   rfl
  ·rw [if_neg (by omega),wAT (x:=(k:Int) - 1) (by omega) (by omega),wDA (by omega) (by omega),nA,show ((k:Int) - 1).toNat=k - 1 by omega]
   by_cases c2:gd q k=gd q (k - 1)
   ·rw [if_pos c2,wAT (by omega) (by omega)]
    congr 2
   ·have:=new k hk (.inr c2)
    rw [if_neg c2,if_neg (by omega),this,wAT (by omega) (by omega)]
    congr 2
def P5:List Int:=[30,24,19,15,12]
def mkC (n B:Int) (Dn:List (List Int)):wAU:=⟨5,n,B,P5,Dn⟩
structure CupOK (n B:Int) (Dn:List (List Int)):Prop where
 n1:1 <= n
 n4:n <= 4
 b1:1 <= B
 bn:B <= n
 len:Dn.length <= n
 ok:∀ r ∈ Dn,wFv r
theorem wIz {n B:Int} {Dn:List (List Int)} (C:CupOK n B Dn):wEY (mkC n B Dn)=some 0:=by
 have h1:=C.n1
 have h2:=C.n4
 have h3:=C.b1
 have h4:=C.bn
 have h5:=C.len
 unfold wEY mkC
 simp only [wHl,nA]
 rw [if_pos (by decide),if_pos (by simp;omega),if_pos (by simp;omega),if_pos (by decide),if_neg (by omega),wVC (fun a ha=>by unfold wDa;simp only;rw [(C.ok a ha).len];rfl) (by omega),nA,if_pos rfl,wVA (p:=fun a=>decide (0 <= a) && decide (a <= 1000)) (fun a _=>by unfold wDc;rw [wHl];rfl) (by decide),nA,if_pos (by decide),wVC (fun a ha=>by
  unfold wDd
  have R:=C.ok a ha
  rw [wVA (p:=fun a=>decide (0 <= a) && decide (a <= 60)) (fun a _=>by unfold wCo;rw [wHl];rfl) (by rw [R.len];omega),nA]
  congr 1
  rw [nL]
  intro p hp
  have:=R.in_ p hp
  simp;omega) (by omega),nA,if_pos rfl,show wFf P5=some true by decide +kernel,nA,if_pos rfl,wVB (p:=fun _=>false) (fun a ha=>wQe (C.ok a ha)) (by omega),nA,if_neg (by simp)]
theorem wRa {n B:Int} {Dn fu:List (List Int)} (h1:Dn.length <= 100) (h2:fu.length <= 100) (h3:∀ r ∈ Dn ++ fu,r.length=5):wBy ⟨mkC n B Dn⟩ fu=some ⟨mkC n B (Dn ++ fu)⟩:=by
 unfold wBy mkC
 simp only
 rw [show wAt P5=some P5 from rfl,nA,wAT (by omega) (by omega),wTj,if_pos (by omega),nA,wMB (by simp),nA,wDZ (by omega),nA,wFZ (S:=List (List Int)) (n:=(Dn ++ fu).length) (fun _=>Dn ++ fu) rfl (by rw [nG];omega) fun k hk=>?_,nA]
 have hr:=h3 _ (wDp hk)
 unfold wAt
 rw [wCi hk,nA,wDZ (by simp only [List.length_nil];omega),nA,kH,nA,wDA (by omega) (by omega),nA,wFq hk,List.set_getElem_self]
section
variable {α:Type} [Inhabited α]
theorem wQf {a:Nat} (h:a <= 1000000):w64 ((a:Int) + 1)=((a + 1:Nat):Int):=by rw [wAT (by omega) (by omega)];omega
theorem wQg {a:Nat} (h:1 <= a) (h2:a <= 1000000):w64 ((a:Int) - 1)=((a - 1:Nat):Int):=by rw [wAT (by omega) (by omega)];omega
theorem wQh (P T:List α) (z x:α):gd (P ++ z :: x :: T) P.length=z/\gd (P ++ z :: x :: T) (P.length + 1)=x/\ki (ki (P ++ z :: x :: T) (P.length + 1) z) P.length x=P ++ x :: z :: T:=by
 refine ⟨wFp _ _ _,?_,?_⟩
 ·have:=wFp (P ++ [z]) T x
  simpa using this
 ·rw [aA _ _ (by omega),show P.length + 1 - P.length=1 by omega,aA _ _ (by omega),Nat.sub_self]
  rfl
def wVE (p1:Int) (c:(α × α)->Option Int) (x9:Int) (s:List α × Int):Option ((List α × Int) ⊕ ((List α × Int) ⊕ List α)):=match s with
  | (l34,x35) =>
        if p1 < x35 then
          (chk x35 l34.length).bind fun _ =>
          (chk (w64 (x35 - 1)) l34.length).bind fun _ =>
          (c ((gd l34 x35.toNat),(gd l34 (w64 (x35 - 1)).toNat))).bind fun x65 =>
          if x65 < 0 then
            (chk (w64 (x35 - 1)) (ki l34 x35.toNat (gd l34 (w64 (x35 - 1)).toNat)).length).bind fun _ =>
            some (.inl ((ki (ki l34 x35.toNat (gd l34 (w64 (x35 - 1)).toNat)) (w64 (x35 - 1)).toNat (gd l34 x35.toNat)),w64 (x35 - 1)))
          else
            esc (some (.inl (l34,w64 (x9 + 1))))
        else
          esc (some (.inl (l34,w64 (x9 + 1))))
def insG (p0:List α) (p1 p2:Int) (c:(α × α)->Option Int):Option (List α):=iter (fun (l8,x9)=>if x9 < p2 then iter (wVE p1 c x9) big (l8,x9) else esc (some l8)) big (p0,w64 (p1 + 1))
def wPU (p0:List α) (p1:Int) (p2:(α × α)->Option Int):Option (List α) :=
 (iter (fun (l16,x17,x18) =>
 if x18 <= p1 then
 (insG l16 x17 x18 p2).bind fun x39 =>
 some (.inl (x39,x18,w64 (x18 + 20)))
 else
 esc (some (l16,x17))) big (p0,(0:Int),(20:Int))).bind fun (l2,x3) =>
 (insG l2 x3 p1 p2).bind fun x71 =>
 iter (fun _ =>
 if 20 < p1 then
 (iter (fun _ =>
 if 40 <= p1 then
 none
 else
 esc (some ())) big ()).bind fun _ =>
 none
 else
 esc (some x71)) big ()
def ByKG (P:α->Prop) (K:α->Int) (c:(α × α)->Option Int):Prop:=∀ a b,P a->P b->∃ x,c (a,b)=some x/\(x < 0 ↔ K a < K b)
theorem wPV {P:α->Prop} {K:α->Int} {c:(α × α)->Option Int} (hc:ByKG P K c) {Z S:List α} {x:α} {x9:Int} (px:P x) (pz:∀ z ∈ Z,P z) (ho:Z.Pairwise fun a b=>K a <= K b) (hl:(Z ++ x :: S).length <= 1000) :
  ∃ Z',iter (wVE 0 c x9) big (Z ++ x :: S,(Z.length:Int))=some (.inl (Z' ++ S,w64 (x9 + 1)))/\Z'.Perm (Z ++ [x])/\Z'.Pairwise fun a b=>K a <= K b:=by
 simp only [nG,nN] at hl
 obtain ⟨b,h1,Z1,Z2,rfl,hb,h2,h3⟩:=wHT (body:=wVE 0 c x9) (fun k s=>∃ Z1 Z2,Z=Z1 ++ Z2/\s=(Z1 ++ x :: (Z2 ++ S),(Z1.length:Int))/\(∀ z ∈ Z2,K x < K z)/\Z2.length=k)
  (fun b=>∃ Z1 Z2,Z=Z1 ++ Z2/\b=.inl (Z1 ++ x :: (Z2 ++ S),w64 (x9 + 1))/\(∀ z ∈ Z2,K x < K z)/\(∀ z ∈ Z1,K z <= K x)) Z.length
  (fun k s hk ⟨Z1,Z2,e,hs,g1,g2⟩=>by
   subst hs
   have el:Z.length=Z1.length + Z2.length:=by rw [e,nG]
   unfold wVE
   simp only
   rcases List.eq_nil_or_concat Z1 with h | ⟨Y,z,h⟩
   ·subst h
    right
    rw [if_neg (by simp)]
    exact ⟨_,rfl,[],Z2,e,rfl,g1,fun z hz=>by simp at hz⟩
   ·rw [List.concat_eq_append] at h
    subst h
    have e1:(Y ++ [z]) ++ x :: (Z2 ++ S)=Y ++ z :: x :: (Z2 ++ S):=by simp
    have e2:((Y ++ [z]).length:Int)=((Y.length + 1:Nat):Int):=by simp only [nG,nH]
    obtain ⟨s1,s2,s3⟩:=wQh Y (Z2 ++ S) z x
    have hll:(Y ++ z :: x :: (Z2 ++ S)).length=Y.length + 2 + Z2.length + S.length:=by simp only [nG,nN];omega
    have el2:Z.length=Y.length + 1 + Z2.length:=by rw [el];simp
    rw [e1,e2,if_pos (by omega),wDA (by omega) (by omega),nA,wQg (by omega) (by omega),wDA (by omega) (by omega),nA]
    simp only [nS,Nat.add_sub_cancel,s1,s2]
    obtain ⟨v,hv,hv2⟩:=hc x z px (pz z (by rw [e];simp))
    rw [hv,nA]
    by_cases g:K x < K z
    ·left
     rw [if_pos (hv2.2 g),wDA (by omega) (by rw [kr];omega),nA,s3]
     refine ⟨by omega,_,rfl,Y,z :: Z2,by rw [e];simp,by simp,fun y hy=>?_,by simp;omega⟩
     rcases nO.1 hy with rfl | hy
     ·exact g
     ·exact g1 y hy
    ·right
     rw [if_neg (fun h=>g (hv2.1 h))]
     refine ⟨_,rfl,Y ++ [z],Z2,e,by simp,g1,fun y hy=>?_⟩
     rcases nU.1 hy with hy | hy
     ·have pw:=ho
      rw [e,nj] at pw
      have:=(nZ.1 pw).2.2 y hy z (by simp)
      omega
     ·rw [kf.1 hy];omega) (s0:=(Z ++ x :: S,(Z.length:Int))) ⟨Z,[],by simp,by simp,fun z hz=>by simp at hz,rfl⟩ (by omega)
 subst hb
 refine ⟨Z1 ++ x :: Z2,by rw [h1];simp,?_,?_⟩
 ·simp only [nj]
  exact List.Perm.append_left _ (List.perm_append_singleton x Z2).symm
 ·rw [nZ] at ho ⊢
  rw [nQ]
  refine ⟨ho.1,⟨fun z hz=>aL (h2 z hz),ho.2.1⟩,fun a ha b hb=>?_⟩
  rcases nO.1 hb with rfl | hb
  ·exact h3 a ha
  ·exact ho.2.2 a ha b hb
theorem wKM {P:α->Prop} {K:α->Int} {c:(α × α)->Option Int} (hc:ByKG P K c) {X:List α} (hp:∀ z ∈ X,P z) (hl:X.length <= 1000) :
  ∃ Z,insG X 0 (X.length:Int) c=some Z/\Z.Perm X/\Z.Pairwise fun a b=>K a <= K b:=by
 unfold insG
 cases X with
 | nil =>
  refine ⟨[],?_,kz _,List.Pairwise.nil⟩
  exact wKL (m:=0) (fun _=>(([]:List α),(1:Int))) (fun i hi=>by omega) (by simp only;rw [if_neg (by simp)];rfl) rfl (by omega)
 | cons x0 X =>
  simp only [nN] at hl
  obtain ⟨r,h1,h2,h3⟩:=wHT (body:=fun (l8,x9)=>if x9 < ((x0 :: X).length:Int) then iter (wVE 0 c x9) big (l8,x9) else esc (some l8))
   (fun k s=>∃ Z,s=(Z ++ X.drop k,((k + 1:Nat):Int))/\Z.Perm (x0 :: X.take k)/\Z.Pairwise (fun a b=>K a <= K b)/\k <= X.length) (fun r=>r.Perm (x0 :: X)/\r.Pairwise fun a b=>K a <= K b) X.length
   (fun k s hk ⟨Z,hs,g1,g2,g3⟩=>by
    subst hs
    simp only
    have hZl:Z.length=k + 1:=by rw [g1.length_eq];simp;omega
    by_cases e:k=X.length
    ·right
     rw [if_neg (by simp only [nN];omega)]
     refine ⟨_,rfl,?_,?_⟩
     ·rw [e,List.drop_length,kX]
      rwa [e,nt] at g1
     ·rw [e,List.drop_length,kX]
      exact g2
    ·left
     have hk':k < X.length:=by omega
     rw [if_pos (by simp only [nN];omega)]
     obtain ⟨Z',i1,i2,i3⟩:=wPV hc (Z:=Z) (S:=X.drop (k + 1)) (x:=gd X k) (x9:=((k + 1:Nat):Int)) (hp _ (.tail _ (wDp hk'))) (fun z hz=>hp z (by
      rcases nO.1 (g1.mem_iff.1 hz) with h | h
      ·rw [h];exact .head _
      ·exact .tail _ (na h))) g2 (by simp only [nG,nN,List.length_drop];omega)
     refine ⟨by omega,?_⟩
     rw [wKK hk']
     rw [hZl] at i1
     refine ⟨_,i1,Z',by rw [wQf (by omega)],?_,i3,by omega⟩
     rw [wFR hk']
     exact i2.trans (by simpa using g1.append_right [gd X k]))
   (s0:=(x0 :: X,1)) ⟨[x0],by simp,by simp,by simp,by omega⟩ (by omega)
  exact ⟨r,h1,h2,h3⟩
theorem wMC {P:α->Prop} {K:α->Int} {c:(α × α)->Option Int} (hc:ByKG P K c) {l:List α} (hl:l.length < 20) (hp:∀ z ∈ l,P z):∃ r,wPU l (l.length:Int) c=some r/\r.Perm l/\r.Pairwise fun a b=>K a <= K b:=by
 obtain ⟨Z,e,h1,h2⟩:=wKM hc hp (by omega)
 refine ⟨Z,?_,h1,h2⟩
 unfold wPU
 rw [wKL (m:=0) (fun _=>(l,(0:Int),(20:Int))) (fun i hi=>by omega) (b:=(l,0)) (by simp only;rw [if_neg (by omega)];rfl) rfl (by omega),nA]
 simp only
 rw [e,nA,wKL (m:=0) (fun _=>()) (fun i hi=>by omega) (b:=Z) (by rw [if_neg (by omega)];rfl) rfl (by omega)]
end
theorem stbJ (l:List wAC) (c:(wAC × wAC)->Option Int):wAY l c=wPU l (l.length:Int) c:=by
 show (wPU l (l.length:Int) c).bind some=_
 cases wPU l (l.length:Int) c <;> rfl
theorem stbI (l:List Int) (c:(Int × Int)->Option Int):wBO l c=wPU l (l.length:Int) c:=by
 show (wPU l (l.length:Int) c).bind some=_
 cases wPU l (l.length:Int) c <;> rfl
theorem stbC (l:List wAN) (c:(wAN × wAN)->Option Int):wAl l c=wPU l (l.length:Int) c:=by
 show (wPU l (l.length:Int) c).bind some=_
 cases wPU l (l.length:Int) c <;> rfl
theorem quo_c {a b:Int} (h0:0 <= a) (h1:a <= 1000000000) (hb:0 < b):quo a b=some (a / b):=by
 unfold quo
 have d0:=Int.ediv_nonneg h0 (aL hb)
 have d1:=Int.ediv_le_self b h0
 rw [if_neg (by omega),Int.tdiv_eq_ediv_of_nonneg h0,wAT (by omega) (by omega)]
def wt (p m:Nat):Int:=((P5.drop (p - 1)).take m).foldl (· + ·) 0
theorem wQi {n B:Int} {Dn:List (List Int)} {p m:Nat} (hp:1 <= p) (hm:1 <= m) (h:p + m <= 6):wDV (mkC n B Dn) (p:Int) (m:Int)=some (wt p m):=by
 rcases (by omega:p=1 \/ p=2 \/ p=3 \/ p=4 \/ p=5) with rfl | rfl | rfl | rfl | rfl <;>
  rcases (by omega:m=1 \/ m=2 \/ m=3 \/ m=4 \/ m=5) with rfl | rfl | rfl | rfl | rfl <;> first | rfl | omega
theorem wt_in:∀ p m:Fin 6,1 <= p.val->1 <= m.val->p.val + m.val <= 6->0 <= wt p.val m.val/\wt p.val m.val <= 1000/\wt p.val m.val / (m.val:Int) <= 30:=by decide
def wJB (r:List Int) (p:Int):Nat:=r.countP fun q=>decide (q=p)
theorem cnt2 {α:Type} {A B:α->Bool} (h:∀ x,¬ (A x=true/\B x=true)):∀ l:List α,l.countP A + l.countP B <= l.length
 | []=>nI _
 | x :: l=>by
  have:=cnt2 h l
  have hx:=h x
  simp only [List.countP_cons,nN]
  cases hA:A x <;> cases hB:B x <;> simp [hA,hB] at hx ⊢ <;> omega
theorem wMD {r:List Int} (R:wFv r) {p:Int} (hp:p ∈ r) (h0:p ≠ 0):1 <= p/\1 <= wJB r p/\p + wJB r p <= 6:=by
 have h1:=R.rk p hp h0
 have h2:=cnt2 (A:=fun q:Int=>decide (q ≠ 0) && decide (q < p)) (B:=fun q=>decide (q=p)) (fun q=>by simp;intros;omega) r
 rw [R.len] at h2
 have h3:1 <= wJB r p:=List.countP_pos_iff.2 ⟨p,hp,by simp⟩
 unfold wJB at *
 omega
def ptR (r:List Int) (s:Nat):Int:=if gd r s=0 then 0 else wt (gd r s).toNat (wJB r (gd r s)) / (wJB r (gd r s):Int)
theorem wHV {n B:Int} {Dn:List (List Int)} {r:List Int} (R:wFv r) {s:Nat} (hs:s < 5):wCK (mkC n B Dn) r (s:Int)=some (ptR r s)/\0 <= ptR r s/\ptR r s <= 30:=by
 have rl:=R.len
 unfold wCK ptR
 rw [wCi (by omega),nA]
 by_cases c:gd r s=0
 ·rw [if_pos c,if_pos c]
  exact ⟨rfl,by omega,by omega⟩
 rw [if_neg c,if_neg c]
 obtain ⟨h1,h2,h3⟩:=wMD R (wDp (by omega)) c
 generalize gd r s=p at *
 obtain ⟨p,rfl⟩:∃ k:Nat,p=(k:Int):=⟨p.toNat,by omega⟩
 have w:0 <= wt p (wJB r p)/\wt p (wJB r p) <= 1000/\wt p (wJB r p) / (wJB r p:Int) <= 30:=wt_in ⟨p,by omega⟩ ⟨wJB r (p:Int),by omega⟩ (by show 1 <= p;omega) h2 (by show p + wJB r p <= 6;omega)
 rw [nS]
 refine ⟨?_,Int.ediv_nonneg w.1 (by omega),w.2.2⟩
 rw [wFZ (S:=Int) (n:=r.length) (fun k=>(((r.take k).countP fun q=>decide (q=(p:Int)):Nat):Int)) (s0:=0) rfl (by omega) fun k hk=>?_,nA,nt]
 ·show (wDV (mkC n B Dn) (p:Int) (wJB r (p:Int):Int)).bind _=_
  rw [wQi (by omega) h2 (by omega),nA]
  show (quo (wt p (wJB r (p:Int))) (wJB r (p:Int):Int)).bind _=_
  rw [quo_c w.1 (by omega) (by omega),nA]
 ·have hc:(r.take k).countP (fun q=>decide (q=(p:Int))) <= k:=by
   have:=List.countP_le_length (p:=fun q=>decide (q=(p:Int))) (l:=r.take k)
   rw [nR] at this
   omega
  rw [wCi hk,nA,wFR hk,aP]
  by_cases c:gd r k=(p:Int)
  ·rw [if_pos c,wAT (by omega) (by omega)]
   simp [c]
  ·rw [if_neg c]
   simp [c]
def sm (f:Int->Int):List Int->Int
 | []=>0
 | x :: l=>f x + sm f l
theorem wMr (f:Int->Int):∀ l m:List Int,sm f (l ++ m)=sm f l + sm f m
 | [],m=>by simp [sm]
 | x :: l,m=>by rw [List.cons_append,sm,sm,wMr f l m];omega
theorem wME (f:Int->Int) {l m:List Int} (h:l.Perm m):sm f l=sm f m:=by
 induction h with
 | nil=>rfl
 | cons x _ ih=>rw [sm,sm,ih]
 | swap x y l=>simp only [sm];omega
 | trans _ _ h1 h2=>rw [h1,h2]
theorem wMF {f g:Int->Int}:∀ {l:List Int},(∀ x ∈ l,f x <= g x)->sm f l <= sm g l
 | [],_=>kP _
 | x :: l,h=>by
  have:=wMF (l:=l) fun y hy=>h y (.tail _ hy)
  have:=h x (.head _)
  rw [sm,sm];omega
theorem sm_eq {f g:Int->Int} {l:List Int} (h:∀ x ∈ l,f x=g x):sm f l=sm g l:=Int.le_antisymm (wMF fun x hx=>by rw [h x hx];exact kP _) (wMF fun x hx=>by rw [h x hx];exact kP _)
theorem wPW (f:Int->Int) (c:Int):∀ l:List Int,sm f l=sm (fun x=>f x - c) l + c * (l.length:Int)
 | []=>by simp [sm]
 | x :: l=>by
  rw [sm,sm,wPW f c l,nN,Int.natCast_add,Int.mul_add]
  omega
theorem wVF {f:Int->Int} {b:Int}:∀ {l:List Int},(∀ x ∈ l,0 <= f x/\f x <= b)->0 <= sm f l/\sm f l <= b * (l.length:Int)
 | [],_=>by simp [sm]
 | x :: l,h=>by
  have:=wVF (l:=l) fun y hy=>h y (.tail _ hy)
  have:=h x (.head _)
  rw [sm,nN,Int.natCast_add,Int.mul_add]
  omega
def Top (f:Int->Int) (L:List Int) (B:Nat) (v:Int):Prop:=∃ Z:List Int,Z.Perm L/\Z.Pairwise (fun a b=>f b <= f a)/\v=sm f (Z.take B)
theorem wVG {f f':Int->Int} {L:List Int} {B:Nat} {v v':Int} (hf:∀ x ∈ L,f' x <= f x) (h:Top f L B v) (h':Top f' L B v'):v' <= v:=by
 obtain ⟨Z,p,so,rfl⟩:=h
 obtain ⟨Z',p',_,rfl⟩:=h'
 have zl:Z'.length=Z.length:=(p'.trans p.symm).length_eq
 refine Int.le_trans (wMF (g:=f) fun x hx=>hf x (p'.mem_iff.1 (na hx))) ?_
 by_cases c:Z.length <= B
 ·rw [nb c,nb (by omega),wME f (p'.trans p.symm)]
  exact kP _
 have hB:B < Z.length:=by omega
 have tl:(Z'.take B).length=(Z.take B).length:=by rw [nR,nR];omega
 rw [wPW f (f (gd Z B)) (Z'.take B),wPW f (f (gd Z B)) (Z.take B),tl]
 have split:=nh B Z
 have split':=nh B Z'
 have pw:(Z.take B ++ Z.drop B).Pairwise fun a b=>f b <= f a:=by rw [split];exact so
 have hd:Z.drop B=gd Z B :: Z.drop (B + 1):=wKK hB
 rw [hd] at pw
 obtain ⟨_,p2,p3⟩:=nZ.1 pw
 have q1:∀ x ∈ Z.take B,f (gd Z B) <= f x:=fun x hx=>p3 x hx _ (.head _)
 have q2:∀ x ∈ Z.drop B,f x <= f (gd Z B):=fun x hx=>by
  rw [hd] at hx
  rcases nO.1 hx with h | h
  ·rw [h];exact kP _
  ·exact (nQ.1 p2).1 x h
 have e1:sm (fun x=>f x - f (gd Z B)) (Z'.take B) <= sm (fun x=>max 0 (f x - f (gd Z B))) (Z'.take B):=wMF fun x _=>by omega
 have e2:sm (fun x=>max 0 (f x - f (gd Z B))) (Z'.take B) + sm (fun x=>max 0 (f x - f (gd Z B))) (Z'.drop B)=sm (fun x=>max 0 (f x - f (gd Z B))) Z':=by rw [<- wMr,split']
 have e3:sm (fun x=>max 0 (f x - f (gd Z B))) (Z.take B) + sm (fun x=>max 0 (f x - f (gd Z B))) (Z.drop B)=sm (fun x=>max 0 (f x - f (gd Z B))) Z:=by rw [<- wMr,split]
 have e4:sm (fun x=>max 0 (f x - f (gd Z B))) Z'=sm (fun x=>max 0 (f x - f (gd Z B))) Z:=wME _ (p'.trans p.symm)
 have e5:sm (fun x=>max 0 (f x - f (gd Z B))) (Z.take B)=sm (fun x=>f x - f (gd Z B)) (Z.take B):=sm_eq fun x hx=>by have:=q1 x hx;omega
 have e6:sm (fun x=>max 0 (f x - f (gd Z B))) (Z.drop B) <= sm (fun _=>0) (Z.drop B):=wMF fun x hx=>by have:=q2 x hx;omega
 have e7:∀ l:List Int,sm (fun _=>0) l=0:=fun l=>by
  induction l with
  | nil=>rfl
  | cons x l ih=>rw [sm,ih];rfl
 have e8:sm (fun _=>(0:Int)) (Z'.drop B) <= sm (fun x=>max 0 (f x - f (gd Z B))) (Z'.drop B):=wMF fun x _=>by omega
 rw [e7] at e6 e8
 omega
def wNm (n:Nat):List Int:=(kV n).map fun (k:Nat)=>(k:Int)
def pf (Dn:List (List Int)) (s:Nat) (a:Int):Int:=ptR (gd Dn a.toNat) s
structure wJY (Dn:List (List Int)):Prop where
 len:Dn.length <= 10
 ok:∀ r ∈ Dn,wFv r
theorem wVH {Dn:List (List Int)} (C:wJY Dn) {s:Nat} (hs:s < 5) {a:Int} (h0:0 <= a) (h1:a < Dn.length):0 <= pf Dn s a/\pf Dn s a <= 30 :=
 (wHV (n:=1) (B:=1) (Dn:=[]) (C.ok _ (wDp (l:=Dn) (k:=a.toNat) (by omega))) hs).2
theorem wPX {n B:Int} (b1:1 <= B) (b2:B <= 100) {Dn:List (List Int)} (C:wJY Dn) {s:Nat} (hs:s < 5):∃ l Z:List Int,wCb ⟨mkC n B Dn⟩ (s:Int)=some l/\Z.Perm (wNm Dn.length)/\Z.Pairwise (fun a b=>pf Dn s b <= pf Dn s a)/\l.Perm (Z.take B.toNat):=by
 have hl:=C.len
 have ea:∀ a:Int,0 <= a->a < Dn.length->idx Dn a=some (gd Dn a.toNat)/\wFv (gd Dn a.toNat):=fun a h0 h1=>by
  obtain ⟨k,rfl⟩:∃ k:Nat,a=(k:Int):=⟨a.toNat,by omega⟩
  rw [nS,wCi (by omega)]
  exact ⟨rfl,C.ok _ (wDp (by omega))⟩
 unfold wCb
 simp only [mkC]
 rw [wFZ (S:=List Int) (n:=Dn.length) wNm (s0:=[]) rfl (by omega) fun k hk=>by
  rw [wDZ (by simp [wNm];omega),nA]
  unfold wNm
  rw [List.range_succ,List.map_append];rfl,nA]
 have nl:(wNm Dn.length).length=Dn.length:=by simp [wNm]
 obtain ⟨Z,e,z1,z2⟩:=wMC (P:=fun a:Int=>0 <= a/\a < Dn.length) (K:=fun a=>-(pf Dn s a)) (c:=fun x=>wBS x.1 x.2 ⟨⟨5,n,B,P5,Dn⟩⟩ (s:Int)) (fun a b ha hb=>by
  unfold wBS
  simp only
  obtain ⟨a1,a2⟩:=ea a ha.1 ha.2
  obtain ⟨b1,b2⟩:=ea b hb.1 hb.2
  have A:=(wHV (n:=n) (B:=B) (Dn:=Dn) a2 hs).1
  have Bp:=(wHV (n:=n) (B:=B) (Dn:=Dn) b2 hs).1
  unfold mkC at A Bp
  rw [b1,a1,nA,nA,Bp,A,nA,nA,wHU]
  refine ⟨_,rfl,?_⟩
  unfold pf
  split
  ·omega
  ·split <;> omega) (l:=wNm Dn.length) (by omega) (fun a ha=>by
   obtain ⟨k,hk,rfl⟩:=nz.1 ha
   have:=kb.1 hk
   exact ⟨by omega,by omega⟩)
 have zl:=z1.length_eq
 rw [stbI,e,nA,cut,if_pos (by omega),nA]
 unfold wBx
 rw [wIS,if_pos (by simp;omega)]
 refine ⟨_,Z,rfl,z1,z2.imp fun h=>by omega,?_⟩
 refine (kG _ _).trans ?_
 rw [show (0:Int).toNat=0 from rfl,ka,kh]
 by_cases c:(Z.length:Int) <= B
 ·rw [nb (by omega),nb (by omega)]
 ·rw [show min (Z.length:Int) B=B by omega]
theorem wTG (a b:Int):wFV [a,b]=some (w64 (w64 (0 + a) + b)):=by
 unfold wFV
 rw [show ((([a,b]:List Int).length:Nat):Int)=((2:Nat):Int) from rfl,wEG (by omega)]
 rfl
theorem wMs {n B:Int} (b1:1 <= B) (b2:B <= 100) {Dn:List (List Int)} (C:wJY Dn) {s:Nat} (hs:s < 5):∃ f,wBY ⟨mkC n B Dn⟩ (s:Int)=some f/\Top (pf Dn s) (wNm Dn.length) B.toNat f.total:=by
  have hl:=C.len
  obtain ⟨l,Z,e,z1,z2,z3⟩:=wPX (n:=n) b1 b2 C hs
  have zl:=z1.length_eq
  have nl:(wNm Dn.length).length=Dn.length:=by simp [wNm]
  have ll:l.length <= 10:=by
    rw [z3.length_eq,nR];omega
  have lm:∀ a ∈ l,0 <= a/\a < Dn.length:=fun a ha=>by
    obtain ⟨k,hk,rfl⟩:=nz.1 (z1.mem_iff.1 (na (z3.mem_iff.1 ha)))
    have:=kb.1 hk
    exact ⟨by omega,by omega⟩
  unfold wBY
  rw [e,nA,wFZ (S:=Int) (n:=l.length) (fun k=>sm (pf Dn s) (l.take k)) (s0:=0) rfl (by omega) fun k hk=>?_,nA,nt]
  · have:∃ y,wCs 0 ((Dn.length:Nat):Int) (fun k136 (a135:Arr Int 61) =>
        (idx Dn (↑k136:Int)).bind fun x159 =>
        (idx x159 (s:Int)).bind fun x174 =>
        if 0 < x174 then
          (chk x174 61).bind fun _ =>
          some (a135.set x174.toNat (w64 ((a135.get x174.toNat) + 1)))
        else
          some a135) (Arr.fill 61 0)=some y:=by
      obtain ⟨y,h,_⟩:=wEm (n:=Dn.length) (s0:=(Arr.fill 61 0:Arr Int 61)) (body:=fun k136 (a135:Arr Int 61) =>
        (idx Dn (↑k136:Int)).bind fun x159 =>
        (idx x159 (s:Int)).bind fun x174 =>
        if 0 < x174 then
          (chk x174 61).bind fun _ =>
          some (a135.set x174.toNat (w64 ((a135.get x174.toNat) + 1)))
        else
          some a135) (fun _ _=>True) (by omega) trivial fun k a hk _=>by
        have R:=C.ok _ (wDp hk)
        have rl:=R.len
        have hm:=R.in_ _ (wDp (l:=gd Dn k) (k:=s) (by omega))
        rw [wCi hk,nA,wCi (by omega),nA]
        split
        · rw [wDA (by omega) (by omega)]
          exact ⟨_,rfl,trivial⟩
        · exact ⟨_,rfl,trivial⟩
      exact ⟨y,h⟩
    obtain ⟨y,hy⟩:=this
    exact ⟨⟨sm (pf Dn s) l,y⟩,congrArg (fun o=>o.bind fun y141=>some (⟨sm (pf Dn s) l,y141⟩:wCB)) hy,Z,z1,z2,wME _ z3⟩
  · have ha:=lm _ (wDp hk)
    have si:=wVF (f:=pf Dn s) (b:=30) (l:=l.take k) fun x hx=>by
      have:=lm x (na hx)
      exact wVH C hs this.1 this.2
    have:=kZ k l
    have pi:=wVH C hs ha.1 ha.2
    rw [wDA (by omega) (by omega),nA]
    obtain ⟨q,hq⟩:∃ q:Nat,gd l k=(q:Int):=⟨(gd l k).toNat,by omega⟩
    rw [hq] at ha pi
    show (idx Dn (gd l k)).bind _=_
    rw [hq,wCi (by omega),nA,(wHV (C.ok _ (wDp (by omega))) hs).1,nA,wTG,nA,wFR hk,wMr,hq]
    unfold pf at pi si
    rw [nS] at pi
    show some (w64 (w64 (0 + sm (fun a=>ptR (gd Dn a.toNat) s) (l.take k)) + ptR (gd Dn q) s))=_
    rw [Int.zero_add,wAT (x:=sm _ _) (by omega) (by omega),wAT (by omega) (by omega)]
    simp only [sm,pf,nS]
    rw [Int.add_zero]
    rfl
theorem wQj {S R:Type} {lo hi:Int} {body:Nat->S->Option (S ⊕ R)} {s0:S} {K:S->Option R} (I:S->Prop) (hhi:hi <= 9223372036854775807) (h0:I s0) (h:∀ (i:Nat) s,lo + (i:Int) < hi->I s->(∃ s',body i s=some (.inl s')/\I s') \/ ∃ b,body i s=some (.inr b)) (hK:∀ s,I s->∃ v,K s=some v):∃ v,jn (wGa lo hi body s0) K=some v:=by
 unfold wGa
 rw [if_pos hhi]
 rcases wIK (body:=body) (fun _ s=>I s) (fun _=>True) (hi - lo).toNat 0 s0 h0 (fun i s _ h2 h3=>by
  rcases h i s (by omega) h3 with h | ⟨b,h⟩
  ·exact .inl h
  ·exact .inr ⟨b,h,trivial⟩) with ⟨s',h1,h2⟩ | ⟨b,h1,_⟩
 ·rw [h1];exact hK s' h2
 ·rw [h1];exact ⟨b,rfl⟩
theorem wQk (p q:wCB):∃ b,wCQ p q=some b:=by
 unfold wCQ
 split
 ·exact ⟨_,rfl⟩
 ·split
  ·split
   ·exact ⟨_,rfl⟩
   ·refine wQj (fun _=>True) (by decide) trivial (fun i s hi _=>?_) fun s _=>⟨_,rfl⟩
    rw [wDA (by omega) (by omega),nA]
    split
    ·exact .inl ⟨_,rfl,trivial⟩
    ·exact .inr ⟨_,rfl⟩
  ·exact ⟨_,rfl⟩
theorem wRb {n B:Int} (b1:1 <= B) (b2:B <= 100) {Dn:List (List Int)} (C:wJY Dn) {s:Nat} (hs:s < 5):∃ v,wBi ⟨mkC n B Dn⟩ (s:Int)=some v:=by
 obtain ⟨own,e,_⟩:=wMs (n:=n) b1 b2 C hs
 unfold wBi
 rw [e,nA,show wDf ⟨mkC n B Dn⟩ (s:Int)=some () from rfl,nA]
 have key:∃ v,wCU (S:=Int) (E:=Empty) (fun x115 x125=>(wCQ x125.2 own).bind fun x162=>if x162=true then some (.inl (w64 (x115 + 1))) else some (.inl x115)) 1 ⟨mkC n B Dn⟩ (s:Int)=some v:=by
  unfold wCU
  refine wQj (fun _=>True) (by show (5:Int) <= _;decide) trivial (fun i u hi _=>?_) fun s _=>⟨_,rfl⟩
  have hi':(0:Int) + i < 5:=hi
  split
  ·exact .inl ⟨_,rfl,trivial⟩
  ·obtain ⟨f,ef,_⟩:=wMs (n:=n) b1 b2 C (s:=i) (by omega)
   rw [ef,nA]
   obtain ⟨b,eb⟩:=wQk f own
   simp only
   rw [eb,nA]
   cases b <;> exact .inl ⟨_,rfl,trivial⟩
 obtain ⟨v,hv⟩:=key
 rw [hv,nA]
 cases v with
 | inl y=>exact ⟨y,rfl⟩
 | inr e=>exact e.elim
theorem CupOK.done {n B:Int} {Dn:List (List Int)} (C:CupOK n B Dn):wJY Dn:=⟨by have:=C.len;have:=C.n4;omega,C.ok⟩
theorem wTH {n B:Int} {Dn:List (List Int)} (C:CupOK n B Dn):∃ l,wEZ (mkC n B Dn)=some (l,0)/\l.length=5:=by
 have b1:=C.b1
 have bn:=C.bn
 have n4:=C.n4
 unfold wEZ wCg
 rw [wIz C,nA,nA]
 simp only
 rw [if_pos trivial]
 obtain ⟨y,e,yl⟩:=wEm (n:=5) (s0:=([]:List wAN)) (body:=fun k48 l44 =>
   (wBY ⟨mkC n B Dn⟩ (↑k48:Int)).bind fun x73 =>
   (wBi ⟨mkC n B Dn⟩ (↑k48:Int)).bind fun x98 =>
   (app 32 l44 [(⟨(↑k48:Int),x98,x73.total,(x73.places.get 1)⟩:wAN)]).bind fun x113 =>
   some x113) (fun k l=>l.length=k) (by omega) rfl fun k l hk hl=>by
  obtain ⟨f,ef,_⟩:=wMs (n:=n) b1 (by omega) C.done hk
  obtain ⟨v,ev⟩:=wRb (n:=n) b1 (by omega) C.done hk
  rw [ef,nA,ev,nA,wDZ (by simp only [nH];omega),nA]
  exact ⟨_,rfl,by simp only [nG,nH];omega⟩
 rw [show (mkC n B Dn).Skiers=((5:Nat):Int) from rfl,e,nA]
 obtain ⟨Z,ez,z1,_⟩:=wMC (P:=fun _=>True) (K:=fun x:wAN=>x.Rank) (c:=fun x=>wCx x.1 x.2) (fun a b _ _=>by
  unfold wCx
  simp only
  rw [wHU]
  refine ⟨_,rfl,?_⟩
  split
  ·omega
  ·split <;> omega) (l:=y) (by omega) (fun _ _=>trivial)
 rw [stbC,ez,nA]
 exact ⟨Z,rfl,by rw [z1.length_eq,yl]⟩
def wTr (s:Nat):List Int:=ki (nr 5 0) s 1
theorem wTI {s:Nat} (hs:s < 5):wFv (wTr s):=by
 have h:∀ s:Fin 5,(wTr s.val).length=5/\(∀ p ∈ wTr s.val,0 <= p/\p <= 5)/\∀ p ∈ wTr s.val,p ≠ 0->p=1 + (((wTr s.val).countP fun q=>decide (q ≠ 0) && decide (q < p):Nat):Int):=by decide
 obtain ⟨h1,h2,h3⟩:=h ⟨s,hs⟩
 exact ⟨h1,h2,h3⟩
theorem wVI {n B:Int} {Dn:List (List Int)} (C:CupOK n B Dn) {s:Nat} (hs:s < 5):∃ fu,wDL ⟨mkC n B Dn⟩ (s:Int)=some fu/\(∀ r ∈ fu,wFv r)/\fu.length <= 4:=by
 have n4:=C.n4
 have hl:=C.len
 unfold wDL
 have en:w64 ((mkC n B Dn).Races - ((mkC n B Dn).Done.length:Int))=(((n - Dn.length).toNat:Nat):Int):=by
  show w64 (n - Dn.length)=_
  rw [wAT (by omega) (by omega)];omega
 have e1:wCZ ⟨mkC n B Dn⟩ (s:Int)=some (wTr s):=by
  unfold wCZ
  show (mkz 8 5 (0:Int)).bind _=_
  rw [mkz,if_pos (by decide),nA,wDA (by omega) (by simp;omega),nA]
  rfl
 obtain ⟨y,e,h1,h2⟩:=wEm (n:=(n - Dn.length).toNat) (s0:=([]:List (List Int))) (body:=fun k41 l36 =>
  (wCZ ⟨mkC n B Dn⟩ (s:Int)).bind fun x73 =>
  (app 24 l36 [x73]).bind fun x97 =>
  some x97) (fun k l=>l.length=k/\∀ r ∈ l,wFv r) (by omega) ⟨rfl,fun r h=>nomatch h⟩ fun k l hk hI=>by
  rw [e1,nA,wDZ (by simp only [nH];omega),nA]
  refine ⟨_,rfl,by simp only [nG,nH];omega,fun r hr=>?_⟩
  rcases nU.1 hr with h | h
  ·exact hI.2 r h
  ·rw [kf.1 h];exact wTI hs
 simp only [en]
 rw [e]
 exact ⟨y,rfl,h2,by omega⟩
theorem wLG {n B:Int} {Dn:List (List Int)} (C:CupOK n B Dn) {s q:Nat} (hs:s < 5) {fu:List (List Int)} (h1:∀ r ∈ fu,wFv r) (h2:fu.length <= 4):∃ d v,wBy ⟨mkC n B Dn⟩ fu=some d/\wBi d (s:Int)=some v:=by
 have n4:=C.n4
 have hl:=C.len
 have b1:=C.b1
 have bn:=C.bn
 have D:wJY (Dn ++ fu):=⟨by rw [nG];omega,fun r hr=>by
  rcases nU.1 hr with h | h
  ·exact C.ok r h
  ·exact h1 r h⟩
 obtain ⟨v,ev⟩:=wRb (n:=n) b1 (by omega) D hs
 exact ⟨_,v,wRa (by omega) (by omega) (fun r hr=>(D.ok r hr).len),ev⟩
theorem can_c {n B:Int} {Dn:List (List Int)} (C:CupOK n B Dn) {s:Nat} (hs:s < 5):∃ b,wCP ⟨mkC n B Dn⟩ (s:Int)=some b:=by
 obtain ⟨fu,e,h1,h2⟩:=wVI C hs
 obtain ⟨d,v,e1,e2⟩:=wLG C (q:=0) hs h1 h2
 unfold wCP
 rw [e,nA,e1,nA,e2]
 exact ⟨_,rfl⟩
theorem wVJ {n B:Int} {Dn:List (List Int)} (C:CupOK n B Dn) {s:Nat} (hs:s < 5):∃ b,wBz ⟨mkC n B Dn⟩ (s:Int)=some b:=by
 have key:∃ v,wCc ⟨mkC n B Dn⟩ (s:Int)=some v:=by
  unfold wCc
  refine wQj (fun _=>True) (by show (5:Int) <= _;decide) trivial (fun i u hi _=>?_) fun s _=>⟨_,rfl⟩
  have hi':(0:Int) + i < 5:=hi
  obtain ⟨fu,e,h1,h2⟩:=wVI C (s:=i) (by omega)
  rw [e,nA]
  split
  ·exact .inl ⟨_,rfl,trivial⟩
  ·obtain ⟨d,v,e1,e2⟩:=wLG C (q:=0) hs h1 h2
   rw [e1,nA,e2,nA]
   split
   ·exact .inr ⟨_,rfl⟩
   ·exact .inl ⟨_,rfl,trivial⟩
 obtain ⟨⟨a,b⟩,h⟩:=key
 unfold wBz
 rw [h]
 exact ⟨_,rfl⟩
theorem wMt {n B:Int} {Dn:List (List Int)} {f:wAQ × Int->Option Bool} (hf:∀ s:Nat,s < 5->∃ b,f (⟨mkC n B Dn⟩,(s:Int))=some b):∃ l,wBe ⟨f⟩ ⟨mkC n B Dn⟩=some l:=by
 unfold wBe
 obtain ⟨y,e,_⟩:=wEm (n:=5) (s0:=([]:List Int)) (body:=fun k26 l22 =>
  (f (⟨mkC n B Dn⟩,(↑k26:Int))).bind fun x52 =>
  if x52=true then
   (app 8 l22 [(↑k26:Int)]).bind fun x70 =>
   some x70
  else
   some l22) (fun k l=>l.length <= k) (by omega) (nI _) fun k l hk hl=>by
  obtain ⟨b,eb⟩:=hf k hk
  rw [eb,nA]
  split
  ·rw [wDZ (by simp only [nH];omega)]
   exact ⟨_,rfl,by simp only [nG,nH];omega⟩
  ·exact ⟨_,rfl,by omega⟩
 rw [show (mkC n B Dn).Skiers=((5:Nat):Int) from rfl]
 simp only
 rw [e]
 exact ⟨y,rfl⟩
theorem wPY {n B:Int} {Dn:List (List Int)} (C:CupOK n B Dn):∃ v,wDg (mkC n B Dn)=some v:=by
 have n4:=C.n4
 have hl:=C.len
 unfold wDg wCg
 rw [wIz C,nA,nA]
 simp only
 rw [if_pos trivial]
 refine wQj (fun _=>True) (wTy _) trivial (fun i u hi _=>?_) fun s _=>⟨_,rfl⟩
 have hi':(0:Int) + i < w64 ((Dn.length:Int) + 1):=hi
 rw [wAT (by omega) (by omega)] at hi'
 have ec:cut (mkC n B Dn).Done 0 (i:Int)=some (Dn.take i):=by
  show cut Dn 0 (i:Int)=_
  rw [cut,if_pos (by omega)]
  simp
 have Ci:CupOK n B (Dn.take i):=⟨C.n1,C.n4,C.b1,C.bn,by rw [nR];omega,fun r hr=>C.ok r (na hr)⟩
 obtain ⟨l1,a1⟩:=wMt (f:=fun x=>wCP x.1 x.2) fun s hs=>can_c Ci hs
 obtain ⟨l2,a2⟩:=wMt (f:=fun x=>wBz x.1 x.2) fun s hs=>wVJ Ci hs
 rw [ec,nA,show wEe=some () from rfl,nA,show wEy=some () from rfl]
 unfold mkC at a1 a2 ⊢
 simp only
 rw [a1,nA,nA,a2,nA]
 split
 ·split
  ·rw [wDA (by omega) (by omega),nA]
   split <;> exact .inr ⟨_,rfl⟩
  ·exact .inl ⟨_,rfl,trivial⟩
 ·exact .inl ⟨_,rfl,trivial⟩
theorem wMu {n B:Int} {Dn:List (List Int)} (C:CupOK n B Dn):∃ l,wEE (mkC n B Dn)=some (l,0)/\l.length=5/\∀ s,s < 5->Top (pf Dn s) (wNm Dn.length) B.toNat (gd l s):=by
 have b1:=C.b1
 have bn:=C.bn
 have n4:=C.n4
 unfold wEE wCg
 rw [wIz C,nA,nA]
 simp only
 rw [if_pos trivial]
 unfold wDh
 obtain ⟨y,e,yl,hy⟩:=wEm (n:=5) (s0:=([]:List Int)) (body:=fun k22 l18 =>
  (wBY ⟨mkC n B Dn⟩ (↑k22:Int)).bind fun x47 =>
  (app 8 l18 [x47.total]).bind fun x62 =>
  some x62) (fun k l=>l.length=k/\∀ s,s < k->Top (pf Dn s) (wNm Dn.length) B.toNat (gd l s)) (by omega) ⟨rfl,fun s h=>by omega⟩ fun k l hk hI=>by
  obtain ⟨hl,hI⟩:=hI
  obtain ⟨f,ef,tf⟩:=wMs (n:=n) b1 (by omega) C.done hk
  rw [ef,nA,wDZ (by simp only [nH];omega),nA]
  refine ⟨_,rfl,by simp only [nG,nH];omega,fun s hs=>?_⟩
  by_cases c:s < k
  ·rw [wFo (by omega)];exact hI s c
  ·have:s=l.length:=by omega
   subst this
   rw [wFp,hl]
   exact tf
 rw [show (mkC n B Dn).Skiers=((5:Nat):Int) from rfl]
 rw [e,nA,nA]
 exact ⟨y,rfl,yl,hy⟩
theorem wPZ {n B:Int} {Dn:List (List Int)} {r:List Int} (C:CupOK n B Dn) (C':CupOK n B (Dn ++ [r])):wCw (mkC n B Dn) [r]=some (mkC n B (Dn ++ [r]),0):=by
 have n4:=C.n4
 have hl:=C.len
 unfold wCw wCg
 rw [wIz C,nA,nA]
 simp only
 rw [if_pos trivial,if_neg (by simp only [nH];omega),wRa (by omega) (by simp) (fun r hr=>(C'.ok r hr).len),nA]
 simp only
 rw [wIz C',nA]
 rfl
structure DOK (d:wAA):Prop where
 n0:1 <= d.Number
 n1:d.Number <= 9999
 k0:0 <= d.Kind
 k1:d.Kind <= 9
 m0:0 <= d.Minute
 m1:d.Minute <= 10000
 u0:0 <= d.Much
 u1:d.Much <= 36000
 u2:d.Kind=3 \/ (4 < d.Kind/\d.Kind ≠ 6)->d.Much=0
 pe:d.Kind <= 4->d.About=0/\∃ i:Nat,i < 5/\d.Bib=3 * (i:Int) + 1
 ab:4 < d.Kind->d.Bib=0/\1 <= d.About/\d.About <= d.Number - 1
def skR (t:Nat->Int):List wAH:=(kV 5).map fun (i:Nat)=>⟨3 * (i:Int) + 1,t i⟩
theorem wFS (t:Nat->Int):(skR t).length=5:=by simp [skR]
theorem wMv (t:Nat->Int) {i:Nat} (h:i < 5):gd (skR t) i=⟨3 * (i:Int) + 1,t i⟩:=by
 rw [wFq (by rw [wFS];exact h)]
 simp [skR]
theorem wPa (t:Nat->Int):(skR t).Pairwise fun a b=>a.Bib < b.Bib:=by
 unfold skR
 rw [kg]
 exact List.pairwise_lt_range.imp fun h=>by simp only;omega
theorem wTJ {d:wAA} (h:DOK d):wBE d=some true:=by
 obtain ⟨h1,h2,h3,h4,h5,h6,h7,h8,h9,_,_⟩:=h
 have fin:∀ m:Int,d.Much <= m->((wAd d.Number 1 9999).bind fun x38 =>
  if x38=true then
   (wAd d.Kind 0 9).bind fun x50 =>
   if x50=true then
    (wAd d.Minute 0 10000).bind fun x62 =>
    if x62=true then
     (wAd d.Much 0 m).bind fun x74 =>
     some x74
    else
     some false
   else
    some false
  else
   some false)=some true:=by
  intro m hm
  rw [wDl,nA,if_pos (by simp;omega),wDl,nA,if_pos (by simp;omega),wDl,nA,if_pos (by simp;omega),wDl,nA]
  simp;omega
 unfold wBE wAh
 by_cases c3:d.Kind=3
 ·rw [if_pos c3,nA,if_pos rfl]
  exact fin 0 (by have:=h9 (.inl c3);omega)
 ·rw [if_neg c3,nA]
  by_cases c4:d.Kind <= 4
  ·rw [if_pos (by simpa using c4),nA,if_neg (by simp)]
   exact fin 36000 h8
  ·rw [if_neg (by simpa using c4),nA]
   by_cases c6:d.Kind=6
   ·rw [if_neg (by simp [c6])]
    exact fin 36000 h8
   ·rw [if_pos (by simp [c6])]
    exact fin 0 (by have:=h9 (.inr ⟨by omega,c6⟩);omega)
theorem wVK {t:Nat->Int} (ht:∀ i,i < 5->-1 <= t i/\t i <= 360000) {l:List wAA} (hl:l.length <= 40) (hd:∀ d ∈ l,DOK d) (nd:(l.map (·.Number)).Nodup):wEi ⟨30,skR t,l⟩=some 0:=by
 have s5:=wFS t
 have hb:((skR t).map (·.Bib)).Nodup:=kD.2 ((kg.2 (wPa t)).imp fun h=>by omega)
 unfold wEi
 simp only
 rw [wDl,nA,if_pos (by rw [s5];decide),if_neg (by omega),wDl,nA,if_pos (by decide),
  allJS (fun s hs=>by
   obtain ⟨i,hi,rfl⟩:=nz.1 hs
   have:=kb.1 hi
   have:=ht i this
   unfold wDI
   rw [wDl,nA,if_pos (by simp;omega),wDl,nA]
   simp;omega) (by omega),nA,if_pos rfl,
  wTF (fun d h=>wTJ (hd d h)) (by omega),nA,if_pos rfl,wUy (by simp only;omega),nA,wRY (by simp only [kv];omega) hb,nA,if_neg (by decide),wQd (by simp only;omega),nA,wRY (by simp only [kv];omega) nd,nA,if_neg (by decide),
  wTF (fun d h=>by
   have:=hd d h
   unfold wDJ wAh
   rw [nA]
   by_cases c:d.Kind <= 4
   ·obtain ⟨i,hi,e⟩:=(this.pe c).2
    rw [if_pos (by simpa using c),wUy (by simp only;omega),nA,wIx _ (by simp only [kv];omega),nA]
    congr 1
    rw [decide_eq_true_eq]
    exact nz.2 ⟨⟨3 * (i:Int) + 1,t i⟩,nz.2 ⟨i,kb.2 hi,rfl⟩,e.symm⟩
   ·rw [if_neg (by simpa using c)]
    congr 1
    rw [decide_eq_true_eq]
    exact (this.ab (by omega)).1) (by omega),nA,if_pos rfl,
  wTF (fun d h=>by
   have:=hd d h
   have n1:=this.n1
   have n0:=this.n0
   unfold wDK wAh
   rw [nA]
   by_cases c:d.Kind <= 4
   ·rw [if_pos (by simpa using c)]
    congr 1
    rw [decide_eq_true_eq]
    exact (this.pe c).1
   ·have:=this.ab (by omega)
    rw [if_neg (by simpa using c),wAT (by omega) (by omega),wDl,nA]
    simp;omega) (by omega),nA,if_pos rfl]
structure SOK (s:List wAA):Prop where
 len:s.length <= 40
 ok:∀ d ∈ s,DOK d
 inc:s.Pairwise fun a b=>a.Number < b.Number
theorem wTK {t:Nat->Int} (ht:∀ i,i < 5->-1 <= t i/\t i <= 360000) {l s:List wAA} (S:SOK s) (hp:l.Perm s):wEM ⟨30,skR t,l⟩=some (⟨30,skR t,s⟩,0):=by
 have s5:=wFS t
 have hl:=hp.length_eq
 have sl:=S.len
 have nd:(l.map (·.Number)).Nodup:=(hp.map _).nodup_iff.2 (kD.2 ((kg.2 S.inc).imp fun h=>by omega))
 unfold wEM
 rw [wVK ht (by omega) (fun d h=>S.ok d (hp.mem_iff.1 h)) nd,nA,if_pos rfl,mkz,if_pos (by simp only;omega),nA,mkz,if_pos (by simp only;omega),nA,nA]
 simp only
 rw [wMB (by simp),nA,wMB (by simp),nA]
 unfold wBK wAv
 rw [wUz (g:=fun s:wAH=>s.Bib) (fun a b=>by unfold wCl;simp only;rw [wHU];rfl) (by omega) (kz _) (wPa t),nA,wUz (g:=fun d:wAA=>d.Number) (fun a b=>by unfold wCm;simp only;rw [wHU];rfl) (by omega) hp S.inc,nA]
abbrev MD:=List (Int × List wAA)
def abS (a:MD) (x:wAA):MD:=if 0 < x.About then mput a x.About (wAk a x.About [] ++ [x]) else a
def atS (b:List (Int × wAA)) (x:wAA):List (Int × wAA):=mput b x.Number x
def abL (s:List wAA):MD:=s.reverse.foldl abS []
theorem wQl (s:List wAA) {p:wAA} (h:p.About=0):abL (s ++ [p])=abL s:=by
 unfold abL
 rw [List.reverse_append,List.reverse_singleton,List.singleton_append,kY,abS,if_neg (by omega)]
theorem wPb {L:List wAA}:∀ {l:List wAA} {a:MD} {n:Nat},(∀ x ∈ l,x ∈ L)->(∀ k,(wAk a k []).length <= n/\∀ y ∈ wAk a k [],y ∈ L/\y.About=k/\0 < k) ->
  ∀ k,(wAk (l.foldl abS a) k []).length <= n + l.length/\∀ y ∈ wAk (l.foldl abS a) k [],y ∈ L/\y.About=k/\0 < k
 | [],a,n,_,h=>h
 | x :: l,a,n,hL,h=>by
  intro k
  rw [kY,nN,<- Nat.add_assoc,Nat.add_right_comm]
  refine wPb (l:=l) (a:=abS a x) (n:=n + 1) (fun y hy=>hL y (.tail _ hy)) (fun k=>?_) k
  unfold abS
  split
  ·rename_i c
   unfold wAk
   rw [wFr]
   by_cases e:k=x.About
   ·rw [if_pos e]
    simp only [Option.getD_some]
    have:=h x.About
    refine ⟨by rw [nG,nH];exact Nat.succ_le_succ this.1,fun y hy=>?_⟩
    rcases nU.1 hy with hy | hy
    ·rw [e];exact this.2 y hy
    ·rw [kf.1 hy,e];exact ⟨hL x (.head _),rfl,c⟩
   ·rw [if_neg e]
    have:=h k
    exact ⟨Nat.le_succ_of_le this.1,this.2⟩
  ·have:=h k
   exact ⟨Nat.le_succ_of_le this.1,this.2⟩
theorem wRc (s:List wAA) (k:Int):(wAk (abL s) k []).length <= s.length/\∀ y ∈ wAk (abL s) k [],y ∈ s/\y.About=k/\0 < k:=by
 have:=wPb (L:=s) (l:=s.reverse) (a:=[]) (n:=0) (fun x hx=>List.mem_reverse.1 hx) (fun k=>⟨nI _,fun y hy=>nomatch hy⟩) k
 rwa [nc,aK] at this
theorem wRd {t:Nat->Int} (ht:∀ i,i < 5->-1 <= t i/\t i <= 360000) {l s:List wAA} (S:SOK s) (hp:l.Perm s):wED ⟨30,skR t,l⟩=some (some ⟨⟨30,skR t,s⟩,s.reverse.foldl atS [],abL s⟩,0):=by
 have sl:=S.len
 unfold wED
 rw [wTK ht S hp,nA]
 simp only
 rw [if_pos trivial,show wAf s=some () from rfl,nA]
 unfold wAe
 rw [wAT (by omega) (by omega)]
 rw [wKL (m:=s.length) (fun k=>((s.length:Int) - 1 - k,(s.reverse.take k).foldl abS [],(s.reverse.take k).foldl atS [])) (b:=Sum.inl (abL s,s.reverse.foldl atS [])) (fun k hk=>?_) ?_ (by simp) (by omega),nA]
 ·simp only
  rw [if_neg (by omega),nb (by simp)]
  rfl
 ·have hm:s.length - 1 - k < s.length:=by omega
  have hr:k < s.reverse.length:=by rw [aK];exact hk
  have eg:gd s.reverse k=gd s (s.length - 1 - k):=by
   rw [wFq hr,wFq hm,List.getElem_reverse]
  simp only
  rw [if_pos (by omega),show (s.length:Int) - 1 - k=((s.length - 1 - k:Nat):Int) by omega,wCi hm,nA,<- eg,wFR hr,aV,aV,wAT (by omega) (by omega)]
  have hlen:=(wPb (L:=s) (l:=s.reverse.take k) (a:=[]) (n:=0) (fun x hx=>List.mem_reverse.1 (na hx)) (fun k=>⟨nI _,fun y hy=>nomatch hy⟩) (gd s.reverse k).About).1
  have hlk:=kZ k s.reverse
  have en:((s.length - 1 - k:Nat):Int) - 1=(s.length:Int) - 1 - ((k + 1:Nat):Int):=by omega
  rw [en]
  by_cases c:0 < (gd s.reverse k).About
  ·rw [if_pos c,wDZ (by simp only [nH];omega),nA,nA]
   simp only [kY,List.foldl_nil]
   rw [abS,if_pos c];rfl
  ·rw [if_neg c,nA]
   simp only [kY,List.foldl_nil]
   rw [abS,if_neg c];rfl
def N2 {S S':Type} (I:S->S'->Prop) (a:Option S) (b:Option S'):Prop:=∃ u u',a=some u/\b=some u'/\I u u'
def E2 {S S' B B':Type} (I:S->S'->Prop) (Z:B->B'->Prop) (a:Option (S ⊕ B)) (b:Option (S' ⊕ B')):Prop:=(∃ u u',a=some (.inl u)/\b=some (.inl u')/\I u u') \/ ∃ v v',a=some (.inr v)/\b=some (.inr v')/\Z v v'
theorem N2.bind {S S' R R':Type} {I:S->S'->Prop} {a:Option S} {b:Option S'} {K:S->Option R} {K':S'->Option R'} {P:Option R->Option R'->Prop} (h:N2 I a b) (hK:∀ u u',I u u'->P (K u) (K' u')):P (a.bind K) (b.bind K'):=by
 obtain ⟨u,u',rfl,rfl,h⟩:=h
 exact hK u u' h
theorem jn2 {S S' R R':Type} {P:Option R->Option R'->Prop} {f:Nat->S->Option (S ⊕ R)} {g:Nat->S'->Option (S' ⊕ R')} {n:Nat} {s0:S} {t0:S'} {K:S->Option R} {K':S'->Option R'} (I:S->S'->Prop) (Z:R->R'->Prop) (hn:n <= 1000) (h0:I s0 t0)
  (h:∀ i s s',i < n->I s s'->E2 I Z (f i s) (g i s')) (hK:∀ u u',I u u'->P (K u) (K' u')) (hZ:∀ b b',Z b b'->P (some b) (some b')):P (jn (wGa 0 (n:Int) f s0) K) (jn (wGa 0 (n:Int) g t0) K'):=by
 rcases wQc I Z hn h0 h with ⟨u,u',h1,h2,h3⟩ | ⟨u,u',h1,h2,h3⟩
 ·rw [h1,h2];exact hK u u' h3
 ·rw [h1,h2];exact hZ u u' h3
theorem for2 {S S' R R':Type} {P:Option R->Option R'->Prop} {f:Nat->S->Option S} {g:Nat->S'->Option S'} {n:Nat} {s0:S} {t0:S'} {K:S->Option R} {K':S'->Option R'} (I:Nat->S->S'->Prop) (hn:n <= 1000) (h0:I 0 s0 t0)
  (h:∀ i s s',i < n->I i s s'->N2 (I (i + 1)) (f i s) (g i s')) (hK:∀ u u',I n u u'->P (K u) (K' u')):P ((wCs 0 (n:Int) f s0).bind K) ((wCs 0 (n:Int) g t0).bind K'):=by
 obtain ⟨u,u',h1,h2,h3⟩:=wIy I hn h0 h
 rw [h1,h2];exact hK u u' h3
abbrev MB:=List (Int × Bool)
structure wNh (D D':wAL):Prop where
 ab:D'.about=D.about
 dl:D'.Record.Deadline=D.Record.Deadline
 len:∀ k,(wAk D.about k []).length <= 40
 inn:∀ k,∀ y ∈ wAk D.about k [],k < y.Number/\1 <= y.Number/\y.Number <= 20/\0 <= y.Much/\y.Much <= 36000
structure RlV (t t':MB):Prop where
 eq:∀ k,k ≠ 900->wGV t k=wGV t' k
 nine:wGV t' 900=none \/ wGV t' 900=some true
theorem RlV.nil:RlV [] []:=⟨fun _ _=>rfl,.inl rfl⟩
theorem RlV.put {t t':MB} (r:RlV t t') {k:Int} (hk:k ≠ 900) (b:Bool):RlV (mput t k b) (mput t' k b):=by
 refine ⟨fun j hj=>?_,?_⟩
 ·rw [wFr,wFr,r.eq j hj]
 ·rw [wFr,if_neg (fun h=>hk h.symm)];exact r.nine
theorem RlV.put9 {t t':MB} (r:RlV t t'):RlV t (mput t' 900 true):=by
 refine ⟨fun j hj=>?_,?_⟩
 ·rw [wFr,if_neg hj,r.eq j hj]
 ·rw [wFr,if_pos rfl];exact .inr rfl
def RB {α:Type} (A:α->Prop) (u u':α × MB):Prop:=u.1=u'.1/\RlV u.2 u'.2/\A u.1
def I3 (L:List wAA) (u u':wAA × Bool × MB):Prop:=u.1=u'.1/\u.2.1=u'.2.1/\RlV u.2.2 u'.2.2/\(u.2.1=true->u.1 ∈ L)
abbrev VF:=wAA->Unit->Unit->Unit->(wAL × List Int × List (Int × Bool))->Option (Bool × (List (Int × Bool)))
def IH (D D':wAL) (n:Nat) (f:VF):Prop:=∀ (x:wAA) (t t':MB),1 <= x.Number->x.Number <= 20->21 <= (n:Int) + x.Number->RlV t t'->N2 (RB fun _=>True) (f x () () () (D,[],t)) (f x () () () (D',[],t'))
variable {D D':wAL}
theorem wRe (T:wNh D D') {f:VF} {n:Nat} (ih:IH D D' n f) {p1:Int->Option Bool} (hp:∀ k,∃ b,p1 k=some b) {x:wAA} (hx:∀ y ∈ wAk D.about x.Number [],21 <= (n:Int) + y.Number) {t t':MB} (r:RlV t t') :
  N2 (I3 (wAk D.about x.Number [])) (wBT f x p1 () (D,[],t)) (wBT f x p1 () (D',[],t')):=by
 have hl:=T.len x.Number
 unfold wBT
 simp only [T.ab]
 refine jn2 (fun s s'=>RlV s s') (I3 (wAk D.about x.Number [])) (by omega) r (fun i s s' hi hs=>?_) (fun u u' hu=>?_) (fun b b' hb=>?_)
 ·rw [wCi hi,nA,nA]
  obtain ⟨b,hb⟩:=hp (gd (wAk D.about x.Number []) i).Kind
  rw [hb,nA,nA]
  have hm:=wDp hi
  have hi2:=T.inn _ _ hm
  cases b
  ·exact .inl ⟨s,s',rfl,rfl,hs⟩
  ·rw [if_pos rfl,if_pos rfl]
   refine N2.bind (ih _ s s' hi2.2.1 hi2.2.2.1 (hx _ hm) hs) ?_
   rintro ⟨v,w⟩ ⟨v',w'⟩ ⟨hv,hw,_⟩
   simp only at hv hw
   subst hv
   cases v
   ·exact .inl ⟨w,w',rfl,rfl,hw⟩
   ·exact .inr ⟨_,_,rfl,rfl,rfl,rfl,hw,fun _=>hm⟩
 ·exact ⟨_,_,rfl,rfl,rfl,rfl,hu,fun h=>nomatch h⟩
 ·exact ⟨_,_,rfl,rfl,hb⟩
theorem wRf (T:wNh D D') {f:VF} {n:Nat} (ih:IH D D' n f) {x:wAA} (hx:∀ y ∈ wAk D.about x.Number [],21 <= (n:Int) + y.Number) {t t':MB} (r:RlV t t') :
  N2 (RB fun _=>True) (wBf f x (D,[],t) ()) (wBf f x (D',[],t') ()):=by
 unfold wBf wDP
 simp only
 refine N2.bind (I:=I3 (wAk D.about x.Number [])) (N2.bind (wRe T ih (fun k=>by unfold wBN;split <;> exact ⟨_,rfl⟩) hx r) fun u u' h=>⟨_,_,rfl,rfl,h⟩) ?_
 rintro ⟨y,b,w⟩ ⟨y',b',w'⟩ ⟨h1,h2,h3,_⟩
 simp only at h1 h2 h3
 subst h1 h2
 simp only
 cases b
 ·rw [if_neg (by decide),if_neg (by decide),wIx _ (by simp),nA,nA]
  exact ⟨_,_,rfl,rfl,rfl,h3,trivial⟩
 ·exact ⟨_,_,rfl,rfl,rfl,h3,trivial⟩
theorem wQm (T:wNh D D') (x:wAA):∃ b,wCI D x=some b/\wCI D' x=some b:=by
 unfold wCI wDu
 rw [T.dl]
 by_cases c:x.Kind=4
 ·rw [if_pos c,nA,if_pos rfl];exact ⟨_,rfl,rfl⟩
 ·rw [if_neg c,nA]
  split <;> exact ⟨_,rfl,rfl⟩
theorem wMw (T:wNh D D'):∀ n,IH D D' n (wAa n)
 | 0=>fun x t t' h1 h2 h3 _=>by omega
 | n + 1=>fun x t t' h1 h2 h3 r=>by
  have ih:=wMw T n
  have hl:=T.len x.Number
  have e:=r.eq x.Number (by omega)
  have e1:wKT t' x.Number=wKT t x.Number:=by unfold wKT;rw [e]
  have e2:wAk t' x.Number false=wAk t x.Number false:=by unfold wAk;rw [e]
  show N2 _ (wBA (wAa n) x () () () (D,[],t)) (wBA (wAa n) x () () () (D',[],t'))
  unfold wBA
  simp only [T.ab,e1,e2]
  by_cases c:wKT t x.Number=true
  ·rw [if_pos c,if_pos c];exact ⟨_,_,rfl,rfl,rfl,r,trivial⟩
  rw [if_neg c,if_neg c]
  obtain ⟨b,l1,l2⟩:=wQm T x
  rw [l1,l2,nA,nA]
  refine for2 (fun _ (u u':MB × Bool)=>RlV u.1 u'.1/\u.2=u'.2) (by omega) ⟨r,rfl⟩ (fun i u u' hi hu=>?_) fun u u' hu=>?_
  ·obtain ⟨w,v⟩:=u
   obtain ⟨w',v'⟩:=u'
   obtain ⟨hw,hv⟩:=hu
   simp only at hw hv
   subst hv
   simp only
   have hm:=wDp hi
   have hi2:=T.inn _ _ hm
   rw [wCi hi,nA,nA]
   obtain ⟨q,hq⟩:∃ q,(if (gd (wAk D.about x.Number []) i).Kind=5 then some true else if (gd (wAk D.about x.Number []) i).Kind=7 then (wBN x.Kind).bind fun x100=>some (!x100) else some false)=some q:=by
    split
    ·exact ⟨_,rfl⟩
    ·split
     ·unfold wBN
      split <;> exact ⟨_,rfl⟩
     ·exact ⟨_,rfl⟩
   rw [hq,nA,nA]
   refine N2.bind (I:=fun (u u':MB × Bool)=>RlV u.1 u'.1/\u.2=u'.2) ?_ fun u u' h=>⟨_,_,rfl,rfl,h⟩
   cases v
   ·exact ⟨_,_,rfl,rfl,hw,rfl⟩
   cases q
   ·exact ⟨_,_,rfl,rfl,hw,rfl⟩
   simp only [if_true]
   refine N2.bind (ih _ w w' hi2.2.1 hi2.2.2.1 (by omega) hw) ?_
   rintro ⟨v,z⟩ ⟨v',z'⟩ ⟨hv,hz,_⟩
   simp only at hv hz
   subst hv
   simp only
   cases v
   ·exact ⟨_,_,rfl,rfl,hz,rfl⟩
   simp only [if_true]
   by_cases c5:(gd (wAk D.about x.Number []) i).Kind=5
   ·rw [if_pos c5,if_pos c5];exact ⟨_,_,rfl,rfl,hz,rfl⟩
   rw [if_neg c5,if_neg c5]
   refine N2.bind (wRf T ih (fun y hy=>by have:=T.inn _ _ hy;omega) hz) ?_
   rintro ⟨v,y⟩ ⟨v',y'⟩ ⟨hv,hy,_⟩
   simp only at hv hy
   subst hv
   cases v
   ·exact ⟨_,_,rfl,rfl,hy,rfl⟩
   ·exact ⟨_,_,rfl,rfl,hy,rfl⟩
  ·obtain ⟨w,v⟩:=u
   obtain ⟨w',v'⟩:=u'
   obtain ⟨hw,hv⟩:=hu
   simp only at hw hv
   subst hv
   exact ⟨_,_,rfl,rfl,rfl,hw.put (by omega) _,trivial⟩
theorem wVL (T:wNh D D') (x:wAA) {t t':MB} (r:RlV t t'):N2 (I3 (wAk D.about x.Number [])) (wBg x (D,[],t)) (wBg x (D',[],t')):=by
 unfold wBg
 exact N2.bind (wRe T (wMw T 1000) (fun k=>⟨_,rfl⟩) (fun y hy=>by have:=T.inn _ _ hy;omega) r) fun u u' h=>⟨_,_,rfl,rfl,h⟩
def mOK (m:Int):Prop:=0 <= m/\m <= 36000
theorem wRg (T:wNh D D'):∀ (n:Nat) (x:wAA) (t t':MB),1 <= n->21 <= (n:Int) + x.Number->mOK x.Much->RlV t t'->N2 (RB mOK) (wAP n x (D,[],t)) (wAP n x (D',[],t'))
 | 0=>fun x t t' h1 _ _ _=>by omega
 | n + 1=>fun x t t' h1 h2 hm r=>by
  show N2 _ (wBB (wAP n) x (D,[],t)) (wBB (wAP n) x (D',[],t'))
  unfold wBB
  refine N2.bind (wVL T x r) ?_
  rintro ⟨y,b,w⟩ ⟨y',b',w'⟩ ⟨h3,h4,h5,h6⟩
  simp only at h3 h4 h5 h6
  subst h3 h4
  simp only
  cases b
  ·exact ⟨_,_,rfl,rfl,rfl,h5,hm⟩
  ·have:=T.inn _ _ (h6 rfl)
   simp only [if_true]
   exact N2.bind (wRg T n y w w' (by omega) (by omega) ⟨by omega,by omega⟩ h5) fun u u' h=>⟨_,_,rfl,rfl,h⟩
theorem wTL (T:wNh D D') {x:wAA} (h1:1 <= x.Number) (h2:x.Number <= 20) (bib:Int) {t t':MB} (r:RlV t t'):N2 (RB fun b=>b=true->x.Kind <= 4) (wBh (D,[],t) x bib) (wBh (D',[],t') x bib):=by
 unfold wBh wAh
 simp only [nA,decide_eq_true_eq]
 by_cases c:x.Kind <= 4
 ·rw [if_pos c,if_pos c]
  by_cases c2:x.Bib=bib
  ·rw [if_pos c2,if_pos c2]
   refine N2.bind (wMw T 1000 x t t' h1 h2 (by omega) r) ?_
   rintro ⟨v,w⟩ ⟨v',w'⟩ ⟨hv,hw,_⟩
   simp only at hv hw
   subst hv
   simp only
   cases v
   ·exact ⟨_,_,rfl,rfl,rfl,hw,fun _=>c⟩
   simp only [if_true]
   by_cases c3:x.Kind=4
   ·rw [if_pos c3,if_pos c3]
    refine N2.bind (wRf T (wMw T 1000) (fun y hy=>by have:=T.inn _ _ hy;omega) hw) ?_
    rintro ⟨v,y⟩ ⟨v',y'⟩ ⟨hv,hy,_⟩
    simp only at hv hy
    subst hv
    exact ⟨_,_,rfl,rfl,rfl,hy,fun _=>c⟩
   ·rw [if_neg c3,if_neg c3]
    exact ⟨_,_,rfl,rfl,rfl,hw,fun _=>c⟩
  ·rw [if_neg c2,if_neg c2]
   exact ⟨_,_,rfl,rfl,rfl,r,fun _=>c⟩
 ·rw [if_neg c,if_neg c]
  exact ⟨_,_,rfl,rfl,rfl,r,fun h=>nomatch h⟩
variable {D D':wAL}
def pen (bib m:Int):wAA:=⟨900,0,0,bib,m,0⟩
theorem no9 (T:wNh D D'):wAk D'.about 900 []=[]:=by
 rw [T.ab]
 apply List.eq_nil_iff_forall_not_mem.2
 intro y hy
 have:=T.inn _ _ hy
 omega
theorem v2_9 (T:wNh D D') {bib m:Int} {t t':MB} (r:RlV t t'):∃ s',wAa 1000 (pen bib m) () () () (D',[],t')=some (true,s')/\RlV t s':=by
 show ∃ s',wBA (wAa 999) (pen bib m) () () () (D',[],t')=some (true,s')/\RlV t s'
 unfold wBA
 simp only [pen]
 by_cases c:wKT t' 900=true
 ·rw [if_pos c]
  have e:wGV t' 900=some true:=by
   rcases r.nine with h | h
   ·unfold wKT at c;rw [h] at c;cases c
   ·exact h
  exact ⟨t',by unfold wAk;rw [e];rfl,r⟩
 ·rw [if_neg c,show wCI D' ⟨900,0,0,bib,m,0⟩=some false from rfl,nA,no9 T]
  exact ⟨_,rfl,r.put9⟩
theorem has_9 (T:wNh D D') {b2 m:Int} (bib:Int) {t t':MB} (r:RlV t t'):∃ s',wBh (D',[],t') (pen b2 m) bib=some (decide (b2=bib),s')/\RlV t s':=by
 unfold wBh wAh
 simp only [nA]
 rw [if_pos (show decide ((pen b2 m).Kind <= 4)=true from rfl)]
 by_cases c:b2=bib
 ·obtain ⟨s',e,h⟩:=v2_9 T (bib:=b2) (m:=m) r
  rw [if_pos (show (pen b2 m).Bib=bib from c),e,nA,decide_eq_true c]
  exact ⟨s',rfl,h⟩
 ·rw [if_neg (show ¬ (pen b2 m).Bib=bib from c),decide_eq_false c]
  exact ⟨t',rfl,r⟩
theorem wVM (T:wNh D D') {bib m:Int} (t':MB):wAP 1000 (pen bib m) (D',[],t')=some (m,t'):=by
 show wBB (wAP 999) (pen bib m) (D',[],t')=some (m,t')
 unfold wBB wBg wBT
 simp only [pen]
 rw [no9 T]
 rfl
abbrev Cx:=wAL × List Int × List (Int × Bool)
def wRh (p1:wAH) (p2:Cx) (x69:wAA) (st:MB × Bool × Int):Option (MB × Bool × Int):=match st with
 | (l29,b32,x33) =>
  (wBh (p2.1,p2.2.1,l29) x69 p1.Bib).bind fun (x96,x97) =>
  if x96=true then
   (if b32=true then
    some true
   else
    some (decide (x69.Kind=3))).bind fun b113 =>
   if x69.Kind=0 then
    (wAw).bind fun _ =>
    (wAP 1000 x69 (p2.1,p2.2.1,x97)).bind fun (x255,x256) =>
    (wBm x33 x255).bind fun x269 =>
    some (x256,b113,x269)
   else
    if x69.Kind=1 then
     (wAw).bind fun _ =>
     (wAP 1000 x69 (p2.1,p2.2.1,x97)).bind fun (x405,x406) =>
     (wDC x33 x405).bind fun x419 =>
     some (x406,b113,x419)
    else
     if x69.Kind=2 then
      (wAw).bind fun _ =>
      (wAP 1000 x69 (p2.1,p2.2.1,x97)).bind fun (x555,x556) =>
      (wDD x33 x555).bind fun x569 =>
      some (x556,b113,x569)
     else
      if x69.Kind=3 then
       (wAw).bind fun _ =>
       (wAP 1000 x69 (p2.1,p2.2.1,x97)).bind fun (x705,x706) =>
       (wDE x33 x705).bind fun x719 =>
       some (x706,b113,x719)
      else
       if x69.Kind=4 then
        (wAw).bind fun _ =>
        (wAP 1000 x69 (p2.1,p2.2.1,x97)).bind fun (x855,x856) =>
        (wBm x33 x855).bind fun x869 =>
        some (x856,b113,x869)
       else
        none
  else
   some (x97,b32,x33)
theorem wLH (p0:wAL) (p1:wAH) (p2:Cx):wBo p0 p1 p2 =
  (wCs 0 (↑p0.Record.Decisions.length:Int) (fun k34 (l29,b32,x33)=>((idx p0.Record.Decisions (↑k34:Int)).bind fun x69=>wRh p1 p2 x69 (l29,b32,x33)).bind fun (l61,b64,x65)=>some (l61,b64,x65)) (p2.2.2,decide (p1.Time=(-1)),p1.Time)).bind fun (y39,y40,y41) =>
  if y40=true then
   some (0,true,y39)
  else
   (wDU 0 [y41]).bind fun x944 =>
   some (x944,false,y39):=rfl
def TI (lo:Int) (u u':MB × Bool × Int):Prop:=RlV u.1 u'.1/\u.2=u'.2/\-lo <= u.2.2/\u.2.2 <= lo
theorem wQn (T:wNh D D') {x:wAA} (hd:DOK x) (h2:x.Number <= 20) (sk:wAH) (q q':MB) {lo:Int} (l0:lo <= 10000000000) {u u':MB × Bool × Int} (h:TI lo u u') :
  N2 (TI (lo + 50000000)) (wRh sk (D,[],q) x u) (wRh sk (D',[],q') x u'):=by
 obtain ⟨t,b,v⟩:=u
 obtain ⟨t',b',v'⟩:=u'
 obtain ⟨r,e,v0,v1⟩:=h
 simp only [aD] at r e v0 v1
 obtain ⟨rfl,rfl⟩:=e
 unfold wRh
 simp only
 refine N2.bind (wTL T hd.n0 h2 sk.Bib r) ?_
 rintro ⟨z,w⟩ ⟨z',w'⟩ ⟨hz,hw,hk⟩
 simp only at hz hw hk
 subst hz
 simp only
 cases z
 ·exact ⟨_,_,rfl,rfl,hw,rfl,by simp only;omega,by simp only;omega⟩
 simp only [if_true]
 have k4:=hk rfl
 have k0:=hd.k0
 have V:=wRg T 1000 x w w' (by omega) (by have:=hd.n0;omega) ⟨hd.u0,hd.u1⟩ hw
 obtain ⟨c,hc⟩:∃ c,(if b=true then some true else some (decide (x.Kind=3)))=some c:=by split <;> exact ⟨_,rfl⟩
 rw [hc,nA,nA,show wAw=some () from rfl]
 unfold wBm wDC wDD wDE
 simp only [nA]
 have fin:∀ (f:Int->Int),(∀ m,mOK m->-(lo + 50000000) <= f m/\f m <= lo + 50000000)->N2 (TI (lo + 50000000)) ((wAP 1000 x (D,[],w)).bind fun y=>some (y.2,c,f y.1)) ((wAP 1000 x (D',[],w')).bind fun y=>some (y.2,c,f y.1)):=by
  intro f hf
  refine N2.bind V ?_
  rintro ⟨m,y⟩ ⟨m',y'⟩ ⟨h1,h2,h3⟩
  simp only at h1 h2 h3
  subst h1
  have:=hf m h3
  exact ⟨_,_,rfl,rfl,h2,rfl,this.1,this.2⟩
 by_cases c0:x.Kind=0
 ·rw [if_pos c0,if_pos c0]
  exact fin (fun m=>w64 (v + m)) fun m hm=>by unfold mOK at hm;rw [wAT (by omega) (by omega)];omega
 rw [if_neg c0,if_neg c0]
 by_cases c1:x.Kind=1
 ·rw [if_pos c1,if_pos c1]
  exact fin (fun m=>w64 (v - m)) fun m hm=>by unfold mOK at hm;rw [wAT (by omega) (by omega)];omega
 rw [if_neg c1,if_neg c1]
 by_cases c2:x.Kind=2
 ·rw [if_pos c2,if_pos c2]
  exact fin (fun m=>w64 (v + w64 (1200 * m))) fun m hm=>by unfold mOK at hm;rw [wAT (x:=1200 * m) (by omega) (by omega),wAT (by omega) (by omega)];omega
 rw [if_neg c2,if_neg c2]
 by_cases c3:x.Kind=3
 ·rw [if_pos c3,if_pos c3]
  exact fin (fun _=>v) fun m hm=>by omega
 rw [if_neg c3,if_neg c3,if_pos (by omega),if_pos (by omega)]
 exact fin (fun m=>w64 (v + m)) fun m hm=>by unfold mOK at hm;rw [wAT (by omega) (by omega)];omega
structure TwoP (D D':wAL) (s:List wAA) (b2 m:Int):Prop where
 two:wNh D D'
 d1:D.Record.Decisions=s
 d2:D'.Record.Decisions=s ++ [pen b2 m]
 sok:SOK s
 n20:∀ x ∈ s,x.Number <= 20
 m0:0 <= m
 m1:m <= 36000
theorem wPc {s:List wAA} {b2 m:Int} (T:TwoP D D' s b2 m) {sk:wAH} (s0:-1 <= sk.Time) (s1:sk.Time <= 360000) {t t':MB} (r:RlV t t') :
  ∃ v o v' w w',wBo D sk (D,[],t)=some (v,o,w)/\wBo D' sk (D',[],t')=some (v',o,w')/\RlV w w'/\v <= v'/\(sk.Bib ≠ b2->v'=v):=by
 have sl:=T.sok.len
 rw [wLH,wLH,T.d1,T.d2,nG,nH,wNg (by omega)]
 obtain ⟨⟨w,b,v⟩,⟨w',b',v'⟩,e1,e2,hw,e,v0,v1⟩:=wIy (n:=s.length) (f:=fun k34 (l29,b32,x33)=>((idx s (↑k34:Int)).bind fun x69=>wRh sk (D,[],t) x69 (l29,b32,x33)).bind fun (l61,b64,x65)=>some (l61,b64,x65))
  (g:=fun k34 (l29,b32,x33)=>((idx (s ++ [pen b2 m]) (↑k34:Int)).bind fun x69=>wRh sk (D',[],t') x69 (l29,b32,x33)).bind fun (l61,b64,x65)=>some (l61,b64,x65)) (s0:=(t,decide (sk.Time=(-1)),sk.Time)) (t0:=(t',decide (sk.Time=(-1)),sk.Time))
  (fun i u u'=>TI (400000 + 50000000 * i) u u') (by omega) ⟨r,rfl,by simp only;omega,by simp only;omega⟩ fun i u u' hi h=>by
   have hm:=wDp hi
   obtain ⟨a,b,c⟩:=u
   obtain ⟨a',b',c'⟩:=u'
   simp only
   rw [wCi hi,wCi (l:=s ++ [pen b2 m]) (k:=i) (by simp;omega),wFo hi,nA,nA]
   obtain ⟨u,u',h1,h2,h3⟩:=wQn T.two (T.sok.ok _ hm) (T.n20 _ hm) sk t t' (by omega) h
   rw [h1,h2]
   refine ⟨u,u',rfl,rfl,?_⟩
   rwa [show (400000:Int) + 50000000 * ((i + 1:Nat):Int)=400000 + 50000000 * (i:Int) + 50000000 by omega]
 simp only at hw e v0 v1
 simp only [aD] at e
 obtain ⟨rfl,rfl⟩:=e
 simp only [e1,e2,nA]
 have eg:gd (s ++ [pen b2 m]) s.length=pen b2 m:=wFp _ _ _
 rw [wCi (l:=s ++ [pen b2 m]) (k:=s.length) (by simp),eg,nA]
 have m0:=T.m0
 have m1:=T.m1
 have last:∃ z,wRh sk (D',[],t') (pen b2 m) (w',b,v)=some (z,b,if b2=sk.Bib then v + m else v)/\RlV w z:=by
  obtain ⟨z,hz,rz⟩:=has_9 T.two (b2:=b2) (m:=m) sk.Bib hw
  refine ⟨z,?_,rz⟩
  unfold wRh
  simp only
  rw [hz,nA]
  simp only
  by_cases c:b2=sk.Bib
  ·rw [if_pos (decide_eq_true c),show (if b=true then some true else some (decide ((pen b2 m).Kind=3)))=some b by cases b <;> rfl,nA,if_pos (show (pen b2 m).Kind=0 from rfl),show wAw=some () from rfl,nA,wVM T.two,nA]
   simp only
   unfold wBm
   rw [wAT (by omega) (by omega),nA,if_pos c]
  ·rw [if_neg (by rw [decide_eq_false c];decide),if_neg c]
 obtain ⟨z,hz,rz⟩:=last
 rw [hz,nA,nA]
 have gr:∀ q:Int,wDU 0 [q]=some (max 0 q):=fun q=>rfl
 simp only [gr,nA]
 cases b
 ·refine ⟨_,_,_,_,_,rfl,rfl,rz,?_,fun h=>?_⟩
  ·split <;> omega
  ·rw [if_neg (fun e=>h e.symm)]
 ·exact ⟨_,_,_,_,_,rfl,rfl,rz,kP _,fun h=>rfl⟩
end Go.Proofs.YtlkkhhcfemmmdaaGreat
