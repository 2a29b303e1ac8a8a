import Derived.Test.YtnbcoenjobdplaaGreatC0
set_option linter.all false
open List renaming getElem?_eq_getElem->hD,range->nA,contains_iff_mem->nB,append_assoc->nE,mem_of_getElem?->nG,perm_append_comm->nH,mem_range->nI,flatMap_cons->nK,drop_eq_getElem_cons->nL,flatMap_def->nM,all_eq_true->nN,getElem?_eq_none->nP,getD_eq_getElem?_getD->nS,getElem?_map->nT,any_eq_true->nU,append_nil->nY,map_congr_left->nZ,flatMap_append->na,mem_cons->ng,flatten_cons->nh,getElem?_eq_some_iff->nj,drop_eq_nil_of_le->nu,range_eq_range'->nv,getElem?_drop->nw,length_append->ny,ext_getElem?->nz,range'->kB
open Option.some renaming inj->nD
open Nat renaming le_refl->nJ,zero_add->nO,strongRecOn->nW,lt_or_eq_of_le->nb,blt_eq->ni,blt->nk,lt_or_ge->nl
open Array renaming getD_eq_getD_getElem?->nQ,getElem?_replicate->nm,replicate->nq
open Bool renaming and_eq_true->nR,or_eq_true->nX,false_eq_true->nf,eq_iff_iff->np,eq_false_iff->kA
open List.Perm renaming append_left->nV
open Option renaming bind_some->kC
open Classical renaming em->kD
namespace Go.KL
open Go.RowKit
section
variable {P:Program} {r:Option Nat} {N:Nat} {Q:wEn} {D:List Deferred} {l:List Oper}
theorem CK.anyDone {id:Nat} {σ:Env} {w:World} (hm:P.follows .mixedOrders=true) (hpr:∀ i,i < l.length->∀ j ∈ prI l i,j < i) (J:(Nat->Bool)->Env->World->Prop)
  (h0:J (fun _=>false) σ { w with drawn:=w.drawn + 1 })
  (step:∀ S i σ w,i < l.length->S i=false->(∀ j ∈ prI l i,S j=true)->(∀ k,k < l.length->S k=true->∀ j ∈ prI l k,S j=true)->(∀ k,S k=true->k < l.length)->J S σ w ->
   ∃ o,l[i]?=some o/\(∀ d,o.dst=some d->d < N)/\Step1 P l o σ w fun v w'=>J (fun k=>k == i || S k) (put' σ o v) w')
  (fin:∀ S σ w,(∀ i,i < l.length->S i=true)->J S σ w->Q D .normal σ w):CK r N P (.region id l.toArray true) Q D σ w:=by
 intro a ha
 refine wpIn_region_any hm ?_
 have prog:∀ (listed:Array Bool),listed.size=l.length->Region.ready .any l.toArray listed=[]->∀ i,i < l.length->listed.getD i false=true:=by
  intro listed hsz hnil i
  induction i using nW with
  | _ i ih =>
   intro hi
   cases hb:listed.getD i false with
   | true=>rfl
   | false =>
    have:i ∈ Region.ready .any l.toArray listed:=(wFb hsz).2 ⟨hi,hb,fun j hj=>ih j (hpr i hi j hj) (Nat.lt_trans (hpr i hi j hj) hi)⟩
    rw [hnil] at this;cases this
 have core:∀ (fuel:Nat) (listed:Array Bool) (σ:Env) (a:Act) (w:World),listed.size=l.length->Rep N D a σ->(∀ k,k < l.length->listed.getD k false=true->∀ j ∈ prI l k,listed.getD j false=true) ->
   J (fun i=>listed.getD i false) σ w->(listed.toList.filter (! ·)).length <= fuel->wpAnyIn (WF r) 0 P .any l.toArray (wNK N Q) fuel listed a w:=by
  intro fuel
  induction fuel with
  | zero =>
   intro listed σ a w hsz hr hdc hJ hf
   have hall:∀ i,i < l.length->listed.getD i false=true:=by
    intro i hi
    cases hb:listed.getD i false with
    | true=>rfl
    | false=>have:=wHo listed i (by omega) hb;omega
   refine ⟨?_,σ,D,hr,fin _ σ w hall hJ⟩
   cases hr:Region.ready .any l.toArray listed with
   | nil=>rfl
   | cons x xs =>
    have hx:x ∈ Region.ready .any l.toArray listed:=by rw [hr];simp
    obtain ⟨h1,h2,_⟩:=(wFb hsz).1 hx
    rw [hall x h1] at h2;cases h2
  | succ fuel ih =>
   intro listed σ a w hsz hr hdc hJ hf
   refine ⟨fun hnil=>⟨σ,D,hr,fin _ σ w (prog listed hsz hnil) hJ⟩,fun i hi=>?_⟩
   obtain ⟨hlt,hun,hpi⟩:=(wFb hsz).1 hi
   have hsz':(listed.setIfInBounds i true).size=l.length:=by simpa using hsz
   have hf':((listed.setIfInBounds i true).toList.filter (! ·)).length <= fuel:=by have:=wHo listed i (by omega) hun;omega
   have hS:∀ k,listed.getD k false=true->k < l.length:=by
    intro k hk
    rcases nl k l.length with h | h
    ·exact h
    ·rw [nQ,Array.getElem?_eq_none (by omega)] at hk;cases hk
   obtain ⟨o,ho,hN,hst⟩:=step _ i σ w hlt hun hpi hdc hS hJ
   refine wJC ho hr hN hst ?_
   intro v w' a' hr' hJ'
   refine ih _ (put' σ o v) a' w' hsz' hr' ?_ ?_ hf'
   ·intro k hk hkl j hj
    rw [wHn (by omega)] at hkl ⊢
    rcases hkl with rfl | hkl
    ·exact .inr (hpi j hj)
    ·exact .inr (hdc k hk hkl j hj)
   ·have e:(fun k=>(listed.setIfInBounds i true).getD k false)=fun k=>k == i || listed.getD k false:=by
     funext k
     rw [np,wHn (by omega),nX,beq_iff_eq]
    rw [e]
    exact hJ'
 have rep:∀ k,(nq l.toArray.size false).getD k false=false:=by
  intro k
  rw [nQ,nm]
  split <;> rfl
 refine core l.toArray.size (nq l.toArray.size false) σ a _ (by simp) ha ?_ ?_ ?_
 ·intro k hk hkl
  rw [rep k] at hkl
  cases hkl
 ·have e:(fun i=>(nq l.toArray.size false).getD i false)=fun _=>false:=by
   funext i
   rw [nQ,nm]
   split <;> rfl
  rw [e]
  exact h0
 ·exact Nat.le_trans (List.length_filter_le _ _) (by simp)
theorem wLB {sz:Nat}:∀ (a:Nat) {vss:List (List Value)},(∀ vs ∈ vss,vs.length=sz)->vss.flatten.drop (a * sz)=(vss.drop a).flatten
 | 0,_,_=>by simp
 | a + 1,[],_=>by simp
 | a + 1,v :: vss,h=>by
  rw [nh,List.drop_succ_cons,<- wLB a fun vs hv=>h vs (.tail _ hv),Nat.succ_mul,Nat.add_comm,<- List.drop_drop,List.drop_left' (h v (.head _))]
theorem wLC {sz:Nat}:∀ (a:Nat) {vss:List (List Value)},(∀ vs ∈ vss,vs.length=sz)->vss.flatten.take (a * sz)=(vss.take a).flatten
 | 0,_,_=>by simp
 | a + 1,[],_=>by simp
 | a + 1,v :: vss,h=>by
  have e:=h v (.head _)
  rw [nh,List.take_succ_cons,nh,<- wLC a fun vs hv=>h vs (.tail _ hv),Nat.succ_mul,Nat.add_comm,List.take_append,e,List.take_of_length_le (by omega)]
  congr 2
  omega
theorem SlR.cutM {α:Type} {U:PHeap} {R:Rl α} {c:Nat} {a b:Int} {A:Option Addr} {m xs:List α} (h:SlR U R A c m) (hm:Go.KL.cut m a b=some xs) :
  SlR U R (if c=a.toNat then A else A.map (·.add (a.toNat * R.sz))) (c - a.toNat) xs/\0 <= a/\a <= b/\b <= m.length/\xs.length=b.toNat - a.toNat:=by
 unfold Go.KL.cut at hm
 split at hm
 ·rename_i h0
  obtain ⟨h1,h2,h3⟩:=h0
  cases hm
  have hl:((m.drop a.toNat).take (b.toNat - a.toNat)).length=b.toNat - a.toNat:=by rw [List.length_take,List.length_drop];omega
  obtain ⟨cs,g1,vss,v1,v2,rfl⟩:=h
  have hv:∀ vs ∈ vss,vs.length=R.sz:=fun vs hv=>by obtain ⟨x,hx⟩:=RlL.each v1 v2 vs hv;exact R.len _ _ _ hx
  have:=g1.cut (a:=a.toNat) (b:=b.toNat) (by omega) (by omega)
  rw [wLB _ hv,wLC _ fun vs h=>hv vs (List.mem_of_mem_drop h)] at this
  refine ⟨⟨_,by rw [hl];exact this,(vss.drop a.toNat).take (b.toNat - a.toNat),by rw [hl,List.length_take,List.length_drop,v1];omega,fun i x vs hx hv=>?_,rfl⟩,h1,h2,h3,hl⟩
  rw [List.getElem?_take] at hx hv
  split at hx
  ·rename_i hi
   rw [if_pos hi,nw] at hv
   rw [nw] at hx
   exact v2 _ x vs hx hv
  ·cases hx
 ·cases hm
structure Wb where
 d:Nat
 use:List Nat
 need:List Nat
 fl:Bool
 post:Env->List Res->Prop
def wb0:Wb:=⟨0,[],[],false,fun _ _=>False⟩
def bk:Value->Nat
 | .slice (some a) _ _=>a.block
 | .pointer (some a)=>a.block
 | _=>0
def rsE (use:List Nat) (σ:Env):Env:=fun t=>bif use.contains t then σ t else undef
def Wb.at (a:Wb) (σ:Env) (R:List Res):Prop:=a.post (rsE a.use σ) R
theorem Wb.at_congr {a:Wb} {σ σ':Env} {R:List Res} (h:a.at σ R) (e:∀ t ∈ a.use,σ' t=σ t):a.at σ' R:=by
 have:rsE a.use σ'=rsE a.use σ:=by
  funext t
  unfold rsE
  cases c:a.use.contains t with
  | false=>rfl
  | true=>exact e t (nB.1 c)
 unfold Wb.at
 rw [this]
 exact h
def WbD (A:List Wb) (need:List Nat) (σ:Env):Prop:=∀ k ∈ need,∃ R,(A.getD k wb0).at σ R
def WbOK (N:Nat) (P:Program) (l:List Oper) (D:List Deferred) (B:Base) (U0:PHeap) (L0:List Res) (kn:List (Nat × Value)) (A:List Wb) (a:Wb) (i:Nat):Prop :=
 ∀ (Q:wEn) (σ:Env) (w:World) (U:PHeap) (L:List Res),Kn kn σ->PHeap.Le U0 U->WbD A a.need σ->St B U (L ++ L0) w ->
 (∀ v w' U' R,PHeap.Le U U'->St B U' (R ++ (L ++ L0)) w'->a.at (upd σ a.d v) R->OKS N P l Q D [] .nil (upd σ a.d v) w')->OKS N P l Q D [] (bif a.fl then .fl i .nil else .fx i .nil .stop) σ w
def WbH (N:Nat) (P:Program) (l:List Oper) (D:List Deferred) (B:Base) (U0:PHeap) (L0:List Res) (kn:List (Nat × Value)) (A:List Wb):List Wb->Nat->Prop
 | [],_=>True
 | a :: x,i=>WbOK N P l D B U0 L0 kn A a i/\WbH N P l D B U0 L0 kn A x (i + 1)
def WbE (G:Env->List Res->Prop):List Wb->Env->List Res->Prop
 | [],σ,L=>G σ L
 | a :: x,σ,L=>∀ R,a.at σ R->WbE G x σ (L ++ R)
def wbI (l:List Oper) (A:List Wb) (i:Nat):Bool:=match l[i]?,A[i]? with
 | some o,some a=>o.dst == some a.d && a.need.all (fun k=>(prI l i).any fun j=>j == k || (A.getD j wb0).need.contains k) && a.use.all (fun t=>t == a.d || a.need.any fun k=>(A.getD k wb0).d == t)
 | _,_=>false
def wRc (l:List Oper) (A:List Wb) (kn:List (Nat × Value)):Bool :=
 l.length == A.length + 1 && (nA l.length).all (fun i=>(prI l i).all (nk · i)) && (nA A.length).all (wbI l A) && decide ((A.map (·.d)).Nodup) && (nA A.length).all (fun k=>(prI l A.length).contains k) && A.all (fun a=>kn.all fun p=>!Nat.beq p.1 a.d)
theorem wPk {B:Base} {U0:PHeap} {L0:List Res} {kn:List (Nat × Value)} {A:List Wb}:∀ {x:List Wb} {i:Nat},WbH N P l D B U0 L0 kn A x i->∀ (k:Nat) (a:Wb),x[k]?=some a->WbOK N P l D B U0 L0 kn A a (i + k)
 | [],_,_,k,a,h=>by simp at h
 | b :: x,i,⟨h1,_⟩,0,a,h=>by
  simp at h
  subst h
  exact h1
 | _ :: x,i,⟨_,h2⟩,k + 1,a,h=>by
  have:=wPk h2 k a (by simpa using h)
  rwa [show i + 1 + k=i + (k + 1) by omega] at this
theorem wPl {G:Env->List Res->Prop} {σ:Env}:∀ (x:List Wb) (f:Nat->List Res) (i:Nat) (L:List Res),WbE G x σ L->(∀ (k:Nat) (a:Wb),x[k]?=some a->a.at σ (f (i + k)))->G σ (L ++ (kB i x.length).flatMap f)
 | [],f,i,L,h,_=>by simpa using (show G σ L from h)
 | a :: x,f,i,L,h,hp=>by
  have:=wPl x f (i + 1) _ (h (f i) (hp 0 a rfl)) fun k b hb=>by
   have:=hp (k + 1) b (by simpa using hb)
   rwa [show i + (k + 1)=i + 1 + k by omega] at this
  rw [List.length_cons,List.range'_succ,nK,<- nE]
  exact this
def dnL (S:Nat->Bool) (f:Nat->List Res) (n:Nat):List Res:=(nA n).flatMap fun k=>bif S k then f k else []
theorem wLD {S S':Nat->Bool} {f f':Nat->List Res} {n:Nat} (h:∀ k,k < n->S k=S' k/\(S k=true->f k=f' k)):dnL S f n=dnL S' f' n:=by
 unfold dnL
 rw [nM,nM]
 congr 1
 refine nZ fun k hk=>?_
 have:=h k (nI.1 hk)
 rw [<- this.1]
 cases c:S k with
 | false=>rfl
 | true=>exact this.2 c
theorem wOG {S:Nat->Bool} {f:Nat->List Res} {i:Nat} {R:List Res} (hs:S i=false):∀ {n:Nat},i < n->(R ++ dnL S f n).Perm (dnL (fun k=>k == i || S k) (fun k=>if k=i then R else f k) n)
 | 0,h=>by omega
 | n + 1,h=>by
  have sp:∀ (S:Nat->Bool) (f:Nat->List Res),dnL S f (n + 1)=dnL S f n ++ (bif S n then f n else []):=fun S f=>by
   unfold dnL
   rw [List.range_succ,na]
   simp
  rw [sp,sp]
  by_cases e:i=n
  ·subst e
   have:dnL (fun k=>k == i || S k) (fun k=>if k=i then R else f k) i=dnL S f i:=wLD fun k hk=>by
    have ne:¬ k=i:=by omega
    simp [ne]
   rw [this,hs]
   simp only [beq_self_eq_true,Bool.true_or,cond_true,if_true,cond_false,nY]
   exact nH
  ·have ne:¬ n=i:=fun h=>e h.symm
   have:(n == i || S n)=S n:=by simp [ne]
   simp only [this,if_neg ne]
   rw [<- nE]
   exact (wOG hs (by omega)).append_right _
theorem CK.webs {id:Nat} {σ:Env} {w:World} {B:Base} {U0:PHeap} {L0:List Res} (hm:P.follows .mixedOrders=true) (A:List Wb) (kn:List (Nat × Value)) (hc:wRc l A kn=true) (hk:Kn kn σ) (hS:St B U0 L0 w)
  (H:WbH N P l D B U0 L0 kn A A 0)
  (E:∀ (σ:Env) (w:World) (U:PHeap),Kn kn σ->PHeap.Le U0 U->WbE (fun σ L=>St B U (L ++ L0) w->OKS N P l Q D [] (.fx A.length .nil .stop) σ w) A σ []):CK r N P (.region id l.toArray true) Q D σ w:=by
 unfold wRc at hc
 simp only [nR,decide_eq_true_eq,nN,nI,ni,beq_iff_eq] at hc
 obtain ⟨⟨⟨⟨⟨hl,hpr⟩,hw⟩,hd⟩,hlast⟩,hkn⟩:=hc
 have one:∀ {Q:wEn} {i:Nat} {fl:Bool} {σ:Env} {w:World},OKS N P l Q D [] (bif fl then .fl i .nil else .fx i .nil .stop) σ w->∃ o,l[i]?=some o/\(∀ d,o.dst=some d->d < N)/\Step1 P l o σ w fun v w'=>Q D .normal (put' σ o v) w':=by
  intro Q i fl σ w h
  cases fl with
  | true =>
   obtain ⟨o,ho,hN,hf⟩:=h
   exact ⟨o,ho,hN,hf.step1.mono fun v w' ⟨e,q⟩=>e ▸ q⟩
  | false =>
   obtain ⟨⟨o,ho,hN,hf⟩,_⟩:=h
   exact ⟨o,ho,hN,hf.mono fun v w' ⟨_,q⟩=>q⟩
 have get:∀ k,k < A.length->∃ a,A[k]?=some a/\A.getD k wb0=a:=fun k hk=>⟨A[k],hD hk,by rw [nS,hD hk];rfl⟩
 have spec:∀ k,k < A.length->∃ o a,l[k]?=some o/\A[k]?=some a/\A.getD k wb0=a/\o.dst=some a.d/\(∀ m ∈ a.need,∃ j ∈ prI l k,j=m \/ m ∈ (A.getD j wb0).need)/\∀ t ∈ a.use,t=a.d \/ ∃ m ∈ a.need,(A.getD m wb0).d=t:=by
  intro k hk
  obtain ⟨a,h1,h2⟩:=get k hk
  have h:=hw k hk
  unfold wbI at h
  have hlk:k < l.length:=by omega
  rw [hD hlk,h1] at h
  simp only [nR,beq_iff_eq,nN,nU,nX,nB] at h
  exact ⟨l[k],a,hD hlk,h1,h2,h.1.1,h.1.2,h.2⟩
 have dist:∀ i k,i < A.length->k < A.length->(A.getD i wb0).d=(A.getD k wb0).d->i=k:=by
  intro i k hi hk e
  obtain ⟨a,h1,h2⟩:=get i hi
  obtain ⟨b,h3,h4⟩:=get k hk
  rw [h2,h4] at e
  have g1:(A.map (·.d))[i]?=some a.d:=by rw [nT,h1];rfl
  have g2:(A.map (·.d))[k]?=some a.d:=by rw [nT,h3,e];rfl
  exact (List.getElem?_inj (by rw [List.length_map];exact hi) hd).1 (g1.trans g2.symm)
 have needs:∀ (S:Nat->Bool),(∀ k,k < l.length->S k=true->∀ j ∈ prI l k,S j=true)->∀ j,j < A.length->S j=true->∀ m ∈ (A.getD j wb0).need,m < j/\S m=true:=by
  intro S hdc j
  induction j using nW with
  | _ j ih =>
   intro hj hs m hm
   obtain ⟨o,a,h1,h2,h3,h4,h5,h6⟩:=spec j hj
   rw [h3] at hm
   obtain ⟨i,hi,e⟩:=h5 m hm
   have hij:=hpr j (by omega) i hi
   have hsi:=hdc j (by omega) hs i hi
   rcases e with rfl | e
   ·exact ⟨hij,hsi⟩
   ·have:=ih i hij (by omega) hsi m e
    exact ⟨by omega,this.2⟩
 refine CK.anyDone hm (fun i hi j hj=>hpr i hi j hj) (fun S σ w=>(S A.length=true/\Q D .normal σ w) \/ (S A.length=false/\∃ (U:PHeap) (f:Nat->List Res),Kn kn σ/\PHeap.Le U0 U/\(∀ k,k < A.length->S k=true->(A.getD k wb0).at σ (f k))/\St B U (dnL S f A.length ++ L0) w)) (.inr ⟨rfl,U0,fun _=>[],hk,PHeap.Le.refl _,(fun k _ h=>by cases h),?_⟩) ?_ ?_
 ·have:dnL (fun _=>false) (fun _=>[]) A.length=[]:=by
   unfold dnL
   simp
  rw [this]
  exact hS.drew
 ·intro S i σ w hi hs hp hdc hlt hJ
  rcases hJ with ⟨hl2,_⟩ | ⟨hl2,U,f,hk,hle,hx,hS⟩
  ·have hin:i < A.length:=by
    by_cases e:i=A.length
    ·rw [e,hl2] at hs;cases hs
    ·omega
   have:=hdc A.length (by omega) hl2 i (nB.1 (hlast i hin))
   rw [hs] at this;cases this
  ·by_cases e:i=A.length
   ·subst e
    have all:∀ k,k < A.length->S k=true:=fun k hk=>hp k (nB.1 (hlast k hk))
    have h1:=wPl A f 0 [] (E σ w U hk hle) fun k a ha=>by
     have hk:k < A.length:=(nj.1 ha).1
     obtain ⟨b,h1,h2⟩:=get k hk
     rw [ha] at h1
     obtain rfl:=nD h1
     have:=hx k hk (all k hk)
     rw [h2] at this
     rwa [nO]
    have e2:dnL S f A.length=[] ++ (kB 0 A.length).flatMap f:=by
     rw [List.nil_append,<- nv,<- (wLD (S:=fun _=>true) (f:=f) (S':=S) (f':=f) fun k hk=>⟨(all k hk).symm,fun _=>rfl⟩)]
     rfl
    rw [e2] at hS
    obtain ⟨o,ho,hN,hst⟩:=one (fl:=false) (h1 hS)
    exact ⟨o,ho,hN,hst.mono fun v w' h=>.inl ⟨by simp,h⟩⟩
   ·have hin:i < A.length:=by omega
    obtain ⟨o,a,h1,h2,h3,h4,h5,h6⟩:=spec i hin
    have ok:=wPk H i a h2
    rw [nO] at ok
    have hwd:WbD A a.need σ:=fun m hm=>by
     obtain ⟨j,hj,e⟩:=h5 m hm
     have hsj:=hp j hj
     have hji:=hpr i hi j hj
     have:m < A.length/\S m=true:=by
      rcases e with rfl | e
      ·exact ⟨by omega,hsj⟩
      ·have:=needs S hdc j (by omega) hsj m e
       exact ⟨by omega,this.2⟩
     exact ⟨_,hx m this.1 this.2⟩
    have st:=ok (fun _ _ σ' w'=>((i == i || S i)=true/\∃ (U:PHeap) (f:Nat->List Res),Kn kn σ'/\PHeap.Le U0 U/\(∀ k,k < A.length->(k == i || S k)=true->(A.getD k wb0).at σ' (f k))/\St B U (dnL (fun k=>k == i || S k) f A.length ++ L0) w')) σ w U (dnL S f A.length) hk hle hwd hS fun v w' U' R g1 g2 g3=>by
     refine ⟨by simp,U',fun k=>if k=i then R else f k,hk.upd (nN.2 (hkn a (nG h2))),hle.trans g1,fun k hk hs'=>?_,?_⟩
     ·by_cases ek:k=i
      ·subst ek
       show (A.getD k wb0).at _ (if k=k then R else f k)
       rw [if_pos rfl,h3]
       exact g3
      ·show (A.getD k wb0).at _ (if k=i then R else f k)
       rw [if_neg ek]
       have hsk:S k=true:=by simpa [ek] using hs'
       refine Wb.at_congr (hx k hk hsk) fun t ht=>wOF ?_
       obtain ⟨_,b,_,_,b3,_,_,b6⟩:=spec k hk
       rw [b3] at ht
       rcases b6 t ht with rfl | ⟨m,hm,rfl⟩
       ·rw [<- b3,<- h3]
        exact fun e=>ek (dist k i hk hin e)
       ·rw [<- b3] at hm
        have:=needs S hdc k hk hsk m hm
        rw [<- h3]
        intro e
        have em:=dist m i (by omega) hin e
        have hsm:=this.2
        rw [em,hs] at hsm
        cases hsm
     ·refine (g2.permQ (?_:(R ++ (dnL S f A.length ++ L0)).Perm _))
      rw [<- nE]
      exact (wOG hs hin).append_right _
    obtain ⟨o',ho,hN,hst⟩:=one st
    rw [h1] at ho
    obtain rfl:=nD ho
    refine ⟨o,h1,hN,hst.mono fun v w' ⟨_,h⟩=>.inr ⟨?_,h⟩⟩
    have:¬ A.length=i:=fun h=>e h.symm
    simp [this,hl2]
 ·intro S σ w hall hJ
  rcases hJ with ⟨_,h⟩ | ⟨h,_⟩
  ·exact h
  ·rw [hall A.length (by omega)] at h;cases h
end
section
variable {P:Program} {r:Option Nat} {N:Nat} {Q:wEn} {D:List Deferred} {l:List Oper}
theorem wKU {H H':Nat->List Res} {n:Nat} (h:∀ k,k < n->H k=H' k):(nA n).flatMap H=(nA n).flatMap H':=by
 rw [nM,nM]
 congr 1
 exact nZ fun k hk=>h k (nI.1 hk)
theorem wLu (H:Nat->List Res) {i:Nat}:∀ {n:Nat},i < n->((nA n).flatMap H).Perm (H i ++ (nA n).flatMap fun k=>if k=i then [] else H k)
 | 0,h=>by omega
 | n + 1,h=>by
  rw [List.range_succ,na,na]
  simp only [nK,List.flatMap_nil,nY]
  by_cases e:i=n
  ·subst e
   rw [if_pos rfl,nY,wKU (H:=fun k=>if k=i then [] else H k) (H':=H) fun k hk=>if_neg (by omega)]
   exact nH
  ·rw [if_neg fun h=>e h.symm,<- nE]
   exact (wLu H (by omega)).append_right _
theorem wMh {n:Nat}:∀ (js:List Nat) (H:Nat->List Res),js.Nodup->(∀ j ∈ js,j < n)->((nA n).flatMap H).Perm (js.flatMap H ++ (nA n).flatMap fun k=>if k ∈ js then [] else H k)
 | [],H,_,_=>.of_eq (by simp)
 | j :: js,H,hd,hn=>by
  have hd:=List.nodup_cons.1 hd
  have p1:=wMh js H hd.2 fun i hi=>hn i (.tail _ hi)
  have p2:=wLu (fun k=>if k ∈ js then [] else H k) (hn j (.head _))
  simp only [if_neg hd.1] at p2
  have e:(nA n).flatMap (fun k=>if k=j then [] else if k ∈ js then [] else H k)=(nA n).flatMap fun k=>if k ∈ j :: js then [] else H k:=wKU fun k _=>by
   by_cases c:k=j
   ·simp [c]
   ·by_cases c2:k ∈ js <;> simp [c,c2]
  rw [e] at p2
  rw [nK]
  refine p1.trans ((p2.append_left _).trans ?_)
  rw [<- nE]
  exact nH.append_right _
structure Wp where
 d:Option Nat
 use:List Nat
 need:List Nat
 fl:Bool
 tk:List Nat
 tkn:Bool
 pre:List Res
 post:Env->List Res->Prop
def wp0:Wp:=⟨none,[],[],false,[],false,[],fun _ _=>False⟩
def Wp.at (a:Wp) (σ:Env) (R:List Res):Prop:=a.post (rsE a.use σ) R
theorem Wp.at_congr {a:Wp} {σ σ':Env} {R:List Res} (h:a.at σ R) (e:∀ t ∈ a.use,σ' t=σ t):a.at σ' R:=Wb.at_congr (a:=⟨0,a.use,[],false,a.post⟩) h e
def pW (d:Nat) (need:List Nat) (x:Value):Wp:=⟨some d,[d],need,true,[],false,[],fun σ R=>σ d=x/\R=[]⟩
def pX (d:Nat) (need:List Nat) (x:Value):Wp:=⟨some d,[d],need,false,[],false,[],fun σ R=>σ d=x/\R=[]⟩
theorem wPm (σ:Env) (d:Nat):rsE [d] σ d=σ d:=by simp [rsE]
def updo (σ:Env) (d:Option Nat) (v:Value):Env:=match d with
 | none=>σ
 | some d=>upd σ d v
def WpT (A:List Wp):List Nat->Env->List Res->Prop
 | [],_,R=>R=[]
 | j :: t,σ,R=>∃ R1 R2,(A.getD j wp0).at σ R1/\WpT A t σ R2/\R=R1 ++ R2
theorem wPn {A:List Wp} {σ:Env} {f:Nat->List Res}:∀ (t:List Nat),(∀ j ∈ t,(A.getD j wp0).at σ (f j))->WpT A t σ (t.flatMap f)
 | [],_=>rfl
 | j :: t,h=>⟨f j,t.flatMap f,h j (.head _),wPn t fun i hi=>h i (.tail _ hi),rfl⟩
def WpD (A:List Wp):List Nat->Env->Prop
 | [],_=>True
 | k :: x,σ=>(∃ R,(A.getD k wp0).at σ R)/\WpD A x σ
theorem wPo {A:List Wp} {σ:Env}:∀ (x:List Nat),(∀ k ∈ x,∃ R,(A.getD k wp0).at σ R)->WpD A x σ
 | [],_=>trivial
 | k :: x,h=>⟨h k (.head _),wPo x fun i hi=>h i (.tail _ hi)⟩
def WpOK (N:Nat) (P:Program) (l:List Oper) (D:List Deferred) (B:Base) (U0:PHeap) (L0:List Res) (kn:List (Nat × Value)) (A:List Wp) (a:Wp) (i:Nat):Prop :=
 ∀ (Q:wEn) (σ:Env) (w:World) (U:PHeap) (L R0:List Res),Kn kn σ->PHeap.Le U0 U->WpD A a.need σ->WpT A a.tk σ R0->St B U (a.pre ++ (R0 ++ (L0 ++ L))) w ->
 (∀ v w' U' R,PHeap.Le U U'->St B U' (R ++ (L0 ++ L)) w'->a.at (updo σ a.d v) R->OKS N P l Q D [] .nil (updo σ a.d v) w')->OKS N P l Q D [] (bif a.fl then .fl i .nil else .fx i .nil .stop) σ w
theorem wpW {B:Base} {U0:PHeap} {L0:List Res} {kn:List (Nat × Value)} {A:List Wp} {d i:Nat} {need:List Nat} {x:Value} (h:∀ (Q:wEn) (σ:Env) (w:World) (U:PHeap) (L:List Res),Kn kn σ->PHeap.Le U0 U->WpD A need σ->St B U (L0 ++ L) w->OKS N P l Q D [] .nil (upd σ d x) w->OKS N P l Q D [] (.fl i .nil) σ w):WpOK N P l D B U0 L0 kn A (pW d need x) i :=
 fun Q σ w U L R0 hk le hd hR hS kk=>by
  obtain rfl:R0=[]:=hR
  exact h Q σ w U L hk le hd hS (kk x w U [] (PHeap.Le.refl _) hS ⟨(wPm _ _).trans (wPj _ _ _),rfl⟩)
theorem wpX {B:Base} {U0:PHeap} {L0:List Res} {kn:List (Nat × Value)} {A:List Wp} {d i:Nat} {need:List Nat} {x:Value} (h:∀ (Q:wEn) (σ:Env) (w:World) (U:PHeap) (L:List Res),Kn kn σ->PHeap.Le U0 U->WpD A need σ->St B U (L0 ++ L) w->OKS N P l Q D [] .nil (upd σ d x) w->OKS N P l Q D [] (.fx i .nil .stop) σ w):WpOK N P l D B U0 L0 kn A (pX d need x) i :=
 fun Q σ w U L R0 hk le hd hR hS kk=>by
  obtain rfl:R0=[]:=hR
  exact h Q σ w U L hk le hd hS (kk x w U [] (PHeap.Le.refl _) hS ⟨(wPm _ _).trans (wPj _ _ _),rfl⟩)
def WpH (N:Nat) (P:Program) (l:List Oper) (D:List Deferred) (B:Base) (U0:PHeap) (L0:List Res) (kn:List (Nat × Value)) (A:List Wp):List Wp->Nat->Prop
 | [],_=>True
 | a :: x,i=>WpOK N P l D B U0 L0 kn A a i/\WpH N P l D B U0 L0 kn A x (i + 1)
def WpE (G:Env->List Res->Prop):List Wp->Env->List Res->Prop
 | [],σ,L=>G σ L
 | a :: x,σ,L=>∀ R,a.at σ R->WpE G x σ ((bif a.tkn then [] else R) ++ L)
def wpI (l:List Oper) (A:List Wp) (i:Nat):Bool:=match l[i]?,A[i]? with
 | some o,some a=>o.dst == a.d && a.need.all (fun k=>(prI l i).any fun j=>j == k || (A.getD j wp0).need.contains k) && a.use.all (fun t=>some t == a.d || (prI l i).any fun j=>(A.getD j wp0).d == some t || (A.getD j wp0).use.contains t) && a.tk.all (fun j=>(prI l i).contains j && nk j A.length) && (a.tkn == A.any fun b=>b.tk.contains i)
 | _,_=>false
def wpS:Nat->List Bool->Sch
 | _,[]=>.nil
 | i,true :: x=>.fl i (wpS (i + 1) x)
 | i,false :: x=>.fx i (wpS (i + 1) x) .stop
def wQO (l:List Oper) (i:Nat):List Nat:=(nA i).reverse.foldl (fun a k=>bif a.contains k then prI l k ++ a else a) (prI l i)
def wRd (l:List Oper) (A:List Wp) (fs:List Bool) (kn:List (Nat × Value)):Bool :=
 l.length == A.length + fs.length && nk 0 fs.length && (nA l.length).all (fun i=>(prI l i).all (nk · i)) && (nA A.length).all (wpI l A) && decide ((A.flatMap (·.d.toList)).Nodup) && decide ((A.flatMap (·.tk)).Nodup) && (nA fs.length).all (fun q=>(nA (A.length + q)).all fun k=>(wQO l (A.length + q)).contains k) && A.all (fun a=>kn.all fun p=>!(a.d == some p.1))
theorem wLv {S:Nat->Bool} {i:Nat} (hi:i <= l.length) (hp:∀ j ∈ prI l i,S j=true) (hdc:∀ k,k < l.length->S k=true->∀ j ∈ prI l k,S j=true):∀ j ∈ wQO l i,S j=true:=by
 unfold wQO
 have:∀ (x:List Nat) (a:List Nat),(∀ k ∈ x,k < l.length)->(∀ j ∈ a,S j=true)->∀ j ∈ x.foldl (fun a k=>bif a.contains k then prI l k ++ a else a) a,S j=true:=by
  intro x
  induction x with
  | nil=>intro a _ h;exact h
  | cons k x ih =>
   intro a hx h
   refine ih _ (fun q hq=>hx q (.tail _ hq)) ?_
   show ∀ j ∈ (bif a.contains k then prI l k ++ a else a),S j=true
   cases c:a.contains k with
   | false=>exact h
   | true =>
    intro j hj
    rcases List.mem_append.1 hj with hj | hj
    ·exact hdc k (hx k (.head _)) (h k (nB.1 c)) j hj
    ·exact h j hj
 exact this _ _ (fun k hk=>by have:=nI.1 (List.mem_reverse.1 hk);omega) hp
theorem wPp {B:Base} {U0:PHeap} {L0:List Res} {kn:List (Nat × Value)} {A:List Wp}:∀ {x:List Wp} {i:Nat},WpH N P l D B U0 L0 kn A x i->∀ (k:Nat) (a:Wp),x[k]?=some a->WpOK N P l D B U0 L0 kn A a (i + k)
 | [],_,_,k,a,h=>by simp at h
 | b :: x,i,⟨h1,_⟩,0,a,h=>by
  simp at h
  subst h
  exact h1
 | _ :: x,i,⟨_,h2⟩,k + 1,a,h=>by
  have:=wPp h2 k a (by simpa using h)
  rwa [show i + 1 + k=i + (k + 1) by omega] at this
def wRe (g:Nat->List Res):Nat->Nat->List Res->List Res
 | 0,_,L=>L
 | n + 1,i,L=>wRe g n (i + 1) (g i ++ L)
theorem wLE (g:Nat->List Res):∀ (n i:Nat) (L:List Res),(wRe g n i L).Perm ((kB i n).flatMap g ++ L)
 | 0,i,L=>.of_eq (by simp [wRe])
 | n + 1,i,L=>by
  refine (wLE g n (i + 1) (g i ++ L)).trans ?_
  rw [List.range'_succ,nK,<- nE]
  exact nH.append_right L
theorem wPq {G:Env->List Res->Prop} {σ:Env}:∀ (x:List Wp) (f g:Nat->List Res) (i:Nat) (L:List Res),WpE G x σ L->(∀ (k:Nat) (a:Wp),x[k]?=some a->a.at σ (f (i + k))/\g (i + k)=bif a.tkn then [] else f (i + k))->G σ (wRe g x.length i L)
 | [],f,g,i,L,h,_=>h
 | a :: x,f,g,i,L,h,hp=>by
  have h0:=hp 0 a rfl
  have:=wPq x f g (i + 1) _ (h (f i) h0.1) fun k b hb=>by
   have:=hp (k + 1) b (by simpa using hb)
   rwa [show i + (k + 1)=i + 1 + k by omega] at this
  rw [List.length_cons,wRe,show g i=bif a.tkn then [] else f i from h0.2]
  exact this
def tkd (A:List Wp) (S:Nat->Bool) (k:Nat):Bool:=(nA A.length).any fun i=>S i && (A.getD i wp0).tk.contains k
def wJg (A:List Wp) (S:Nat->Bool) (f:Nat->List Res) (k:Nat):List Res:=bif S k then (bif tkd A S k then [] else f k) else (A.getD k wp0).pre
theorem wQP {A:List Wp} {g:Wp->List Nat} (h:(A.flatMap g).Nodup):(∀ a ∈ A,(g a).Nodup)/\∀ {i j:Nat} {a b:Wp} {t:Nat},A[i]?=some a->A[j]?=some b->t ∈ g a->t ∈ g b->i=j:=by
 induction A with
 | nil=>exact ⟨fun a h=>(nomatch h),fun h1=>by simp at h1⟩
 | cons c x ih =>
  rw [nK,List.nodup_append] at h
  obtain ⟨h1,h2,h3⟩:=h
  obtain ⟨i1,i2⟩:=ih h2
  refine ⟨fun a ha=>?_,?_⟩
  ·rcases ng.1 ha with rfl | ha
   ·exact h1
   ·exact i1 a ha
  ·intro i j a b t e1 e2 m1 m2
   have hc:∀ {q:Nat} {b:Wp},t ∈ g c->x[q]?=some b->t ∈ g b->False:=fun h5 h6 h7=>h3 t h5 t (List.mem_flatMap.2 ⟨_,nG h6,h7⟩) rfl
   cases i with
   | zero=>cases j with
    | zero=>rfl
    | succ j =>
     simp at e1 e2
     subst e1
     exact (hc m1 e2 m2).elim
   | succ i=>cases j with
    | zero =>
     simp at e1 e2
     subst e2
     exact (hc m2 e1 m1).elim
    | succ j =>
     simp at e1 e2
     rw [i2 e1 e2 m1 m2]
theorem CK.webp {id:Nat} {σ:Env} {w:World} {B:Base} {U0:PHeap} {L0:List Res} (hm:P.follows .mixedOrders=true) (A:List Wp) (fs:List Bool) (kn:List (Nat × Value)) (hc:wRd l A fs kn=true) (hk:Kn kn σ) (hS:St B U0 (A.flatMap (·.pre) ++ L0) w)
  (H:WpH N P l D B U0 L0 kn A A 0)
  (E:∀ (σ:Env) (w:World) (U:PHeap),Kn kn σ->PHeap.Le U0 U->WpE (fun σ L=>St B U (L ++ L0) w->OKS N P l Q D [] (wpS A.length fs) σ w) A σ []):CK r N P (.region id l.toArray true) Q D σ w:=by
 unfold wRd at hc
 simp only [nR,decide_eq_true_eq,nN,nI,ni,beq_iff_eq] at hc
 obtain ⟨⟨⟨⟨⟨⟨⟨hl,hf0⟩,hpr⟩,hw⟩,hd⟩,htk⟩,hlast⟩,hkn⟩:=hc
 have one:∀ {Q:wEn} {s:Sch} {i:Nat} {fl:Bool} {σ:Env} {w:World},OKS N P l Q D [] (bif fl then .fl i s else .fx i s .stop) σ w->∃ o,l[i]?=some o/\(∀ d,o.dst=some d->d < N)/\Step1 P l o σ w fun v w'=>OKS N P l Q D [] s (put' σ o v) w':=by
  intro Q s i fl σ w h
  cases fl with
  | true =>
   obtain ⟨o,ho,hN,hf⟩:=h
   exact ⟨o,ho,hN,hf.step1.mono fun v w' ⟨e,q⟩=>e ▸ q⟩
  | false =>
   obtain ⟨⟨o,ho,hN,hf⟩,_⟩:=h
   exact ⟨o,ho,hN,hf.mono fun v w' ⟨_,q⟩=>q⟩
 have get:∀ k,k < A.length->∃ a,A[k]?=some a/\A.getD k wp0=a:=fun k hk=>⟨A[k],hD hk,by rw [nS,hD hk];rfl⟩
 have spec:∀ k,k < A.length->∃ o a,l[k]?=some o/\A[k]?=some a/\A.getD k wp0=a/\o.dst=a.d/\(∀ m ∈ a.need,∃ j ∈ prI l k,j=m \/ m ∈ (A.getD j wp0).need)/\(∀ t ∈ a.use,some t=a.d \/ ∃ j ∈ prI l k,(A.getD j wp0).d=some t \/ t ∈ (A.getD j wp0).use)/\(∀ j ∈ a.tk,j ∈ prI l k/\j < A.length)/\a.tkn=A.any fun b=>b.tk.contains k:=by
  intro k hk
  obtain ⟨a,h1,h2⟩:=get k hk
  have h:=hw k hk
  unfold wpI at h
  have hlk:k < l.length:=by omega
  rw [hD hlk,h1] at h
  simp only [nR,beq_iff_eq,nN,nU,nX,nB,ni] at h
  exact ⟨l[k],a,hD hlk,h1,h2,h.1.1.1.1,h.1.1.1.2,h.1.1.2,h.1.2,h.2⟩
 have dist:∀ i k t,i < A.length->k < A.length->(A.getD i wp0).d=some t->(A.getD k wp0).d=some t->i=k:=by
  intro i k t hi hk e1 e2
  obtain ⟨a,h1,h2⟩:=get i hi
  obtain ⟨b,h3,h4⟩:=get k hk
  rw [h2] at e1
  rw [h4] at e2
  exact (wQP hd).2 h1 h3 (t:=t) (by simp [e1]) (by simp [e2])
 have needs:∀ (S:Nat->Bool),(∀ k,k < l.length->S k=true->∀ j ∈ prI l k,S j=true)->∀ j,j < A.length->S j=true->∀ m ∈ (A.getD j wp0).need,m < j/\S m=true:=by
  intro S hdc j
  induction j using nW with
  | _ j ih =>
   intro hj hs m hm
   obtain ⟨o,a,h1,h2,h3,h4,h5,h6,_⟩:=spec j hj
   rw [h3] at hm
   obtain ⟨i,hi,e⟩:=h5 m hm
   have hij:=hpr j (by omega) i hi
   have hsi:=hdc j (by omega) hs i hi
   rcases e with rfl | e
   ·exact ⟨hij,hsi⟩
   ·have:=ih i hij (by omega) hsi m e
    exact ⟨by omega,this.2⟩
 have useS:∀ (S:Nat->Bool),(∀ k,k < l.length->S k=true->∀ j ∈ prI l k,S j=true)->∀ k,k < A.length->S k=true->∀ t ∈ (A.getD k wp0).use,∃ m,m < A.length/\S m=true/\(A.getD m wp0).d=some t:=by
  intro S hdc k
  induction k using nW with
  | _ k ih =>
   intro hk hs t ht
   obtain ⟨o,a,h1,h2,h3,h4,h5,h6,_⟩:=spec k hk
   rw [h3] at ht
   rcases h6 t ht with e | ⟨j,hj,e⟩
   ·exact ⟨k,hk,hs,by rw [h3];exact e.symm⟩
   ·have hjk:=hpr k (by omega) j hj
    have hsj:=hdc k (by omega) hs j hj
    rcases e with e | e
    ·exact ⟨j,by omega,hsj,e⟩
    ·exact ih j hjk (by omega) hsj t e
 have tkS:∀ {S:Nat->Bool} {k:Nat},tkd A S k=true ↔ ∃ i,i < A.length/\S i=true/\k ∈ (A.getD i wp0).tk:=by
  intro S k
  unfold tkd
  simp only [nU,nI,nR,nB]
 refine CK.anyDone hm (fun i hi j hj=>hpr i hi j hj) (fun S σ w=>(∃ k,0 < k/\k <= fs.length/\(∀ i,i < A.length + k->S i=true)/\(∀ i,A.length + k <= i->S i=false)/\OKS N P l Q D [] (wpS (A.length + k) (fs.drop k)) σ w) \/ ((∀ i,A.length <= i->S i=false)/\∃ (U:PHeap) (f:Nat->List Res),Kn kn σ/\PHeap.Le U0 U/\(∀ k,k < A.length->S k=true->(A.getD k wp0).at σ (f k))/\St B U ((nA A.length).flatMap (wJg A S f) ++ L0) w)) (.inr ⟨fun _ _=>rfl,U0,fun _=>[],hk,PHeap.Le.refl _,(fun k _ h=>by cases h),?_⟩) ?_ ?_
 ·have e:(nA A.length).flatMap (wJg A (fun _=>false) fun _=>[])=A.flatMap (·.pre):=by
   have h1:∀ x:List Wp,x.flatMap (·.pre)=(nA x.length).flatMap fun k=>(x.getD k wp0).pre:=by
    intro x
    have h2:x=(nA x.length).map fun k=>x.getD k wp0:=by
     refine nz fun i=>?_
     rw [nT]
     rcases nl i x.length with h | h
     ·rw [List.getElem?_range h,hD h]
      simp [hD h]
     ·rw [nP h,nP (by simpa using h)]
      rfl
    have h3:x.flatMap (·.pre)=((nA x.length).map fun k=>x.getD k wp0).flatMap (·.pre):=by rw [<- h2]
    rw [h3,List.flatMap_map]
   rw [h1]
   rfl
  rw [e]
  exact hS.drew
 ·intro S i σ w hi hs hp hdc hlt hJ
  rcases hJ with ⟨k,hk0,hk1,hk2,hk3,hO⟩ | ⟨hl2,U,f,hk,hle,hx,hS⟩
  ·have ik:A.length + k <= i:=by
    rcases nl i (A.length + k) with h | h
    ·rw [hk2 i h] at hs;cases hs
    ·exact h
   have ei:i=A.length + k:=by
    rcases nb ik with h | h
    ·have h1:=hlast (i - A.length) (by omega) (A.length + k) (by omega)
     rw [show A.length + (i - A.length)=i by omega] at h1
     have:=wLv (by omega) hp hdc _ (nB.1 h1)
     rw [hk3 _ (nJ _)] at this
     cases this
    ·exact h.symm
   subst ei
   have hkf:k < fs.length:=by omega
   have e:wpS (A.length + k) (fs.drop k)=bif fs[k] then .fl (A.length + k) (wpS (A.length + (k + 1)) (fs.drop (k + 1))) else .fx (A.length + k) (wpS (A.length + (k + 1)) (fs.drop (k + 1))) .stop:=by
    rw [nL hkf]
    cases fs[k] <;> rfl
   rw [e] at hO
   obtain ⟨o,ho,hN,hst⟩:=one hO
   refine ⟨o,ho,hN,hst.mono fun v w' h=>.inl ⟨k + 1,by omega,hkf,fun j hj=>?_,fun j hj=>?_,h⟩⟩
   ·by_cases c:j=A.length + k
    ·simp [c]
    ·simp [c,hk2 j (by omega)]
   ·have:¬ j=A.length + k:=by omega
    simp [this,hk3 j (by omega)]
  ·by_cases e:A.length <= i
   ·have ei:i=A.length:=by
     rcases nb e with h | h
     ·have h1:=hlast (i - A.length) (by omega) A.length (by omega)
      rw [show A.length + (i - A.length)=i by omega] at h1
      have:=wLv (by omega) hp hdc _ (nB.1 h1)
      rw [hl2 _ (nJ _)] at this
      cases this
     ·exact h.symm
    subst ei
    have all:∀ k,k < A.length->S k=true:=fun k hk=>wLv (by omega) hp hdc k (nB.1 (by have:=hlast 0 hf0 k (by omega);rwa [Nat.add_zero] at this))
    have h1:=wPq A f (wJg A S f) 0 [] (E σ w U hk hle) fun k a ha=>by
     have hk:k < A.length:=(nj.1 ha).1
     obtain ⟨o,b,_,h1,h2,_,_,_,_,h3⟩:=spec k hk
     rw [ha] at h1
     obtain rfl:=nD h1
     have:=hx k hk (all k hk)
     rw [h2] at this
     rw [nO]
     refine ⟨this,?_⟩
     unfold wJg
     rw [all k hk,cond_true]
     have ee:tkd A S k=a.tkn:=by
      rw [h3,np,tkS,nU]
      constructor
      ·rintro ⟨i,hi,_,h⟩
       obtain ⟨c,c1,c2⟩:=get i hi
       rw [c2] at h
       exact ⟨c,nG c1,nB.2 h⟩
      ·rintro ⟨c,hc,h⟩
       obtain ⟨i,hi,rfl⟩:=List.mem_iff_getElem.1 hc
       refine ⟨i,hi,all i hi,?_⟩
       rw [nS,hD hi]
       exact nB.1 h
     rw [ee]
    have h1:=fun hh=>h1 hh
    obtain ⟨b0,fs',rfl⟩:∃ b x,fs=b :: x:=by
     cases fs with
     | nil=>simp at hf0
     | cons b x=>exact ⟨b,x,rfl⟩
    have pm:=wLE (wJg A S f) A.length 0 []
    rw [nY,<- nv] at pm
    have h2:=h1 (hS.permQ (pm.symm.append_right L0))
    have e2:wpS A.length (b0 :: fs')=bif b0 then .fl A.length (wpS (A.length + 1) fs') else .fx A.length (wpS (A.length + 1) fs') .stop:=by cases b0 <;> rfl
    rw [e2] at h2
    obtain ⟨o,ho,hN,hst⟩:=one h2
    refine ⟨o,ho,hN,hst.mono fun v w' h=>.inl ⟨1,by omega,by simp,fun j hj=>?_,fun j hj=>?_,h⟩⟩
    ·by_cases c:j=A.length
     ·simp [c]
     ·simp [c,all j (by omega)]
    ·have:¬ j=A.length:=by omega
     simp [this,hl2 j (by omega)]
   ·have hin:i < A.length:=by omega
    obtain ⟨o,a,h1,h2,h3,h4,h5,h6,h7,h8⟩:=spec i hin
    have ok:=wPp H i a h2
    rw [nO] at ok
    have hwd:WpD A a.need σ:=wPo _ fun m hm=>by
     obtain ⟨j,hj,e⟩:=h5 m hm
     have hsj:=hp j hj
     have hji:=hpr i hi j hj
     have:m < A.length/\S m=true:=by
      rcases e with rfl | e
      ·exact ⟨by omega,hsj⟩
      ·have:=needs S hdc j (by omega) hsj m e
       exact ⟨by omega,this.2⟩
     exact ⟨_,hx m this.1 this.2⟩
    have nin:¬ i ∈ a.tk:=fun h=>absurd (hpr i hi i (h7 i h).1) (by omega)
    have notk:∀ j ∈ a.tk,tkd A S j=false:=by
     intro j hj
     rw [kA]
     intro h
     obtain ⟨q,q1,q2,q3⟩:=tkS.1 h
     obtain ⟨b,b1,b2⟩:=get q q1
     rw [b2] at q3
     have:=(wQP htk).2 b1 h2 q3 hj
     rw [this,hs] at q2
     cases q2
    let W:Nat->List Res:=fun k=>if k ∈ i :: a.tk then [] else wJg A S f k
    have nd:(i :: a.tk).Nodup:=List.nodup_cons.2 ⟨nin,(wQP htk).1 a (nG h2)⟩
    have lt:∀ j ∈ i :: a.tk,j < A.length:=fun j hj=>by
     rcases ng.1 hj with rfl | hj
     ·exact hin
     ·exact (h7 j hj).2
    have split:((nA A.length).flatMap (wJg A S f)).Perm (a.pre ++ (a.tk.flatMap f ++ (nA A.length).flatMap W)):=by
     refine (wMh (i :: a.tk) (wJg A S f) nd lt).trans (.of_eq ?_)
     have e1:wJg A S f i=a.pre:=by
      unfold wJg
      rw [hs,cond_false,h3]
     have e2:a.tk.flatMap (wJg A S f)=a.tk.flatMap f:=by
      rw [nM,nM]
      congr 1
      refine nZ fun j hj=>?_
      unfold wJg
      rw [hp j (h7 j hj).1,notk j hj]
      rfl
     rw [nK,e1,e2,nE]
    have hS0:St B U (a.pre ++ (a.tk.flatMap f ++ (L0 ++ (nA A.length).flatMap W))) w:=by
     refine hS.permQ ?_
     refine (split.append_right _).trans ?_
     rw [nE,nE]
     exact nV _ (nV _ nH)
    have st:=ok (fun _ _ σ' w'=>((i == i || S i)=true/\∃ (U:PHeap) (f:Nat->List Res),Kn kn σ'/\PHeap.Le U0 U/\(∀ k,k < A.length->(k == i || S k)=true->(A.getD k wp0).at σ' (f k))/\St B U ((nA A.length).flatMap (wJg A (fun k=>k == i || S k) f) ++ L0) w')) σ w U _ _ hk hle hwd (wPn a.tk fun j hj=>hx j (h7 j hj).2 (hp j (h7 j hj).1)) hS0 fun v w' U' R g1 g2 g3=>by
     refine ⟨by simp,U',fun k=>if k=i then R else f k,?_,hle.trans g1,fun k hk hs'=>?_,?_⟩
     ·cases ed:a.d with
      | none=>exact hk
      | some d=>exact hk.upd (nN.2 fun p hp=>by
        have:=hkn a (nG h2) p hp
        rw [ed] at this
        simp only [Bool.not_eq_true',beq_eq_false_iff_ne,ne_eq,Option.some.injEq] at this
        cases hb:Nat.beq p.1 d with
        | false=>rfl
        | true=>exact absurd (Nat.eq_of_beq_eq_true hb).symm this)
     ·by_cases ek:k=i
      ·subst ek
       show (A.getD k wp0).at _ (if k=k then R else f k)
       rw [if_pos rfl,h3]
       exact g3
      ·show (A.getD k wp0).at _ (if k=i then R else f k)
       rw [if_neg ek]
       have hsk:S k=true:=by simpa [ek] using hs'
       refine Wp.at_congr (hx k hk hsk) fun t ht=>?_
       cases ed:a.d with
       | none=>rfl
       | some d =>
        refine wOF ?_
        rintro rfl
        obtain ⟨m,m1,m2,m3⟩:=useS S hdc k hk hsk t ht
        rw [dist m i t m1 hin m3 (by rw [h3];exact ed),hs] at m2
        cases m2
     ·refine g2.permQ ?_
      have p3:=wLu (wJg A (fun k=>k == i || S k) fun k=>if k=i then R else f k) hin
      have e3:wJg A (fun k=>k == i || S k) (fun k=>if k=i then R else f k) i=R:=by
       unfold wJg
       have:tkd A (fun k=>k == i || S k) i=false:=by
        rw [kA]
        intro h
        obtain ⟨q,q1,q2,q3⟩:=tkS.1 h
        obtain ⟨_,b,_,_,b3,_,_,_,b7,_⟩:=spec q q1
        rw [b3] at q3
        have hiq:=hpr q (by omega) i (b7 i q3).1
        have:S q=true:=by
         have:¬ q=i:=by omega
         simpa [this] using q2
        have:=hdc q (by omega) this i (b7 i q3).1
        rw [hs] at this;cases this
       rw [this]
       simp
      have e4:(nA A.length).flatMap (fun k=>if k=i then [] else wJg A (fun k=>k == i || S k) (fun k=>if k=i then R else f k) k)=(nA A.length).flatMap W:=wKU fun k hk=>by
       show _=if k ∈ i :: a.tk then [] else wJg A S f k
       by_cases c:k=i
       ·simp [c]
       ·rw [if_neg c]
        by_cases c2:k ∈ a.tk
        ·rw [if_pos (.tail _ c2)]
         obtain ⟨j1,j2⟩:=h7 k c2
         unfold wJg
         have:tkd A (fun k=>k == i || S k) k=true:=tkS.2 ⟨i,hin,by simp,by rw [h3];exact c2⟩
         rw [this]
         simp [hp k j1]
        ·rw [if_neg fun h=>(ng.1 h).elim c c2]
         unfold wJg
         have:tkd A (fun k=>k == i || S k) k=tkd A S k:=by
          rw [np,tkS,tkS]
          constructor
          ·rintro ⟨q,q1,q2,q3⟩
           have:¬ q=i:=by
            rintro rfl
            rw [h3] at q3
            exact c2 q3
           exact ⟨q,q1,by simpa [this] using q2,q3⟩
          ·rintro ⟨q,q1,q2,q3⟩
           exact ⟨q,q1,by simp [q2],q3⟩
         rw [this]
         show (bif k == i || S k then bif tkd A S k then [] else (if k=i then R else f k) else (A.getD k wp0).pre)=_
         rw [show (k == i)=false from beq_eq_false_iff_ne.2 c,Bool.false_or,if_neg c]
      rw [e3,e4] at p3
      refine List.Perm.trans ?_ (p3.symm.append_right L0)
      rw [nE]
      exact nV _ nH
    obtain ⟨o',ho,hN,hst⟩:=one st
    rw [h1] at ho
    obtain rfl:=nD ho
    refine ⟨o,h1,hN,hst.mono fun v w' h=>.inr ⟨fun j hj=>?_,(show _/\_ from h).2⟩⟩
    have:¬ j=i:=by omega
    simp [this,hl2 j hj]
 ·intro S σ w hall hJ
  rcases hJ with ⟨k,hk0,hk1,hk2,hk3,hO⟩ | ⟨h,_⟩
  ·have:k=fs.length:=by
    rcases nb hk1 with h | h
    ·have:=hall (A.length + k) (by omega)
     rw [hk3 _ (nJ _)] at this
     cases this
    ·exact h
   subst this
   rw [List.drop_length] at hO
   exact hO
  ·have:=hall A.length (by omega)
   rw [h A.length (nJ _)] at this
   cases this
end
open Go.KX (LoopAt Yd wOr Dfr wNw retM)
section
variable {r:Option Nat} {N:Nat} {P:Program} {Q:wEn} {D:List Deferred} {B:Base} {U:PHeap} {L:List Res} {σ:Env} {w:World} {X S E:Type} {ar:PHeap->X->List Value->Prop}
 {PY:S->PHeap->List Res->Prop} {PE:E->PHeap->List Res->Prop} {f:S->X->Option (S ⊕ E)}
end
section
variable {N:Nat} {P:Program} {Q:wEn} {D:List Deferred} {l:List Oper} {ks:List Nat} {B:Base} {U:PHeap} {L:List Res} {σ:Env} {w:World} {o:Oper} {d i:Nat} {s:Sch}
theorem wRf (z:Array Value) (n:Nat):(Builtin.zeroCells z n).toList.length=n * z.size:=by simp [Builtin.zeroCells]
theorem OKS.append0 {α:Type} {t e sz j c2 bytes b:Nat} {A2:Option Addr} {inf:TypeInfo} {z:Value} {x y:Operand} {enc:α->List Value} {ys zs:List α}
  (ho:l[i]?=some o) (hd:o.dst=some d) (hN:nk d N=true) (hw:wanted l σ o=true) (hop:o.op=.call { callee:=.builtin .append,args:=#[x,y],argTypes:=#[t,t] })
  (ht:P.underlying t=some (.slice e)) (hi:P.info? e=some inf) (hz:inf.zero=some z) (hsize:inf.size=sz) (hzs:z.cells.size=sz) (hsz:nk 0 sz=true) (hby:inf.bytes=bytes) (hb0:nk 0 bytes=true)
  (hS:St B U L w) (hk:L[j]?=some (.row (some ⟨b,0,none⟩) 0 e sz [])) (hx:ev σ x=.slice (some ⟨b,0,none⟩) 0 0) (hy:ev σ y=.slice A2 ys.length c2)
  (hsrc:ys.length=0 \/ ∃ a,A2=some a/\∀ j u,(ys.flatMap enc)[j]?=some u->w.cell? (a.add j)=some u) (hel:∀ x,(enc x).length=sz)
  (happ:app bytes ([]:List α) ys=some zs)
  (k:∀ A' c' w',St B U (L.set j (.row A' c' e sz (zs.flatMap enc))) w'->OKS N P l Q D ks s (upd σ d (.slice A' zs.length c')) w'):OKS N P l Q D ks (.fx i s .stop) σ w:=by
 obtain ⟨e1,hb⟩:=wNn happ
 rw [List.nil_append] at e1
 subst zs
 subst hsize hby
 have hb0':0 < inf.bytes:=by simpa [ni] using hb0
 have hsz':0 < inf.size:=by simpa [ni] using hsz
 rw [List.length_nil,nO] at hb
 by_cases hm:ys.length=0
 ·have:ys=[]:=List.eq_nil_of_length_eq_zero hm
  subst this
  have hr:(Builtin.append_ #[t,t] o.type #[.slice (some ⟨b,0,none⟩) 0 0,.slice A2 0 c2]).run P w=.ok (.slice (some ⟨b,0,none⟩) 0 0) w:=by
   cases A2 <;> simp [Builtin.append_,run_underlying ht,sizeOf,typeInfo,hi,Builtin.lenOf,Builtin.firstCells,loadCells,loadCellsFrom,storeCells]
  refine OKS.v (v:=.slice (some ⟨b,0,none⟩) 0 0) (w':=w) ho hd hN hw ⟨by rw [hop];rfl,?_⟩ (.inr (Keep.refl w _)) (k _ _ _ (hS.set hk (Keep.refl w _) ?_ fun b hb=>.inl hb))
  ·simp only [List.length_nil] at hy
   simp [execOp,hop,resolve,invoke,builtin,hx,hy,hr,Result.andThen]
  ·exact hS.at_ _ (nG hk)
 ·obtain ⟨a,rfl,ha⟩:=hsrc.resolve_left hm
  have hl:(ys.flatMap enc).length=ys.length * inf.size:=wAB hel ys
  have hys:ys.length <= ys.length * inf.bytes:=Nat.le_mul_of_pos_right _ hb0'
  have hr:=run_append_grow (P:=P) w t o.type e inf z ht hi hz ⟨b,0,none⟩ 0 0 [] (by simp) (fun j v h=>by simp at h) a ys.length c2 (ys.flatMap enc) hl ha (by omega) (by omega) (growslice_fits (by omega) (by simpa using hb))
  have hG:=grownCap_ge w (0 + ys.length) 0 e
  have hG2:=grownCap_le_maxLen w (0 + ys.length) 0 e (by unfold maxLen;omega)
  generalize grownCap w (0 + ys.length) 0 e=G at hr hG hG2
  rw [nO] at hr hG
  have ec:(([]:List Value).toArray ++ (ys.flatMap enc).toArray ++ Builtin.zeroCells z.cells (G - ys.length))=(ys.flatMap enc ++ (Builtin.zeroCells z.cells (G - ys.length)).toList).toArray:=by
   apply Array.ext'
   simp
  rw [ec] at hr
  have kp:=(Keep.drew w).trans' (wBn w.drew (.cells (ys.flatMap enc ++ (Builtin.zeroCells z.cells (G - ys.length)).toList).toArray e))
  have zl:(Builtin.zeroCells z.cells (G - ys.length)).toList.length=(G - ys.length) * inf.size:=by rw [wRf,hzs]
  refine OKS.v (v:=.slice (some ⟨w.heap.size,0,none⟩) ys.length G) (w':=w.drew.alloc (.cells (ys.flatMap enc ++ (Builtin.zeroCells z.cells (G - ys.length)).toList).toArray e)) ho hd hN hw ⟨by rw [hop];rfl,?_⟩ (.inr kp) (k _ _ _ (hS.set hk (kp.weak fun x _ h=>h.elim) (.inr ⟨_,(ys.flatMap enc ++ (Builtin.zeroCells z.cells (G - ys.length)).toList).toArray,rfl,wFd w.drew _ e,?_,hG2,?_,?_⟩) fun b hb=>.inr ?_))
  ·simp [execOp,hop,resolve,invoke,builtin,hx,hy,hr,Result.andThen]
  ·rw [hl];exact Nat.mul_le_mul_right _ hG
  ·simp only [List.size_toArray,ny,zl,hl,<- Nat.add_mul]
   rw [show ys.length + (G - ys.length)=G by omega]
  ·simp
  ·have hb:w.heap.size=b:=nD hb
   exact Nat.le_of_eq hb
end
end Go.KL
namespace Go.KL.Net
structure Ed where
 a:Nat
 b:Nat
 c:Int
def wJh (es:List Ed) (x:Nat->Int):Prop:=∀ e ∈ es,x e.b <= x e.a + e.c
theorem wQc {P:Int->Prop} {B:Int} (h:∃ m,P m) (hB:∀ m,P m->m <= B):∃ m,P m/\∀ k,P k->k <= m:=by
 have key:∀ (d:Nat) (m:Int),P m->(B - m).toNat <= d->∃ m,P m/\∀ k,P k->k <= m:=by
  intro d
  induction d with
  | zero =>
   intro m hm hd
   exact ⟨m,hm,fun k hk=>by have:=hB k hk;omega⟩
  | succ d ih =>
   intro m hm hd
   rcases kD (∃ k,P k/\m < k) with ⟨k,hk,hlt⟩ | h
   ·exact ih k hk (by have:=hB k hk;omega)
   ·exact ⟨m,hm,fun k hk=>by
     rcases Int.lt_or_le m k with c | c
     ·exact absurd ⟨k,hk,c⟩ h
     ·exact c⟩
 obtain ⟨m,hm⟩:=h
 exact key _ m hm (nJ _)
structure Con (n:Nat) (R:Int) (es:List Ed):Prop where
 ends:∀ e ∈ es,e.a < n/\e.b < n
 near:∀ x,wJh es x->∀ a b,a < n->b < n->x b - x a <= R
 all:∀ (S:Nat->Prop) (i:Nat),i < n->S i->(∀ e ∈ es,S e.a->S e.b)->∀ v,v < n->S v
structure Most (n:Nat) (es:List Ed) (top:Nat->Int) (δ:Nat->Int):Prop where
 ok:wJh es δ
 le:∀ v,v < n->δ v <= top v
 gr:∀ x,wJh es x->(∀ v,v < n->x v <= top v)->∀ v,v < n->x v <= δ v
theorem wRm {es:List Ed} {x:Nat->Int} (h:wJh es x) (k:Int):wJh es fun v=>x v + k:=fun e he=>by have:=h e he;simp only;omega
theorem wOQ {n:Nat} {R:Int} {es:List Ed} (C:Con n R es) {x:Nat->Int} (hx:wJh es x) {top:Nat->Int} {i:Nat} (hi:i < n) (h0:top i=0) (hp:∀ v,v < n->0 <= top v):∃ δ,Most n es top δ:=by
  have ex:∀ v,∃ m:Int,(v < n->(∃ y,wJh es y/\(∀ u,u < n->y u <= top u)/\y v=m)/\∀ y,wJh es y->(∀ u,u < n->y u <= top u)->y v <= m):=by
    intro v
    by_cases hv:v < n
    · obtain ⟨m,hm,hm2⟩:=wQc (P:=fun m=>∃ y,wJh es y/\(∀ u,u < n->y u <= top u)/\y v=m) (B:=R) ⟨_,fun u=>x u + (-(x i + R)),wRm hx _,fun u hu=>by
          have:=C.near x hx i u hi hu
          have:=hp u hu
          simp only
          omega,rfl⟩ (by
          rintro m ⟨y,hy,hy2,rfl⟩
          have:=C.near y hy i v hi hv
          have:=hy2 i hi
          omega)
      exact ⟨m,fun _=>⟨hm,fun y hy hy2=>hm2 _ ⟨y,hy,hy2,rfl⟩⟩⟩
    · exact ⟨0,fun h=>absurd h hv⟩
  obtain ⟨δ,sp⟩:=Classical.axiomOfChoice ex
  refine ⟨δ,fun e he=>?_,fun v hv=>?_,fun y hy hy2 v hv=>(sp v hv).2 y hy hy2⟩
  · obtain ⟨h1,h2⟩:=C.ends e he
    obtain ⟨⟨y,hy,hy2,hy3⟩,_⟩:=sp e.b h2
    have:=(sp e.a h1).2 y hy hy2
    have:=hy e he
    omega
  · obtain ⟨⟨y,hy,hy2,hy3⟩,_⟩:=sp v hv
    have:=hy2 v hv
    omega
theorem Most.hi {n:Nat} {R:Int} {es:List Ed} (C:Con n R es) {top δ:Nat->Int} (M:Most n es top δ) {i:Nat} (hi:i < n) (h0:top i=0):∀ v,v < n->δ v <= R:=fun v hv=>by
 have:=C.near δ M.ok i v hi hv
 have:=M.le i hi
 omega
theorem Most.tight {n:Nat} {es:List Ed} {top δ:Nat->Int} (M:Most n es top δ) (hes:∀ e ∈ es,e.a < n/\e.b < n) (low:Nat->Int) (h0:∀ v,v < n->low v <= top v) (hT:∃ v,v < n/\δ v < low v) (hge:∀ v,v < n->δ v <= low v) :
  ∃ e ∈ es,low e.a=δ e.a/\δ e.b < low e.b/\δ e.b=δ e.a + e.c:=by
 rcases kD (∃ e ∈ es,low e.a=δ e.a/\δ e.b < low e.b/\δ e.b=δ e.a + e.c) with h | h
 ·exact h
 ·exfalso
  obtain ⟨v,hv,hlt⟩:=hT
  have hx:wJh es (fun u=>if δ u < low u then δ u + 1 else δ u):=by
   intro e he
   obtain ⟨h1,h2⟩:=hes e he
   have a:=M.ok e he
   have b:=hge e.a h1
   have c:=hge e.b h2
   simp only
   by_cases e1:δ e.b < low e.b
   ·by_cases e2:δ e.a < low e.a
    ·rw [if_pos e1,if_pos e2];omega
    ·rw [if_pos e1,if_neg e2]
     by_cases e3:δ e.b=δ e.a + e.c
     ·exact absurd ⟨e,he,by omega,e1,e3⟩ h
     ·omega
   ·rw [if_neg e1]
    split <;> omega
  have:=M.gr _ hx (fun u hu=>by
   have:=M.le u hu
   have:=h0 u hu
   show (if δ u < low u then δ u + 1 else δ u) <= top u
   split <;> omega) v hv
  have this:(if δ v < low v then δ v + 1 else δ v) <= δ v:=this
  rw [if_pos hlt] at this
  omega
theorem wMp (p q:Nat->Bool) (hpq:∀ v,p v=true->q v=true):∀ (l:List Nat),(∃ v ∈ l,p v=false/\q v=true)->l.countP p < l.countP q
 | [],⟨v,h,_⟩=>by cases h
 | a :: l,⟨v,h,hp,hq⟩=>by
  have mono:∀ l:List Nat,l.countP p <= l.countP q:=fun l=>List.countP_mono_left fun v _ h=>hpq v h
  rw [List.countP_cons,List.countP_cons]
  rcases ng.1 h with rfl | h
  ·have:=mono l
   simp only [hp,hq,if_true,nf,if_false]
   omega
  ·have:=wMp p q hpq l ⟨v,h,hp,hq⟩
   have:(if p a=true then 1 else 0) <= (if q a=true then 1 else 0):=by
    cases e:p a with
    | true=>rw [hpq a e];simp
    | false=>simp
   omega
def wRN (n:Nat) (δ low:Nat->Int):Nat:=(nA n).countP fun v=>decide (low v=δ v)
theorem wQd (n:Nat) (δ low:Nat->Int):wRN n δ low <= n:=by
 have:=List.countP_le_length (p:=fun v=>decide (low v=δ v)) (l:=nA n)
 rw [List.length_range] at this
 exact this
theorem wQe {n:Nat} {δ low low':Nat->Int} (h1:∀ v,v < n->δ v <= low' v) (h2:∀ v,v < n->low' v <= low v) {v:Nat} (hv:v < n) (a:δ v < low v) (b:low' v=δ v):wRN n δ low < wRN n δ low':=by
 have:=wMp (fun v=>decide (low v=δ v)) (fun v=>decide (low' v=δ v) || !decide (v < n)) (fun u hu=>by
  have hu':=of_decide_eq_true hu
  by_cases hun:u < n
  ·have:=h1 u hun
   have:=h2 u hun
   simp only [nX,decide_eq_true_eq]
   exact .inl (by omega)
  ·simp [hun]) (nA n) ⟨v,nI.2 hv,decide_eq_false (by omega),by simp [b]⟩
 have e:(nA n).countP (fun v=>decide (low' v=δ v) || !decide (v < n))=(nA n).countP (fun v=>decide (low' v=δ v)):=by
  apply List.countP_congr
  intro u hu
  have:u < n:=nI.1 hu
  simp [this]
 unfold wRN
 omega
structure IsD (n:Nat) (es:List Ed) (i:Nat) (f:Nat->Int):Prop where
 ok:wJh es f
 zero:f i=0
 gr:∀ x,wJh es x->∀ v,v < n->x v - x i <= f v
end Go.KL.Net
namespace Go.KL
variable {S S' B B' α:Type}
theorem wMq {body:Nat->S->Option (S ⊕ B)} (I:Nat->S->Prop) (Z:B->Prop):∀ (m k:Nat) (s:S),I k s ->
  (∀ i s,k <= i->i < k + m->I i s->(∃ s',body i s=some (.inl s')/\I (i + 1) s') \/ ∃ b,body i s=some (.inr b)/\Z b) ->
  (∃ s',forN body m k s=some (.inl s')/\I (k + m) s') \/ ∃ b,forN body m k s=some (.inr b)/\Z b
 | 0,k,s,h,_=>.inl ⟨s,rfl,h⟩
 | m + 1,k,s,h,hb=>by
  simp only [forN]
  rcases hb k s (nJ _) (by omega) h with ⟨s',h1,h2⟩ | ⟨b,h1,h2⟩
  ·rw [h1]
   have:=wMq I Z m (k + 1) s' h2 fun i s h2 h3 h4=>hb i s (by omega) (by omega) h4
   rwa [show k + 1 + m=k + (m + 1) from by omega] at this
  ·rw [h1];exact .inr ⟨b,rfl,h2⟩
theorem wGM {body:Nat->S->Option S} (I:Nat->S->Prop):∀ (m k:Nat) (s:S),I k s ->
  (∀ i s,k <= i->i < k + m->I i s->∃ s',body i s=some s'/\I (i + 1) s')->∃ s',forN' body m k s=some s'/\I (k + m) s'
 | 0,k,s,h,_=>⟨s,rfl,h⟩
 | m + 1,k,s,h,hb=>by
  simp only [forN']
  obtain ⟨s',h1,h2⟩:=hb k s (nJ _) (by omega) h
  rw [h1]
  have:=wGM I m (k + 1) s' h2 fun i s h2 h3 h4=>hb i s (by omega) (by omega) h4
  rwa [show k + 1 + m=k + (m + 1) from by omega] at this
theorem wFp {body:Nat->S->Option (S ⊕ B)} {n:Nat} {s:S} (hn:n <= 9223372036854775807):wFX 0 (n:Int) body s=forN body n 0 s:=by
 unfold wFX
 rw [if_pos (by omega),show ((n:Int) - 0).toNat=n from by omega]
theorem wEv {body:Nat->S->Option S} {n:Nat} {s:S} (hn:n <= 9223372036854775807):wBf 0 (n:Int) body s=forN' body n 0 s:=by
 unfold wBf
 rw [if_pos (by omega),show ((n:Int) - 0).toNat=n from by omega]
def first (p:α->Bool):List α->Nat->Int
 | [],_=>-1
 | a :: l,k=>if p a then (k:Int) else first p l (k + 1)
theorem wIC (p:α->Bool):∀ (l:List α) (k:Nat),decide (0 <= first p l k)=l.any p
 | [],k=>by simp [first]
 | a :: l,k=>by
  rw [first,List.any_cons]
  by_cases h:p a
  ·simp [h]
  ·simp [h,wIC p l (k + 1)]
theorem wIc {R:Type} {l:List α} {f:α->Option Bool} {p:α->Bool} (hf:∀ a ∈ l,f a=some (p a)) (hn:l.length <= 9223372036854775807) (z:Int->R) :
  (jn (wFX 0 (↑l.length:Int) (fun k2 (_:Unit)=>(idx l (↑k2:Int)).bind fun x=>(f x).bind fun y=>if y=true then esc (some (z (↑k2:Int))) else some (.inl ())) ()) fun _=>some (z (-1)))=some (z (first p l 0)):=by
 rw [wFp hn]
 have key:∀ (m k:Nat),k + m=l.length->(jn (forN (fun k2 (_:Unit)=>(idx l (↑k2:Int)).bind fun x=>(f x).bind fun y=>if y=true then esc (some (z (↑k2:Int))) else some (.inl ())) m k ()) fun _=>some (z (-1)))=some (z (first p (l.drop k) k)):=by
  intro m
  induction m with
  | zero=>intro k hk;rw [nu (by omega)];rfl
  | succ m ih =>
   intro k hk
   have hlt:k < l.length:=by omega
   rw [nL hlt,first,forN,wKP,hD hlt]
   simp only [kC,hf _ (List.getElem_mem hlt)]
   by_cases h:p l[k]=true
   ·simp [h]
   ·simp only [h,if_false,nf]
    exact ih (k + 1) (by omega)
 exact key l.length 0 (by omega)
theorem wID {R:Type} {l:List α} {g:α->Option (Unit ⊕ R)} {p:α->Bool} {z:R} {K:Unit->Option R} (hg:∀ a ∈ l,g a=if p a=true then some (.inl ()) else some (.inr z)) (hn:l.length <= 9223372036854775807) :
  jn (wFX 0 (↑l.length:Int) (fun k (_:Unit)=>(idx l (↑k:Int)).bind g) ()) K=if l.all p=true then K () else some z:=by
 rw [wFp hn]
 have key:∀ (m k:Nat),k + m=l.length->jn (forN (fun k (_:Unit)=>(idx l (↑k:Int)).bind g) m k ()) K=if (l.drop k).all p=true then K () else some z:=by
  intro m
  induction m with
  | zero=>intro k hk;rw [nu (by omega)];rfl
  | succ m ih =>
   intro k hk
   have hlt:k < l.length:=by omega
   have e:l.drop k=l[k] :: l.drop (k + 1):=nL hlt
   rw [e,List.all_cons,forN,wKP,hD hlt]
   simp only [kC,hg _ (List.getElem_mem hlt)]
   by_cases h:p l[k]=true
   ·rw [h]
    simp only [if_true,Bool.true_and]
    exact ih (k + 1) (by omega)
   ·rw [if_neg h]
    have:p l[k]=false:=by simpa using h
    simp only [this,Bool.false_and,wLl,nf,if_false]
 exact key l.length 0 (by omega)
theorem wDZ {bytes:Nat} {l m:List α} (h:(l.length + m.length) * bytes <= 140737488355328):app bytes l m=some (l ++ m):=if_pos h
variable {S B R α β:Type}
theorem wMr {body:Nat->S->Option (S ⊕ B)} (s:Nat->S):∀ (m k:Nat),(∀ i,k <= i->i < k + m->body i (s i)=some (.inl (s (i + 1))))->forN body m k (s k)=some (.inl (s (k + m)))
 | 0,_,_=>rfl
 | m + 1,k,h=>by
  rw [forN,h k (nJ _) (by omega)]
  have:=wMr s m (k + 1) fun i h1 h2=>h i (by omega) (by omega)
  rw [show k + 1 + m=k + (m + 1) by omega] at this
  exact this
theorem wLN {body:Nat->S->Option S} (s:Nat->S):∀ (m k:Nat),(∀ i,k <= i->i < k + m->body i (s i)=some (s (i + 1)))->forN' body m k (s k)=some (s (k + m))
 | 0,_,_=>rfl
 | m + 1,k,h=>by
  rw [forN',h k (nJ _) (by omega)]
  have:=wLN s m (k + 1) fun i h1 h2=>h i (by omega) (by omega)
  rw [show k + 1 + m=k + (m + 1) by omega] at this
  exact this
theorem wDu {body:Nat->S->Option S} {n:Nat} {s0:S} (s:Nat->S) (h0:s 0=s0) (hn:n <= 9223372036854775807) (h:∀ i,i < n->body i (s i)=some (s (i + 1))):wBf 0 (n:Int) body s0=some (s n):=by
 rw [wEv hn,<- h0]
 have:=wLN s n 0 fun i _ hi=>h i (by omega)
 rwa [nO] at this
theorem wPE {body:Nat->S->Option (S ⊕ B)} {n:Nat} {s0:S} (s:Nat->S) (h0:s 0=s0) (hn:n <= 9223372036854775807) (h:∀ i,i < n->body i (s i)=some (.inl (s (i + 1)))):wFX 0 (n:Int) body s0=some (.inl (s n)):=by
 rw [wFp hn,<- h0]
 have:=wMr s n 0 fun i _ hi=>h i (by omega)
 rwa [nO] at this
theorem wGs {body:Nat->Unit->Option (Unit ⊕ B)} {n:Nat} (hn:n <= 9223372036854775807) (h:∀ i,i < n->body i ()=some (.inl ())):wFX 0 (n:Int) body ()=some (.inl ()):=wPE (fun _=>()) rfl hn h
theorem wDE [Inhabited α] {l:List α} {k:Nat} (h:k < l.length):idx l (k:Int)=some (gd l k):=by
 rw [wKP]
 exact wBK h
theorem wCt [Inhabited α] {l:List α} {k:Nat} (h:k < l.length):gd l k ∈ l:=nG (wBK h)
theorem wGW [Inhabited α] {l:List α} {k:Nat} (h:k < l.length):l.take (k + 1)=l.take k ++ [gd l k]:=by
 rw [List.take_add_one,wBK h]
 rfl
theorem wOR [Inhabited α] {l:List α} {k:Nat} (h:k < l.length):l.drop k=gd l k :: l.drop (k + 1):=by
 have:=wBK h
 rw [hD h] at this
 rw [nL h,nD this]
theorem wIE [Inhabited α] {l m:List α} {k:Nat} (h:k < l.length):gd (l ++ m) k=gd l k:=by
 have h1:=wBK (xs:=l ++ m) (k:=k) (by rw [ny];omega)
 rw [List.getElem?_append_left h,wBK h] at h1
 exact (nD h1).symm
theorem wMs [Inhabited α] (l m:List α) (x:α):gd (l ++ x :: m) l.length=x:=by
 have h1:=wBK (xs:=l ++ x :: m) (k:=l.length) (by simp)
 rw [List.getElem?_append_right (nJ _),Nat.sub_self] at h1
 exact (nD h1).symm
theorem wHe [Inhabited α] [Inhabited β] (f:α->β) {l:List α} {k:Nat} (h:k < l.length):gd (l.map f) k=f (gd l k):=by
 have h1:=wBK (xs:=l.map f) (k:=k) (by simpa using h)
 rw [nT,wBK h] at h1
 exact (nD h1).symm
theorem wLO [Inhabited α] {l m:List α} (h:l.length=m.length) (hk:∀ k,k < l.length->gd l k=gd m k):l=m:=by
 apply nz
 intro k
 rcases nl k l.length with h1 | h1
 ·rw [wBK h1,wBK (by omega),hk k h1]
 ·rw [nP h1,nP (by omega)]
variable {S B α:Type}
theorem wIy {body:S->Option (S ⊕ B)} (I:Nat->S->Prop) (Z:B->Prop) (m:Nat) (step:∀ i s,i <= m->I i s->(i < m/\∃ s',body s=some (.inl s')/\I (i + 1) s') \/ ∃ b,body s=some (.inr b)/\Z b) {s0:S} (h0:I 0 s0) (hm:m < 1000000):∃ b,iter body big s0=some b/\Z b:=by
 have key:∀ (d i:Nat) (s:S),i + d=m->I i s->∀ F,d < F->∃ b,iter body F s=some b/\Z b:=by
  intro d
  induction d with
  | zero =>
   intro i s hi hI F hF
   obtain ⟨F,rfl⟩:∃ G,F=G + 1:=⟨F - 1,by omega⟩
   rcases step i s (by omega) hI with ⟨h,_⟩ | ⟨b,h1,h2⟩
   ·omega
   ·exact ⟨b,by rw [iter,h1],h2⟩
  | succ d ih =>
   intro i s hi hI F hF
   obtain ⟨F,rfl⟩:∃ G,F=G + 1:=⟨F - 1,by omega⟩
   rcases step i s (by omega) hI with ⟨_,s',h1,h2⟩ | ⟨b,h1,h2⟩
   ·obtain ⟨b,h3,h4⟩:=ih (i + 1) s' (by omega) h2 F (by omega)
    exact ⟨b,by rw [iter,h1];exact h3,h4⟩
   ·exact ⟨b,by rw [iter,h1],h2⟩
 exact key m 0 s0 (by omega) h0 big (by unfold big;omega)
theorem wMA {body:S->Option (S ⊕ B)} (I:Nat->S->Prop) {b:B} (m:Nat) {s0:S} (h0:I 0 s0) (hm:m < 1000000) (step:∀ i s,i <= m->I i s->(i < m/\∃ s',body s=some (.inl s')/\I (i + 1) s') \/ body s=some (.inr b)):iter body big s0=some b:=by
 obtain ⟨c,h1,h2⟩:=wIy (body:=body) I (fun c=>c=b) m (fun i s hi hI=>by
  rcases step i s hi hI with h | h
  ·exact .inl h
  ·exact .inr ⟨b,h,rfl⟩) h0 hm
 rw [h1,h2]
theorem wLP [Inhabited α] {l:List α} {i k:Nat} {x:α} (hi:i < l.length) (hk:k < l.length):gd (l.set i x) k=if k=i then x else gd l k:=by
 have h1:=wBK (xs:=l.set i x) (k:=k) (by rw [List.length_set];exact hk)
 rw [List.getElem?_set] at h1
 by_cases e:i=k
 ·subst e
  rw [if_pos rfl,if_pos hi] at h1
  rw [if_pos rfl]
  exact (nD h1).symm
 ·rw [if_neg e,wBK hk] at h1
  rw [if_neg (fun h=>e h.symm)]
  exact (nD h1).symm
theorem wMB [Inhabited α] {l:List α} {k:Nat} (h:k < l.length):gd l k=l[k]:=by
 have:=wBK h
 rw [hD h] at this
 exact (nD this).symm
end Go.KL
