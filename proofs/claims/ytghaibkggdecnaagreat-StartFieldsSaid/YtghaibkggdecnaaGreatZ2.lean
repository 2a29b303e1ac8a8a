import Derived.Test.YtghaibkggdecnaaGreatZ1
import Derived.Test.YtghaibkggdecnaaGreatZ0
set_option linter.all false
open Option renaming bind_some->nA
open Option.some renaming inj->nB
open Bool renaming and_eq_true->nD,false_eq_true->nE,eq_iff_iff->nb,true_and->kP
open List renaming nodup_iff_pairwise_ne->nG,append_assoc->nH,length_take->nJ,mem_cons->nK,mem_append->nL,length_map->nM,cons_append->nN,append_of_mem->nO,all_eq_true->nP,getElem?_eq_getElem->nQ,getElem?_eq_some_iff->nR,drop_eq_getElem_cons->nS,drop_eq_nil_of_le->nT,pairwise_cons->nU,mem_append_right->nV,pairwise_iff_getElem->nW,getElem_map->nX,length_drop->nY,take_length->nZ,nil_append->na,map_append->nc,take_of_length_le->nh,pairwise_append->ni,length_append->nk,replicate->nl,take_append_drop->no,mem_append_left->np,append_nil->nq,mem_of_mem_take->nr,mem_filter->nt,mergeSort_perm->nu,mem_singleton->nv,length_cons->ny,pairwise_mergeSort->kB,range_succ->kC,pairwise_lt_range->kE,getElem?_eq_none->kG,set_append_right->kH,length_filter_le->kJ,range->kK,mem_cons_of_mem->kL,map_cons->kO,getElem_of_mem->kQ,all_map->kR,mem_map->kS,set_cons_zero->kU,countP_append->kV,mem_cons_self->kW,filter_filter->kX,nodup_append->kY,filter_congr->kZ
open Nat renaming eq_of_beq_eq_true->nI,le_refl->nf,le_trans->nw,zero_add->nz,sub_self->kA,min_eq_left->kD,lt_irrefl->kM
open List.cons renaming injEq->nj,inj->kg
open List.Perm renaming trans->kc,of_eq->ke,refl->kf
namespace Go.KX
open Go.RowKit Go.KL
section
variable {tb:Tr AF} {ex exY:Run} {P:Program} {N:Nat} {l:List Oper} {os s t:List AO} {a:AO} {σ0 σ1 σA σf:Tr AV} {h0 h h1 hf:AH} {μ μS:Mu} {σ σ':Env} {w:World} {o:Oper}
theorem wBk:∀ {s s' t t':List AO} {a:AO},(s ++ a :: t).Pairwise (fun a b=>a.ix ≠ b.ix)->s ++ a :: t=s' ++ a :: t'->s=s'/\t=t'
 | [],[],t,t',a,_,e=>by
  simp only [na,nj,true_and] at e
  exact ⟨rfl,e⟩
 | [],b :: s',t,t',a,hp,e=>by
  simp only [na,nN,nj] at e
  obtain ⟨rfl,rfl⟩:=e
  rw [na] at hp
  exact absurd rfl ((nU.1 hp).1 a (by simp))
 | b :: s,[],t,t',a,hp,e=>by
  simp only [na,nN,nj] at e
  obtain ⟨rfl,rfl⟩:=e
  rw [nN] at hp
  exact absurd rfl ((nU.1 hp).1 b (by simp))
 | b :: s,b' :: s',t,t',a,hp,e=>by
  simp only [nN,nj] at e
  rw [nN] at hp
  obtain ⟨h1,h2⟩:=wBk (nU.1 hp).2 e.2
  exact ⟨by rw [e.1,h1],h2⟩
theorem wDK (A:AOK P N l a o) (hs:Sub a.op o):∀ d ∈ wCy l o,∃ p ∈ wBP a,p.nat - 1=d:=by
 intro d hd
 unfold wCy at hd
 rcases nL.1 hd with hd | hd
 ·obtain ⟨y,h1,h2⟩:=List.mem_filterMap.1 hd
  cases y with
  | tmp t =>
   simp only [Option.some.injEq] at h2
   subst h2
   obtain ⟨p,h3,h4⟩:=hs t (by simpa using h1)
   exact ⟨p,np _ h3,h4⟩
  | _=>simp at h2
 ·rcases A.grd with ⟨_,h2⟩ | ⟨p,b,j,d',h1,h2,h3,h4⟩
  ·rw [h2] at hd;simp at hd
  ·rw [h2] at hd
   simp only [h3,Option.toList_some,nv] at hd
   subst hd
   exact ⟨p,nV _ (by rw [h1];simp),h4.symm⟩
structure Pend (tb:Tr AF) (ex exY:Run) (P:Program) (l:List Oper) (os:List AO) (σ0:Tr AV) (h0:AH) (σf:Tr AV) (w0:World) (μ μS:Mu) (σ:Env) (w:World) (a:AO) (o:Oper) (p:Pos):Prop where
 get:l[a.ix]?=some o
 dst:a.dst=some p
 fact:(wanted l σ o=false/\σ (p.nat - 1)=undef/\evA σf (.t p)=u) \/ (wanted l σ o=true /\
  (((a.kd=1 \/ a.kd=3 \/ 8 <= a.kd)/\Rv μ (evA σf (.t p)) (σ (p.nat - 1))) \/
   (a.kd=6/\Rv μS (evA σf (.t p)) (σ (p.nat - 1))/\∃ w1 w2,Runs P σ w1 o (σ (p.nat - 1)) w2) \/
   (a.kd=4/\Rv μS (evA σf (.t p)) (σ (p.nat - 1))/\∃ w1 ob s1 t1 σ1 h1,Runs P σ w1 o (σ (p.nat - 1)) (w1.alloc ob)/\w.heap[w1.heap.size]?=some ob/\w0.heap.size <= w1.heap.size /\
    os=s1 ++ a :: t1/\wAN tb ex exY s1 σ0 h0=some (σ1,h1)/\μS h1.nx=some ⟨w1.heap.size,0,g0⟩/\∀ q c,μS q=some c->c.1=w1.heap.size->q=h1.nx)))
theorem wLc {tb:Tr AF} {ex exY:Run} {k:Nat} {op:AOp} {σ:Tr AV} {h h':AH} {v:AV} (hk:k ≠ 2) (hr:opK k op tb ex exY σ h=some (v,h')):opY op tb ex exY σ h=some (v,h'):=by
 have hb:Nat.beq k 2=false:=by
  cases hb:Nat.beq k 2 with
  | false=>rfl
  | true=>exact absurd (nI hb) hk
 have:opK k op=opY op:=by unfold opK;rw [hb]
 rwa [this] at hr
theorem wJZ {k:Nat} (h:8 <= k):¬ wBL k=true:=by
 unfold wBL
 simp only [Bool.or_eq_true,not_or]
 exact ⟨fun e=>by have:=nI e;omega,fun e=>by have:=nI e;omega⟩
theorem wLd {w:World} {a b:Obj} (h:w.alloc a=w.alloc b):a=b:=by
 have h1:=heap_alloc_new w a
 rw [h,heap_alloc_new] at h1
 exact (nB h1).symm
theorem wPe (Z:ZOK P N l os) (e:os=s ++ a :: t) {μ0:Mu} {w0:World} {fl:Nat} (hs:wAN tb ex exY s σ0 h0=some (σA,h)) (hr:wAN tb ex exY (a :: t) σA h=some (σf,hf))
  (E:Ext μ0 fl w0 μ w) (S:Sim (CC P) P μ h w) (hE:EnvR μ σA σ') (hle:μ.Le μS) {p:Pos} (Pd:Pend tb ex exY P l os σ0 h0 σf w0 μ μS σ w a o p) (hag:∀ q ∈ wBP a,σ (q.nat - 1)=σ' (q.nat - 1)) :
  ∃ σB hB μB,wAN tb ex exY (s ++ [a]) σ0 h0=some (σB,hB)/\wAN tb ex exY t σB hB=some (σf,hf)/\μ.Le μB/\μB.Le μS/\Ext μ0 fl w0 μB w/\Sim (CC P) P μB hB w/\hB.fl=h.fl/\EnvR μB σB (upd σ' (p.nat - 1) (σ (p.nat - 1)))/\(a.kd=4->wanted l σ o=true->μB h.nx ≠ none):=by
 have ha:a ∈ os:=by rw [e];simp
 obtain ⟨o',A⟩:=wBq (Z.ao a ha)
 have eo:o'=o:=by have:=A.get;rw [Pd.get] at this;exact (nB this).symm
 subst eo
 have hsel:=Z.sel a ha _ A.get
 have hsub:=Z.sub a ha _ A.get
 have hagr:Agr l o' σ σ':=fun d hd=>by
  obtain ⟨q,h1,rfl⟩:=wDK A hsub d hd
  exact hag q h1
 have hw:=wGY A hE
 have hwσ:wanted l σ o'=wBc σA a.grd:=(wBO hagr).trans hw
 obtain ⟨pd,dd,d1,d2,d3,_⟩:∃ p d,a.dst=some p/\o'.dst=some d/\d=p.nat - 1/\d < N:=by
  rcases A.dst with ⟨h1,_⟩ | h
  ·rw [Pd.dst] at h1;cases h1
  ·exact h
 have ep:pd=p:=by rw [Pd.dst] at d1;exact (nB d1).symm
 subst ep
 have eput:∀ cv,put' σ' o' cv=upd σ' (pd.nat - 1) cv:=fun cv=>by unfold put';rw [d2,d3]
 obtain ⟨σx,hx,q1,q2⟩:=wIr (s:=[]) (a:=a) (t:=t) (σ0:=σA) (h0:=h) (by rw [na];exact hr)
 rw [wAa] at q1
 cases q1
 have split1:∀ {σB hB},(match wBc σA a.grd with | true=>(match opK a.kd a.op tb ex exY σA h with | some r=>some (wEZ a.dst σA r.1,r.2) | none=>none) | false=>some (wEZ a.dst σA u,h))=some (σB,hB)->wAN tb ex exY (s ++ [a]) σ0 h0=some (σB,hB):=by
  intro σB hB hq
  have app:∀ (l1 l2:List AO) (x:Tr AV) (y:AH) (x1:Tr AV) (y1:AH),wAN tb ex exY l1 x y=some (x1,y1)->wAN tb ex exY (l1 ++ l2) x y=wAN tb ex exY l2 x1 y1:=by
   intro l1
   induction l1 with
   | nil=>intro l2 x y x1 y1 h;rw [wAa] at h;cases h;rfl
   | cons b l1 ih =>
    intro l2 x y x1 y1 h
    rw [nN,wAb]
    rw [wAb] at h
    cases hb:wBc x b.grd with
    | true =>
     rw [hb] at h
     simp only at h ⊢
     cases hq:opK b.kd b.op tb ex exY x y with
     | none=>rw [hq] at h;cases h
     | some r=>rw [hq] at h;exact ih l2 _ _ _ _ h
    | false =>
     rw [hb] at h
     exact ih l2 _ _ _ _ h
  rw [app s [a] _ _ _ _ hs,wAb]
  cases hb:wBc σA a.grd with
  | true =>
   rw [hb] at hq
   simp only at hq ⊢
   cases hk:opK a.kd a.op tb ex exY σA h with
   | none=>rw [hk] at hq;cases hq
   | some r =>
    rw [hk] at hq
    cases hq
    exact wAa _ _ _ _ _
  | false =>
   rw [hb] at hq
   cases hq
   rw [wAa]
 rcases q2 with ⟨g1,v,h2,g2,g3⟩ | ⟨g1,g3⟩
 ·have hv:evA σf (.t pd)=v:=wIF Z e g3 Pd.dst
  have hrun:=split1 (σB:=wEZ a.dst σA v) (hB:=h2) (by rw [g1];simp only;rw [g2])
  rcases Pd.fact with ⟨f1,_⟩ | ⟨_,⟨fk,f1⟩ | ⟨fk,f1,w1,w2,f2⟩ | ⟨fk,f1,w1,ob,s1,t1,σ1,h1,f2,f3,f4,f5,f6,f7,f8⟩⟩
  ·rw [hwσ,g1] at f1;cases f1
  ·have gY:opY a.op tb ex exY σA h=some (v,h2):=wLc (by omega) g2
   have hk:kdA a.op=1 \/ kdA a.op=3:=by
    rcases fk with fk | fk | fk
    ·exact A.k1 fk
    ·exact .inr (A.k3 fk)
    ·rcases Z.kd a ha with hh | ⟨_,hh | hh | hh | hh | hh⟩
     ·exact absurd hh (wJZ fk)
     ·omega
     ·omega
     ·omega
     ·omega
     ·exact .inl hh.2
   obtain ⟨e1,_⟩:=wGB (C:=CC P) hk A.op _ _ _ _ gY
   subst e1
   rw [hv] at f1
   exact ⟨_,_,μ,hrun,g3,Mu.Le.refl μ,hle,E,S,rfl,by rw [<- eput];exact wCt A hE f1,fun h4 _=>by omega⟩
  ·have gY:opY a.op tb ex exY σA h=some (v,h2):=by rw [fk] at g2;exact g2
   have hk:kdA a.op=3:=by
    rcases Z.kd a ha with hh | ⟨_,hh | hh | hh | hh | hh⟩
    ·rw [fk] at hh;exact absurd hh (by decide)
    ·omega
    ·omega
    ·exact hh.2
    ·omega
    ·omega
   obtain ⟨e1,e2⟩:=wGA hk A.op _ _ _ _ gY
   subst e1
   obtain ⟨cv,c1,c2⟩:=e2 μ σ' hE
   have:=Runs.det ((Runs.agr hsel hagr).2 (c2 o' w1 rfl)) f2
   rw [<- eput,<- this.1]
   exact ⟨_,_,μ,hrun,g3,Mu.Le.refl μ,hle,E,S,rfl,wCt A hE c1,fun h4 _=>by omega⟩
  ·have gY:opY a.op tb ex exY σA h=some (v,h2):=by rw [fk] at g2;exact g2
   have hk:wJp a.op=true:=by
    rcases Z.kd a ha with hh | ⟨_,hh | hh | hh | hh | hh⟩
    ·rw [fk] at hh;exact absurd hh (by decide)
    ·omega
    ·omega
    ·omega
    ·exact hh.2
    ·omega
   obtain ⟨B,vf,e1,e2,_,_,e5⟩:=wIq (C:=CC P) hk A.op _ _ _ _ gY
   obtain ⟨ob',val,c1,c2,c3⟩:=e5 μ σ' hE o' rfl
   obtain ⟨k1,k2⟩:=Runs.det ((Runs.agr hsel hagr).2 (c1 w1)) f2
   have k2:=wLd k2
   subst k2
   have es:s1=s:=(wBk (f5 ▸ Z.one) (f5.symm.trans e)).1
   subst es
   rw [hs] at f6
   cases f6
   have hn0:=S.nx h.nx (nf _)
   have hadd:=Mu.add_le (c:=(⟨w1.heap.size,0,g0⟩:Cl)) hn0
   have hlt:w1.heap.size < w.heap.size:=wAH f3
   subst e1 e2
   have hv':Rv (μ.add h.nx ⟨w1.heap.size,0,g0⟩) (vf h.nx) (σ (pd.nat - 1)):=by
    rw [<- k1]
    exact c3 _ _ _ (Mu.add_same _ _ _)
   refine ⟨_,_,μ.add h.nx ⟨w1.heap.size,0,g0⟩,hrun,g3,hadd,?_,⟨E.mono.trans hadd,?_,E.keep⟩,S.adopt hlt ?_ (c2 _ w _ hadd f3),rfl,?_,fun _ _=>by rw [Mu.add_same];simp⟩
   ·intro q d hq
    unfold Mu.add at hq
    split at hq
    ·rename_i eq
     subst eq
     cases hq
     exact f7
    ·exact hle q d hq
   ·intro q c hq
    unfold Mu.add at hq
    split at hq
    ·cases hq
     exact .inr (.inr f4)
    ·exact E.new q c hq
   ·intro q d hq hd
    have:=f8 q d (hle q d hq) hd
    subst this
    rw [hn0] at hq
    cases hq
   ·rw [<- eput]
    exact wCt A (hE.mono hadd) hv'
 ·have hrun:=split1 (σB:=wEZ a.dst σA u) (hB:=h) (by rw [g1])
  rcases Pd.fact with ⟨_,f2,_⟩ | ⟨f1,_⟩
  ·refine ⟨_,_,μ,hrun,g3,Mu.Le.refl μ,hle,E,S,rfl,?_,fun _ hw'=>by rw [hwσ,g1] at hw';cases hw'⟩
   rw [f2,<- eput]
   exact wCt A hE (wKr μ)
  ·rw [hwσ,g1] at f1;cases f1
structure JS (tb:Tr AF) (ex exY:Run) (P:Program) (l:List Oper) (os:List AO) (σ0:Tr AV) (h0:AH) (σf:Tr AV) (hf:AH) (μ0:Mu) (w0:World) (S:Nat->Bool) (σ:Env) (w:World) (s t:List AO) (σA:Tr AV) (h:AH) (σ':Env) (μ μS:Mu):Prop where
 e:os=s ++ t
 hs:wAN tb ex exY s σ0 h0=some (σA,h)
 hr:wAN tb ex exY t σA h=some (σf,hf)
 inS:∀ a ∈ s,S a.ix=true
 free:∀ a ∈ t,S a.ix=true->wBL a.kd=false
 E:Ext μ0 h0.fl.nat w0 μ w
 sim:Sim (CC P) P μ h w
 fl:h.fl=h0.fl
 env:EnvR μ σA σ'
 ag:∀ q:Pos,(∀ a ∈ t,S a.ix=true->a.dst ≠ some q)->σ (q.nat - 1)=σ' (q.nat - 1)
 le:μ.Le μS
 nm:∀ q c,μS q=some c->μ q=some c \/ ∃ a o s1 t1 σ1 h1,a ∈ t/\S a.ix=true/\l[a.ix]?=some o/\wanted l σ o=true/\a.kd=4/\os=s1 ++ a :: t1/\wAN tb ex exY s1 σ0 h0=some (σ1,h1)/\q=h1.nx
 pd:∀ a ∈ t,S a.ix=true->∃ o p,Pend tb ex exY P l os σ0 h0 σf w0 μ μS σ w a o p
theorem Pend.mono {μB:Mu} {w0:World} {p:Pos} (h:Pend tb ex exY P l os σ0 h0 σf w0 μ μS σ w a o p) (hm:μ.Le μB):Pend tb ex exY P l os σ0 h0 σf w0 μB μS σ w a o p:=by
 refine ⟨h.get,h.dst,?_⟩
 rcases h.fact with f | ⟨f,⟨f1,f2⟩ | f1 | f1⟩
 ·exact .inl f
 ·exact .inr ⟨f,.inl ⟨f1,f2.mono hm⟩⟩
 ·exact .inr ⟨f,.inr (.inl f1)⟩
 ·exact .inr ⟨f,.inr (.inr f1)⟩
theorem JS.catch1 (Z:ZOK P N l os) {μ0:Mu} {w0:World} {S:Nat->Bool} (J:JS tb ex exY P l os σ0 h0 σf hf μ0 w0 S σ w s (a :: t) σA h σ' μ μS) (ha:S a.ix=true) :
  ∃ σB hB σ'' μB,JS tb ex exY P l os σ0 h0 σf hf μ0 w0 S σ w (s ++ [a]) t σB hB σ'' μB μS:=by
 obtain ⟨o,p,Pd⟩:=J.pd a (by simp) ha
 have hag:∀ q ∈ wBP a,σ (q.nat - 1)=σ' (q.nat - 1):=fun q hq=>J.ag q fun b hb _=>Z.rd s a t J.e q hq b hb
 obtain ⟨σB,hB,μB,c1,c2,c3,c4,c5,c6,c7,c8,c9⟩:=wPe Z J.e J.hs J.hr J.E J.sim J.env J.le Pd hag
 have hne:∀ b ∈ t,b.ix ≠ a.ix:=fun b hb e=>by
  have:=Z.one
  rw [J.e] at this
  exact (nU.1 (ni.1 this).2.1).1 b hb e.symm
 refine ⟨σB,hB,_,μB,by rw [J.e];simp,c1,c2,fun b hb=>?_,fun b hb=>J.free b (by simp [hb]),c5,c6,c7.trans J.fl,c8,fun q hq=>?_,c4,fun q c hq=>?_,fun b hb hS=>?_⟩
 ·rcases nL.1 hb with hb | hb
  ·exact J.inS b hb
  ·rw [nv.1 hb];exact ha
 ·by_cases e:q=p
  ·subst e
   rw [wBn]
  ·rw [wCY _ _ (fun h=>e (Pos.nat_inj (by have:=q.nat_pos;have:=p.nat_pos;omega)))]
   refine J.ag q fun b hb hS=>?_
   rcases nK.1 hb with rfl | hb
   ·rw [Pd.dst]
    intro h
    cases h
    exact e rfl
   ·exact hq b hb hS
 ·rcases J.nm q c hq with h1 | ⟨b,ob,s1,t1,σ1,h1,k1,k2,k3,k4,k5,k6,k7,k8⟩
  ·exact .inl (c3 _ _ h1)
  ·rcases nK.1 k1 with rfl | k1
   ·left
    have hs1:s1=s:=(wBk (k6 ▸ Z.one) (k6.symm.trans J.e)).1
    subst hs1
    rw [J.hs] at k7
    cases k7
    subst k8
    rw [Pd.get] at k3
    cases k3
    have:=c9 k5 k4
    cases hm:μB h.nx with
    | none=>exact absurd hm this
    | some c' =>
     have:=c4 _ _ hm
     rw [hq] at this
     exact this.symm
   ·exact .inr ⟨b,ob,s1,t1,σ1,h1,k1,k2,k3,k4,k5,k6,k7,k8⟩
 ·obtain ⟨o',p',h'⟩:=J.pd b (by simp [hb]) hS
  exact ⟨o',p',h'.mono c3⟩
end
end Go.KX
namespace Go.KX
open Go.RowKit Go.KL
section
variable {tb:Tr AF} {ex exY:Run} {P:Program} {N:Nat} {l:List Oper} {os s t:List AO} {a:AO} {σ0 σA σf:Tr AV} {h0 h hf:AH} {μ μS:Mu} {σ σ':Env} {w:World} {o:Oper}
theorem wCU:∀ (l1 l2:List AO) (x:Tr AV) (y:AH) (x1:Tr AV) (y1:AH),wAN tb ex exY l1 x y=some (x1,y1)->wAN tb ex exY (l1 ++ l2) x y=wAN tb ex exY l2 x1 y1
 | [],l2,x,y,x1,y1,h=>by rw [wAa] at h;cases h;rfl
 | b :: l1,l2,x,y,x1,y1,h=>by
  rw [nN,wAb]
  rw [wAb] at h
  cases hb:wBc x b.grd with
  | true =>
   rw [hb] at h
   simp only at h ⊢
   cases hq:opK b.kd b.op tb ex exY x y with
   | none=>rw [hq] at h;cases h
   | some r=>rw [hq] at h;exact wCU l1 l2 _ _ _ _ h
  | false =>
   rw [hb] at h
   exact wCU l1 l2 _ _ _ _ h
theorem wOR (HE:FrX ex) (HY:FrX exY) (Z:ZOK P N l os) (e:os=s ++ t) (hs:wAN tb ex exY s σ0 h0=some (σA,h)) {b:AO} (hb:b ∈ t) {s1 t1:List AO} {σ1:Tr AV} {h1:AH} (e1:os=s1 ++ b :: t1) (hr:wAN tb ex exY s1 σ0 h0=some (σ1,h1)):h.nx.nat <= h1.nx.nat:=by
 obtain ⟨r,r',rfl⟩:=nO hb
 have es:s1=s ++ r:=(wBk (e1 ▸ Z.one) (e1.symm.trans (e.trans (nH _ _ _).symm))).1
 subst es
 rw [wCU s r _ _ _ _ hs] at hr
 exact (wGE HE HY _ _ _ _ _ hr).nx
theorem wEi (Z:ZOK P N l os) {S:Nat->Bool} (hdc:∀ k,k < l.length->S k=true->∀ j ∈ prI l k,S j=true) (ha:a ∈ os) (hS:S a.ix=false) {b:AO} (hb:b ∈ os) (hbS:S b.ix=true) (A:AOK P N l a o) {ob:Oper} (hob:l[b.ix]?=some ob) (v:Value):Agr l ob σ (put' σ o v):=by
 obtain ⟨ob',B⟩:=wBq (Z.ao b hb)
 have eo:ob'=ob:=by have:=B.get;rw [hob] at this;exact (nB this).symm
 subst eo
 intro d hd
 obtain ⟨p,hp,rfl⟩:=wDK B (Z.sub b hb _ B.get) d hd
 symm
 refine wEm fun dd hdd e=>?_
 rcases A.dst with ⟨_,h2⟩ | ⟨q,d',h1,h2,h3,_⟩
 ·rw [h2] at hdd;cases hdd
 ·rw [h2] at hdd
  have hdd:=nB hdd
  have eq:q=p:=Pos.nat_inj (by have:=q.nat_pos;have:=p.nat_pos;have:q.nat - 1=p.nat - 1:=h3.symm.trans (hdd.trans e);omega)
  subst eq
  have:=Z.rdS b hb q hp a ha h1
  have hlt:b.ix < l.length:=(nR.1 hob).1
  have:=wCm hdc (hdc _ hlt hbS) this
  rw [hS] at this
  cases this
theorem JS.fixed (HC:wEU (CC P) P tb ex) (HY':wDd (CC P) P exY) (HE:FrX ex) (HY:FrX exY) (Z:ZOK P N l os) {μ0:Mu} {w0:World} {S:Nat->Bool} (J:JS tb ex exY P l os σ0 h0 σf hf μ0 w0 S σ w s (a :: t) σA h σ' μ μS) (hfix:wBL a.kd=true) (hS:S a.ix=false)
  (hdc:∀ k,k < l.length->S k=true->∀ j ∈ prI l k,S j=true) (A:AOK P N l a o) :
  Step1 P l o σ w fun v w'=>∃ σB hB σ'' μB μT,JS tb ex exY P l os σ0 h0 σf hf μ0 w0 (fun k=>k == a.ix || S k) (put' σ o v) w' (s ++ [a]) t σB hB σ'' μB μT:=by
 have ha:a ∈ os:=by rw [J.e];simp
 have hsel:=Z.sel a ha _ A.get
 have hag:∀ q ∈ wBP a,σ (q.nat - 1)=σ' (q.nat - 1):=fun q hq=>J.ag q fun b hb _=>Z.rd s a t J.e q hq b hb
 have hagr:Agr l o σ σ':=fun d hd=>by
  obtain ⟨q,h1,rfl⟩:=wDK A (Z.sub a ha _ A.get) d hd
  exact hag q h1
 have hw:=wGY A J.env
 have main:∀ (v:AV) (cv:Value) (hB:AH) (w':World) (μB:Mu),wAN tb ex exY (s ++ [a]) σ0 h0=some (wEZ a.dst σA v,hB)->wAN tb ex exY t (wEZ a.dst σA v) hB=some (σf,hf) ->
   Ext μ h.fl.nat w μB w'->Sim (CC P) P μB hB w'->EnvR μB (wEZ a.dst σA v) (put' σ' o cv)->hB.fl=h.fl ->
   ∃ σB hB σ'' μB μT,JS tb ex exY P l os σ0 h0 σf hf μ0 w0 (fun k=>k == a.ix || S k) (put' σ o cv) w' (s ++ [a]) t σB hB σ'' μB μT:=by
  intro v cv hB w' μB r1 r2 E' S' hE' hfl
  have hne:∀ b ∈ t,b.ix ≠ a.ix:=fun b hb e=>by
   have:=Z.one
   rw [J.e] at this
   exact (nU.1 (ni.1 this).2.1).1 b hb e.symm
  have hSb:∀ b ∈ t,(b.ix == a.ix || S b.ix)=true->S b.ix=true:=fun b hb h=>by
   have:=hne b hb
   simpa [this] using h
  have hbo:∀ b ∈ t,b ∈ os:=fun b hb=>by rw [J.e];simp [hb]
  have eB:os=(s ++ [a]) ++ t:=by rw [J.e];simp
  have hnm:∀ b ∈ t,∀ s1 t1 σ1 h1,os=s1 ++ b :: t1->wAN tb ex exY s1 σ0 h0=some (σ1,h1)->μB h1.nx=none/\μ h1.nx=none:=fun b hb s1 t1 σ1 h1 e1 hr=>by
   have g1:=wOR HE HY Z eB r1 hb e1 hr
   have g2:=wOR HE HY Z J.e J.hs (b:=b) (by simp [hb]) e1 hr
   exact ⟨S'.nx _ g1,J.sim.nx _ g2⟩
  let μT:Mu:=fun q=>match μB q with | some c=>some c | none=>μS q
  have hT:μB.Le μT:=fun q c hq=>by show (match μB q with | some c=>some c | none=>μS q)=_;rw [hq]
  have hST:μS.Le μT:=fun q c hq=>by
   show (match μB q with | some c=>some c | none=>μS q)=_
   cases hB:μB q with
   | none=>exact hq
   | some c' =>
    rcases J.nm q c hq with h1 | ⟨b,ob,s1,t1,σ1,h1,k1,k2,k3,k4,k5,k6,k7,k8⟩
    ·rw [E'.mono _ _ h1] at hB
     exact hB.symm ▸ rfl
    ·rcases nK.1 k1 with rfl | k1
     ·rw [hS] at k2;cases k2
     ·have:=(hnm b k1 s1 t1 σ1 h1 k6 k7).1
      rw [<- k8,hB] at this
      cases this
  refine ⟨_,hB,_,μB,μT,eB,r1,r2,fun b hb=>?_,fun b hb hh=>J.free b (by simp [hb]) (hSb b hb hh),?_,S',hfl.trans J.fl,hE',fun q hq=>?_,hT,fun q c hq=>?_,fun b hb hh=>?_⟩
  ·rcases nL.1 hb with hb | hb
   ·simp [J.inS b hb]
   ·rw [nv.1 hb];simp
  ·have:=J.E
   refine this.trans ?_
   rw [<- J.fl]
   exact E'
  ·have old:σ (q.nat - 1)=σ' (q.nat - 1) \/ a.dst=some q:=by
    by_cases hq':a.dst=some q
    ·exact .inr hq'
    ·exact .inl (J.ag q fun b hb h=>by
      rcases nK.1 hb with rfl | hb
      ·exact hq'
      ·exact hq b hb (by simp [h]))
   rcases A.dst with ⟨h1,h2⟩ | ⟨p,d,h1,h2,h3,_⟩
   ·unfold put'
    rw [h2]
    rcases old with old | old
    ·exact old
    ·rw [h1] at old;cases old
   ·unfold put'
    rw [h2]
    by_cases e:q.nat - 1=d
    ·simp only [e,wBn]
    ·simp only
     rw [wCY _ _ e,wCY _ _ e]
     rcases old with old | old
     ·exact old
     ·rw [h1] at old
      cases old
      exact absurd h3.symm e
  ·have hq:(match μB q with | some c=>some c | none=>μS q)=some c:=hq
   cases hB':μB q with
   | some c' =>
    rw [hB'] at hq
    exact .inl hq
   | none =>
    rw [hB'] at hq
    rcases J.nm q c hq with h1 | ⟨b,ob,s1,t1,σ1,h1,k1,k2,k3,k4,k5,k6,k7,k8⟩
    ·rw [E'.mono _ _ h1] at hB'
     cases hB'
    ·rcases nK.1 k1 with rfl | k1
     ·rw [hS] at k2;cases k2
     ·exact .inr ⟨b,ob,s1,t1,σ1,h1,k1,by simp [k2],k3,(wBO (wEi Z hdc ha hS (hbo b k1) k2 A k3 cv)).symm.trans k4,k5,k6,k7,k8⟩
  ·have hbS:=hSb b hb hh
   obtain ⟨ob,p,Pd⟩:=J.pd b (by simp [hb]) hbS
   have hA:=wEi (σ:=σ) Z hdc ha hS (hbo b hb) hbS A Pd.get cv
   have hp:put' σ o cv (p.nat - 1)=σ (p.nat - 1):=wEm fun d hd e=>by
    rcases A.dst with ⟨_,h2⟩ | ⟨q,d',h1,h2,h3,_⟩
    ·rw [h2] at hd;cases hd
    ·rw [h2] at hd
     have hd:=nB hd
     have eq:q=p:=Pos.nat_inj (by have:=q.nat_pos;have:=p.nat_pos;have:q.nat - 1=p.nat - 1:=h3.symm.trans (hd.trans e);omega)
     subst eq
     exact Z.wr s a t J.e q h1 b (nV _ hb) Pd.dst
   have hsb:=Z.sel b (hbo b hb) _ Pd.get
   refine ⟨ob,p,Pd.get,Pd.dst,?_⟩
   rw [hp,<- wBO hA]
   rcases Pd.fact with f | ⟨f,⟨f1,f2⟩ | ⟨f1,f2,w1,w2,f3⟩ | ⟨f1,f2,w1,o1,s1,t1,σ1,h1,f3,f4,f5,f6,f7,f8,f9⟩⟩
   ·exact .inl f
   ·exact .inr ⟨f,.inl ⟨f1,f2.mono E'.mono⟩⟩
   ·exact .inr ⟨f,.inr (.inl ⟨f1,f2.mono hST,w1,w2,(Runs.agr hsb hA).1 f3⟩)⟩
   ·obtain ⟨n1,n2⟩:=hnm b hb s1 t1 σ1 h1 f6 f7
    have nimg:¬ img μ h.fl.nat w1.heap.size:=by
     rintro ⟨q,d,g1,g2,_⟩
     have:=f9 q d (J.le _ _ g1) g2
     rw [this,n2] at g1
     cases g1
    refine .inr ⟨f,.inr (.inr ⟨f1,f2.mono hST,w1,o1,s1,t1,σ1,h1,(Runs.agr hsb hA).1 f3,(E'.keep.block _ (wAH f4) nimg).trans f4,f5,f6,f7,hST _ _ f8,fun q c hq hc=>?_⟩)⟩
    have hq:(match μB q with | some c=>some c | none=>μS q)=some c:=hq
    cases hB':μB q with
    | none=>rw [hB'] at hq;exact f9 q c hq hc
    | some c' =>
     rw [hB'] at hq
     cases hq
     rcases E'.new q c hB' with g | g | g
     ·exact f9 q c (J.le _ _ g) hc
     ·rw [hc] at g;exact absurd g nimg
     ·have:=wAH f4;omega
 obtain ⟨σx,hx,q1,q2⟩:=wIr (s:=[]) (a:=a) (t:=t) (σ0:=σA) (h0:=h) (by rw [na];exact J.hr)
 rw [wAa] at q1
 cases q1
 refine Step1.agr hsel (fun d hd=>(hagr d hd).symm) ?_
 rcases q2 with ⟨g1,v,h2,g2,g3⟩ | ⟨g1,g3⟩
 ·refine (wPX HC HY' A (hw.trans g1) g2 J.env J.sim).mono ?_
  rintro cv w' ⟨_,μB,e1,e2,e3,e4⟩
  refine main v cv h2 w' μB ?_ g3 e1 e2 e3 e4
  rw [wCU s [a] _ _ _ _ J.hs,wAb,g1]
  simp only
  rw [g2]
  exact wAa _ _ _ _ _
 ·refine .inr ⟨hw.trans g1,?_⟩
  refine main u undef h w μ ?_ g3 (Ext.refl μ _ w) J.sim (wCt A J.env (wKr μ)) rfl
  rw [wCU s [a] _ _ _ _ J.hs,wAb,g1]
  exact wAa _ _ _ _ _
theorem JS.opnd (Z:ZOK P N l os) {μ0:Mu} {w0:World} {S:Nat->Bool} (J:JS tb ex exY P l os σ0 h0 σf hf μ0 w0 S σ w s t σA h σ' μ μS) (ha:a ∈ os) (hl:a.ix < l.length) (hp:∀ j ∈ prI l a.ix,S j=true)
  (hdc:∀ k,k < l.length->S k=true->∀ j ∈ prI l k,S j=true) {p:Pos} (hr:p ∈ wBP a):Rv μS (evA σf (.t p)) (σ (p.nat - 1))/\(a.kd=1 \/ a.kd=3 \/ 8 <= a.kd->Rv μ (evA σf (.t p)) (σ (p.nat - 1))):=by
 have base:(∀ b ∈ t,b.dst ≠ some p)->Rv μ (evA σf (.t p)) (σ (p.nat - 1)):=fun hn=>by
  rw [wBj t _ _ _ _ J.hr p hn,J.ag p fun b hb _=>hn b hb]
  exact J.env p
 by_cases hw:∃ b ∈ t,b.dst=some p
 ·obtain ⟨b,hb,hd⟩:=hw
  have hbo:b ∈ os:=by rw [J.e];simp [hb]
  have hanc:=Z.rdS a ha p hr b hbo hd
  have hS:=wCm hdc hp hanc
  obtain ⟨ob,p',Pd⟩:=J.pd b hb hS
  have ep:p'=p:=by have:=Pd.dst;rw [hd] at this;exact (nB this).symm
  subst ep
  rcases Pd.fact with ⟨_,f1,f2⟩ | ⟨_,⟨_,f1⟩ | ⟨f0,f1,_⟩ | ⟨f0,f1,_⟩⟩
  ·rw [f1,f2]
   exact ⟨wKr _,fun _=>wKr _⟩
  ·exact ⟨f1.mono J.le,fun _=>f1⟩
  ·exact ⟨f1,fun hk=>absurd f0 (Z.cl a ha hk p' hr b hbo hd).2⟩
  ·exact ⟨f1,fun hk=>absurd f0 (Z.cl a ha hk p' hr b hbo hd).1⟩
 ·have:=base fun b hb hd=>hw ⟨b,hb,hd⟩
  exact ⟨this.mono J.le,fun _=>this⟩
end
end Go.KX
namespace Go.KX
open Go.RowKit Go.KL
section
variable {tb:Tr AF} {ex exY:Run} {P:Program} {N:Nat} {l:List Oper} {os s t:List AO} {a:AO} {σ0 σA σf:Tr AV} {h0 h h1 h' hf:AH} {μ μS:Mu} {σ σ':Env} {w:World} {o:Oper} {v:AV}
theorem wMZ {a:AOp} {op:Op} (hk:kdA a=1) (hc:wFN P a op=true) (hE:EnvR μ σA σ) (hm:∀ b c,μ b=some c->h.m.get b=h1.m.get b) (hr:opY a tb ex exY σA h1=some (v,h')):opY a tb ex exY σA h=some (v,h):=by
 have cel:∀ b c,μ b=some c->wCK h b=wCK h1 b:=fun b c hb=>by unfold wCK;rw [hm b c hb]
 cases a <;> first | (simp [kdA] at hk;done) | skip
 case ld x =>
  have hr:wMD x σA h1=some (v,h'):=hr
  show wMD x σA h=some (v,h)
  have hc:wPM P x op=true:=hc
  unfold wPM at hc
  split at hc
  ·simp only [nD] at hc
   have g:=wAB hc.2 hE
   unfold wMD at hr ⊢
   split at hr
   ·rename_i b off hb
    rw [hb] at g
    obtain ⟨c,g1,_⟩:=g
    simp only [hb,cel b c g1]
    split at hr
    ·exact wLZ hr h
    ·cases hr
   ·cases hr
  ·cases hc
 case ldA n x =>
  have hr:wFg n x σA h1=some (v,h'):=hr
  show wFg n x σA h=some (v,h)
  have hc:wLG P n x op=true:=hc
  unfold wLG at hc
  split at hc
  ·simp only [nD] at hc
   have g:=wAB hc.2 hE
   unfold wFg at hr ⊢
   split at hr
   ·rename_i b off hb
    rw [hb] at g
    obtain ⟨c,g1,_⟩:=g
    simp only [hb,cel b c g1]
    split at hr
    ·exact wLZ hr h
    ·cases hr
   ·cases hr
  ·cases hc
 case lk two k ok z x y =>
  have hr:wME two k ok z x y σA h1=some (v,h'):=hr
  show wME two k ok z x y σA h=some (v,h)
  have hc:wPQ P two k ok z x y op=true:=hc
  unfold wPQ at hc
  split at hc
  ·simp only [nD] at hc
   have g:=wAB hc.2.2.1 hE
   unfold wME at hr ⊢
   split at hr
   ·rename_i b hb
    rw [hb] at g
    obtain ⟨c,g1,_⟩:=g
    simp only [hb,hm b c g1]
    repeat' (split at hr)
    all_goals first | (cases hr;done) | (cases hr;rfl)
   ·cases hr
  ·cases hc
 case lenM x =>
  have hr:wDO x σA h1=some (v,h'):=hr
  show wDO x σA h=some (v,h)
  have hc:wHE P x op=true:=hc
  unfold wHE at hc
  split at hc
  ·split at hc
   ·simp only [nD] at hc
    obtain ⟨_,hc⟩:=hc
    split at hc
    ·simp only [nD] at hc
     have g:=wAB hc.2 hE
     unfold wDO at hr ⊢
     split at hr
     ·rename_i hb
      cases hr
      simp_all
     ·rename_i b hb
      rw [hb] at g
      obtain ⟨c,g1,_⟩:=g
      simp only [hb,hm b c g1]
      repeat' (split at hr)
      all_goals first | (cases hr;done) | (cases hr;rfl)
     ·cases hr
    ·cases hc
   ·cases hc
  ·cases hc
theorem wGc (HE:FrX ex) (HY:FrX exY):∀ (r:List AO) (σ1:Tr AV) (h1:AH) (σ2:Tr AV) (h2:AH),wAN tb ex exY r σ1 h1=some (σ2,h2)->(∀ b ∈ r,wFO P N l b=true) ->
  (∀ b ∈ r,b.kd=2 \/ (b.kd=1 \/ b.kd=3 \/ (b.kd=6/\kdA b.op=3) \/ (b.kd=4/\wJp b.op=true) \/ (8 <= b.kd/\kdA b.op=1)))->h1.nx.nat <= h2.nx.nat/\∀ p:Pos,p.nat < h1.nx.nat->h2.m.get p=h1.m.get p
 | [],σ1,h1,σ2,h2,hr,_,_=>by
  rw [wAa] at hr
  cases hr
  exact ⟨nf _,fun _ _=>rfl⟩
 | b :: r,σ1,h1,σ2,h2,hr,hc,hk=>by
  rw [wAb] at hr
  cases hw:wBc σ1 b.grd with
  | false =>
   rw [hw] at hr
   exact wGc HE HY r _ _ _ _ hr (fun c hcc=>hc c (by simp [hcc])) (fun c hcc=>hk c (by simp [hcc]))
  | true =>
   rw [hw] at hr
   simp only at hr
   cases hq:opK b.kd b.op tb ex exY σ1 h1 with
   | none=>rw [hq] at hr;cases hr
   | some q =>
    rw [hq] at hr
    obtain ⟨v,h3⟩:=q
    obtain ⟨g1,g2⟩:=wGc HE HY r _ _ _ _ hr (fun c hcc=>hc c (by simp [hcc])) (fun c hcc=>hk c (by simp [hcc]))
    obtain ⟨o,A⟩:=wBq (hc b (by simp))
    have one:h1.nx.nat <= h3.nx.nat/\∀ p:Pos,p.nat < h1.nx.nat->h3.m.get p=h1.m.get p:=by
     have same:h3=h1->h1.nx.nat <= h3.nx.nat/\∀ p:Pos,p.nat < h1.nx.nat->h3.m.get p=h1.m.get p:=fun e=>by subst e;exact ⟨nf _,fun _ _=>rfl⟩
     rcases hk b (by simp) with k | k | k | ⟨k,k'⟩ | ⟨k,k'⟩ | ⟨k,k'⟩
     ·exact ⟨(wNM HE HY _ _ hq).nx,wPb HE HY b.op (by rw [k] at hq;exact hq)⟩
     ·rw [k] at hq
      exact same (wGB (C:=CC P) (A.k1 k) A.op _ _ _ _ hq).1
     ·rw [k] at hq
      exact same (wGA (A.k3 k) A.op _ _ _ _ hq).1
     ·rw [k] at hq
      exact same (wGA k' A.op _ _ _ _ hq).1
     ·rw [k] at hq
      obtain ⟨B,vf,e1,_⟩:=wIq (C:=CC P) k' A.op _ _ _ _ hq
      subst e1
      refine ⟨(Fr.push h1 B).nx,fun p hp=>?_⟩
      show (h1.m.set h1.nx B).get p=_
      rw [Tr.get_set,if_neg (fun e=>by subst e;omega)]
     ·exact same (wGB (C:=CC P) (.inl k') A.op _ _ _ _ (wLc (by omega) hq)).1
    exact ⟨nw one.1 g1,fun p hp=>(g2 p (Nat.lt_of_lt_of_le hp one.1)).trans (one.2 p hp)⟩
theorem JS.full {μ0:Mu} {w0:World} {S:Nat->Bool} (J:JS tb ex exY P l os σ0 h0 σf hf μ0 w0 S σ w s t σA h σ' μ μS):wAN tb ex exY os σ0 h0=some (σf,hf):=by
 rw [J.e,wCU s t _ _ _ _ J.hs]
 exact J.hr
theorem JS.frm (Z:ZOK P N l os) {μ0:Mu} {w0:World} {S:Nat->Bool} (J:JS tb ex exY P l os σ0 h0 σf hf μ0 w0 S σ w s t σA h σ' μ μS) (ha:a ∈ os) (hl:a.ix < l.length) (hp:∀ j ∈ prI l a.ix,S j=true)
  (hdc:∀ k,k < l.length->S k=true->∀ j ∈ prI l k,S j=true) (A:AOK P N l a o) {s1 t1:List AO} {σ1:Tr AV} (e1:os=s1 ++ a :: t1) (hr1:wAN tb ex exY s1 σ0 h0=some (σ1,h1)) :
  wanted l σ o=wBc σ1 a.grd/\∀ p ∈ wBP a,evA σf (.t p)=evA σ1 (.t p):=by
 have hf:=J.full
 have hrd:∀ p ∈ wBP a,evA σf (.t p)=evA σ1 (.t p):=fun p hp=>by
  rw [e1,wCU s1 _ _ _ _ _ hr1] at hf
  exact wPd Z e1 hf hp
 refine ⟨?_,hrd⟩
 have hE:EnvR μS (rst σf (wBP a)) (rsl σ (wBP a)):=wFT fun p hpr=>(J.opnd Z ha hl hp hdc hpr).1
 have hw:=wGY A hE
 have hag:Agr l o (rsl σ (wBP a)) σ:=fun d hd=>by
  obtain ⟨p,h1,h2⟩:=wDK A (Z.sub a ha _ A.get) d hd
  unfold rsl
  rw [if_pos ⟨p,h1,h2⟩]
 rw [<- wBO hag,hw]
 cases hg:a.grd with
 | none=>rfl
 | some q =>
  obtain ⟨p,b⟩:=q
  show isB b (evA _ (.t p))=isB b (evA _ (.t p))
  have hpr:p ∈ wBP a:=nV _ (by rw [hg];simp)
  rw [wFS,if_pos hpr,hrd p hpr]
theorem wPf (HE:FrX ex) (HY:FrX exY) (Z:ZOK P N l os) {a b:AO} {s1 t1 s2 t2:List AO} {σ1 σ2:Tr AV} {h1 h2:AH} (e1:os=s1 ++ a :: t1) (e2:os=s2 ++ b :: t2) (r1:wAN tb ex exY s1 σ0 h0=some (σ1,h1)) (r2:wAN tb ex exY s2 σ0 h0=some (σ2,h2))
  (w1:wBc σ1 a.grd=true) (ka:a.kd=4) (la:wJp a.op=true) (hin:a ∈ s2):h1.nx.nat < h2.nx.nat:=by
 obtain ⟨o,A⟩:=wBq (Z.ao a (by rw [e1];simp))
 obtain ⟨r,r',rfl⟩:=nO hin
 have es:s1=r:=(wBk (e1 ▸ Z.one) (e1.symm.trans (e2.trans (by rw [nH,nN])))).1
 subst es
 rw [wCU s1 _ _ _ _ _ r1,wAb,w1] at r2
 simp only at r2
 cases hq:opK a.kd a.op tb ex exY σ1 h1 with
 | none=>rw [hq] at r2;cases r2
 | some q =>
  rw [hq] at r2
  obtain ⟨v,h3⟩:=q
  rw [ka] at hq
  obtain ⟨B,vf,q1,_⟩:=wIq (C:=CC P) la A.op _ _ _ _ hq
  subst q1
  have:=(wGE HE HY _ _ _ _ _ r2).nx
  have h3:(h1.push B).nx.nat=h1.nx.nat + 1:=Pos.nat_succ _
  simp only at this
  omega
theorem nm_ne (HE:FrX ex) (HY:FrX exY) (Z:ZOK P N l os) {a b:AO} {s1 t1 s2 t2:List AO} {σ1 σ2:Tr AV} {h1 h2:AH} (e1:os=s1 ++ a :: t1) (e2:os=s2 ++ b :: t2) (r1:wAN tb ex exY s1 σ0 h0=some (σ1,h1)) (r2:wAN tb ex exY s2 σ0 h0=some (σ2,h2))
  (w1:wBc σ1 a.grd=true) (w2:wBc σ2 b.grd=true) (ka:a.kd=4) (la:wJp a.op=true) (kb:b.kd=4) (lb:wJp b.op=true) (hne:a ≠ b):h1.nx ≠ h2.nx:=by
 have ha:a ∈ s2 ++ b :: t2:=by rw [<- e2,e1];simp
 rcases nL.1 ha with h | h
 ·intro e
  have:=wPf HE HY Z e1 e2 r1 r2 w1 ka la h
  rw [e] at this
  exact absurd this (kM _)
 ·rcases nK.1 h with h | h
  ·exact absurd h hne
  ·obtain ⟨r,r',rfl⟩:=nO h
   have es:s1=s2 ++ b :: r:=(wBk (e1 ▸ Z.one) (e1.symm.trans (e2.trans (by rw [nH,nN])))).1
   intro e
   have:=wPf HE HY Z e2 e1 r2 r1 w2 kb lb (by rw [es];simp)
   rw [e] at this
   exact absurd this (kM _)
end
end Go.KX
namespace Go.KX
open Go.RowKit Go.KL
section
variable {tb:Tr AF} {ex exY:Run} {P:Program} {N:Nat} {l:List Oper} {os s t:List AO} {a:AO} {σ0 σA σf:Tr AV} {h0 h h1 h' hf:AH} {μ μS:Mu} {σ σ':Env} {w:World} {o:Oper} {v:AV}
theorem wLe (Z:ZOK P N l os) {a b:AO} (ha:a ∈ os) (hb:b ∈ os) (e:b.ix=a.ix):b=a:=by
 obtain ⟨s,t,hs⟩:=nO ha
 have one:=Z.one
 rw [hs] at hb one
 rcases nL.1 hb with h | h
 ·exact absurd e ((ni.1 one).2.2 b h a (by simp))
 ·rcases nK.1 h with h | h
  ·exact h
  ·exact absurd e.symm ((nU.1 (ni.1 one).2.1).1 b h)
theorem wEj (A:AOK P N l a o) {q:Pos} (hn:a.dst ≠ some q) (cv:Value):put' σ o cv (q.nat - 1)=σ (q.nat - 1):=by
 refine wEm fun d hd e=>?_
 rcases A.dst with ⟨_,h2⟩ | ⟨p,d',h1,h2,h3,_⟩
 ·rw [h2] at hd;cases hd
 ·rw [h2] at hd
  have hd:=nB hd
  have:p=q:=Pos.nat_inj (by have:=q.nat_pos;have:=p.nat_pos;have:p.nat - 1=q.nat - 1:=h3.symm.trans (hd.trans e);omega)
  subst this
  exact hn h1
theorem JS.add (Z:ZOK P N l os) {μ0:Mu} {w0:World} {S:Nat->Bool} (J:JS tb ex exY P l os σ0 h0 σf hf μ0 w0 S σ w s t σA h σ' μ μS) (ha:a ∈ t) (hS:S a.ix=false) (hfree:wBL a.kd=false)
  (hdc:∀ k,k < l.length->S k=true->∀ j ∈ prI l k,S j=true) (A:AOK P N l a o) {cv:Value} {w':World} {μT:Mu} (K:Keep w w' Non) (hle:μS.Le μT)
  (hnew:∀ q c,μT q=some c->μS q=some c \/ (c.1=w.heap.size/\wanted l σ o=true/\a.kd=4/\∃ s1 t1 σ1 h1,os=s1 ++ a :: t1/\wAN tb ex exY s1 σ0 h0=some (σ1,h1)/\q=h1.nx))
  (hpa:∃ p,Pend tb ex exY P l os σ0 h0 σf w0 μ μT (put' σ o cv) w' a o p) :
  JS tb ex exY P l os σ0 h0 σf hf μ0 w0 (fun k=>k == a.ix || S k) (put' σ o cv) w' s t σA h σ' μ μT:=by
 have hao:a ∈ os:=by rw [J.e];simp [ha]
 have hbo:∀ b ∈ t,b ∈ os:=fun b hb=>by rw [J.e];simp [hb]
 obtain ⟨sa,ta,ea⟩:=nO hao
 have hself:Agr l o σ (put' σ o cv):=by
  intro d hd
  obtain ⟨p,hp,rfl⟩:=wDK A (Z.sub a hao _ A.get) d hd
  exact (wEj A (Z.rd sa a ta ea p hp a (by simp)) cv).symm
 refine ⟨J.e,J.hs,J.hr,fun b hb=>by simp [J.inS b hb],fun b hb hh=>?_,⟨J.E.mono,J.E.new,J.E.keep.step K fun _ _ hn=>hn.elim⟩,J.sim.keep K,J.fl,J.env,fun q hq=>?_,J.le.trans hle,fun q c hq=>?_,fun b hb hh=>?_⟩
 ·by_cases e:b.ix=a.ix
  ·rw [wLe Z hao (hbo b hb) e];exact hfree
  ·exact J.free b hb (by simpa [e] using hh)
 ·rw [wEj A (hq a ha (by simp))]
  exact J.ag q fun b hb hs=>hq b hb (by simp [hs])
 ·rcases hnew q c hq with h1 | ⟨_,h2,h3,s1,t1,σ1,h1,e1,e2,e3⟩
  ·rcases J.nm q c h1 with g | ⟨b,ob,s1,t1,σ1,h1,k1,k2,k3,k4,k5,k6,k7,k8⟩
   ·exact .inl g
   ·exact .inr ⟨b,ob,s1,t1,σ1,h1,k1,by simp [k2],k3,(wBO (wEi Z hdc hao hS (hbo b k1) k2 A k3 cv)).symm.trans k4,k5,k6,k7,k8⟩
  ·exact .inr ⟨a,o,s1,t1,σ1,h1,ha,by simp,A.get,(wBO hself).symm.trans h2,h3,e1,e2,e3⟩
 ·by_cases e:b.ix=a.ix
  ·have:=wLe Z hao (hbo b hb) e
   subst this
   exact ⟨o,hpa⟩
  ·have hbS:S b.ix=true:=by simpa [e] using hh
   obtain ⟨ob,p,Pd⟩:=J.pd b hb hbS
   have hA:=wEi (σ:=σ) Z hdc hao hS (hbo b hb) hbS A Pd.get cv
   have hp:put' σ o cv (p.nat - 1)=σ (p.nat - 1):=by
    refine wEj A (fun hd=>?_) cv
    have hb':=hbo b hb
    rw [ea] at hb'
    have hb'':b ∈ sa ++ ta:=by
     rcases nL.1 hb' with h | h
     ·exact np _ h
     ·rcases nK.1 h with h | h
      ·exact absurd (by rw [h]) e
      ·exact nV _ h
    exact Z.wr sa a ta ea p hd b hb'' Pd.dst
   have hsb:=Z.sel b (hbo b hb) _ Pd.get
   refine ⟨ob,p,Pd.get,Pd.dst,?_⟩
   rw [hp,<- wBO hA]
   rcases Pd.fact with f | ⟨f,⟨f1,f2⟩ | ⟨f1,f2,w1,w2,f3⟩ | ⟨f1,f2,w1,o1,s1,t1,σ1,h1,f3,f4,f5,f6,f7,f8,f9⟩⟩
   ·exact .inl f
   ·exact .inr ⟨f,.inl ⟨f1,f2⟩⟩
   ·exact .inr ⟨f,.inr (.inl ⟨f1,f2.mono hle,w1,w2,(Runs.agr hsb hA).1 f3⟩)⟩
   ·refine .inr ⟨f,.inr (.inr ⟨f1,f2.mono hle,w1,o1,s1,t1,σ1,h1,(Runs.agr hsb hA).1 f3,(K.block _ (wAH f4) id).trans f4,f5,f6,f7,hle _ _ f8,fun q c hq hc=>?_⟩)⟩
    rcases hnew q c hq with h1 | ⟨h1,_⟩
    ·exact f9 q c h1 hc
    ·have:=wAH f4
     omega
theorem wGF:∀ (r:List AO),(∀ b ∈ r,b.kd ≠ 0) \/ ∃ x b y,r=x ++ b :: y/\b.kd=0/\∀ c ∈ x,c.kd ≠ 0
 | []=>.inl fun b hb=>by simp at hb
 | a :: r=>by
  by_cases h0:a.kd=0
  ·exact .inr ⟨[],a,r,rfl,h0,fun c hc=>by simp at hc⟩
  ·rcases wGF r with h | ⟨x,b,y,h1,h2,h3⟩
   ·refine .inl fun b hb=>?_
    rcases nK.1 hb with rfl | hb
    ·exact h0
    ·exact h b hb
   ·refine .inr ⟨a :: x,b,y,by rw [h1];rfl,h2,fun c hc=>?_⟩
    rcases nK.1 hc with rfl | hc
    ·exact h0
    ·exact h3 c hc
theorem JS.freeOp {σg:Tr AV} (HE:FrX ex) (HY:FrX exY) (Z:ZOK P N l os) (HL:LCK tb ex exY os σ0 h0 σg) (Hg:∀ a ∈ os,8 <= a.kd->∀ p,p ∈ wBP a \/ a.dst=some p->evA σf (.t p)=evA σg (.t p)) {μ0:Mu} {w0:World} {S:Nat->Bool} (J:JS tb ex exY P l os σ0 h0 σf hf μ0 w0 S σ w s t σA h σ' μ μS) (ha:a ∈ t) (hS:S a.ix=false) (hfree:wBL a.kd=false)
  (hp:∀ j ∈ prI l a.ix,S j=true) (hdc:∀ k,k < l.length->S k=true->∀ j ∈ prI l k,S j=true) (A:AOK P N l a o) :
  Step1 P l o σ w fun cv w'=>∃ μT,JS tb ex exY P l os σ0 h0 σf hf μ0 w0 (fun k=>k == a.ix || S k) (put' σ o cv) w' s t σA h σ' μ μT:=by
 have hao:a ∈ os:=by rw [J.e];simp [ha]
 have hl:a.ix < l.length:=(nR.1 A.get).1
 obtain ⟨r,r',et⟩:=nO ha
 have e1:os=(s ++ r) ++ a :: r':=by rw [J.e,et,nH]
 have hsel:=Z.sel a hao _ A.get
 have hsub:=Z.sub a hao _ A.get
 have hfull:=J.full
 rw [e1] at hfull
 obtain ⟨σ1,h1,r1,r2⟩:=wIr hfull
 obtain ⟨hw,hrd⟩:=J.frm Z hao hl hp hdc A e1 r1
 have hrr:wAN tb ex exY r σA h=some (σ1,h1):=by rw [<- wCU s r _ _ _ _ J.hs];exact r1
 have hself:∀ cv,Agr l o σ (put' σ o cv):=by
  intro cv d hd
  obtain ⟨p,hp,rfl⟩:=wDK A hsub d hd
  exact (wEj A (Z.rd _ a _ e1 p hp a (by simp)) cv).symm
 obtain ⟨hdn,hkd⟩:a.dst ≠ none/\(a.kd=1 \/ a.kd=3 \/ (a.kd=6/\kdA a.op=3) \/ (a.kd=4/\wJp a.op=true) \/ (8 <= a.kd/\kdA a.op=1)):=by
  rcases Z.kd a hao with h | h
  ·rw [hfree] at h;cases h
  ·exact h
 obtain ⟨p,d,d1,d2,d3,_⟩:∃ p d,a.dst=some p/\o.dst=some d/\d=p.nat - 1/\d < N:=by
  rcases A.dst with ⟨h1,_⟩ | h
  ·exact absurd h1 hdn
  ·exact h
 have eput:∀ cv,put' σ o cv (p.nat - 1)=cv:=fun cv=>by unfold put';rw [d2,d3];exact wBn _ _ _
 have hslot:∀ q ∈ wBZ (wAn a.op),q ∈ wBP a:=fun q hq=>np _ hq
 rcases r2 with ⟨g1,v,h2,g2,g3⟩ | ⟨g1,g3⟩
 ·have hv:evA σf (.t p)=v:=wIF Z e1 g3 d1
  have hw':wanted l σ o=true:=hw.trans g1
  have hwn:∀ cv,wanted l (put' σ o cv) o=true:=fun cv=>(wBO (hself cv)).symm.trans hw'
  have hvS:∀ q ∈ wBZ (wAn a.op),Rv μS (evA σ1 (.t q)) (σ (q.nat - 1)):=fun q hq=>by
   rw [<- hrd q (hslot q hq)]
   exact (J.opnd Z hao hl hp hdc (hslot q hq)).1
  have clean:(a.kd=1 \/ a.kd=3 \/ 8 <= a.kd)->(∃ cv,Rv μ v cv/\Runs P σ w o cv w)->Step1 P l o σ w fun cv w'=>∃ μT,JS tb ex exY P l os σ0 h0 σf hf μ0 w0 (fun k=>k == a.ix || S k) (put' σ o cv) w' s t σA h σ' μ μT:=by
   rintro hk ⟨cv,c1,c2⟩
   refine .inl ⟨hw',.inr (.inl ⟨cv,w,c2,μS,J.add Z ha hS hfree hdc A (Keep.refl w _) (Mu.Le.refl _) (fun q c hq=>.inl hq) ⟨p,A.get,d1,.inr ⟨hwn cv,.inl ⟨hk,?_⟩⟩⟩⟩)⟩
   rw [hv,eput]
   exact c1
  have hvC:(a.kd=1 \/ a.kd=3 \/ 8 <= a.kd)->∀ q ∈ wBZ (wAn a.op),Rv μ (evA σ1 (.t q)) (σ (q.nat - 1)):=fun hk q hq=>by
   rw [<- hrd q (hslot q hq)]
   exact (J.opnd Z hao hl hp hdc (hslot q hq)).2 hk
  have loadC:(a.kd=1 \/ a.kd=3 \/ 8 <= a.kd)->kdA a.op=1->∀ (x:List AO),(∀ b ∈ x,b ∈ t)->∀ {σ2:Tr AV} {h3 h4:AH} {σ3:Tr AV},wAN tb ex exY x σA h=some (σ2,h3)->opY a.op tb ex exY σ3 h3=some (v,h4)->(∀ b ∈ x,b.kd=0->False)->(∀ q ∈ wBP a,evA σf (.t q)=evA σ3 (.t q))->∃ cv,Rv μ v cv/\Runs P σ w o cv w:=by
   intro hk k x hx σ2 h3 h4 σ3 hrx gY hx0 hrd3
   have hv3:∀ q ∈ wBZ (wAn a.op),Rv μ (evA σ3 (.t q)) (σ (q.nat - 1)):=fun q hq=>by
    rw [<- hrd3 q (hslot q hq)]
    exact (J.opnd Z hao hl hp hdc (hslot q hq)).2 hk
   have hrs:=wIp gY
   have henv:=wFT hv3
   obtain ⟨_,hold⟩:=wGc HE HY x _ _ _ _ hrx (fun b hb=>Z.ao b (by rw [J.e];simp [hx b hb])) (fun b hb=>by
    rcases Z.kd b (by rw [J.e];simp [hx b hb]) with h | h
    ·unfold wBL at h
     simp only [Bool.or_eq_true] at h
     rcases h with h | h
     ·exact absurd (nI h) (hx0 b hb)
     ·exact .inl (nI h)
    ·exact .inr h.2)
   have hm:∀ b c,μ b=some c->h.m.get b=h3.m.get b:=fun b c hb=>by
    refine (hold b ?_).symm
    rcases Nat.lt_or_ge b.nat h.nx.nat with hlt | hge
    ·exact hlt
    ·rw [J.sim.nx b hge] at hb;cases hb
   have hld:=wMZ k A.op henv hm hrs
   obtain ⟨cv,c1,c2⟩:=wLb (C:=CC P) hsel hsub (.inl k) A.op hld J.sim (fun q hq=>by rw [wFS,if_pos hq];exact hv3 q hq)
   exact ⟨cv,c1,c2⟩
  rcases hkd with hk | hk | ⟨hk,hk2⟩ | ⟨hk,hk2⟩ | ⟨hk,hk2⟩
  ·have gY:opY a.op tb ex exY σ1 h1=some (v,h2):=by rw [hk] at g2;exact g2
   refine clean (.inl hk) ?_
   rcases A.k1 hk with k | k
   ·exact loadC (.inl hk) k r (fun b hb=>by rw [et];simp [hb]) hrr gY (fun b hb h0=>by
     have:=wCm hdc hp (Z.ld _ a _ e1 hk b (by simp [hb]) h0)
     have:=J.free b (by rw [et];simp [hb]) this
     rw [h0] at this
     cases this) hrd
   ·obtain ⟨cv,c1,c2⟩:=wFU hsel hsub k A.op gY (hvC (.inl hk))
    exact ⟨cv,c1,c2 w⟩
  ·have gY:opY a.op tb ex exY σ1 h1=some (v,h2):=by rw [hk] at g2;exact g2
   obtain ⟨cv,c1,c2⟩:=wFU hsel hsub (A.k3 hk) A.op gY (hvC (.inr (.inl hk)))
   exact clean (.inr (.inl hk)) ⟨cv,c1,c2 w⟩
  ·have gY:opY a.op tb ex exY σ1 h1=some (v,h2):=by rw [hk] at g2;exact g2
   obtain ⟨cv,c1,c2⟩:=wFU hsel hsub hk2 A.op gY hvS
   refine .inl ⟨hw',.inr (.inl ⟨cv,w,c2 w,μS,J.add Z ha hS hfree hdc A (Keep.refl w _) (Mu.Le.refl _) (fun q c hq=>.inl hq) ⟨p,A.get,d1,.inr ⟨hwn cv,.inr (.inl ⟨hk,?_,w,w,?_⟩)⟩⟩⟩)⟩
   ·rw [hv,eput]
    exact c1
   ·rw [eput]
    exact (Runs.agr hsel (hself cv)).1 (c2 w)
  ·have gY:opY a.op tb ex exY σ1 h1=some (v,h2):=by rw [hk] at g2;exact g2
   obtain ⟨B,vf,ob,val,_,ev',_,c1,c2,c3⟩:=wJY (C:=CC P) hsel hsub hk2 A.op gY hvS
   have hno:μS h1.nx=none:=by
    cases hq:μS h1.nx with
    | none=>rfl
    | some c =>
     rcases J.nm _ c hq with g | ⟨b,ob',s2,t2,σ2,h3,k1,k2,k3,k4,k5,k6,k7,k8⟩
     ·have:=wOR HE HY Z J.e J.hs ha e1 r1
      rw [J.sim.nx _ this] at g
      cases g
     ·have hbo:b ∈ os:=by rw [J.e];simp [k1]
      have hne:a ≠ b:=fun e=>by subst e;rw [hS] at k2;cases k2
      obtain ⟨ob2,B2⟩:=wBq (Z.ao b hbo)
      have hb2:wJp b.op=true:=by
       rcases Z.kd b hbo with hh | ⟨_,hh | hh | hh | hh | hh⟩
       ·rw [k5] at hh;exact absurd hh (by decide)
       ·omega
       ·omega
       ·omega
       ·exact hh.2
       ·omega
      have hwb:wBc σ2 b.grd=true:=by
       have hlb:b.ix < l.length:=(nR.1 k3).1
       have eo:ob2=ob':=by have:=B2.get;rw [k3] at this;exact (nB this).symm
       subst eo
       have:=(J.frm Z hbo hlb (hdc _ hlb k2) hdc B2 k6 k7).1
       rw [<- this]
       exact k4
      exact absurd k8 (nm_ne HE HY Z e1 k6 r1 k7 g1 hwb hk hk2 k5 hb2 hne)
   have hadd:=Mu.add_le (c:=(⟨w.heap.size,0,g0⟩:Cl)) hno
   have hsz:∀ q c,μS q=some c->c.1 < w.heap.size:=fun q c hq=>by
    rcases J.nm q c hq with g | ⟨b,ob',s2,t2,σ2,h3,k1,k2,k3,k4,k5,k6,k7,k8⟩
    ·exact J.sim.lt q c g
    ·obtain ⟨ob2,p2,Pd⟩:=J.pd b k1 k2
     have eo:ob2=ob':=by have:=Pd.get;rw [k3] at this;exact (nB this).symm
     subst eo
     rcases Pd.fact with ⟨f,_⟩ | ⟨_,⟨f,_⟩ | ⟨f,_⟩ | ⟨_,_,w1,o1,s3,t3,σ3,h4,_,f4,_,f6,f7,f8,_⟩⟩
     ·rw [k4] at f;cases f
     ·omega
     ·omega
     ·have es:s3=s2:=(wBk (f6 ▸ Z.one) (f6.symm.trans k6)).1
      subst es
      rw [k7] at f7
      cases f7
      subst k8
      rw [hq] at f8
      cases f8
      exact wAH f4
   refine .inl ⟨hw',.inr (.inl ⟨val w.heap.size,w.alloc ob,c1 w,μS.add h1.nx ⟨w.heap.size,0,g0⟩,J.add Z ha hS hfree hdc A (wAZ w ob) hadd (fun q c hq=>?_) ⟨p,A.get,d1,.inr ⟨hwn _,.inr (.inr ⟨hk,?_,w,ob,s ++ r,r',σ1,h1,?_,heap_alloc_new w ob,J.E.keep.size,e1,r1,Mu.add_same _ _ _,fun q c hq hc=>?_⟩)⟩⟩⟩)⟩
   ·unfold Mu.add at hq
    split at hq
    ·rename_i eq
     cases hq
     exact .inr ⟨rfl,hw',hk,s ++ r,r',σ1,h1,e1,r1,eq⟩
    ·exact .inl hq
   ·rw [hv,eput,ev']
    exact c3 _ _ _ (Mu.add_same _ _ _)
   ·rw [eput]
    exact (Runs.agr hsel (hself _)).1 (c1 w)
   ·unfold Mu.add at hq
    split at hq
    ·rename_i eq
     exact eq
    ·have:=hsz q c hq
     omega
  ·have gY:opY a.op tb ex exY σ1 h1=some (v,h2):=wLc (by omega) g2
   refine clean (.inr (.inr hk)) ?_
   rcases wGF r with hz | ⟨x,b,y,er,hb0,hx0⟩
   ·exact loadC (.inr (.inr hk)) hk2 r (fun b hb=>by rw [et];simp [hb]) hrr gY (fun b hb h0=>hz b hb h0) hrd
   ·have e2:os=(s ++ x) ++ b :: (y ++ a :: r'):=by rw [J.e,et,er];simp
    have hfull2:=J.full
    rw [e2] at hfull2
    obtain ⟨σ2,h3,r3,_⟩:=wIr hfull2
    have hbt:b ∈ t:=by rw [et,er];simp
    have hanc:wMG y + 8 < a.kd:=by
     rcases Z.ld8 _ a _ e1 hk (s ++ x) b y (by rw [er];simp) hb0 with g | g
     ·have:=J.free b hbt (wCm hdc hp g)
      rw [hb0] at this
      cases this
     ·exact g
    have hlk:=HL _ b _ e2 hb0 _ _ r3
    have hsame:=wIB y a r' 0 hlk hfree (by omega)
    have hgf:wBc σg a.grd=true:=by
     rw [<- g1]
     cases hg:a.grd with
     | none=>rfl
     | some q =>
      obtain ⟨q,c⟩:=q
      show isB c (evA _ (.t q))=isB c (evA _ (.t q))
      have hqr:q ∈ wBP a:=nV _ (by rw [hg];simp)
      rw [<- Hg a hao hk q (.inl hqr),hrd q hqr]
    unfold wFx at hsame
    rw [d1] at hsame
    simp only [hgf] at hsame
    split at hsame
    ·rename_i v' h5 hq
     have hvv:=wLY hsame
     rw [<- Hg a hao hk p (.inr d1),hv] at hvv
     subst hvv
     have hrx:wAN tb ex exY x σA h=some (σ2,h3):=by rw [<- wCU s x _ _ _ _ J.hs];exact r3
     exact loadC (.inr (.inr hk)) hk2 x (fun b hb=>by rw [et,er];simp [hb]) hrx hq (fun b hb h0=>hx0 b hb h0) (fun q hq=>Hg a hao hk q (.inl hq))
    ·cases hsame
 ·refine .inr ⟨hw.trans g1,μS,J.add Z ha hS hfree hdc A (Keep.refl w _) (Mu.Le.refl _) (fun q c hq=>.inl hq) ⟨p,A.get,d1,.inl ⟨(wBO (hself _)).symm.trans (hw.trans g1),eput _,?_⟩⟩⟩
  exact wIF Z e1 (v:=u) g3 d1
theorem JS.catch (Z:ZOK P N l os) {μ0:Mu} {w0:World} {S:Nat->Bool}:∀ (r:List AO) {s t:List AO} {σA:Tr AV} {h:AH} {σ':Env} {μ:Mu},JS tb ex exY P l os σ0 h0 σf hf μ0 w0 S σ w s (r ++ t) σA h σ' μ μS->(∀ a ∈ r,S a.ix=true) ->
  ∃ σB hB σ'' μB,JS tb ex exY P l os σ0 h0 σf hf μ0 w0 S σ w (s ++ r) t σB hB σ'' μB μS
 | [],s,t,σA,h,σ',μ,J,_=>⟨σA,h,σ',μ,by rw [nq];exact J⟩
 | a :: r,s,t,σA,h,σ',μ,J,hS=>by
  obtain ⟨σB,hB,σ'',μB,J1⟩:=JS.catch1 (t:=r ++ t) Z J (hS a (by simp))
  obtain ⟨σC,hC,σ3,μC,J2⟩:=JS.catch Z r J1 fun b hb=>hS b (by simp [hb])
  exact ⟨σC,hC,σ3,μC,by rw [show s ++ a :: r=s ++ [a] ++ r by simp];exact J2⟩
theorem JS.anew {A B:List AO} {σm:Tr AV} {h2:AH} {μ0:Mu} {w0:World} {S:Nat->Bool} (J:JS tb ex exY P l A σ0 h0 σm h2 μ0 w0 S σ w s [] σA h σ' μ μS) (hr:wAN tb ex exY B σm h2=some (σf,hf)) (hB:∀ b ∈ B,S b.ix=false) :
  Ext μ0 h0.fl.nat w0 μ w/\h2.fl=h0.fl/\JS tb ex exY P l B σm h2 σf hf μ w S σ w [] B σm h2 σ' μ μ:=by
 have hr1:=J.hr
 rw [wAa] at hr1
 cases hr1
 exact ⟨J.E,J.fl,rfl,wAa _ _ _ _ _,hr,fun b hb=>(by simp at hb),fun b hb hS=>(by rw [hB b hb] at hS;cases hS),Ext.refl μ _ w,J.sim,rfl,J.env,fun q _=>J.ag q fun b hb=>(by simp at hb),Mu.Le.refl _,fun q c hq=>.inl hq,fun b hb hS=>(by rw [hB b hb] at hS;cases hS)⟩
theorem CK.lazy {rr:Option Nat} {Q:wCH} {D:List Deferred} {id:Nat} (hm:P.follows .mixedOrders=true) (HC:wEU (CC P) P tb ex) (HY':wDd (CC P) P exY) (HE:FrX ex) (HY:FrX exY) (ZZ:∃ A B,ZAll P N l os A B) (HL0:LCK tb ex exY os σ0 h0 σf)
  (hr:wAN tb ex exY os σ0 h0=some (σf,hf)) (S:Sim (CC P) P μ h0 w) (hE:EnvR μ σ0 σ)
  (hQ:∀ μ' w' σ',Ext μ h0.fl.nat w μ' w'->Sim (CC P) P μ' hf w'->EnvR μ' σf σ'->hf.fl=h0.fl->Q D .normal σ' w'):CK rr N P (.region id l.toArray true) Q D σ w:=by
 obtain ⟨A,B,ZZ⟩:=ZZ
 obtain ⟨σm,h2,hrA,hrB⟩:=wCQ A B σ0 h0 _ (ZZ.eq ▸ hr)
 have HL:LCK tb ex exY A σ0 h0 σf/\LCK tb ex exY B σm h2 σf:=by
  refine ⟨fun s b t e k0 σ1 h1 hs=>?_,wIm ZZ.low⟩
  have:=HL0 s b (t ++ B) (by rw [ZZ.eq,e];simp) k0 σ1 h1 hs
  exact wGZ t B 0 this
 have Hg:∀ a ∈ A,8 <= a.kd->∀ p,p ∈ wBP a \/ a.dst=some p->evA σm (.t p)=evA σf (.t p):=fun a ha h8 p hp=>(wBj B _ _ _ _ hrB p fun b hb=>ZZ.far a ha h8 p hp b hb).symm
 have lt:∀ b ∈ os,b.ix < l.length:=fun b hb=>by
  rw [ZZ.eq] at hb
  rcases nL.1 hb with hb | hb
  ·obtain ⟨o,A⟩:=wBq (ZZ.za.ao b hb)
   exact (nR.1 A.get).1
  ·obtain ⟨o,A⟩:=wBq (ZZ.zb.ao b hb)
   exact (nR.1 A.get).1
 have stepB:∀ (S1:Nat->Bool) (a:AO) (σ1:Env) (w1:World) (μm:Mu) (wm:World) (s t:List AO) (σA:Tr AV) (h:AH) (σ':Env) (μ1 μS:Mu) (o:Oper),a ∈ B->S1 a.ix=false->(∀ j ∈ prI l a.ix,S1 j=true)->(∀ k,k < l.length->S1 k=true->∀ j ∈ prI l k,S1 j=true)->AOK P N l a o ->
   JS tb ex exY P l B σm h2 σf hf μm wm S1 σ1 w1 s t σA h σ' μ1 μS->Step1 P l o σ1 w1 fun v w'=>∃ s t σA h σ' μ1 μS,JS tb ex exY P l B σm h2 σf hf μm wm (fun k=>k == a.ix || S1 k) (put' σ1 o v) w' s t σA h σ' μ1 μS:=by
  intro S1 a σ1 w1 μm wm s t σA h σ' μ1 μS o ha hSi hpi hdc A J
  have hat:a ∈ t:=by
   have:=ha
   rw [J.e] at this
   rcases nL.1 this with h | h
   ·rw [J.inS a h] at hSi;cases hSi
   ·exact h
  cases hf:wBL a.kd with
  | true =>
   obtain ⟨r,r',et⟩:=nO hat
   rw [et] at J
   obtain ⟨σB,hB,σ'',μB,J1⟩:=JS.catch ZZ.zb r J fun b hb=>wCm hdc hpi (ZZ.zb.anc (s ++ r) a r' (by rw [J.e,nH]) hf b (by simp [hb]))
   refine (J1.fixed HC HY' HE HY ZZ.zb hf hSi hdc A).mono ?_
   rintro v w' ⟨σC,hC,σ3,μC,μT,J2⟩
   exact ⟨_,_,_,_,_,_,_,J2⟩
  | false =>
   refine (J.freeOp HE HY ZZ.zb HL.2 (fun _ _ _ _ _=>rfl) hat hSi hf hpi hdc A).mono ?_
   rintro v w' ⟨μT,J2⟩
   exact ⟨_,_,_,_,_,_,_,J2⟩
 have toB:∀ (S1:Nat->Bool) (σ1:Env) (w1:World) (s t:List AO) (σA:Tr AV) (h:AH) (σ':Env) (μ1 μS:Mu),(∀ a ∈ A,S1 a.ix=true)->(∀ b ∈ B,S1 b.ix=false)->JS tb ex exY P l A σ0 h0 σm h2 μ w S1 σ1 w1 s t σA h σ' μ1 μS ->
   ∃ μm σ',Ext μ h0.fl.nat w μm w1/\h2.fl=h0.fl/\JS tb ex exY P l B σm h2 σf hf μm w1 S1 σ1 w1 [] B σm h2 σ' μm μm:=by
  intro S1 σ1 w1 s t σA h σ' μ1 μS hA hB J
  have J0:JS tb ex exY P l A σ0 h0 σm h2 μ w S1 σ1 w1 s (t ++ []) σA h σ' μ1 μS:=by rw [nq];exact J
  obtain ⟨σB,hB',σ'',μB,J1⟩:=JS.catch ZZ.za t J0 fun b hb=>hA b (by rw [J.e];simp [hb])
  obtain ⟨g1,g2,g3⟩:=J1.anew hrB hB
  exact ⟨μB,σ'',g1,g2,g3⟩
 refine CK.anyRel hm ZZ.za.pr (fun S σ w1=>((∀ b ∈ B,S b.ix=false)/\∃ s t σA h σ' μ1 μS,JS tb ex exY P l A σ0 h0 σm h2 μ w S σ w1 s t σA h σ' μ1 μS) \/
  ((∀ a ∈ A,S a.ix=true)/\∃ μm wm,Ext μ h0.fl.nat w μm wm/\h2.fl=h0.fl/\∃ s t σA h σ' μ1 μS,JS tb ex exY P l B σm h2 σf hf μm wm S σ w1 s t σA h σ' μ1 μS)) ?_ ?_ ?_
 ·exact .inl ⟨fun b _=>rfl,[],A,σ0,h0,σ,μ,μ,rfl,wAa _ _ _ _ _,hrA,fun b hb=>(by simp at hb),fun b _ hb=>(by cases hb),Ext.drew μ _ w,S.keep (Keep.drew w),rfl,hE,fun _ _=>rfl,Mu.Le.refl _,fun q c hq=>.inl hq,fun b _ hb=>(by cases hb)⟩
 ·rintro S1 i σ1 w1 hi hSi hpi hdc hlt hI
  obtain ⟨a,ha,rfl⟩:=ZZ.all i hi
  rw [ZZ.eq] at ha
  rcases nL.1 ha with ha | ha
  ·obtain ⟨o,AK⟩:=wBq (ZZ.za.ao a ha)
   refine ⟨o,AK.get,wGC AK,?_⟩
   rcases hI with ⟨hB,s,t,σA,h,σ',μ1,μS,J⟩ | ⟨hA,_⟩
   ·have hB':∀ b ∈ B,(fun k=>k == a.ix || S1 k) b.ix=false:=fun b hb=>by
     have:=(ZZ.cross b hb a ha).1
     simp [hB b hb,Ne.symm this]
    have hat:a ∈ t:=by
     have:=ha
     rw [J.e] at this
     rcases nL.1 this with h | h
     ·rw [J.inS a h] at hSi;cases hSi
     ·exact h
    cases hf:wBL a.kd with
    | true =>
     obtain ⟨r,r',et⟩:=nO hat
     rw [et] at J
     obtain ⟨σB,hB2,σ'',μB,J1⟩:=JS.catch ZZ.za r J fun b hb=>wCm hdc hpi (ZZ.za.anc (s ++ r) a r' (by rw [J.e,nH]) hf b (by simp [hb]))
     refine (J1.fixed HC HY' HE HY ZZ.za hf hSi hdc AK).mono ?_
     rintro v w' ⟨σC,hC,σ3,μC,μT,J2⟩
     exact .inl ⟨hB',_,_,_,_,_,_,_,J2⟩
    | false =>
     refine (J.freeOp HE HY ZZ.za HL.1 Hg hat hSi hf hpi hdc AK).mono ?_
     rintro v w' ⟨μT,J2⟩
     exact .inl ⟨hB',_,_,_,_,_,_,_,J2⟩
   ·rw [hA a ha] at hSi
    cases hSi
  ·obtain ⟨o,AK⟩:=wBq (ZZ.zb.ao a ha)
   refine ⟨o,AK.get,wGC AK,?_⟩
   have hA:∀ c ∈ A,S1 c.ix=true:=fun c hc=>wCm hdc hpi (ZZ.cross a ha c hc).2
   rcases hI with ⟨hB,s,t,σA,h,σ',μ1,μS,J⟩ | ⟨_,μm,wm,g1,g2,s,t,σA,h,σ',μ1,μS,J⟩
   ·obtain ⟨μm,σ2,g1,g2,J1⟩:=toB S1 σ1 w1 s t σA h σ' μ1 μS hA hB J
    refine (stepB S1 a σ1 w1 _ _ _ _ _ _ _ _ _ o ha hSi hpi hdc AK J1).mono ?_
    rintro v w' ⟨s,t,σA,h,σ',μ1,μS,J2⟩
    exact .inr ⟨fun c hc=>by simp [hA c hc],_,_,g1,g2,_,_,_,_,_,_,_,J2⟩
   ·refine (stepB S1 a σ1 w1 _ _ _ _ _ _ _ _ _ o ha hSi hpi hdc AK J).mono ?_
    rintro v w' ⟨s,t,σA,h,σ',μ1,μS,J2⟩
    exact .inr ⟨fun c hc=>by simp [hA c hc],_,_,g1,g2,_,_,_,_,_,_,_,J2⟩
 ·rintro S1 σ1 w1 hall hI
  have hI2:∃ μm wm,Ext μ h0.fl.nat w μm wm/\h2.fl=h0.fl/\∃ s t σA h σ' μ1 μS,JS tb ex exY P l B σm h2 σf hf μm wm S1 σ1 w1 s t σA h σ' μ1 μS:=by
   rcases hI with ⟨hB,s,t,σA,h,σ',μ1,μS,J⟩ | ⟨_,hI⟩
   ·obtain ⟨μm,σ2,g1,g2,J1⟩:=toB S1 σ1 w1 s t σA h σ' μ1 μS (fun a ha=>hall _ (lt a (by rw [ZZ.eq];simp [ha]))) hB J
    exact ⟨_,_,g1,g2,_,_,_,_,_,_,_,J1⟩
   ·exact hI
  obtain ⟨μm,wm,g1,g2,s,t,σA,h,σ',μ1,μS,J⟩:=hI2
  have J0:JS tb ex exY P l B σm h2 σf hf μm wm S1 σ1 w1 s (t ++ []) σA h σ' μ1 μS:=by rw [nq];exact J
  obtain ⟨σB,hB,σ'',μB,J1⟩:=JS.catch ZZ.zb t J0 fun b hb=>hall _ (lt b (by rw [ZZ.eq,J.e];simp [hb]))
  have hr1:=J1.hr
  rw [wAa] at hr1
  cases hr1
  refine hQ μB w1 σ1 (g1.trans (g2 ▸ J1.E)) J1.sim (fun q=>?_) (J1.fl.trans g2)
  rw [J1.ag q fun b hb=>by simp at hb]
  exact J1.env q
end
end Go.KX
namespace Go.KX
open Go.RowKit Go.KL
section
variable {P:Program} {tb:Tr AF}
theorem wLf (hm:P.follows .mixedOrders=true) {ex exY:Run} (HC:wEU (CC P) P tb ex) (HY:wDd (CC P) P exY) (FE:FrX ex) (FY:FrX exY) {os:List AO} {σA σA':Tr AV} {h h':AH} (hr:wAN tb ex exY os σA h=some (σA',h')) {id N:Nat} {ops:Array Oper} {draw:Bool} (hc:chkR P N os ops.toList draw=true)
  {rr:Option Nat} {μ:Mu} {σ:Env} {w:World} {D:List Deferred} {n0:Nat} (S:Sim (CC P) P μ h w) (hE:EnvR μ σA σ) (M:Mk μ w n0 D):CK rr N P (.region id ops draw) (PostX P μ h.fl w n0 rr D .nrm σA' h') D σ w:=by
 unfold chkR at hc
 simp only [nD,nP] at hc
 obtain ⟨c1,c2⟩:=hc
 have hop:ops=ops.toList.toArray:=by simp
 have hcs:∀ a ∈ os,wFO P N ops.toList a=true/\kOf ((kK ops.toList.length).map fun i=>kdAt i os) a.ix=a.kd:=fun a ha=>⟨(c1 a ha).1,nI (c1 a ha).2⟩
 have post:∀ {w0:World},Ext μ h.fl.nat w μ w0->Sim (CC P) P μ h w0->OKS N P ops.toList (PostX P μ h.fl w n0 rr D .nrm σA' h') D ((kK ops.toList.length).map fun i=>kdAt i os) (wHF os) σ w0:=by
  intro w0 E0 S0
  refine wHG HC HY os σA h σA' h' hr hcs μ σ w0 S0 hE fun μ' w' σ' q1 q2 q3 q4=>?_
  have E:=E0.trans q1
  exact ⟨rfl,μ',E,q2,q3,M.ext E,q4,fun _=>rfl⟩
 rw [hop]
 cases draw with
 | true =>
  simp only at c2
  split at c2
  ·simp only [nD,nP,Nat.blt_eq] at c2
   exact CK.lazy hm HC HY FE FY (wLS (fun a ha=>(c1 a ha).1) c2.2) (wIm c2.1) hr S hE fun μ' w' σ' q1 q2 q3 q4=>⟨rfl,μ',q1,q2,q3,M.ext q1,q4,fun _=>rfl⟩
  ·exact CK.anyOrd hm _ _ c2 (post (Ext.drew μ _ w) (S.keep (Keep.drew w)))
 | false=>exact CK.reg _ c2 (post (Ext.refl μ _ w) S)
theorem wMa {ex:Run} (HC:wEU (CC P) P tb ex) {g:AOd} {t:List Pos} {asg body:AC} {g':Operand} {ps:Array Tmp} {asg' body':Code} {N:Nat} (hc:wDw P N (.rf g t asg body) (.rangeFunc g' ps asg' body')=true)
  {σA σA':Tr AV} {h h':AH} {e:Ex} (hr:sRf true g t asg body tb ex σA h=some (e,σA',h')) {μ:Mu} {σ:Env} {w:World} {D:List Deferred} {n0:Nat} (S:Sim (CC P) P μ h w) (hE:EnvR μ σA σ) (M:Mk μ w n0 D) (hn:n0 <= w.heap.size) :
  CK none N P (.rangeFunc g' ps asg' body') (PostX P μ h.fl w n0 none D e σA' h') D σ w:=by
 simp only [wDw,nD] at hc
 obtain ⟨c1,c2,c3,c4⟩:=hc
 obtain ⟨p,rfl⟩:∃ p:List Nat,ps=p.toArray:=⟨ps.toList,by simp⟩
 ·obtain ⟨ht,c6⟩:=wIn (by simpa using c2)
  unfold sRf at hr
  split at hr
  ·rename_i f fi ca hg
   have hx:=wAB c1 hE
   rw [hg] at hx
   obtain ⟨fv,cv,g1,g2,g3⟩:=hx
   split at hr <;> first | (cases hr;done) | skip
   rename_i rv h2 hcall
   obtain ⟨hcf,hgv⟩:=HC _ _ _ _ _ hcall
   refine CK.rangeFunc (t:=p) g3 hcf fun fn l rb w1 e1 e2 hl hd K hs=>?_
   subst e1 e2
   have hle:=Mu.add_le (c:=(⟨w.heap.size + 1,0,⟨N,σ,p,asg',body',w.heap.size,fn⟩⟩:Cl)) (S.nx h.nx (nf _))
   obtain ⟨s1,s2,s3,s4⟩:=S.push (w':=w1) (c:=⟨w.heap.size + 1,0,⟨N,σ,p,asg',body',w.heap.size,fn⟩⟩) (B:=.loop σA t asg body .ready) K (Nat.le_succ _) (by show w.heap.size + 1 < _;omega) ⟨hl,hE.mono hle,ht,c6,c3,c4⟩
   generalize hμ1:μ.add h.nx (⟨w.heap.size + 1,0,⟨N,σ,p,asg',body',w.heap.size,fn⟩⟩:Cl)=μ1 at *
   have M1:Mk μ1 w1 n0 (wIb w.heap.size :: D):=by
    have M':=M.ext s2
    obtain ⟨rbs,m1,m2,m3⟩:=M'
    have hold:∀ rb ∈ rbs,rb < w.heap.size:=by
     obtain ⟨rbs0,k1,k2,k3⟩:=M
     intro rb hrb
     have hmm:rbs.map wIb=rbs0.map wIb:=by rw [<- m1,<- k1]
     have hinj:rbs=rbs0:=by
      have:∀ (a b:List Nat),a.map wIb=b.map wIb->a=b:=by
       intro a
       induction a with
       | nil=>intro b hb;cases b with
        | nil=>rfl
        | cons _ _=>simp at hb
       | cons x a ih=>intro b hb;cases b with
        | nil=>simp at hb
        | cons y b =>
         simp only [kO,nj] at hb
         have hxy:x=y:=by have:=hb.1;simp [wIb] at this;exact this
         rw [hxy,ih b hb.2]
      exact this _ _ hmm
     exact (k3 rb (hinj ▸ hrb)).1.lt
    refine ⟨w.heap.size :: rbs,by rw [kO,<- m1],List.nodup_cons.2 ⟨fun hm=>absurd (hold _ hm) (kM _),m2⟩,fun rb hrb=>?_⟩
    rcases nK.1 hrb with rfl | hrb
    ·refine ⟨hd,hn,fun q c hq=>?_⟩
     rw [<- hμ1] at hq
     unfold Mu.add at hq
     split at hq
     ·cases hq;show w.heap.size + 1 ≠ _;omega
     ·have:=S.lt q c hq;omega
    ·exact m3 rb hrb
   have G:=hgv μ1 w1 (fv ++ (.func (.yield (w.heap.size + 1)) #[] #[] :: cv)) s1 (wCj (g1.mono s2.mono) (wAl ⟨_,s4,rfl⟩ (g2.mono s2.mono)))
   rw [nH]
   refine G.mono ?_
   rintro v3 w3 ⟨μ3,q1,q2,q3,q4⟩
   rw [s3] at q1 q4
   have E13:=s2.trans q1
   have hc3:=q1.mono _ _ s4
   have fin:∀ {B:AB} {h3:AH} (w4:World),h2.m.get h.nx=some B->wJQ B->h2.put h.nx .dead=some h3->Keep w3 w4 (·=w.heap.size + 1)->w4.heap.size=w3.heap.size->∃ μ',Ext μ h.fl.nat w μ' w4/\Sim (CC P) P μ' h3 w4/\EnvR μ' σA σ/\Mk μ' w4 n0 (wIb w.heap.size :: D)/\h3.fl=h.fl:=by
    intro B h3 w4 hB hlv hput K4 _
    obtain ⟨v1,v2,v3⟩:=q2.put hput hB hlv hc3 K4 (B':=.dead) trivial
    rw [q4] at v2 v3
    exact ⟨μ3,E13.trans v2,v1,hE.mono E13.mono,(M1.ext q1).ext v2,v3⟩
   split at hr
   ·rename_i sx tx ax bx hB
    split at hr <;> first | (cases hr;done) | skip
    rename_i h3 hput
    cases hr
    obtain ⟨c',u1,u2⟩:=q2.at_ _ _ hB
    rw [hc3] at u1;cases u1
    have L3:wJP (CC P) μ3 w3 ⟨w.heap.size + 1,0,⟨N,σ,p,asg',body',w.heap.size,fn⟩⟩ sx tx ax bx .ready:=u2
    refine .inl ⟨L3.at_,fun w4 K4 hs4=>?_⟩
    obtain ⟨μ',a1,a2,a3,a4,a5⟩:=fin w4 hB trivial hput K4 hs4
    exact ⟨rfl,μ',a1,a2,a3,a4,a5,fun hq=>by cases hq⟩
   ·rename_i sx tx ax bx ee hB
    split at hr <;> first | (cases hr;done) | skip
    rename_i h3 hput
    cases hr
    obtain ⟨c',u1,u2⟩:=q2.at_ _ _ hB
    rw [hc3] at u1;cases u1
    have L3:wJP (CC P) μ3 w3 ⟨w.heap.size + 1,0,⟨N,σ,p,asg',body',w.heap.size,fn⟩⟩ sx tx ax bx (.done e):=u2
    cases e with
    | nrm =>
     refine .inl ⟨L3.at_,fun w4 K4 hs4=>?_⟩
     obtain ⟨μ',a1,a2,a3,a4,a5⟩:=fin w4 hB trivial hput K4 hs4
     exact ⟨rfl,μ',a1,a2,a3,a4,a5,fun hq=>by cases hq⟩
    | ret =>
     refine .inr ⟨.ret,.inl rfl,L3.at_,fun w4 K4 hs4=>?_⟩
     obtain ⟨μ',a1,a2,a3,a4,a5⟩:=fin w4 hB trivial hput K4 hs4
     exact ⟨rfl,μ',a1,a2,a3,a4,a5,fun hq=>by cases hq⟩
    | exit i =>
     refine .inr ⟨.exit i,.inr ⟨i,rfl⟩,L3.at_,fun w4 K4 hs4=>?_⟩
     obtain ⟨μ',a1,a2,a3,a4,a5⟩:=fin w4 hB trivial hput K4 hs4
     exact ⟨rfl,μ',a1,a2,a3,a4,a5,fun hq=>by cases hq⟩
   ·cases hr
  ·cases hr
theorem CK.ofRounds {rr:Option Nat} {N:Nat} {c:Code} {Q:wCH} {D:List Deferred} {σ:Env} {w:World} (m:Nat) (hh:∀ a,Rep N D a σ->Code.roundsIn (WF rr) 0 P c (wFb N Q) m a w):CK rr N P (.loop c) Q D σ w :=
 fun a ha=>wpIn_loop_rounds m (hh a ha)
theorem wPg {exR:Run} {r:Bool} (HE:wHH P exR r) {a b:AC} {σA σA':Tr AV} {h h':AH} {e:Ex} (hr:wPC a b exR σA h=some (e,σA',h')) {c d:Code} {N:Nat} (hc1:wDw P N a c=true) (hc2:wDw P N b d=true)
  {rr:Option Nat} {μ:Mu} {σ:Env} {w:World} {D:List Deferred} {n0:Nat} (hrr:rr.isSome=r) (S:Sim (CC P) P μ h w) (hE:EnvR μ σA σ) (M:Mk μ w n0 D) (hn:n0 <= w.heap.size):CK rr N P (.seq c d) (PostX P μ h.fl w n0 rr D e σA' h') D σ w:=by
 obtain ⟨⟨e1,σ1,h1⟩,ha,hb⟩:=wOo hr
 rw [wIE] at hb
 refine CK.seq ((HE _ _ _ _ _ _ ha c N hc1 rr μ σ w D n0 hrr S hE M hn).mono ?_)
 intro D' e' σ' w' hp
 obtain ⟨rfl,μ1,q1,q2,q3,q4,q5,q6⟩:=hp
 cases e1 with
 | nrm =>
  refine (HE _ _ _ _ _ _ hb d N hc2 rr μ1 σ' w' D' n0 hrr q2 q3 q4 (nw hn q1.keep.size)).mono ?_
  intro D'' e'' σ'' w'' hp
  rw [q5] at hp
  exact PostX.trans q1 q6 hp
 | ret=>cases hb;exact ⟨rfl,μ1,q1,q2,q3,q4,q5,q6⟩
 | exit i=>cases hb;exact ⟨rfl,μ1,q1,q2,q3,q4,q5,q6⟩
theorem wOS {exR:Run} {r:Bool} {m:Nat} (HE:wHH P exR r) (HL:wLT P exR r m) {a:AC} {σA σA':Tr AV} {h h':AH} {e:Ex} (hr:wKo a exR σA h=some (e,σA',h')) {c:Code} {N:Nat} (hc:wDw P N a c=true)
  {rr:Option Nat} {μ:Mu} {σ:Env} {w:World} {D:List Deferred} {n0:Nat} (hrr:rr.isSome=r) (S:Sim (CC P) P μ h w) (hE:EnvR μ σA σ) (M:Mk μ w n0 D) (hn:n0 <= w.heap.size):∀ act,Rep N D act σ->Code.roundsIn (WF rr) 0 P c (wFb N (PostX P μ h.fl w n0 rr D e σA' h')) (m + 1) act w:=by
 obtain ⟨⟨e1,σ1,h1⟩,ha,hb⟩:=wOo hr
 rw [wIE] at hb
 intro act hact
 rw [roundsIn_succ]
 refine wpIn_mono (HE _ _ _ _ _ _ ha c N hc rr μ σ w D n0 hrr S hE M hn act hact) ?_
 rintro e' act' w' ⟨σ',D',hrep,hp⟩
 obtain ⟨rfl,μ1,q1,q2,q3,q4,q5,q6⟩:=hp
 cases e1 with
 | nrm =>
  refine wFR ?_ m act' w' (HL _ _ _ _ _ _ hb c N hc rr μ1 σ' w' D' n0 hrr q2 q3 q4 (nw hn q1.keep.size) act' hrep)
  rintro e'' act'' w'' ⟨σ'',D'',hrep',hp⟩
  rw [q5] at hp
  exact ⟨σ'',D'',hrep',PostX.trans q1 q6 hp⟩
 | ret=>cases hb;exact ⟨σ',D',hrep,rfl,μ1,q1,q2,q3,q4,q5,q6⟩
 | exit i=>cases hb;exact ⟨σ',D',hrep,rfl,μ1,q1,q2,q3,q4,q5,q6⟩
theorem wOT (hm:P.follows .mixedOrders=true) (T:wJX P tb):∀ (n:Nat) (r:Bool),wHH P (exec tb n r) r/\wLT P (exec tb n r) r n:=by
 intro n
 induction n with
 | zero=>intro r;exact ⟨fun c σA h e σA' h' hr=>(by cases hr),fun c σA h e σA' h' hr=>(by cases hr)⟩
 | succ n ih =>
  intro r
  have HC:=wLU T (ih false).1
  have HY:=wMX (P:=P) (ih true).1
  obtain ⟨HE,HL⟩:=ih r
  have loop:wLT P (exec tb (n + 1) r) r (n + 1):=by
   intro c σA h e σA' h' hr code N hc rr μ σ w D n0 hrr S hE M hn
   have hr:wKo c (exec tb n r) σA h=some (e,σA',h'):=hr
   exact wOS HE HL hr hc hrr S hE M hn
  refine ⟨?_,loop⟩
  intro c σA h e σA' h' hr code N hc rr μ σ w D n0 hrr S hE M hn
  rw [wGy] at hr
  cases c with
  | skip =>
   have hr:sNrm σA h=some (e,σA',h'):=hr
   cases hr
   have fin:PostX P μ h.fl w n0 rr D .nrm σA h D .normal σ w:=⟨rfl,μ,Ext.refl μ _ w,S,hE,M,rfl,fun _=>rfl⟩
   cases code <;> simp only [wDw,nE] at hc
   ·exact CK.skip fin
   ·exact CK.label fin
  | rg os =>
   have hr:sRg os tb (exec tb n false) (exec tb n true) (exec tb n r) σA h=some (e,σA',h'):=hr
   unfold sRg at hr
   have:∃ y,wAN tb (exec tb n false) (exec tb n true) os σA h=some y/\some (Ex.nrm,y.1,y.2)=some (e,σA',h'):=by
    cases hq:wAN tb (exec tb n false) (exec tb n true) os σA h with
    | none=>rw [hq] at hr;cases hr
    | some y=>rw [hq] at hr;exact ⟨y,rfl,hr⟩
   obtain ⟨y,h1,h2⟩:=this
   cases h2
   cases code <;> simp only [wDw,nE] at hc
   exact wLf hm HC HY (wDf tb n false) (wDf tb n true) h1 hc S hE M
  | seq a b =>
   have hr:wPC a b (exec tb n r) σA h=some (e,σA',h'):=hr
   cases code <;> simp only [wDw,nE,nD] at hc
   exact wPg HE hr hc.1 hc.2 hrr S hE M hn
  | cond x a b =>
   have hr:wKn x a b (exec tb n r) σA h=some (e,σA',h'):=hr
   cases code <;> simp only [wDw,nE,nD] at hc
   have hx:=wAB hc.1 hE
   unfold wKn at hr
   split at hr
   ·rename_i hb;rw [hb] at hx
    exact CK.condT hx (HE _ _ _ _ _ _ hr _ N hc.2.1 rr μ σ w D n0 hrr S hE M hn)
   ·rename_i hb;rw [hb] at hx
    exact CK.condF hx (HE _ _ _ _ _ _ hr _ N hc.2.2 rr μ σ w D n0 hrr S hE M hn)
   ·cases hr
  | block i a =>
   have hr:wIa i a (exec tb n r) σA h=some (e,σA',h'):=hr
   cases code <;> simp only [wDw,nE,nD] at hc
   rename_i j code
   have hij:=nI hc.1
   subst hij
   obtain ⟨⟨e1,σ1,h1⟩,ha,hb⟩:=wOo hr
   refine CK.block ((HE _ _ _ _ _ _ ha code N hc.2 rr μ σ w D n0 hrr S hE M hn).mono ?_)
   rintro D' e' σ' w' ⟨rfl,μ1,q1,q2,q3,q4,q5,q6⟩
   cases e1 with
   | nrm=>cases hb;exact ⟨rfl,μ1,q1,q2,q3,q4,q5,q6⟩
   | ret=>cases hb;exact ⟨rfl,μ1,q1,q2,q3,q4,q5,q6⟩
   | exit k =>
    have hb:Bool.rec (motive:=fun _=>R) (some (.exit k,σ1,h1)) (some (.nrm,σ1,h1)) (Nat.beq k i)=some (e,σA',h'):=hb
    cases hk:Nat.beq k i with
    | true =>
     rw [hk] at hb;cases hb
     have:=nI hk
     subst this
     exact wGL ⟨rfl,μ1,q1,q2,q3,q4,q5,q6⟩
    | false =>
     rw [hk] at hb;cases hb
     exact wMI ⟨rfl,μ1,q1,q2,q3,q4,q5,q6⟩ hk
  | loop a =>
   have hr':exec tb (n + 1) r (.loop a) σA h=some (e,σA',h'):=hr
   cases code <;> simp only [wDw,nE] at hc
   exact CK.ofRounds (n + 1) (loop _ _ _ _ _ _ hr' _ N hc rr μ σ w D n0 hrr S hE M hn)
  | rf g t asg body =>
   have hr:sRf (!r) g t asg body tb (exec tb n false) σA h=some (e,σA',h'):=hr
   cases r with
   | true=>unfold sRf at hr;simp at hr
   | false =>
    have hnone:rr=none:=by cases rr <;> first | rfl | cases hrr
    subst hnone
    cases code <;> first | (simp only [wDw,nE] at hc;done) | skip
    exact wMa HC hc hr S hE M hn
  | exit i =>
   have hr:some (Ex.exit i,σA,h)=some (e,σA',h'):=hr
   cases hr
   cases code <;> simp only [wDw,nE] at hc
   have:=nI hc
   subst this
   exact CK.exit ⟨rfl,μ,Ext.refl μ _ w,S,hE,M,rfl,fun _=>rfl⟩
  | scope a =>
   have hr:exec tb n r a σA h=some (e,σA',h'):=hr
   cases code <;> simp only [wDw,nE] at hc
   refine CK.scope ((HE _ _ _ _ _ _ hr _ N hc rr μ σ w D n0 hrr S hE M hn).mono ?_)
   rintro D' e' σ' w' ⟨rfl,q⟩
   cases e with
   | nrm=>exact ⟨rfl,q⟩
   | ret=>exact ⟨rfl,q⟩
   | exit k=>exact ⟨rfl,q⟩
  | ret =>
   have hr:some (Ex.ret,σA,h)=some (e,σA',h'):=hr
   cases hr
   cases code <;> simp only [wDw,nE] at hc
   exact CK.ret ⟨rfl,μ,Ext.refl μ _ w,S,hE,M,rfl,fun _=>rfl⟩
  | rl os =>
   have hr:sRl os tb (exec tb n false) (exec tb n true) σA h=some (e,σA',h'):=hr
   rw [wNC] at hr
   split at hr
   ·rename_i y hq
    cases hr
    obtain ⟨g1,g2⟩:=wIC _ _ _ _ hq
    cases code <;> simp only [wDw,nE,nD,nP] at hc
    rename_i id ops draw
    obtain ⟨rfl,c1,c2⟩:=hc
    have hop:ops=ops.toList.toArray:=by simp
    rw [hop]
    exact CK.lazy hm HC HY (wDf tb n false) (wDf tb n true) (wLS c1 c2) g2 g1 S hE fun μ' w' σ' q1 q2 q3 q4=>⟨rfl,μ',q1,q2,q3,M.ext q1,q4,fun _=>rfl⟩
   ·cases hr
theorem Sim.empty (C:Chk) (P:Program) (w:World):Sim C P (fun _=>none) ⟨.e,.H,.H⟩ w :=
 ⟨fun _ _=>rfl,fun _ _ h=>(by cases h),fun _ _ _ _ _ _ h=>(by rw [Tr.get_e] at h;cases h),fun _ _ h=>(by rw [Tr.get_e] at h;cases h)⟩
theorem wJa (hm:P.follows .mixedOrders=true) (T:wJX P tb) (n:Nat) (f:Pos) (args:List AV) (vs:List Value) (v:AV) (h:AH) (hv:∀ μ,RvL μ args vs) (hr:wGv tb (exec tb n false) f args ⟨.e,.H,.H⟩=some (v,h)) (w:World) :
  Gv P (f.nat - 1) vs w fun cv w'=>∃ μ,Rv μ v cv/\Keep w w' Non:=by
 obtain ⟨_,hg⟩:=wLU T (wOT hm T n false).1 f args _ v h hr
 refine (hg _ w vs (Sim.empty _ _ w) (hv _)).mono ?_
 rintro cv w' ⟨μ',h1,h2,h3,_⟩
 exact ⟨μ',h3,h1.keep.weak fun i _ ⟨p,d,hp,_⟩=>by cases hp⟩
noncomputable def okB (tb:Tr AF) (n:Nat) (f:Pos) (b:Bool):Bool:=match wGv tb (exec tb n false) f [] ⟨.e,.H,.H⟩ with
 | some (.bool b',_)=>b' == b
 | _=>false
theorem wMb (hm:P.follows .mixedOrders=true) (T:wJX P tb) (n:Nat) (f:Pos) (k:Nat) (hk:f.nat=k + 1) (b:Bool) (hr:okB tb n f b=true) (w:World):Gv P k [] w fun cv w'=>cv=.bool b/\Keep w w' Non:=by
 unfold okB at hr
 split at hr
 ·rename_i b' h hq
  have hb:=eq_of_beq hr
  subst hb
  have:=wJa hm T n f [] [] _ h (fun _=>rfl) hq w
  rw [hk] at this
  refine this.mono ?_
  rintro cv w' ⟨μ,h1,h2⟩
  exact ⟨h1,h2⟩
 ·cases hr
def wLg (f:Nat->AF->Prop):Tr AF->(Nat->Nat)->Prop
 | .e,_=>True
 | .n l v r,g=>(match v with | none=>True | some a=>f (g 1) a)/\wLg f l (fun n=>g (2 * n))/\wLg f r (fun n=>g (2 * n + 1))
theorem wFV {f:Nat->AF->Prop}:∀ {t:Tr AF} {g:Nat->Nat},wLg f t g->∀ p a,t.get p=some a->f (g p.nat) a
 | .e,g,_,p,a,hq=>by rw [Tr.get_e] at hq;cases hq
 | .n l v r,g,⟨h1,h2,h3⟩,.H,a,hq=>by
  rw [Tr.get_H] at hq;subst hq;exact h1
 | .n l v r,g,⟨h1,h2,h3⟩,.O p,a,hq=>wFV h2 p a hq
 | .n l v r,g,⟨h1,h2,h3⟩,.I p,a,hq=>wFV h3 p a hq
theorem wPh (h:wLg (fun n a=>chkF P (n - 1) a=true) tb fun n=>n):wJX P tb:=fun p af hq=>wFV h p af hq
end
end Go.KX
namespace Go.KL
variable {S S' B B' α:Type}
theorem wHK {body:Nat->S->Option S} (I:Nat->S->Prop):∀ (m k:Nat) (s:S),I k s ->
  (∀ i s,k <= i->i < k + m->I i s->∃ s',body i s=some s'/\I (i + 1) s')->∃ s',forN' body m k s=some s'/\I (k + m) s'
 | 0,k,s,h,_=>⟨s,rfl,h⟩
 | m + 1,k,s,h,hb=>by
  simp only [forN']
  obtain ⟨s',h1,h2⟩:=hb k s (nf _) (by omega) h
  rw [h1]
  have:=wHK I m (k + 1) s' h2 fun i s h2 h3 h4=>hb i s (by omega) (by omega) h4
  rwa [show k + 1 + m=k + (m + 1) from by omega] at this
theorem wCe {body:Nat->S->Option (S ⊕ B)} {n:Nat} {s:S} (hn:n <= 9223372036854775807):wEd 0 (n:Int) body s=forN body n 0 s:=by
 unfold wEd
 rw [if_pos (by omega),show ((n:Int) - 0).toNat=n from by omega]
theorem wEH {body:Nat->S->Option S} {n:Nat} {s:S} (hn:n <= 9223372036854775807):wCF 0 (n:Int) body s=forN' body n 0 s:=by
 unfold wCF
 rw [if_pos (by omega),show ((n:Int) - 0).toNat=n from by omega]
theorem wJd [DecidableEq α] {l m:List α} (hn:l.length <= 9223372036854775807) :
  (if (↑l.length:Int)=(↑m.length:Int) then jn (wEd 0 (↑l.length:Int) (fun k4 (_:Unit)=>(idx l (↑k4:Int)).bind fun x26=>(idx m (↑k4:Int)).bind fun x34=>if x26=x34 then some (.inl ()) else esc (some false)) ()) fun _=>some true else some false)=some (decide (l=m)):=by
 by_cases hl:l.length=m.length
 ·rw [if_pos (by omega),wCe hn]
  have key:∀ (n k:Nat),k + n=l.length->(jn (forN (fun k4 (_:Unit)=>(idx l (↑k4:Int)).bind fun x26=>(idx m (↑k4:Int)).bind fun x34=>if x26=x34 then some (.inl ()) else esc (some false)) n k ()) fun _=>some true)=some (decide (l.drop k=m.drop k)):=by
   intro n
   induction n with
   | zero=>intro k hk;rw [nT (by omega),nT (by omega)];simp [forN]
   | succ n ih =>
    intro k hk
    have h1:k < l.length:=by omega
    have h2:k < m.length:=by omega
    rw [nS h1,nS h2,forN,wEq,wEq,nQ h1,nQ h2]
    simp only [nA]
    by_cases h:l[k]=m[k]
    ·rw [if_pos h]
     simp only
     rw [ih (k + 1) (by omega)]
     congr 1
     exact decide_eq_decide.2 ⟨fun e=>by rw [e,h],fun e=>(kg e).2⟩
    ·rw [if_neg h]
     have:¬ l[k] :: l.drop (k + 1)=m[k] :: m.drop (k + 1):=fun e=>h (kg e).1
     simp only [wMK,wEr,this,decide_false]
  have:=key l.length 0 (by omega)
  simpa using this
 ·rw [if_neg (by omega)]
  have:l ≠ m:=fun e=>hl (by rw [e])
  simp [this]
theorem wIs {R:Type} {l:List α} {g:α->Option (Unit ⊕ R)} {p:α->Bool} {z:R} {K:Unit->Option R} (hg:∀ a ∈ l,g a=if p a=true then some (.inl ()) else some (.inr z)) (hn:l.length <= 9223372036854775807) :
  jn (wEd 0 (↑l.length:Int) (fun k (_:Unit)=>(idx l (↑k:Int)).bind g) ()) K=if l.all p=true then K () else some z:=by
 rw [wCe hn]
 have key:∀ (m k:Nat),k + m=l.length->jn (forN (fun k (_:Unit)=>(idx l (↑k:Int)).bind g) m k ()) K=if (l.drop k).all p=true then K () else some z:=by
  intro m
  induction m with
  | zero=>intro k hk;rw [nT (by omega)];rfl
  | succ m ih =>
   intro k hk
   have hlt:k < l.length:=by omega
   have e:l.drop k=l[k] :: l.drop (k + 1):=nS hlt
   rw [e,List.all_cons,forN,wEq,nQ hlt]
   simp only [nA,hg _ (List.getElem_mem hlt)]
   by_cases h:p l[k]=true
   ·rw [h]
    simp only [if_true,kP]
    exact ih (k + 1) (by omega)
   ·rw [if_neg h]
    have:p l[k]=false:=by simpa using h
    simp only [this,Bool.false_and,wEr,nE,if_false]
 exact key l.length 0 (by omega)
theorem wIt {β:Type} {l:List α} {f:α->β} {bytes:Nat} {g:α->List β->Option (List β)} (hg:∀ a ∈ l,∀ r,g a r=app bytes r [f a]) (hn:l.length <= 9223372036854775807) (hb:l.length * bytes <= 140737488355328) :
  wCF 0 (↑l.length:Int) (fun k r=>(idx l (↑k:Int)).bind fun x=>g x r) []=some (l.map f):=by
 rw [wEH hn]
 have key:∀ (m k:Nat) (r:List β),k + m=l.length->r.length=k->forN' (fun k r=>(idx l (↑k:Int)).bind fun x=>g x r) m k r=some (r ++ (l.drop k).map f):=by
  intro m
  induction m with
  | zero=>intro k r hk _;rw [nT (by omega)];simp [forN']
  | succ m ih =>
   intro k r hk hr
   have hlt:k < l.length:=by omega
   have e:l.drop k=l[k] :: l.drop (k + 1):=nS hlt
   rw [e,forN',wEq,nQ hlt]
   have ha:app bytes r [f l[k]]=some (r ++ [f l[k]]):=by
    refine if_pos ?_
    simp only [ny,List.length_nil]
    exact nw (Nat.mul_le_mul_right _ (by omega)) hb
   simp only [nA,hg _ (List.getElem_mem hlt),ha]
   rw [ih (k + 1) _ (by omega) (by simp [hr]),nH]
   rfl
 exact key l.length 0 [] (by omega) rfl
theorem wEV {bytes:Nat} {l m:List α} (h:(l.length + m.length) * bytes <= 140737488355328):app bytes l m=some (l ++ m):=if_pos h
end Go.KL
namespace Go.KL
variable {S B R α β:Type}
theorem wIu {body:Nat->S->Option (S ⊕ B)} (s:Nat->S):∀ (m k:Nat),(∀ i,k <= i->i < k + m->body i (s i)=some (.inl (s (i + 1))))->forN body m k (s k)=some (.inl (s (k + m)))
 | 0,_,_=>rfl
 | m + 1,k,h=>by
  rw [forN,h k (nf _) (by omega)]
  have:=wIu s m (k + 1) fun i h1 h2=>h i (by omega) (by omega)
  rw [show k + 1 + m=k + (m + 1) by omega] at this
  exact this
theorem wHL {body:Nat->S->Option S} (s:Nat->S):∀ (m k:Nat),(∀ i,k <= i->i < k + m->body i (s i)=some (s (i + 1)))->forN' body m k (s k)=some (s (k + m))
 | 0,_,_=>rfl
 | m + 1,k,h=>by
  rw [forN',h k (nf _) (by omega)]
  have:=wHL s m (k + 1) fun i h1 h2=>h i (by omega) (by omega)
  rw [show k + 1 + m=k + (m + 1) by omega] at this
  exact this
theorem wBx {body:Nat->S->Option S} {n:Nat} {s0:S} (s:Nat->S) (h0:s 0=s0) (hn:n <= 9223372036854775807) (h:∀ i,i < n->body i (s i)=some (s (i + 1))):wCF 0 (n:Int) body s0=some (s n):=by
 rw [wEH hn,<- h0]
 have:=wHL s n 0 fun i _ hi=>h i (by omega)
 rwa [nz] at this
theorem wMd {body:Nat->S->Option (S ⊕ B)} {n:Nat} {s0:S} (s:Nat->S) (h0:s 0=s0) (hn:n <= 9223372036854775807) (h:∀ i,i < n->body i (s i)=some (.inl (s (i + 1)))):wEd 0 (n:Int) body s0=some (.inl (s n)):=by
 rw [wCe hn,<- h0]
 have:=wIu s n 0 fun i _ hi=>h i (by omega)
 rwa [nz] at this
theorem wLj {body:Nat->Unit->Option (Unit ⊕ B)} {n:Nat} (hn:n <= 9223372036854775807) (h:∀ i,i < n->body i ()=some (.inl ())):wEd 0 (n:Int) body ()=some (.inl ()):=wMd (fun _=>()) rfl hn h
theorem wBd [Inhabited α] {l:List α} {k:Nat} (h:k < l.length):idx l (k:Int)=some (gd l k):=by
 rw [wEq]
 exact wBe h
theorem wCW [Inhabited α] {l:List α} {k:Nat} (h:k < l.length):gd l k ∈ l:=List.mem_of_getElem? (wBe h)
theorem wCp [Inhabited α] {l:List α} {k:Nat} (h:k < l.length):l.take (k + 1)=l.take k ++ [gd l k]:=by
 rw [List.take_add_one,wBe h]
 rfl
theorem wGd [Inhabited α] {l:List α} {k:Nat} (h:k < l.length):l.drop k=gd l k :: l.drop (k + 1):=by
 have:=wBe h
 rw [nQ h] at this
 rw [nS h,nB this]
theorem wMe [Inhabited α] (l m:List α) (x:α):gd (l ++ x :: m) l.length=x:=by
 have h1:=wBe (xs:=l ++ x :: m) (k:=l.length) (by simp)
 rw [List.getElem?_append_right (nf _),kA] at h1
 exact (nB h1).symm
theorem wOV [Inhabited α] [Inhabited β] (f:α->β) {l:List α} {k:Nat} (h:k < l.length):gd (l.map f) k=f (gd l k):=by
 have h1:=wBe (xs:=l.map f) (k:=k) (by simpa using h)
 rw [List.getElem?_map,wBe h] at h1
 exact (nB h1).symm
theorem wGe (o:Option α):(o.bind fun x=>some x)=o:=by cases o <;> rfl
theorem wPk [Inhabited α] {l m:List α} (h:l.length=m.length) (hk:∀ k,k < l.length->gd l k=gd m k):l=m:=by
 apply List.ext_getElem?
 intro k
 rcases Nat.lt_or_ge k l.length with h1 | h1
 ·rw [wBe h1,wBe (by omega),hk k h1]
 ·rw [kG h1,kG (by omega)]
end Go.KL
namespace Go.KL
variable {S B α:Type}
theorem wLk {body:S->Option (S ⊕ B)} (F:Nat):∀ (m:Nat) (s:Nat->S),(∀ i,i < m->body (s i)=some (.inl (s (i + 1))))->iter body (m + F) (s 0)=iter body F (s m)
 | 0,s,_=>by rw [nz]
 | m + 1,s,h=>by
  rw [show m + 1 + F=(m + F) + 1 by omega,iter,h 0 (by omega)]
  exact wLk F m (fun i=>s (i + 1)) fun i hi=>h (i + 1) (by omega)
theorem wLl {body:S->Option (S ⊕ B)} {m:Nat} (s:Nat->S) (h:∀ i,i < m->body (s i)=some (.inl (s (i + 1)))) {b:B} (hb:body (s m)=some (.inr b)) {s0:S} (h0:s 0=s0) (hm:m < 1000000):iter body big s0=some b:=by
 subst h0
 have:=wLk (big - m - 1 + 1) m s h
 rw [show m + (big - m - 1 + 1)=big by unfold big;omega] at this
 rw [this,iter,hb]
theorem wPl [Inhabited α] {l:List α} {i k:Nat} {x:α} (hi:i < l.length) (hk:k < l.length):gd (l.set i x) k=if k=i then x else gd l k:=by
 have h1:=wBe (xs:=l.set i x) (k:=k) (by rw [List.length_set];exact hk)
 rw [List.getElem?_set] at h1
 by_cases e:i=k
 ·subst e
  rw [if_pos rfl,if_pos hi] at h1
  rw [if_pos rfl]
  exact (nB h1).symm
 ·rw [if_neg e,wBe hk] at h1
  rw [if_neg (fun h=>e h.symm)]
  exact (nB h1).symm
theorem wDN [Inhabited α] {l:List α} {k:Nat} (h:k < l.length):gd l k=l[k]:=by
 have:=wBe h
 rw [nQ h] at this
 exact (nB this).symm
theorem wGG [DecidableEq α] {l:List α} (hn:l.length <= 9223372036854775807) :
  (if (↑l.length:Int)=(↑l.length:Int) then jn (wEd 0 (↑l.length:Int) (fun k4 (_:Unit)=>(idx l (↑k4:Int)).bind fun x26=>(idx l (↑k4:Int)).bind fun x34=>if x26=x34 then some (.inl ()) else esc (some false)) ()) fun _=>some true else some false)=some true:=by
 rw [wJd hn]
 simp
end Go.KL
namespace Go.KL
def wIv (q:Nat->Bool):Nat->Nat->Bool
 | 0,_=>true
 | m + 1,k=>q k && wIv q m (k + 1)
def fnd {B:Type} (f:Nat->Option B):Nat->Nat->Option B
 | 0,_=>none
 | m + 1,k=>match f k with
  | some c=>some c
  | none=>fnd f m (k + 1)
theorem wCR (q:Nat->Bool):∀ m k,wIv q m k=true ↔ ∀ i,k <= i->i < k + m->q i=true
 | 0,k=>⟨fun _ i h1 h2=>by omega,fun _=>rfl⟩
 | m + 1,k=>by
  rw [wIv,nD,wCR q m (k + 1)]
  constructor
  ·rintro ⟨h1,h2⟩ i h3 h4
   by_cases e:i=k
   ·exact e ▸ h1
   ·exact h2 i (by omega) (by omega)
  ·exact fun h=>⟨h k (by omega) (by omega),fun i h1 h2=>h i (by omega) (by omega)⟩
theorem wNO {B:Type} (q:Nat->Bool) (c:B):∀ m k,fnd (fun i=>if q i=true then none else some c) m k=if wIv q m k=true then none else some c
 | 0,_=>rfl
 | m + 1,k=>by
  rw [fnd,wNO q c m (k + 1),wIv]
  cases q k <;> simp
def out {S B:Type} (s:S):Option B->S ⊕ B
 | none=>.inl s
 | some c=>.inr c
theorem wIw {B:Type} {body:Nat->Unit->Option (Unit ⊕ B)} {f:Nat->Option B}:∀ (m k:Nat),(∀ i,k <= i->i < k + m->body i ()=some (out () (f i)))->forN body m k ()=some (out () (fnd f m k))
 | 0,_,_=>rfl
 | m + 1,k,h=>by
  rw [forN,h k (by omega) (by omega),fnd]
  cases f k with
  | none=>exact wIw m (k + 1) fun i h1 h2=>h i (by omega) (by omega)
  | some c=>rfl
theorem wMf {B:Type} {body:Nat->Unit->Option (Unit ⊕ B)} {n:Nat} (f:Nat->Option B) (hn:n <= 1000) (h:∀ i,i < n->body i ()=some (out () (f i))):wEd 0 (n:Int) body ()=some (out () (fnd f n 0)):=by
 rw [wCe (by omega)]
 exact wIw n 0 fun i _ hi=>h i (by omega)
theorem wDL {B:Type} {body:Nat->Unit->Option (Unit ⊕ B)} {n:Nat} (q:Nat->Bool) (c:B) (hn:n <= 1000) (h:∀ i,i < n->body i ()=some (if q i=true then .inl () else .inr c)):wEd 0 (n:Int) body ()=some (if wIv q n 0=true then .inl () else .inr c):=by
 rw [wMf (fun i=>if q i=true then none else some c) hn fun i hi=>by rw [h i hi];split <;> rfl,wNO]
 split <;> rfl
theorem wIx {α:Type} [Inhabited α] (p:α->Bool) (l:List α):l.all p=wIv (fun k=>p (gd l k)) l.length 0:=by
 rw [nb,wCR,nP]
 constructor
 ·exact fun h i _ hi=>h _ (wCW (by omega))
 ·intro h a ha
  obtain ⟨k,hk,e⟩:=kQ ha
  have:=h k (by omega) (by omega)
  rw [wDN hk,e] at this
  exact this
end Go.KL
namespace Go.Proofs.YtghaibkggdecnaaGreat
open Go.KL
theorem wLm (x a b:Int):wBS x a b=some (decide (a <= x) && decide (x <= b)):=by
 unfold wBS
 by_cases h:a <= x <;> simp [h]
theorem wMg {K V:Type} [DecidableEq K] {m:List (K × V)} {x y:K} {v:V}:wFe (mput m x v) y=if y=x then some v else wFe m y:=by
 induction m with
 | nil=>simp only [mput,wFe]
 | cons p m ih =>
  obtain ⟨a,u⟩:=p
  rw [mput]
  by_cases h:x=a
  ·subst h
   rw [if_pos rfl,wFe,wFe]
   split <;> rfl
  ·rw [if_neg h,wFe,wFe,ih]
   by_cases h2:y=a
   ·rw [if_pos h2,if_neg (fun e:y=x=>h (e.symm.trans h2)),if_pos h2]
   ·rw [if_neg h2,if_neg h2]
theorem wGf {l:List Int} (hl:l.length <= 1000):wBJ l=some (!decide l.Nodup):=by
 unfold wBJ
 rw [wCe (by omega)]
 have key:∀ (m k:Nat) (t:List (Int × Bool)),k + m=l.length->(∀ n,wDT t n false=decide (n ∈ l.take k))->(l.take k).Nodup ->
   jn (forN (fun k20 l17 =>
  (idx l (↑k20:Int)).bind fun x41 =>
  if (wDT l17 x41 false)=true then
   esc (some true)
  else
   some (.inl (mput l17 x41 true))) m k t) (fun _=>some false)=some (!decide l.Nodup):=by
  intro m
  induction m with
  | zero =>
   intro k t hk _ hn
   rw [nh (by omega)] at hn
   simp [forN,hn]
  | succ m ih =>
   intro k t hk ht hn
   have hlt:k < l.length:=by omega
   rw [forN,wBd hlt,nA,ht]
   by_cases c:gd l k ∈ l.take k
   ·have:¬ l.Nodup:=fun h=>by
     rw [<- no k l,wGd hlt] at h
     exact (kY.1 h).2.2 _ c _ (by simp) rfl
    simp [c,this]
   ·rw [if_neg (by simpa using c)]
    simp only
    refine ih (k + 1) _ (by omega) (fun n=>?_) ?_
    ·unfold wDT at ht ⊢
     rw [wMg,wCp hlt]
     by_cases e:n=gd l k
     ·rw [if_pos e];simp [e]
     ·rw [if_neg e,ht];simp [e]
    ·rw [wCp hlt,kY]
     exact ⟨hn,by simp,fun a ha b hb e=>by simp at hb;subst hb;subst e;exact c ha⟩
 exact key l.length 0 [] (by omega) (fun n=>by simp [wDT,wFe]) (by simp)
theorem wLn {S:Type} {body:Nat->S->Option S} {n:Nat} {s0:S} (I:Nat->S->Prop) (hn:n <= 1000) (h0:I 0 s0) (h:∀ i s,i < n->I i s->∃ s',body i s=some s'/\I (i + 1) s'):∃ s,wCF 0 (n:Int) body s0=some s/\I n s:=by
 rw [wEH (by omega)]
 have:=wHK (body:=body) I n 0 s0 h0 fun i s _ h2 h3=>h i s (by omega) h3
 rwa [nz] at this
theorem gd_tk {α:Type} [Inhabited α] {l:List α} {n i:Nat} (h:i < n) (h2:i < l.length):gd (l.take n) i=gd l i:=by
 have h1:=wBe (xs:=l.take n) (k:=i) (by simp;omega)
 rw [List.getElem?_take_of_lt h,wBe h2] at h1
 exact (nB h1).symm
theorem wPm {α:Type} [Inhabited α] {l:List α} {n i:Nat} (h2:n + i < l.length):gd (l.drop n) i=gd l (n + i):=by
 have h1:=wBe (xs:=l.drop n) (k:=i) (by simp;omega)
 rw [List.getElem?_drop,wBe h2] at h1
 exact (nB h1).symm
theorem wLo {α:Type} [Inhabited α] {l:List α} {a:α} (h:a ∈ l):∃ i,i < l.length/\gd l i=a:=by
 obtain ⟨i,hi,e⟩:=kQ h
 exact ⟨i,hi,by rw [wDN hi,e]⟩
theorem wIy (x a b:Int):wAL x a b=some (decide (x < a) || decide (b < x)):=by
 unfold wAL
 by_cases h:x < a <;> simp [h]
end Go.Proofs.YtghaibkggdecnaaGreat
namespace Go.KL
open List MergeSort.Internal in
theorem wDh {α:Type} {le le':α->α->Bool}:∀ (l r:List α),(∀ x ∈ l,∀ y ∈ r,le x y=le' x y)->merge l r le=merge l r le'
 | [],r,_=>by simp
 | l,[],_=>by simp
 | a :: l,b :: r,h=>by
  rw [cons_merge_cons,cons_merge_cons,h a (by simp) b (by simp),wDh l (b :: r) (fun x hx y hy=>h x (by simp [hx]) y hy),wDh (a :: l) r (fun x hx y hy=>h x hx y (by simp [hy]))]
open List MergeSort.Internal in
theorem wCq {α:Type} {le le':α->α->Bool}:∀ (l:List α),(∀ x ∈ l,∀ y ∈ l,le x y=le' x y)->mergeSort l le=mergeSort l le'
 | [],_=>by simp
 | [a],_=>by simp
 | a :: b :: xs,h=>by
  have m1:∀ x ∈ (splitInTwo ⟨a :: b :: xs,rfl⟩).1.1,x ∈ a :: b :: xs:=fun x hx=>by
   rw [splitInTwo_fst] at hx
   exact nr hx
  have m2:∀ x ∈ (splitInTwo ⟨a :: b :: xs,rfl⟩).2.1,x ∈ a :: b :: xs:=fun x hx=>by
   rw [splitInTwo_snd] at hx
   exact List.mem_of_mem_drop hx
  have:(splitInTwo ⟨a :: b :: xs,rfl⟩).1.1.length < xs.length + 1 + 1:=by simp [splitInTwo_fst];omega
  have:(splitInTwo ⟨a :: b :: xs,rfl⟩).2.1.length < xs.length + 1 + 1:=by simp [splitInTwo_snd];omega
  simp only [mergeSort]
  rw [wCq _ (fun x hx y hy=>h x (m1 x hx) y (m1 y hy)),wCq _ (fun x hx y hy=>h x (m2 x hx) y (m2 y hy))]
  exact wDh _ _ fun x hx y hy=>h x (m1 x ((mem_mergeSort).1 hx)) y (m2 y ((mem_mergeSort).1 hy))
termination_by l=>l.length
end Go.KL
namespace Go.Proofs.YtghaibkggdecnaaGreat
open Go.KL
theorem wGg {f:wAA->Option Int} {p:wAA->Int} (hf:∀ s,f s=some (p s)) (a b:Int) {l:List wAA} (hl:l.length <= 1000):wAT (⟨f,a,b⟩:wAD) l=some (l.map p):=by
 unfold wAT
 rw [wIt (bytes:=8) (f:=p) (fun s _ r=>by simp only [hf,nA,wGe]) (by omega) (by omega)]
 rfl
theorem wII {f:wAA->Option Int} {a b:Int} {l:List Int} (hl:l.length <= 1000):wAY l (fun x=>wAQ x (⟨f,a,b⟩:wAD))=some (l.all fun x=>decide (a <= x) && decide (x <= b)):=by
 unfold wAY
 rw [wIs (p:=fun x=>decide (a <= x) && decide (x <= b)) (z:=false) (fun x _=>by
  unfold wAQ
  simp only [wLm,nA]
  split <;> rfl) (by omega)]
 cases l.all fun x=>decide (a <= x) && decide (x <= b) <;> rfl
structure wMh (f:List wAA):Prop where
 l1:1 <= f.length
 l2:f.length <= 60
 bib:∀ s ∈ f,1 <= s.Bib/\s.Bib <= 999
 rank:∀ s ∈ f,1 <= s.Rank/\s.Rank <= 9999
 nat:∀ s ∈ f,0 <= s.Nation/\s.Nation <= 30
 bibs:(f.map (·.Bib)).Nodup
 ranks:(f.map (·.Rank)).Nodup
def okB (s:wAA):Bool:=decide (1 <= s.Bib) && decide (s.Bib <= 999)
def okR (s:wAA):Bool:=decide (1 <= s.Rank) && decide (s.Rank <= 9999)
def okN (s:wAA):Bool:=decide (0 <= s.Nation) && decide (s.Nation <= 30)
def okF (s:wAA):Bool:=okB s && (okN s && okR s)
def wFn (f:List wAA):Int:=if 1 <= f.length/\f.length <= 60 then (if f.all okF=true then (if (f.map (·.Bib)).Nodup/\(f.map (·.Rank)).Nodup then 0 else 5) else 3) else 2
theorem wBy {f:List wAA}:wFn f=0 ↔ wMh f:=by
 unfold wFn
 constructor
 ·intro h
  by_cases h1:1 <= f.length/\f.length <= 60
  ·rw [if_pos h1] at h
   by_cases h2:f.all okF=true
   ·rw [if_pos h2] at h
    by_cases h3:(f.map (·.Bib)).Nodup/\(f.map (·.Rank)).Nodup
    ·have:=fun s hs=>nP.1 h2 s hs
     simp only [okF,okB,okN,okR,nD,decide_eq_true_iff] at this
     exact ⟨h1.1,h1.2,fun s hs=>(this s hs).1,fun s hs=>(this s hs).2.2,fun s hs=>(this s hs).2.1,h3.1,h3.2⟩
    ·rw [if_neg h3] at h;omega
   ·rw [if_neg h2] at h;omega
  ·rw [if_neg h1] at h;omega
 ·intro G
  rw [if_pos ⟨G.l1,G.l2⟩,if_pos (nP.2 fun s hs=>by
   have h1:=G.bib s hs
   have h2:=G.nat s hs
   have h3:=G.rank s hs
   simp only [okF,okB,okN,okR,nD,decide_eq_true_iff]
   exact ⟨h1,h2,h3⟩),if_pos ⟨G.bibs,G.ranks⟩]
theorem wEk {f:List wAA} (hl:f.length <= 1000):wBK f=some (wFn f):=by
 unfold wBK wFn
 rw [wLm,nA]
 by_cases h1:1 <= f.length/\f.length <= 60
 case neg=>rw [if_neg h1,if_neg (by simp;omega)]
 rw [if_pos h1,if_pos (by simp;omega)]
 unfold wBb
 rw [nA]
 have hall:f.all okF=(f.all okB && (f.all okN && f.all okR)):=by
  rw [nb]
  simp only [nD,nP,okF]
  constructor
  ·exact fun h=>⟨fun s hs=>(h s hs).1,fun s hs=>(h s hs).2.1,fun s hs=>(h s hs).2.2⟩
  ·exact fun h s hs=>⟨h.1 s hs,h.2.1 s hs,h.2.2 s hs⟩
 have mB:(f.map (·.Bib)).all (fun x=>decide (1 <= x) && decide (x <= 999))=f.all okB:=by rw [kR];rfl
 have mR:(f.map (·.Rank)).all (fun x=>decide (1 <= x) && decide (x <= 9999))=f.all okR:=by rw [kR];rfl
 have mN:(f.map (·.Nation)).all (fun x=>decide (0 <= x) && decide (x <= 30))=f.all okN:=by rw [kR];rfl
 rw [wGg (f:=wAI) (p:=(·.Bib)) (fun _=>rfl) _ _ hl,nA,wII (by simpa using hl),nA,mB]
 rw [wGg (f:=wAJ) (p:=(·.Rank)) (fun _=>rfl) _ _ hl,nA,wII (by simpa using hl),nA,mR]
 rw [wGg (f:=wAP) (p:=(·.Nation)) (fun _=>rfl) _ _ hl,nA,wII (by simpa using hl),nA,mN]
 rw [nA,wGf (by simpa using hl),nA,nA,wGf (by simpa using hl),nA,hall]
 cases f.all okB with
 | false=>rfl
 | true =>
  cases f.all okR with
  | false=>cases f.all okN <;> rfl
  | true =>
   cases f.all okN with
   | false=>rfl
   | true =>
    simp only [if_true,kP]
    by_cases hb:(f.map (·.Bib)).Nodup
    ·by_cases hr:(f.map (·.Rank)).Nodup
     ·simp [hb,hr]
     ·simp [hb,hr]
    ·simp [hb]
def toS (s:wAA):wAE:=⟨s.Bib,s.Nation,s.Rank⟩
theorem wMi {f:List wAA} (hl:f.length <= 1000):wAp f=some (f.map toS):=by
 unfold wAp
 rw [wIt (bytes:=24) (f:=toS) (fun a _ r=>by rw [wGe];rfl) (by omega) (by omega)]
 rfl
theorem wHM {f:List wAA} {k:Nat} (h:k < f.length):idx (f.map toS) (k:Int)=some (toS (gd f k)):=by
 rw [wBd (by simpa using h),wOV _ h]
theorem wFY {α:Type} [Inhabited α] {l:List α} {p:α->Int}:(l.map p).Nodup ↔ ∀ i,i < l.length->∀ j,j < i->p (gd l i) ≠ p (gd l j):=by
 rw [nG,nW]
 constructor
 ·intro h i hi j hj e
  have:=h j i (by simp;omega) (by simpa using hi) hj
  rw [nX,nX,<- wDN (by omega),<- wDN hi] at this
  exact this e.symm
 ·intro h i j hi hj hij e
  rw [nM] at hi hj
  rw [nX,nX,<- wDN hi,<- wDN hj] at e
  exact h j hj i hij e.symm
def dfr (f:List wAA) (i j:Nat):Bool:=!decide ((gd f i).Bib=(gd f j).Bib) && !decide ((gd f i).Rank=(gd f j).Rank)
theorem wOW {f:List wAA}:wIv (fun i=>wIv (dfr f i) i 0) f.length 0=decide ((f.map (·.Bib)).Nodup/\(f.map (·.Rank)).Nodup):=by
 rw [nb,wCR,decide_eq_true_iff,wFY,wFY]
 have hd:∀ i j,dfr f i j=true ↔ (gd f i).Bib ≠ (gd f j).Bib/\(gd f i).Rank ≠ (gd f j).Rank:=fun i j=>by unfold dfr;simp
 constructor
 ·intro h
  have h2:=fun i (hi:i < f.length) j (hj:j < i)=>(hd i j).1 ((wCR _ _ _).1 (h i (by omega) (by omega)) j (by omega) (by omega))
  exact ⟨fun i hi j hj=>(h2 i hi j hj).1,fun i hi j hj=>(h2 i hi j hj).2⟩
 ·intro h i _ hi
  exact (wCR _ _ _).2 fun j _ hj=>(hd i j).2 ⟨h.1 i (by omega) j (by omega),h.2 i (by omega) j (by omega)⟩
theorem wDy {f:List wAA} (hl:f.length <= 1000):wAg (f.map toS)=some (wFn f):=by
 unfold wAg wFn
 rw [nM]
 by_cases h0:f.length=0
 ·rw [if_pos (by omega),if_neg (by omega)]
 rw [if_neg (by omega)]
 by_cases h60:60 < f.length
 ·rw [if_pos (by omega),if_neg (by omega)]
 rw [if_neg (by omega),if_pos (show 1 <= f.length/\f.length <= 60 by omega)]
 rw [wDL (fun i=>okF (gd f i)) 3 (by omega) (fun i hi=>by
  rw [wHM hi,nA,wIy,nA]
  simp only [wIy,nA,toS]
  have h:okF (gd f i)=true ↔ (1 <= (gd f i).Bib/\(gd f i).Bib <= 999)/\(0 <= (gd f i).Nation/\(gd f i).Nation <= 30)/\1 <= (gd f i).Rank/\(gd f i).Rank <= 9999:=by
   unfold okF okB okN okR
   simp
  generalize gd f i=s at h ⊢
  by_cases h1:(decide (s.Bib < 1) || decide (999 < s.Bib))=true
  ·refine (if_pos h1).trans ?_
   rw [if_neg (fun e=>by have:=h.1 e;simp at h1;omega)];rfl
  ·refine (if_neg h1).trans ?_
   by_cases h2:(decide (s.Nation < 0) || decide (30 < s.Nation))=true
   ·refine (if_pos h2).trans ?_
    rw [if_neg (fun e=>by have:=h.1 e;simp at h2;omega)];rfl
   ·refine (if_neg h2).trans ?_
    by_cases h3:(decide (s.Rank < 1) || decide (9999 < s.Rank))=true
    ·refine (if_pos h3).trans ?_
     rw [if_neg (fun e=>by have:=h.1 e;simp at h3;omega)];rfl
    ·refine (if_neg h3).trans ?_
     rw [if_pos (h.2 (by simp at h1 h2 h3;omega))])]
 rw [wIx]
 by_cases ha:wIv (fun k=>okF (gd f k)) f.length 0=true
 ·rw [if_pos ha,if_pos ha,wCg]
  rw [wDL (fun i=>wIv (dfr f i) i 0) 5 (by omega) (fun i hi=>by
   rw [wDL (dfr f i) (.inr 5) (by omega) (fun j hj=>by
    rw [wHM hi,nA,wHM (by omega),nA]
    unfold dfr
    by_cases e:(gd f i).Bib=(gd f j).Bib
    ·rw [if_pos (show (toS (gd f i)).Bib=(toS (gd f j)).Bib from e)];simp [e]
    ·rw [if_neg (show ¬ (toS (gd f i)).Bib=(toS (gd f j)).Bib from e)]
     by_cases e2:(gd f i).Rank=(gd f j).Rank
     ·rw [if_pos (show (toS (gd f i)).Rank=(toS (gd f j)).Rank from e2)];simp [e2]
     ·rw [if_neg (show ¬ (toS (gd f i)).Rank=(toS (gd f j)).Rank from e2)];simp [e,e2])]
   split <;> rfl),wOW]
  by_cases hd:(f.map (·.Bib)).Nodup/\(f.map (·.Rank)).Nodup
  ·rw [if_pos (by simpa using hd),if_pos hd];rfl
  ·rw [if_neg (by simpa using hd),if_neg hd];rfl
 ·rw [if_neg ha,if_neg ha];rfl
theorem wGH (a b:Int):wAt a b=some (if a < b then -1 else if b < a then 1 else 0):=by
 unfold wAt wBQ
 simp only [not_true_eq_false,decide_false,nA,nE,if_false]
 split
 ·rfl
 ·split <;> rfl
def rk (f:List wAA) (i:Int):Int:=(gd f i.toNat).Rank
theorem wGh {f:List wAA} {a b:Int} (ha:0 <= a/\a < f.length) (hb:0 <= b/\b < f.length):wAW a b f=some (if rk f a < rk f b then -1 else if rk f b < rk f a then 1 else 0):=by
 unfold wAW
 have e:∀ {i:Int},0 <= i->i < f.length->idx f i=some (gd f i.toNat):=fun h1 h2=>by
  unfold idx
  rw [if_pos h1,wBe (by omega)]
 rw [e ha.1 ha.2,nA,e hb.1 hb.2,nA,wGH,wGe]
 rfl
theorem wNP {f:List wAA} (G:wMh f) {a b:Int} (ha:0 <= a/\a < f.length) (hb:0 <= b/\b < f.length) (e:rk f a=rk f b):a=b:=by
 unfold rk at e
 have pw:=nW.1 G.ranks
 have hi:a.toNat < (f.map (·.Rank)).length:=by simp;omega
 have hj:b.toNat < (f.map (·.Rank)).length:=by simp;omega
 have e':(f.map (·.Rank))[a.toNat]=(f.map (·.Rank))[b.toNat]:=by
  rw [nX,nX,<- wDN (by omega),<- wDN (by omega)]
  exact e
 rcases Int.lt_trichotomy a b with c | c | c
 ·exact absurd e' (pw _ _ hi hj (by omega))
 ·exact c
 ·exact absurd e'.symm (pw _ _ hj hi (by omega))
def wCx (n:Nat):List Int:=(kK n).map fun (k:Nat)=>(k:Int)
theorem wIJ (n:Nat):(wCx n).Pairwise (· < ·):=by
 unfold wCx
 rw [List.pairwise_map]
 exact kE.imp fun h=>by omega
theorem wCB {n:Nat}:∀ i ∈ wCx n,0 <= i/\i < n:=by
 intro i hi
 obtain ⟨k,hk,e⟩:=kS.1 hi
 have:=List.mem_range.1 hk
 omega
structure Rk (f:List wAA) (r:List Int):Prop where
 perm:r.Perm (wCx f.length)
 ord:r.Pairwise fun a b=>rk f a < rk f b
theorem wLp {f:List wAA} (G:wMh f):∃ r,wAs f=some r/\Rk f r:=by
 unfold wAs
 have h1:=G.l1
 have h2:=G.l2
 rw [mkz,if_pos (by omega),nA]
 have e:=wBx (body:=fun (k24:Nat) (l23:List Int) =>
  (chk (↑k24:Int) l23.length).bind fun _ =>
  some (List.set l23 k24 (↑k24:Int))) (n:=f.length) (s0:=nl (f.length:Int).toNat 0) (fun k=>wCx k ++ nl (f.length - k) 0) (by simp [wCx]) (by omega) (fun i hi=>by
   have hl:(wCx i ++ nl (f.length - i) (0:Int)).length=f.length:=by simp [wCx];omega
   rw [wIX (by omega) (by omega),nA]
   congr 1
   have hn:(wCx i).length=i:=by simp [wCx]
   rw [kH _ _ (by omega),hn,kA,show f.length - i=(f.length - (i + 1)) + 1 by omega,List.replicate_succ,kU]
   have:wCx (i + 1)=wCx i ++ [(i:Int)]:=by unfold wCx;rw [kC,nc];rfl
   rw [this,nH]
   rfl)
 rw [e,nA]
 simp only [kA,List.replicate_zero,nq]
 have C:Cmp (fun x:Int × Int=>wAW x.1 x.2 f) (wCx f.length):=by
  have lt:∀ x ∈ wCx f.length,∀ y ∈ wCx f.length,ltB (fun x:Int × Int=>wAW x.1 x.2 f) x y=decide (rk f x < rk f y):=fun x hx y hy=>by
   unfold ltB
   simp only
   rw [wGh (wCB x hx) (wCB y hy)]
   by_cases c:rk f x < rk f y
   ·simp [c]
   ·by_cases c2:rk f y < rk f x <;> simp [c,c2]
  refine ⟨by simp [wCx];omega,fun x hx y hy=>by simp only;rw [wGh (wCB x hx) (wCB y hy)];rfl,fun x hx=>by rw [lt x hx x hx];simp,fun x hx y hy z hz a b=>?_,fun x hx y hy z hz a b=>?_,fun x hx y hy a b=>?_⟩
  ·rw [lt x hx y hy] at a;rw [lt y hy z hz] at b;rw [lt x hx z hz]
   simp at a b ⊢;omega
  ·rw [lt x hx y hy] at a;rw [lt y hy z hz] at b;rw [lt x hx z hz]
   simp at a b ⊢;omega
  ·rw [lt x hx y hy] at a;rw [lt y hy x hx] at b
   simp at a b
   exact wNP G (wCB x hx) (wCB y hy) (by omega)
 unfold wAO
 rw [wIY C,nA]
 refine ⟨_,rfl,nu _ _,?_⟩
 have hp:=nu (wCx f.length) fun x y=>!ltB (fun x:Int × Int=>wAW x.1 x.2 f) y x
 have lt:∀ x ∈ wCx f.length,∀ y ∈ wCx f.length,ltB (fun x:Int × Int=>wAW x.1 x.2 f) x y=decide (rk f x < rk f y):=fun x hx y hy=>by
  unfold ltB
  simp only
  rw [wGh (wCB x hx) (wCB y hy)]
  by_cases c:rk f x < rk f y
  ·simp [c]
  ·by_cases c2:rk f y < rk f x <;> simp [c,c2]
 rw [wCq (le':=fun x y=>decide (rk f x <= rk f y)) (wCx f.length) (fun x hx y hy=>by
  rw [lt y hy x hx,<- decide_not]
  exact decide_eq_decide.2 (by omega))] at hp ⊢
 have so:=kB (le:=fun x y:Int=>decide (rk f x <= rk f y)) (fun a b c h1 h2=>by simp at h1 h2 ⊢;omega) (fun a b=>by simp;omega) (wCx f.length)
 have nd:((wCx f.length).mergeSort fun x y=>decide (rk f x <= rk f y)).Pairwise (· ≠ ·):=nG.1 (hp.nodup_iff.2 (nG.2 ((wIJ _).imp fun h=>by omega)))
 refine (so.and nd).imp_of_mem fun {a b} ha hb h=>?_
 have h1:rk f a <= rk f b:=by simpa using h.1
 have h2:rk f a ≠ rk f b:=fun e=>h.2 (wNP G (wCB a (hp.mem_iff.1 ha)) (wCB b (hp.mem_iff.1 hb)) e)
 omega
end Go.Proofs.YtghaibkggdecnaaGreat
namespace Go.Proofs.YtghaibkggdecnaaGreat
open Go.KL
theorem wIz {f:List wAA} {r:List Int} (h:Rk f r) {k:Nat} (hk:k < f.length):r.length=f.length/\0 <= gd r k/\gd r k < f.length:=by
 have hl:r.length=f.length:=by rw [h.perm.length_eq];simp [wCx]
 have:=wCB _ (h.perm.mem_iff.1 (wCW (l:=r) (k:=k) (by omega)))
 exact ⟨hl,this⟩
theorem wMj {f:List wAA} {r:List Int} (R:Rk f r) {j:Nat} (hj:j < f.length):(wCx f.length).countP (fun i=>decide (rk f i < rk f (gd r j)))=j:=by
 have hl:r.length=f.length:=(wIz R hj).1
 have pw:=nW.1 R.ord
 have lt:∀ a b,a < b->b < r.length->rk f (gd r a) < rk f (gd r b):=fun a b h1 h2=>by
  have:=pw a b (by omega) h2 h1
  rwa [<- wDN (by omega),<- wDN h2] at this
 rw [<- R.perm.countP_eq]
 conv=>lhs;arg 2;rw [<- no j r]
 rw [kV,List.countP_eq_length.2 (fun x hx=>by
  obtain ⟨i,hi,e⟩:=wLo hx
  rw [nJ] at hi
  rw [gd_tk (by omega) (by omega)] at e
  have:=lt i j (by omega) (by omega)
  rw [e] at this
  simpa using this),List.countP_eq_zero.2 (fun x hx=>by
  obtain ⟨i,hi,e⟩:=wLo hx
  rw [nY] at hi
  rw [wPm (by omega)] at e
  rcases Nat.eq_zero_or_pos i with h | h
  ·subst h
   rw [Nat.add_zero] at e
   rw [e];simp
  ·have:=lt j (j + i) (by omega) (by omega)
   rw [e] at this
   simp;omega),nJ]
 omega
theorem wHN {f:List wAA} (G:wMh f) {r:List Int} (R:Rk f r):wAM (f.map toS)=some (r,0):=by
  unfold wAM
  have h1:=G.l1
  have h2:=G.l2
  have hrl:r.length=f.length:=(wIz R (k:=0) (by omega)).1
  rw [wDy (by omega),wBy.2 G,nA,if_pos rfl,nM,mkz,if_pos (by omega),nA]
  have inner:∀ k,k < f.length->wCF 0 (↑f.length:Int) (fun k54 x53 =>
        (idx (f.map toS) (↑k54:Int)).bind fun x78 =>
        (idx (f.map toS) (↑k:Int)).bind fun x88 =>
        if x78.Rank < x88.Rank then
          some (w64 (x53 + 1))
        else
          some x53) 0=some (((wCx f.length).countP (fun i=>decide (rk f i < rk f (k:Int))):Nat):Int):=by
    intro k hk
    refine wBx (fun n=>(((wCx n).countP (fun i=>decide (rk f i < rk f (k:Int))):Nat):Int)) rfl (by omega) (fun i hi=>?_)
    have hc:=List.countP_le_length (p:=fun i=>decide (rk f i < rk f (k:Int))) (l:=wCx i)
    have hn:(wCx i).length=i:=by simp [wCx]
    have hs:wCx (i + 1)=wCx i ++ [(i:Int)]:=by unfold wCx;rw [kC,nc];rfl
    have er:∀ q:Nat,rk f (q:Int)=(gd f q).Rank:=fun q=>rfl
    rw [wHM hi,nA,wHM hk,nA,hs,kV]
    by_cases c:(gd f i).Rank < (gd f k).Rank
    · rw [if_pos (show (toS (gd f i)).Rank < (toS (gd f k)).Rank from c),wBC (by omega) (by omega)]
      simp [er,c]
    · rw [if_neg (show ¬ (toS (gd f i)).Rank < (toS (gd f k)).Rank from c)]
      simp [er,c]
  obtain ⟨s',e',hs⟩:=wLn (body:=fun (k27:Nat) (l26:List Int) =>
      (wCF 0 (↑f.length:Int) (fun k54 x53 =>
        (idx (f.map toS) (↑k54:Int)).bind fun x78 =>
        (idx (f.map toS) (↑k27:Int)).bind fun x88 =>
        if x78.Rank < x88.Rank then
          some (w64 (x53 + 1))
        else
          some x53) 0).bind fun y59 =>
      (chk y59 l26.length).bind fun _ =>
      some (List.set l26 y59.toNat (↑k27:Int))) (n:=f.length) (s0:=nl (f.length:Int).toNat 0)
      (fun k s=>s.length=f.length/\∀ j,j < f.length->gd r j < k->gd s j=gd r j) (by omega) ⟨by simp,fun j hj h=>by have:=(wIz R hj).2.1;omega⟩ (by
      rintro k s hk ⟨q1,q2⟩
      have hmem:(k:Int) ∈ r:=R.perm.mem_iff.2 (kS.2 ⟨k,List.mem_range.2 hk,rfl⟩)
      obtain ⟨j,hj,ej⟩:=wLo hmem
      have hc:=wMj R (j:=j) (by omega)
      rw [ej] at hc
      rw [inner k hk,hc,nA,wIX (by omega) (by omega),nA]
      refine ⟨_,rfl,by simpa using q1,fun i hi hlt=>?_⟩
      rw [Int.toNat_natCast,wPl (by omega) (by omega)]
      by_cases c:i=j
      · subst c;rw [if_pos rfl,ej]
      · rw [if_neg c]
        refine q2 i hi ?_
        have:gd r i ≠ (k:Int):=fun e=>by
          have nd:r.Nodup:=R.perm.nodup_iff.2 (nG.2 ((wIJ _).imp fun h=>by omega))
          have pw:=nW.1 (nG.1 nd)
          rcases Nat.lt_or_gt_of_ne c with h | h
          · have:=pw i j (by omega) hj h
            rw [<- wDN (by omega),<- wDN hj] at this
            exact this (e.trans ej.symm)
          · have:=pw j i hj (by omega) h
            rw [<- wDN hj,<- wDN (by omega)] at this
            exact this (ej.trans e.symm)
        omega)
  rw [e',nA]
  congr 2
  refine wPk (by omega) fun k hk=>hs.2 k (by omega) ?_
  have:=(wIz R (k:=k) (by omega)).2
  omega
end Go.Proofs.YtghaibkggdecnaaGreat
namespace Go.Proofs.YtghaibkggdecnaaGreat
open Go.KL
theorem wLq {l:List Int} {f:Int->Option Bool} {p:Int->Bool} (hf:∀ a,f a=some (p a)) (hn:l.length <= 1000):wAY l f=some (l.all p):=by
 unfold wAY
 rw [wIs (p:=p) (z:=false) (fun x _=>by simp only [hf,nA];split <;> rfl) (by omega)]
 cases l.all p <;> rfl
theorem wMk {l:List Int} {h:Int × Int->Option Int} {ky:Int->Int} (hl:l.length <= 1000) (hh:∀ x ∈ l,∀ y ∈ l,h (x,y)=some (if ky x < ky y then -1 else if ky y < ky x then 1 else 0))
  (inj:∀ x ∈ l,∀ y ∈ l,ky x=ky y->x=y) (nd:l.Nodup):∃ s,wJH h l=some s/\s.Perm l/\s.Pairwise (fun a b=>ky a < ky b):=by
 have lt:∀ x ∈ l,∀ y ∈ l,ltB h x y=decide (ky x < ky y):=fun x hx y hy=>by
  unfold ltB
  rw [hh x hx y hy]
  by_cases c:ky x < ky y
  ·simp [c]
  ·by_cases c2:ky y < ky x <;> simp [c,c2]
 have C:Cmp h l:=by
  refine ⟨by omega,fun x hx y hy=>by rw [hh x hx y hy];rfl,fun x hx=>by rw [lt x hx x hx];simp,fun x hx y hy z hz a b=>?_,fun x hx y hy z hz a b=>?_,fun x hx y hy a b=>?_⟩
  ·rw [lt x hx y hy] at a;rw [lt y hy z hz] at b;rw [lt x hx z hz]
   simp at a b ⊢;omega
  ·rw [lt x hx y hy] at a;rw [lt y hy z hz] at b;rw [lt x hx z hz]
   simp at a b ⊢;omega
  ·rw [lt x hx y hy] at a;rw [lt y hy x hx] at b
   simp at a b
   exact inj x hx y hy (by omega)
 have hp:=nu l fun x y=>!ltB h y x
 refine ⟨_,wIY C,hp,?_⟩
 rw [wCq (le':=fun x y=>decide (ky x <= ky y)) l (fun x hx y hy=>by
  rw [lt y hy x hx,<- decide_not]
  exact decide_eq_decide.2 (by omega))] at hp ⊢
 have so:=kB (le:=fun x y:Int=>decide (ky x <= ky y)) (fun a b c h1 h2=>by simp at h1 h2 ⊢;omega) (fun a b=>by simp;omega) l
 have nd2:(l.mergeSort fun x y=>decide (ky x <= ky y)).Pairwise (· ≠ ·):=nG.1 (hp.nodup_iff.2 nd)
 refine (so.and nd2).imp_of_mem fun {a b} ha hb h=>?_
 have h1:ky a <= ky b:=by simpa using h.1
 have h2:ky a ≠ ky b:=fun e=>h.2 (inj a (hp.mem_iff.1 ha) b (hp.mem_iff.1 hb) e)
 omega
def spl:List Int->List Int->List (List Int)
 | _,[]=>[]
 | l,n :: ns=>l.take n.toNat :: spl (l.drop n.toNat) ns
def bef (z:List Int) (k:Nat):Nat:=((z.take k).map Int.toNat).sum
def okG (n:Int):Bool:=decide (1 <= n) && decide (n <= 60)
def wIK (f:List wAA) (z:List Int):Int:=if wFn f=0 then (if 1 <= z.length/\z.length <= 6 then (if z.all okG=true then (if z.sum=f.length then 0 else 7) else 3) else 2) else wFn f
theorem wEI (z:List Int):∀ l,(spl l z).length=z.length:=by
 induction z with
 | nil=>intro l;rfl
 | cons n z ih=>intro l;simp [spl,ih]
theorem wGi {z:List Int} {k:Nat} (hk:k < z.length):bef z (k + 1)=bef z k + (gd z k).toNat:=by
 unfold bef
 rw [wCp hk,nc,List.sum_append]
 simp
theorem wMl (n:Int) (z:List Int) (k:Nat):bef (n :: z) (k + 1)=n.toNat + bef z k:=by
 unfold bef
 simp
theorem wNQ {z:List Int}:∀ {k:Nat} {l:List Int},k < z.length->gd (spl l z) k=(l.drop (bef z k)).take (gd z k).toNat:=by
 induction z with
 | nil=>intro k l h;simp at h
 | cons n z ih =>
  intro k l h
  cases k with
  | zero=>simp [spl,gd,bef]
  | succ k =>
   have h':k < z.length:=by simpa using h
   have e1:gd (spl l (n :: z)) (k + 1)=gd (spl (l.drop n.toNat) z) k:=by simp [spl,gd]
   have e2:gd (n :: z) (k + 1)=gd z k:=by simp [gd]
   rw [e1,ih h',e2,wMl,List.drop_drop]
theorem wFZ {z:List Int} (h:z.all okG=true):∀ n ∈ z,1 <= n/\n <= 60:=by
 intro n hn
 have:=nP.1 h n hn
 simpa [okG] using this
theorem wLr {z:List Int} (h:∀ n ∈ z,1 <= n/\n <= 60):((z.map Int.toNat).sum:Int)=z.sum/\(z.map Int.toNat).sum <= 60 * z.length:=by
 induction z with
 | nil=>simp
 | cons n z ih =>
  obtain ⟨h1,h2⟩:=ih fun x hx=>h x (kL _ hx)
  have:=h n (kW ..)
  simp only [kO,List.sum_cons,ny]
  omega
theorem wNR {z:List Int} {k:Nat} (hk:k <= z.length):bef z k <= bef z z.length:=by
 unfold bef
 rw [nZ]
 conv=>rhs;rw [<- no k z]
 rw [nc,List.sum_append]
 omega
theorem wIL {z:List Int} (h:z.all okG=true):(bef z z.length:Int)=z.sum:=by
 unfold bef
 rw [nZ]
 exact (wLr (wFZ h)).1
theorem wPn {z:List Int} (h:z.all okG=true) (hz:z.length <= 6):wCJ z=some z.sum:=by
 unfold wCJ
 rw [wBx (s0:=0) (fun k=>(bef z k:Int)) (by simp [bef]) (by omega) (fun i hi=>by
  have h1:=wFZ h _ (wCW hi)
  have h2:=wLr (z:=z.take i) (fun n hn=>wFZ h n (nr hn))
  have h3:bef z i <= 360:=by have:=h2.2;rw [nJ] at this;unfold bef;omega
  rw [wBd hi,nA,wGi hi,wBC (by omega) (by omega)]
  congr 1
  omega),nA,wIL h]
theorem wOX {l:List Int} {n:Int} (h0:0 <= n) (h1:n <= l.length):cut l 0 n=some (l.take n.toNat):=by
 unfold cut
 rw [if_pos ⟨by omega,h0,h1⟩]
 simp
theorem wOY {l:List Int} {n:Int} (h0:0 <= n) (h1:n <= l.length):cut l n l.length=some (l.drop n.toNat):=by
 unfold cut
 rw [if_pos ⟨h0,h1,Int.le_refl _⟩,nh (by rw [nY];omega)]
theorem wLs {l:List Int} (hl:l.length <= 1000):wAi l=some l:=by
 unfold wAi
 rw [wEV (by simp;omega)];rfl
theorem wLt {f:List wAA} {z:List Int} (hf:f.length <= 1000) (hz:z.length <= 1000):∃ r,(wFn f=0->wAs f=some r/\Rk f r)/\wBF f z=some (if wIK f z=0 then spl r z else [],wIK f z):=by
 unfold wBF
 rw [wEk hf,nA]
 unfold wIK
 by_cases h:wFn f=0
 case neg=>exact ⟨[],fun e=>absurd e h,by rw [if_neg h,if_neg h,if_neg h]⟩
 obtain ⟨r,hr,R⟩:=wLp (wBy.1 h)
 refine ⟨r,fun _=>⟨hr,R⟩,?_⟩
 rw [if_pos h,if_pos h,wLm,nA]
 by_cases h1:1 <= z.length/\z.length <= 6
 case neg=>rw [if_neg (by simp;omega),if_neg h1];rfl
 rw [if_pos (by simp;omega),if_pos h1,wLq (p:=okG) (fun a=>by unfold wBB;rw [wLm];rfl) hz,nA]
 by_cases h2:z.all okG=true
 case neg=>rw [if_neg h2,if_neg h2];rfl
 rw [if_pos h2,if_pos h2,wPn h2 h1.2,nA]
 by_cases h3:z.sum=f.length
 case neg=>rw [if_neg h3,if_neg h3];rfl
 rw [if_pos h3,if_pos h3,hr,nA,if_pos rfl]
 have hb:=wIL h2
 have hl:r.length=f.length:=by rw [R.perm.length_eq];simp [wCx]
 have h60:=(wBy.1 h).l2
 rw [wBx (fun k=>(r.drop (bef z k),(spl r z).take k)) (by simp [bef]) (by omega) (fun i hi=>by
  have g:=wFZ h2 _ (wCW hi)
  have b1:=wGi hi
  have b2:=wNR (z:=z) (k:=i + 1) (by omega)
  have hn:(gd z i) <= ((r.drop (bef z i)).length:Int):=by rw [nY];omega
  simp only
  rw [wBd hi,nA,wOX (by omega) hn,nA,wOY (by omega) hn,nA,wLs (by rw [nJ,nY];omega),nA,wEV (by simp;omega),nA,List.drop_drop,<- b1,wCp (l:=spl r z) (by rw [wEI];exact hi),wNQ hi]),nA]
 simp only
 rw [nh (by rw [wEI];omega)]
theorem wOZ {R:Type} {z:List Int} (hz:z.length <= 6) (e:R):wEd 0 (z.length:Int) (fun k33 x32 =>
          (idx z (↑k33:Int)).bind fun x54 =>
          (wAL x54 1 60).bind fun x63 =>
          if x63=true then
            esc (some e)
          else
            some (.inl (w64 (x32 + x54)))) 0=some (if z.all okG=true then .inl z.sum else .inr e):=by
  have go:∀ (m k:Nat) (x:Int),k + m=z.length->0 <= x->x <= 60 * k->forN (fun k33 x32 =>
          (idx z (↑k33:Int)).bind fun x54 =>
          (wAL x54 1 60).bind fun x63 =>
          if x63=true then
            esc (some e)
          else
            some (.inl (w64 (x32 + x54)))) m k x=some (if (z.drop k).all okG=true then .inl (x + (z.drop k).sum) else .inr e):=by
    intro m
    induction m with
    | zero=>intro k x hk h0 h1;rw [nT (by omega)];simp [forN]
    | succ m ih =>
      intro k x hk h0 h1
      have hlt:k < z.length:=by omega
      unfold forN
      rw [wBd hlt,nA,wIy,nA,wGd hlt,List.all_cons,List.sum_cons]
      generalize gd z k=n
      by_cases c:1 <= n/\n <= 60
      · have cg:okG n=true:=by simp [okG,c]
        rw [if_neg (by simp;omega),wBC (by omega) (by omega)]
        simp only [cg,kP]
        rw [ih (k + 1) (x + n) (by omega) (by omega) (by omega),Int.add_assoc]
      · have cg:okG n=false:=by simp [okG];omega
        rw [if_pos (by simp;omega),cg]
        rfl
  rw [wCe (by omega),go z.length 0 0 (by omega) (by omega) (by omega)]
  simp
theorem wOa {r out:List Int} {n:Int} {S:Nat} {o:List (List Int)} (h0:0 <= n) (h1:S + n <= r.length) (hr:r.length <= 60) (ho:o.length <= 10) {z:List Int} {k:Nat} (hk:k < z.length) (hn:gd z k=n):iter (fun (x171,l172,x176) =>
              (idx z (↑k:Int)).bind fun x196 =>
              if x176 < x196 then
                (chk x171 r.length).bind fun _ =>
                (app 8 l172 [(gd r x171.toNat)]).bind fun x219 =>
                some (.inl (w64 (x171 + 1),x219,w64 (x176 + 1)))
              else
                esc ((app 24 o [l172]).bind fun x247 =>
                some (x247,x171))) big ((S:Int),[],0)=some (o ++ [(r.drop S).take n.toNat],((S + n.toNat:Nat):Int)):=by
  refine wLl (m:=n.toNat) (fun j=>(((S + j:Nat):Int),(r.drop S).take j,(j:Int))) (fun i hi=>?_) ?_ (by simp) (by omega)
  · simp only
    rw [wBd hk,nA,hn,if_pos (by omega),wIX (by omega) (by omega),nA,wEV (by simp;omega),nA,wBC (by omega) (by omega),wBC (by omega) (by omega),wCp (l:=r.drop S) (by rw [nY];omega),wPm (by omega)]
    rfl
  · simp only
    rw [wBd hk,nA,hn,if_neg (by omega),wEV (by simp;omega)]
    rfl
theorem wHO {f:List wAA} {z r:List Int} (hf:f.length <= 1000) (hR:wFn f=0->Rk f r):wAe (f.map toS) z=some (if wIK f z=0 then spl r z else [],wIK f z):=by
 unfold wAe wIK
 by_cases h:wFn f=0
 case neg =>
  unfold wAM
  rw [wDy hf,nA,if_neg h,nA]
  simp only [if_neg h]
 rw [wHN (wBy.1 h) (hR h),nA]
 simp only [if_true,if_pos h]
 by_cases h1:1 <= z.length/\z.length <= 6
 case neg =>
  rw [if_neg h1]
  by_cases h0:z.length=0
  ·rw [if_pos (by omega)];rfl
  ·rw [if_neg (by omega),if_pos (by omega)];rfl
 rw [if_neg (by omega),if_neg (by omega),if_pos h1,wOZ h1.2]
 by_cases h2:z.all okG=true
 case neg=>rw [if_neg h2,if_neg h2];rfl
 rw [if_pos h2,if_pos h2,wCg,nM]
 by_cases h3:z.sum=f.length
 case neg=>rw [if_neg h3,if_neg h3];rfl
 rw [if_pos h3,if_pos h3,if_pos rfl]
 have hb:=wIL h2
 have hl:r.length=f.length:=by rw [(hR h).perm.length_eq];simp [wCx]
 have h60:=(wBy.1 h).l2
 rw [wBx (fun k=>((spl r z).take k,(bef z k:Int))) (by simp [bef]) (by omega) (fun i hi=>by
  have g:=wFZ h2 _ (wCW hi)
  have b1:=wGi hi
  have b2:=wNR (z:=z) (k:=i + 1) (by omega)
  simp only
  rw [wOa (out:=[]) (by omega) (by omega) (by omega) (by rw [nJ,wEI];omega) hi rfl,b1,wCp (l:=spl r z) (by rw [wEI];exact hi),wNQ hi]),nA]
 simp only
 rw [nh (by rw [wEI];omega)]
end Go.Proofs.YtghaibkggdecnaaGreat
namespace Go.Proofs.YtghaibkggdecnaaGreat
open Go.KL
def pick (ky:Int->Int) (g:List Int) (n:Nat):List Int:=(kK n).flatMap fun (k:Nat)=>g.filter fun x=>decide (ky x=(k:Int))
theorem wHP (ky:Int->Int) (g:List Int) (n:Nat):pick ky g (n + 1)=pick ky g n ++ g.filter fun x=>decide (ky x=(n:Int)):=by
 unfold pick
 rw [kC,List.flatMap_append]
 simp
theorem wHQ (ky:Int->Int) (g:List Int) (h0:∀ x ∈ g,0 <= ky x) (n:Nat):(pick ky g n).Perm (g.filter fun x=>decide (ky x < n)):=by
 induction n with
 | zero =>
  rw [List.filter_eq_nil_iff.2 (fun x hx=>by have:=h0 x hx;simp;omega)]
  exact kf _
 | succ n ih =>
  rw [wHP]
  have h1:=List.filter_append_perm (fun x=>decide (ky x < (n:Int))) (g.filter fun x=>decide (ky x < ((n + 1:Nat):Int)))
  rw [kX,kX] at h1
  refine kc (ih.append (kf _)) (kc ?_ h1)
  refine List.Perm.append (ke (kZ fun x hx=>?_)) (ke (kZ fun x hx=>?_))
  ·rw [nb];simp;omega
  ·rw [nb];simp;omega
theorem wGj (ky:Int->Int) (g:List Int) (h0:∀ x ∈ g,0 <= ky x) (n:Nat):(pick ky g n).length <= g.length:=by
 rw [(wHQ ky g h0 n).length_eq]
 exact kJ _ _
theorem wMm (ky:Int->Int) (g:List Int) (inj:∀ x ∈ g,∀ y ∈ g,ky x=ky y->x=y) (nd:g.Nodup) (n:Nat):(pick ky g n).Pairwise fun a b=>ky a < ky b:=by
 unfold pick
 rw [List.pairwise_flatMap]
 constructor
 ·intro k _
  have nd2:=nG.1 (nd.filter fun x=>decide (ky x=(k:Int)))
  refine nd2.imp_of_mem fun {a b} ha hb h=>?_
  have h1:=nt.1 ha
  have h2:=nt.1 hb
  exact absurd (inj a h1.1 b h2.1 (by simp at h1 h2;omega)) h
 ·refine kE.imp fun {a b} h x hx y hy=>?_
  have h1:=nt.1 hx
  have h2:=nt.1 hy
  simp at h1 h2
  omega
theorem wLu {g lots acc:List Int} (hg:g.length <= 60) (hl:lots.length <= 60) (ha:acc.length <= 1000) (hin:∀ x ∈ g,0 <= x/\x < lots.length) (h0:∀ x ∈ g,0 <= gd lots x.toNat/\gd lots x.toNat <= 9999) {G:List (List Int)} {q:Nat} (hq:q < G.length) (hG:gd G q=g) :
    (wCF 0 (9999 + 1) (fun k159 l156 =>
            iter (fun (l193,x196) =>
              (idx G (↑q:Int)).bind fun x213 =>
              if x196 < (↑x213.length:Int) then
                (idx x213 x196).bind fun x239 =>
                (idx lots x239).bind fun x246 =>
                if x246=(↑k159:Int) then
                  (app 8 l193 [x239]).bind fun x278 =>
                  some (.inl (x278,w64 (x196 + 1)))
                else
                  some (.inl (l193,w64 (x196 + 1)))
              else
                esc (some l193)) big (l156,0)) acc)=some (acc ++ pick (fun (x:Int)=>gd lots x.toNat) g 10000):=by
  have hn:((9999 + 1:Int))=((10000:Nat):Int):=rfl
  rw [hn]
  refine wBx (fun k=>acc ++ pick (fun (x:Int)=>gd lots x.toNat) g k) (by simp [pick]) (by omega) fun k hk=>?_
  have hp:=wGj (fun (x:Int)=>gd lots x.toNat) g (fun x hx=>(h0 x hx).1) k
  rw [wHP,<- nH]
  have hAl:(acc ++ pick (fun (x:Int)=>gd lots x.toNat) g k).length <= 1060:=by rw [nk];omega
  generalize acc ++ pick (fun (x:Int)=>gd lots x.toNat) g k=A at hAl ⊢
  refine wLl (m:=g.length) (fun i=>(A ++ (g.take i).filter (fun x=>decide (gd lots x.toNat=(k:Int))),(i:Int))) (fun i hi=>?_) ?_ (by simp) (by omega)
  · have hx:=hin _ (wCW hi)
    have hf:=kJ (fun x=>decide (gd lots x.toNat=(k:Int))) (g.take i)
    rw [nJ] at hf
    simp only
    rw [wBd hq,nA,hG,if_pos (by omega),wBd hi,nA,wCp hi,List.filter_append]
    generalize gd g i=x at hx ⊢
    have e:idx lots x=some (gd lots x.toNat):=by unfold idx;rw [if_pos hx.1,wBe (by omega)]
    rw [e,nA,wBC (by omega) (by omega)]
    by_cases c:gd lots x.toNat=(k:Int)
    · rw [if_pos c,wEV (by rw [nk,List.length_singleton];omega),nA,List.filter_cons_of_pos (by simpa using c),nH]
      rfl
    · rw [if_neg c,List.filter_cons_of_neg (by simpa using c)]
      simp
  · simp only
    rw [wBd hq,nA,hG,if_neg (by omega),nZ]
    rfl
theorem wMn {lots:List Int} {a b:Int} (ha:0 <= a/\a < lots.length) (hb:0 <= b/\b < lots.length):wAf a b lots=some (if gd lots a.toNat < gd lots b.toNat then -1 else if gd lots b.toNat < gd lots a.toNat then 1 else 0):=by
 unfold wAf
 have e:∀ {i:Int},0 <= i->i < lots.length->idx lots i=some (gd lots i.toNat):=fun h1 h2=>by
  unfold idx
  rw [if_pos h1,wBe (by omega)]
 rw [e ha.1 ha.2,nA,e hb.1 hb.2,nA,wGH,wGe]
theorem wOb {lots:List Int} (nd:lots.Nodup) {x y:Int} (hx:0 <= x/\x < lots.length) (hy:0 <= y/\y < lots.length) (e:gd lots x.toNat=gd lots y.toNat):x=y:=by
 rw [wDN (by omega),wDN (by omega)] at e
 have:=(List.getElem_inj nd).1 e
 omega
theorem wLv {g lots:List Int} (hg:g.length <= 60) (hin:∀ x ∈ g,0 <= x/\x < lots.length) (h0:∀ x ∈ g,0 <= gd lots x.toNat/\gd lots x.toNat <= 9999) (nd:lots.Nodup) (ng:g.Nodup) :
  wAO g (fun x=>wAf x.1 x.2 lots)=some (pick (fun (x:Int)=>gd lots x.toNat) g 10000):=by
 unfold wAO
 have inj:∀ x ∈ g,∀ y ∈ g,gd lots x.toNat=gd lots y.toNat->x=y:=fun x hx y hy e=>wOb nd (hin x hx) (hin y hy) e
 obtain ⟨s,h1,h2,h3⟩:=wMk (h:=fun x=>wAf x.1 x.2 lots) (ky:=fun (x:Int)=>gd lots x.toNat) (by omega) (fun x hx y hy=>wMn (hin x hx) (hin y hy)) inj ng
 rw [h1]
 have hq:=wMm (fun (x:Int)=>gd lots x.toNat) g inj ng 10000
 have hp:=wHQ (fun (x:Int)=>gd lots x.toNat) g (fun x hx=>(h0 x hx).1) 10000
 rw [List.filter_eq_self.2 (fun x hx=>by have:=(h0 x hx).2;simp;omega)] at hp
 generalize pick (fun (x:Int)=>gd lots x.toNat) g 10000=p at hp hq ⊢
 refine congrArg some ?_
 exact List.Perm.eq_of_pairwise (le:=fun (a b:Int)=>gd lots a.toNat < gd lots b.toNat) (fun a b _ _ h1 h2=>by omega) h3 hq (h2.trans hp.symm)
theorem wMo {G:List (List Int)} (h:∀ g ∈ G,g.length <= 60):G.flatten.length <= 60 * G.length:=by
 induction G with
 | nil=>simp
 | cons g G ih =>
  have:=ih fun x hx=>h x (kL _ hx)
  have:=h g (kW ..)
  rw [List.flatten_cons,nk,ny]
  omega
def drawn (lots:List Int) (G:List (List Int)):List Int:=(G.map fun g=>pick (fun (x:Int)=>gd lots x.toNat) g 10000).flatten
structure wMp (lots:List Int) (G:List (List Int)):Prop where
 n:G.length <= 6
 len:∀ g ∈ G,g.length <= 60
 inn:∀ g ∈ G,∀ x ∈ g,0 <= x/\x < lots.length
 nd:∀ g ∈ G,g.Nodup
theorem wFa {lots:List Int} {G:List (List Int)} (h:wMp lots G) (h0:∀ x:Int,0 <= x->x < lots.length->0 <= gd lots x.toNat/\gd lots x.toNat <= 9999) (k:Nat):(drawn lots (G.take k)).length <= 360:=by
 unfold drawn
 have:=wMo (G:=(G.take k).map fun g=>pick (fun (x:Int)=>gd lots x.toNat) g 10000) (fun g hg=>by
  obtain ⟨g',hg',rfl⟩:=kS.1 hg
  have hm:=nr hg'
  have:=wGj (fun (x:Int)=>gd lots x.toNat) g' (fun x hx=>(h0 x (h.inn _ hm x hx).1 (h.inn _ hm x hx).2).1) 10000
  have:=h.len _ hm
  omega)
 rw [nM,nJ] at this
 have:=h.n
 omega
theorem wGI {lots:List Int} {G:List (List Int)} {k:Nat} (hk:k < G.length):drawn lots (G.take (k + 1))=drawn lots (G.take k) ++ pick (fun (x:Int)=>gd lots x.toNat) (gd G k) 10000:=by
 unfold drawn
 rw [wCp hk,nc,List.flatten_append]
 simp
theorem wLw {lots:List Int} {G:List (List Int)} (h:wMp lots G) (h0:∀ x:Int,0 <= x->x < lots.length->0 <= gd lots x.toNat/\gd lots x.toNat <= 9999) (nd:lots.Nodup):∃ Y,wCF 0 (↑G.length:Int) (fun k91 (l86,l90) =>
            (chk (↑k91:Int) l90.length).bind fun _ =>
            (wAO (gd l90 k91) (fun x=>wAf x.1 x.2 lots)).bind fun x132 =>
            (app 8 l86 x132).bind fun x143 =>
            some (x143,(List.set l90 k91 x132))) ([],G)=some (drawn lots G,Y):=by
  have hn:=h.n
  refine ⟨(G.take G.length).map (fun g=>pick (fun (x:Int)=>gd lots x.toNat) g 10000) ++ G.drop G.length,?_⟩
  rw [wBx (fun k=>(drawn lots (G.take k),(G.take k).map (fun g=>pick (fun (x:Int)=>gd lots x.toNat) g 10000) ++ G.drop k)) (by simp [drawn]) (by omega) (fun i hi=>?_)]
  · rw [nZ]
  have hm:=wCW hi
  have hd:=wFa h h0 i
  have hp:=wGj (fun (x:Int)=>gd lots x.toNat) (gd G i) (fun x hx=>(h0 x (h.inn _ hm x hx).1 (h.inn _ hm x hx).2).1) 10000
  have hl:=h.len _ hm
  have e1:gd ((G.take i).map (fun g=>pick (fun (x:Int)=>gd lots x.toNat) g 10000) ++ G.drop i) i=gd G i:=by
    rw [wGd hi]
    have:=wMe ((G.take i).map (fun g=>pick (fun (x:Int)=>gd lots x.toNat) g 10000)) (G.drop (i + 1)) (gd G i)
    rwa [nM,nJ,kD (by omega)] at this
  simp only
  rw [wIX (by omega) (by rw [nk,nM,nJ,nY];have:=kD (show i <= G.length by omega);omega),nA,e1,wLv hl (h.inn _ hm) (fun x hx=>h0 x (h.inn _ hm x hx).1 (h.inn _ hm x hx).2) nd (h.nd _ hm),nA,wEV (by omega),nA,wGI hi]
  congr 2
  rw [kH _ _ (by rw [nM,nJ];omega),wGd hi,nM,nJ,kD (by omega),kA,kU,wCp hi,nc,nH]
  rfl
theorem wMq {lots:List Int} {G:List (List Int)} (h:wMp lots G) (hl:lots.length <= 60) (h0:∀ x:Int,0 <= x->x < lots.length->0 <= gd lots x.toNat/\gd lots x.toNat <= 9999):wCF 0 (↑G.length:Int) (fun k122 l118 =>
          (wCF 0 (9999 + 1) (fun k159 l156 =>
            iter (fun (l193,x196) =>
              (idx G (↑k122:Int)).bind fun x213 =>
              if x196 < (↑x213.length:Int) then
                (idx x213 x196).bind fun x239 =>
                (idx lots x239).bind fun x246 =>
                if x246=(↑k159:Int) then
                  (app 8 l193 [x239]).bind fun x278 =>
                  some (.inl (x278,w64 (x196 + 1)))
                else
                  some (.inl (l193,w64 (x196 + 1)))
              else
                esc (some l193)) big (l156,0)) l118).bind fun y164 =>
          some y164) []=some (drawn lots G):=by
  have hn:=h.n
  rw [wBx (fun k=>drawn lots (G.take k)) (by simp [drawn]) (by omega) (fun i hi=>?_),nZ]
  have hm:=wCW hi
  have hd:=wFa h h0 i
  rw [wLu (h.len _ hm) hl (by omega) (h.inn _ hm) (fun x hx=>h0 x (h.inn _ hm x hx).1 (h.inn _ hm x hx).2) hi rfl,nA,wGI hi]
theorem wJA {f:List wAA} {z r lots:List Int} (hl:lots.length=f.length) (h60:f.length <= 60) (R:Rk f r) (hz:z.length <= 6):wMp lots (spl r z):=by
 have hrl:r.length=f.length:=by rw [R.perm.length_eq];simp [wCx]
 have nd:r.Nodup:=R.perm.nodup_iff.2 (nG.2 ((wIJ _).imp fun h=>by omega))
 have sub:∀ (z l:List Int) g,g ∈ spl l z->List.Sublist g l:=by
  intro z
  induction z with
  | nil=>intro l g hg;simp [spl] at hg
  | cons n z ih =>
   intro l g hg
   rcases nK.1 hg with rfl | hg
   ·exact List.take_sublist _ _
   ·exact (ih _ _ hg).trans (List.drop_sublist _ _)
 refine ⟨by rw [wEI];exact hz,fun g hg=>?_,fun g hg x hx=>?_,fun g hg=>(sub _ _ g hg).nodup nd⟩
 ·have:=(sub _ _ g hg).length_le;omega
 ·rw [hl]
  exact wCB x (R.perm.mem_iff.1 ((sub _ _ g hg).subset hx))
theorem wLx {l:List Int} (hl:l.length <= 1000):wAk l=some (!decide l.Nodup):=by
 unfold wAk
 have hd:wIv (fun i=>wIv (fun j=>!decide (gd l i=gd l j)) i 0) l.length 0=decide l.Nodup:=by
  rw [nb,wCR,decide_eq_true_iff]
  have:=wFY (l:=l) (p:=id)
  rw [List.map_id] at this
  rw [this]
  constructor
  ·intro h i hi j hj
   have:=(wCR _ _ _).1 (h i (by omega) (by omega)) j (by omega) (by omega)
   simpa using this
  ·intro h i _ hi
   exact (wCR _ _ _).2 fun j _ hj=>by simpa using h i (by omega) j (by omega)
 rw [wDL (fun i=>wIv (fun j=>!decide (gd l i=gd l j)) i 0) true (by omega) (fun i hi=>by
  rw [wDL (fun j=>!decide (gd l i=gd l j)) (.inr true) (by omega) (fun j hj=>by
   rw [wBd hi,nA,wBd (by omega),nA]
   by_cases e:gd l i=gd l j
   ·rw [if_pos e];simp [e]
   ·rw [if_neg e];simp [e])]
  split <;> rfl),hd]
 by_cases h:l.Nodup
 ·simp [h]
 ·simp [h]
def okL (n:Int):Bool:=decide (0 <= n) && decide (n <= 9999)
def errD (f:List wAA) (z lots:List Int):Int:=if wIK f z=0 then (if lots.length=f.length then (if lots.all okL=true then (if lots.Nodup then 0 else 5) else 3) else 2) else wIK f z
theorem wHR {f:List wAA} {z:List Int} (h:wIK f z=0):wFn f=0/\z.length <= 6/\z.all okG=true/\z.sum=f.length/\1 <= z.length:=by
 unfold wIK at h
 split at h
 ·split at h
  ·split at h
   ·split at h
    ·exact ⟨by assumption,by omega,by assumption,by assumption,by omega⟩
    ·omega
   ·omega
  ·omega
 ·contradiction
theorem wIM {lots:List Int} (h:lots.all okL=true):∀ x:Int,0 <= x->x < lots.length->0 <= gd lots x.toNat/\gd lots x.toNat <= 9999:=by
 intro x h0 h1
 have:=nP.1 h _ (wCW (l:=lots) (k:=x.toNat) (by omega))
 simpa [okL] using this
theorem wLy {f:List wAA} {z lots r:List Int} (hf:f.length <= 1000) (hl:lots.length <= 1000) (hR:wFn f=0->Rk f r) (hP:wBF f z=some (if wIK f z=0 then spl r z else [],wIK f z)) :
  ∃ o,o.length <= 1000/\wBs f z lots=some (o,errD f z lots)/\wAw (f.map toS) z lots=some (o,errD f z lots):=by
 unfold wBs wAw
 rw [hP,wHO hf hR,nA,nA]
 unfold errD
 by_cases h:wIK f z=0
 case neg=>simp only [if_neg h];exact ⟨_,by simp,rfl,rfl⟩
 simp only [if_pos h,nM]
 by_cases h1:lots.length=f.length
 case neg =>
  have h1':¬ (lots.length:Int)=f.length:=by omega
  rw [if_neg h1,if_neg h1',if_neg h1'];exact ⟨_,by simp,rfl,rfl⟩
 have h1':(lots.length:Int)=f.length:=by omega
 rw [if_pos h1,if_pos h1',if_pos h1',wLq (p:=okL) (fun a=>by unfold wBN;rw [wLm];rfl) hl,nA,
  wDL (fun i=>okL (gd lots i)) ([],3) (by omega) (fun i hi=>by
   rw [wBd hi,nA,wIy,nA]
   unfold okL
   by_cases c:0 <= gd lots i/\gd lots i <= 9999
   ·rw [if_neg (by simp;omega),if_pos (by simp;omega)]
   ·rw [if_pos (by simp;omega),if_neg (by simp;omega)];rfl),<- wIx]
 by_cases h2:lots.all okL=true
 case neg=>rw [if_neg h2,if_neg h2,if_neg h2];exact ⟨_,by simp,rfl,rfl⟩
 rw [if_pos h2,if_pos h2,if_pos h2,wCg,wGf hl,wLx hl,nA,nA]
 have hx:(!decide lots.Nodup)=true ↔ ¬ lots.Nodup:=by simp
 simp only [hx]
 by_cases h3:lots.Nodup
 case neg=>simp only [h3,not_false_eq_true,if_true,if_false];exact ⟨_,by simp,rfl,rfl⟩
 obtain ⟨g1,g2,g3,g4,g5⟩:=wHR h
 have G:=wBy.1 g1
 have gg:=wJA (lots:=lots) h1 G.l2 (hR g1) g2
 have l60:=G.l2
 obtain ⟨Y,hY⟩:=wLw gg (wIM h2) h3
 have hd:=wFa gg (wIM h2) (spl r z).length
 rw [nZ] at hd
 simp only [h3,not_true_eq_false,if_false,if_true]
 rw [hY,wMq gg (by omega) (wIM h2),nA,nA]
 exact ⟨drawn lots (spl r z),by omega,rfl,rfl⟩
theorem wHS (l:List Int) (hl:l.length <= 1000):wAK l l=some true:=by
 unfold wAK
 exact wGG (by omega)
theorem wPo (l:List wAA) (hl:l.length <= 1000):wAS l l=some true:=by
 unfold wAS
 exact wGG (by omega)
theorem wMr (G:List (List Int)) (hn:G.length <= 1000) (h:∀ g ∈ G,g.length <= 1000):wAd G G=some true:=by
 unfold wAd
 rw [if_pos rfl,wLj (by omega) (fun i hi=>by
  rw [wBd hi,nA,nA,wHS _ (h _ (wCW hi)),nA,if_pos rfl]),wCg]
theorem wPp {l:List wAA} (hl:l.length <= 1000):wAR l=some l:=by
 unfold wAR
 rw [wEV (by simp;omega)];rfl
theorem wNS {l:List Int} (hl:l.length <= 1000):wAc l=some l:=by
 unfold wAc
 rw [wEV (by simp;omega)];rfl
theorem wLz {f:List wAA} {r:List Int} (hf:f.length <= 1000) (hr:wFn f=0->wAs f=some r/\Rk f r):wBM f=some (if wFn f=0 then r else [],wFn f)/\wAM (f.map toS)=some (if wFn f=0 then r else [],wFn f):=by
 by_cases h:wFn f=0
 ·refine ⟨?_,by rw [wHN (wBy.1 h) (hr h).2,if_pos h,h]⟩
  unfold wBM
  rw [wEk hf,nA,if_pos h,(hr h).1,nA,if_pos h,h]
 ·refine ⟨?_,?_⟩
  ·unfold wBM
   rw [wEk hf,nA,if_neg h,if_neg h]
  ·unfold wAM
   rw [wDy hf,nA,if_neg h,if_neg h]
theorem wJe (p0:List wAA) (p1 p2:List Int):wAh p0 p1 p2=some true:=by
 unfold wAh
 by_cases h0:64 < (p0.length:Int)
 ·rw [if_pos h0];rfl
 rw [if_neg h0]
 by_cases h1:9 < (p1.length:Int)
 ·rw [if_pos h1];rfl
 rw [if_neg h1]
 by_cases h2:64 < (p2.length:Int)
 ·rw [if_pos h2];rfl
 rw [if_neg h2]
 obtain ⟨r,hr,hG⟩:=wLt (f:=p0) (z:=p1) (by omega) (by omega)
 obtain ⟨hA,hB⟩:=wLz (by omega) hr
 have hR:=fun e=>(hr e).2
 obtain ⟨o,ho,hD,hE⟩:=wLy (lots:=p2) (by omega) (by omega) hR hG
 have l1:(if wFn p0=0 then r else []).length <= 1000:=by
  split
  ·rw [(hR (by assumption)).perm.length_eq];simp [wCx];omega
  ·simp
 have l2:(if wIK p0 p1=0 then spl r p1 else []).length <= 1000/\∀ g ∈ (if wIK p0 p1=0 then spl r p1 else []),g.length <= 1000:=by
  split
  ·rename_i e
   obtain ⟨g1,g2,_⟩:=wHR e
   have gg:=wJA (lots:=nl p0.length 0) (by simp) (wBy.1 g1).l2 (hR g1) g2
   exact ⟨by have:=gg.n;omega,fun g hg=>by have:=gg.len g hg;omega⟩
  ·simp
 rw [wPp (by omega),nA,wNS (by omega),nA,wNS (by omega),nA,wMi (by omega),nA,wEk (by omega),nA,wDy (by omega),nA,if_pos rfl,hA,nA]
 simp only
 rw [hB,nA]
 simp only [if_true]
 rw [wHS _ l1,nA,if_pos rfl,hG,nA]
 simp only
 rw [wHO (by omega) hR,nA]
 simp only [if_true]
 rw [wMr _ l2.1 l2.2,nA,if_pos rfl,hD,nA]
 simp only
 rw [hE,nA]
 simp only [if_true]
 rw [wHS _ ho,nA,if_pos rfl,wPo _ (by omega),nA,if_pos rfl,wHS _ (by omega),nA,if_pos rfl,wHS _ (by omega),nA,if_pos rfl]
 rfl
end Go.Proofs.YtghaibkggdecnaaGreat
