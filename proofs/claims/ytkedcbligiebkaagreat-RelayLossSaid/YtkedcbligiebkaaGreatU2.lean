import Derived.Test.YtkedcbligiebkaaGreatU1
import Derived.Test.YtkedcbligiebkaaGreatU0
set_option linter.all false
open Option renaming bind_some->hH
open Bool renaming and_eq_true->nA,false_eq_true->nE
open List renaming mem_append->nB,mem_singleton->nH,length_nil->nI,length_append->nK,mem_cons->nL,cons_append->nM,append_of_mem->nN,append_assoc->nO,getElem?_eq_some_iff->nP,pairwise_cons->nR,mem_append_right->nS,mem_append_left->nT,range->nU,all_eq_true->nV,getElem?_eq_getElem->nW,length_cons->nX,nil_append->nY,length_singleton->nZ,pairwise_append->na,append_nil->nf,getD_eq_getElem?_getD->nj,drop_eq_getElem_cons->nk,count_singleton_self->nl,drop_eq_nil_of_le->nq,any_cons->nt,all_cons->nu,count_append->nw,length_range->ny
open Option.some renaming inj->nD
open Nat renaming eq_of_beq_eq_true->nG,le_refl->nQ,zero_add->ng,le_trans->nh,beq->np,lt_irrefl->nr
open Int renaming le_refl->nJ,toNat_of_nonneg->nb,tmod_eq_emod_of_nonneg->ni,tmod_lt_of_pos->nv
open List.cons renaming injEq->nc
open Classical renaming byContradiction->no
namespace Go.KX
open Go.RowKit Go.KL
section
variable {tb:Tr AF} {ex exY:Run} {P:Program} {N:Nat} {l:List Oper} {os s t:List AO} {a:AO} {σ0 σ1 σA σf:Tr AV} {h0 h h1 hf:AH} {μ μS:Mu} {σ σ':Env} {w:World} {o:Oper}
theorem wBw:∀ {s s' t t':List AO} {a:AO},(s ++ a :: t).Pairwise (fun a b=>a.ix ≠ b.ix)->s ++ a :: t=s' ++ a :: t'->s=s'/\t=t'
 | [],[],t,t',a,_,e=>by
  simp only [nY,nc,true_and] at e
  exact ⟨rfl,e⟩
 | [],b :: s',t,t',a,hp,e=>by
  simp only [nY,nM,nc] at e
  obtain ⟨rfl,rfl⟩:=e
  rw [nY] at hp
  exact absurd rfl ((nR.1 hp).1 a (by simp))
 | b :: s,[],t,t',a,hp,e=>by
  simp only [nY,nM,nc] at e
  obtain ⟨rfl,rfl⟩:=e
  rw [nM] at hp
  exact absurd rfl ((nR.1 hp).1 b (by simp))
 | b :: s,b' :: s',t,t',a,hp,e=>by
  simp only [nM,nc] at e
  rw [nM] at hp
  obtain ⟨h1,h2⟩:=wBw (nR.1 hp).2 e.2
  exact ⟨by rw [e.1,h1],h2⟩
theorem wDV (A:AOK P N l a o) (hs:Sub a.op o):∀ d ∈ wDE l o,∃ p ∈ wBf a,p.nat - 1=d:=by
 intro d hd
 unfold wDE at hd
 rcases nB.1 hd with hd | hd
 ·obtain ⟨y,h1,h2⟩:=List.mem_filterMap.1 hd
  cases y with
  | tmp t =>
   simp only [Option.some.injEq] at h2
   subst h2
   obtain ⟨p,h3,h4⟩:=hs t (by simpa using h1)
   exact ⟨p,nT _ h3,h4⟩
  | _=>simp at h2
 ·rcases A.grd with ⟨_,h2⟩ | ⟨p,b,j,d',h1,h2,h3,h4⟩
  ·rw [h2] at hd;simp at hd
  ·rw [h2] at hd
   simp only [h3,Option.toList_some,nH] at hd
   subst hd
   exact ⟨p,nS _ (by rw [h1];simp),h4.symm⟩
structure Pend (tb:Tr AF) (ex exY:Run) (P:Program) (l:List Oper) (os:List AO) (σ0:Tr AV) (h0:AH) (σf:Tr AV) (w0:World) (μ μS:Mu) (σ:Env) (w:World) (a:AO) (o:Oper) (p:Pos):Prop where
 get:l[a.ix]?=some o
 dst:a.dst=some p
 fact:(wanted l σ o=false/\σ (p.nat - 1)=undef/\evA σf (.t p)=u) \/ (wanted l σ o=true /\
  (((a.kd=1 \/ a.kd=3 \/ 8 <= a.kd)/\Rv μ (evA σf (.t p)) (σ (p.nat - 1))) \/
   (a.kd=6/\Rv μS (evA σf (.t p)) (σ (p.nat - 1))/\∃ w1 w2,Runs P σ w1 o (σ (p.nat - 1)) w2) \/
   (a.kd=4/\Rv μS (evA σf (.t p)) (σ (p.nat - 1))/\∃ w1 ob s1 t1 σ1 h1,Runs P σ w1 o (σ (p.nat - 1)) (w1.alloc ob)/\w.heap[w1.heap.size]?=some ob/\w0.heap.size <= w1.heap.size /\
    os=s1 ++ a :: t1/\wAS tb ex exY s1 σ0 h0=some (σ1,h1)/\μS h1.nx=some ⟨w1.heap.size,0,g0⟩/\∀ q c,μS q=some c->c.1=w1.heap.size->q=h1.nx)))
theorem wLT {tb:Tr AF} {ex exY:Run} {k:Nat} {op:AOp} {σ:Tr AV} {h h':AH} {v:AV} (hk:k ≠ 2) (hr:opK k op tb ex exY σ h=some (v,h')):opY op tb ex exY σ h=some (v,h'):=by
 have hb:np k 2=false:=by
  cases hb:np k 2 with
  | false=>rfl
  | true=>exact absurd (nG hb) hk
 have:opK k op=opY op:=by unfold opK;rw [hb]
 rwa [this] at hr
theorem wJh {k:Nat} (h:8 <= k):¬ wBa k=true:=by
 unfold wBa
 simp only [Bool.or_eq_true,not_or]
 exact ⟨fun e=>by have:=nG e;omega,fun e=>by have:=nG e;omega⟩
theorem wLU {w:World} {a b:Obj} (h:w.alloc a=w.alloc b):a=b:=by
 have h1:=heap_alloc_new w a
 rw [h,heap_alloc_new] at h1
 exact (nD h1).symm
theorem wPa (Z:ZOK P N l os) (e:os=s ++ a :: t) {μ0:Mu} {w0:World} {fl:Nat} (hs:wAS tb ex exY s σ0 h0=some (σA,h)) (hr:wAS tb ex exY (a :: t) σA h=some (σf,hf))
  (E:Ext μ0 fl w0 μ w) (S:Sim (CC P) P μ h w) (hE:EnvR μ σA σ') (hle:μ.Le μS) {p:Pos} (Pd:Pend tb ex exY P l os σ0 h0 σf w0 μ μS σ w a o p) (hag:∀ q ∈ wBf a,σ (q.nat - 1)=σ' (q.nat - 1)) :
  ∃ σB hB μB,wAS tb ex exY (s ++ [a]) σ0 h0=some (σB,hB)/\wAS tb ex exY t σB hB=some (σf,hf)/\μ.Le μB/\μB.Le μS/\Ext μ0 fl w0 μB w/\Sim (CC P) P μB hB w/\hB.fl=h.fl/\EnvR μB σB (upd σ' (p.nat - 1) (σ (p.nat - 1)))/\(a.kd=4->wanted l σ o=true->μB h.nx ≠ none):=by
 have ha:a ∈ os:=by rw [e];simp
 obtain ⟨o',A⟩:=wCA (Z.ao a ha)
 have eo:o'=o:=by have:=A.get;rw [Pd.get] at this;exact (nD this).symm
 subst eo
 have hsel:=Z.sel a ha _ A.get
 have hsub:=Z.sub a ha _ A.get
 have hagr:Agr l o' σ σ':=fun d hd=>by
  obtain ⟨q,h1,rfl⟩:=wDV A hsub d hd
  exact hag q h1
 have hw:=wGj A hE
 have hwσ:wanted l σ o'=wBp σA a.grd:=(wBd hagr).trans hw
 obtain ⟨pd,dd,d1,d2,d3,_⟩:∃ p d,a.dst=some p/\o'.dst=some d/\d=p.nat - 1/\d < N:=by
  rcases A.dst with ⟨h1,_⟩ | h
  ·rw [Pd.dst] at h1;cases h1
  ·exact h
 have ep:pd=p:=by rw [Pd.dst] at d1;exact (nD d1).symm
 subst ep
 have eput:∀ cv,put' σ' o' cv=upd σ' (pd.nat - 1) cv:=fun cv=>by unfold put';rw [d2,d3]
 obtain ⟨σx,hx,q1,q2⟩:=wJB (s:=[]) (a:=a) (t:=t) (σ0:=σA) (h0:=h) (by rw [nY];exact hr)
 rw [wAe] at q1
 cases q1
 have split1:∀ {σB hB},(match wBp σA a.grd with | true=>(match opK a.kd a.op tb ex exY σA h with | some r=>some (wEm a.dst σA r.1,r.2) | none=>none) | false=>some (wEm a.dst σA u,h))=some (σB,hB)->wAS tb ex exY (s ++ [a]) σ0 h0=some (σB,hB):=by
  intro σB hB hq
  have app:∀ (l1 l2:List AO) (x:Tr AV) (y:AH) (x1:Tr AV) (y1:AH),wAS tb ex exY l1 x y=some (x1,y1)->wAS tb ex exY (l1 ++ l2) x y=wAS tb ex exY l2 x1 y1:=by
   intro l1
   induction l1 with
   | nil=>intro l2 x y x1 y1 h;rw [wAe] at h;cases h;rfl
   | cons b l1 ih =>
    intro l2 x y x1 y1 h
    rw [nM,wAf]
    rw [wAf] at h
    cases hb:wBp x b.grd with
    | true =>
     rw [hb] at h
     simp only at h ⊢
     cases hq:opK b.kd b.op tb ex exY x y with
     | none=>rw [hq] at h;cases h
     | some r=>rw [hq] at h;exact ih l2 _ _ _ _ h
    | false =>
     rw [hb] at h
     exact ih l2 _ _ _ _ h
  rw [app s [a] _ _ _ _ hs,wAf]
  cases hb:wBp σA a.grd with
  | true =>
   rw [hb] at hq
   simp only at hq ⊢
   cases hk:opK a.kd a.op tb ex exY σA h with
   | none=>rw [hk] at hq;cases hq
   | some r =>
    rw [hk] at hq
    cases hq
    exact wAe _ _ _ _ _
  | false =>
   rw [hb] at hq
   cases hq
   rw [wAe]
 rcases q2 with ⟨g1,v,h2,g2,g3⟩ | ⟨g1,g3⟩
 ·have hv:evA σf (.t pd)=v:=wIN Z e g3 Pd.dst
  have hrun:=split1 (σB:=wEm a.dst σA v) (hB:=h2) (by rw [g1];simp only;rw [g2])
  rcases Pd.fact with ⟨f1,_⟩ | ⟨_,⟨fk,f1⟩ | ⟨fk,f1,w1,w2,f2⟩ | ⟨fk,f1,w1,ob,s1,t1,σ1,h1,f2,f3,f4,f5,f6,f7,f8⟩⟩
  ·rw [hwσ,g1] at f1;cases f1
  ·have gY:opY a.op tb ex exY σA h=some (v,h2):=wLT (by omega) g2
   have hk:kdA a.op=1 \/ kdA a.op=3:=by
    rcases fk with fk | fk | fk
    ·exact A.k1 fk
    ·exact .inr (A.k3 fk)
    ·rcases Z.kd a ha with hh | ⟨_,hh | hh | hh | hh | hh⟩
     ·exact absurd hh (wJh fk)
     ·omega
     ·omega
     ·omega
     ·omega
     ·exact .inl hh.2
   obtain ⟨e1,_⟩:=wGO (C:=CC P) hk A.op _ _ _ _ gY
   subst e1
   rw [hv] at f1
   exact ⟨_,_,μ,hrun,g3,Mu.Le.refl μ,hle,E,S,rfl,by rw [<- eput];exact wCu A hE f1,fun h4 _=>by omega⟩
  ·have gY:opY a.op tb ex exY σA h=some (v,h2):=by rw [fk] at g2;exact g2
   have hk:kdA a.op=3:=by
    rcases Z.kd a ha with hh | ⟨_,hh | hh | hh | hh | hh⟩
    ·rw [fk] at hh;exact absurd hh (by decide)
    ·omega
    ·omega
    ·exact hh.2
    ·omega
    ·omega
   obtain ⟨e1,e2⟩:=wGN hk A.op _ _ _ _ gY
   subst e1
   obtain ⟨cv,c1,c2⟩:=e2 μ σ' hE
   have:=Runs.det ((Runs.agr hsel hagr).2 (c2 o' w1 rfl)) f2
   rw [<- eput,<- this.1]
   exact ⟨_,_,μ,hrun,g3,Mu.Le.refl μ,hle,E,S,rfl,wCu A hE c1,fun h4 _=>by omega⟩
  ·have gY:opY a.op tb ex exY σA h=some (v,h2):=by rw [fk] at g2;exact g2
   have hk:wJp a.op=true:=by
    rcases Z.kd a ha with hh | ⟨_,hh | hh | hh | hh | hh⟩
    ·rw [fk] at hh;exact absurd hh (by decide)
    ·omega
    ·omega
    ·omega
    ·exact hh.2
    ·omega
   obtain ⟨B,vf,e1,e2,_,_,e5⟩:=wJA (C:=CC P) hk A.op _ _ _ _ gY
   obtain ⟨ob',val,c1,c2,c3⟩:=e5 μ σ' hE o' rfl
   obtain ⟨k1,k2⟩:=Runs.det ((Runs.agr hsel hagr).2 (c1 w1)) f2
   have k2:=wLU k2
   subst k2
   have es:s1=s:=(wBw (f5 ▸ Z.one) (f5.symm.trans e)).1
   subst es
   rw [hs] at f6
   cases f6
   have hn0:=S.nx h.nx (nQ _)
   have hadd:=Mu.add_le (c:=(⟨w1.heap.size,0,g0⟩:Cl)) hn0
   have hlt:w1.heap.size < w.heap.size:=wAN f3
   subst e1 e2
   have hv':Rv (μ.add h.nx ⟨w1.heap.size,0,g0⟩) (vf h.nx) (σ (pd.nat - 1)):=by
    rw [<- k1]
    exact c3 _ _ _ (Mu.add_same _ _ _)
   refine ⟨_,_,μ.add h.nx ⟨w1.heap.size,0,g0⟩,hrun,g3,hadd,?_,⟨E.mono.trans hadd,?_,E.keep⟩,S.adopt hlt ?_ (c2 _ w _ hadd f3),rfl,?_,fun _ _=>by rw [Mu.add_same];simp⟩
   ·intro q d hq
    unfold Mu.add at hq
    split at hq
    ·rename_i eq
     subst eq
     cases hq
     exact f7
    ·exact hle q d hq
   ·intro q c hq
    unfold Mu.add at hq
    split at hq
    ·cases hq
     exact .inr (.inr f4)
    ·exact E.new q c hq
   ·intro q d hq hd
    have:=f8 q d (hle q d hq) hd
    subst this
    rw [hn0] at hq
    cases hq
   ·rw [<- eput]
    exact wCu A (hE.mono hadd) hv'
 ·have hrun:=split1 (σB:=wEm a.dst σA u) (hB:=h) (by rw [g1])
  rcases Pd.fact with ⟨_,f2,_⟩ | ⟨f1,_⟩
  ·refine ⟨_,_,μ,hrun,g3,Mu.Le.refl μ,hle,E,S,rfl,?_,fun _ hw'=>by rw [hwσ,g1] at hw';cases hw'⟩
   rw [f2,<- eput]
   exact wCu A hE (wKj μ)
  ·rw [hwσ,g1] at f1;cases f1
structure JS (tb:Tr AF) (ex exY:Run) (P:Program) (l:List Oper) (os:List AO) (σ0:Tr AV) (h0:AH) (σf:Tr AV) (hf:AH) (μ0:Mu) (w0:World) (S:Nat->Bool) (σ:Env) (w:World) (s t:List AO) (σA:Tr AV) (h:AH) (σ':Env) (μ μS:Mu):Prop where
 e:os=s ++ t
 hs:wAS tb ex exY s σ0 h0=some (σA,h)
 hr:wAS tb ex exY t σA h=some (σf,hf)
 inS:∀ a ∈ s,S a.ix=true
 free:∀ a ∈ t,S a.ix=true->wBa a.kd=false
 E:Ext μ0 h0.fl.nat w0 μ w
 sim:Sim (CC P) P μ h w
 fl:h.fl=h0.fl
 env:EnvR μ σA σ'
 ag:∀ q:Pos,(∀ a ∈ t,S a.ix=true->a.dst ≠ some q)->σ (q.nat - 1)=σ' (q.nat - 1)
 le:μ.Le μS
 nm:∀ q c,μS q=some c->μ q=some c \/ ∃ a o s1 t1 σ1 h1,a ∈ t/\S a.ix=true/\l[a.ix]?=some o/\wanted l σ o=true/\a.kd=4/\os=s1 ++ a :: t1/\wAS tb ex exY s1 σ0 h0=some (σ1,h1)/\q=h1.nx
 pd:∀ a ∈ t,S a.ix=true->∃ o p,Pend tb ex exY P l os σ0 h0 σf w0 μ μS σ w a o p
theorem Pend.mono {μB:Mu} {w0:World} {p:Pos} (h:Pend tb ex exY P l os σ0 h0 σf w0 μ μS σ w a o p) (hm:μ.Le μB):Pend tb ex exY P l os σ0 h0 σf w0 μB μS σ w a o p:=by
 refine ⟨h.get,h.dst,?_⟩
 rcases h.fact with f | ⟨f,⟨f1,f2⟩ | f1 | f1⟩
 ·exact .inl f
 ·exact .inr ⟨f,.inl ⟨f1,f2.mono hm⟩⟩
 ·exact .inr ⟨f,.inr (.inl f1)⟩
 ·exact .inr ⟨f,.inr (.inr f1)⟩
theorem JS.catch1 (Z:ZOK P N l os) {μ0:Mu} {w0:World} {S:Nat->Bool} (J:JS tb ex exY P l os σ0 h0 σf hf μ0 w0 S σ w s (a :: t) σA h σ' μ μS) (ha:S a.ix=true) :
  ∃ σB hB σ'' μB,JS tb ex exY P l os σ0 h0 σf hf μ0 w0 S σ w (s ++ [a]) t σB hB σ'' μB μS:=by
 obtain ⟨o,p,Pd⟩:=J.pd a (by simp) ha
 have hag:∀ q ∈ wBf a,σ (q.nat - 1)=σ' (q.nat - 1):=fun q hq=>J.ag q fun b hb _=>Z.rd s a t J.e q hq b hb
 obtain ⟨σB,hB,μB,c1,c2,c3,c4,c5,c6,c7,c8,c9⟩:=wPa Z J.e J.hs J.hr J.E J.sim J.env J.le Pd hag
 have hne:∀ b ∈ t,b.ix ≠ a.ix:=fun b hb e=>by
  have:=Z.one
  rw [J.e] at this
  exact (nR.1 (na.1 this).2.1).1 b hb e.symm
 refine ⟨σB,hB,_,μB,by rw [J.e];simp,c1,c2,fun b hb=>?_,fun b hb=>J.free b (by simp [hb]),c5,c6,c7.trans J.fl,c8,fun q hq=>?_,c4,fun q c hq=>?_,fun b hb hS=>?_⟩
 ·rcases nB.1 hb with hb | hb
  ·exact J.inS b hb
  ·rw [nH.1 hb];exact ha
 ·by_cases e:q=p
  ·subst e
   rw [wBx]
  ·rw [wCh _ _ (fun h=>e (Pos.nat_inj (by have:=q.nat_pos;have:=p.nat_pos;omega)))]
   refine J.ag q fun b hb hS=>?_
   rcases nL.1 hb with rfl | hb
   ·rw [Pd.dst]
    intro h
    cases h
    exact e rfl
   ·exact hq b hb hS
 ·rcases J.nm q c hq with h1 | ⟨b,ob,s1,t1,σ1,h1,k1,k2,k3,k4,k5,k6,k7,k8⟩
  ·exact .inl (c3 _ _ h1)
  ·rcases nL.1 k1 with rfl | k1
   ·left
    have hs1:s1=s:=(wBw (k6 ▸ Z.one) (k6.symm.trans J.e)).1
    subst hs1
    rw [J.hs] at k7
    cases k7
    subst k8
    rw [Pd.get] at k3
    cases k3
    have:=c9 k5 k4
    cases hm:μB h.nx with
    | none=>exact absurd hm this
    | some c' =>
     have:=c4 _ _ hm
     rw [hq] at this
     exact this.symm
   ·exact .inr ⟨b,ob,s1,t1,σ1,h1,k1,k2,k3,k4,k5,k6,k7,k8⟩
 ·obtain ⟨o',p',h'⟩:=J.pd b (by simp [hb]) hS
  exact ⟨o',p',h'.mono c3⟩
end
end Go.KX
namespace Go.KX
open Go.RowKit Go.KL
section
variable {tb:Tr AF} {ex exY:Run} {P:Program} {N:Nat} {l:List Oper} {os s t:List AO} {a:AO} {σ0 σA σf:Tr AV} {h0 h hf:AH} {μ μS:Mu} {σ σ':Env} {w:World} {o:Oper}
theorem wCd:∀ (l1 l2:List AO) (x:Tr AV) (y:AH) (x1:Tr AV) (y1:AH),wAS tb ex exY l1 x y=some (x1,y1)->wAS tb ex exY (l1 ++ l2) x y=wAS tb ex exY l2 x1 y1
 | [],l2,x,y,x1,y1,h=>by rw [wAe] at h;cases h;rfl
 | b :: l1,l2,x,y,x1,y1,h=>by
  rw [nM,wAf]
  rw [wAf] at h
  cases hb:wBp x b.grd with
  | true =>
   rw [hb] at h
   simp only at h ⊢
   cases hq:opK b.kd b.op tb ex exY x y with
   | none=>rw [hq] at h;cases h
   | some r=>rw [hq] at h;exact wCd l1 l2 _ _ _ _ h
  | false =>
   rw [hb] at h
   exact wCd l1 l2 _ _ _ _ h
theorem wOJ (HE:FrX ex) (HY:FrX exY) (Z:ZOK P N l os) (e:os=s ++ t) (hs:wAS tb ex exY s σ0 h0=some (σA,h)) {b:AO} (hb:b ∈ t) {s1 t1:List AO} {σ1:Tr AV} {h1:AH} (e1:os=s1 ++ b :: t1) (hr:wAS tb ex exY s1 σ0 h0=some (σ1,h1)):h.nx.nat <= h1.nx.nat:=by
 obtain ⟨r,r',rfl⟩:=nN hb
 have es:s1=s ++ r:=(wBw (e1 ▸ Z.one) (e1.symm.trans (e.trans (nO _ _ _).symm))).1
 subst es
 rw [wCd s r _ _ _ _ hs] at hr
 exact (wGS HE HY _ _ _ _ _ hr).nx
theorem wEx (Z:ZOK P N l os) {S:Nat->Bool} (hdc:∀ k,k < l.length->S k=true->∀ j ∈ prI l k,S j=true) (ha:a ∈ os) (hS:S a.ix=false) {b:AO} (hb:b ∈ os) (hbS:S b.ix=true) (A:AOK P N l a o) {ob:Oper} (hob:l[b.ix]?=some ob) (v:Value):Agr l ob σ (put' σ o v):=by
 obtain ⟨ob',B⟩:=wCA (Z.ao b hb)
 have eo:ob'=ob:=by have:=B.get;rw [hob] at this;exact (nD this).symm
 subst eo
 intro d hd
 obtain ⟨p,hp,rfl⟩:=wDV B (Z.sub b hb _ B.get) d hd
 symm
 refine wFA fun dd hdd e=>?_
 rcases A.dst with ⟨_,h2⟩ | ⟨q,d',h1,h2,h3,_⟩
 ·rw [h2] at hdd;cases hdd
 ·rw [h2] at hdd
  have hdd:=nD hdd
  have eq:q=p:=Pos.nat_inj (by have:=q.nat_pos;have:=p.nat_pos;have:q.nat - 1=p.nat - 1:=h3.symm.trans (hdd.trans e);omega)
  subst eq
  have:=Z.rdS b hb q hp a ha h1
  have hlt:b.ix < l.length:=(nP.1 hob).1
  have:=wCs hdc (hdc _ hlt hbS) this
  rw [hS] at this
  cases this
theorem JS.fixed (HC:wEh (CC P) P tb ex) (HY':wDm (CC P) P exY) (HE:FrX ex) (HY:FrX exY) (Z:ZOK P N l os) {μ0:Mu} {w0:World} {S:Nat->Bool} (J:JS tb ex exY P l os σ0 h0 σf hf μ0 w0 S σ w s (a :: t) σA h σ' μ μS) (hfix:wBa a.kd=true) (hS:S a.ix=false)
  (hdc:∀ k,k < l.length->S k=true->∀ j ∈ prI l k,S j=true) (A:AOK P N l a o) :
  Step1 P l o σ w fun v w'=>∃ σB hB σ'' μB μT,JS tb ex exY P l os σ0 h0 σf hf μ0 w0 (fun k=>k == a.ix || S k) (put' σ o v) w' (s ++ [a]) t σB hB σ'' μB μT:=by
 have ha:a ∈ os:=by rw [J.e];simp
 have hsel:=Z.sel a ha _ A.get
 have hag:∀ q ∈ wBf a,σ (q.nat - 1)=σ' (q.nat - 1):=fun q hq=>J.ag q fun b hb _=>Z.rd s a t J.e q hq b hb
 have hagr:Agr l o σ σ':=fun d hd=>by
  obtain ⟨q,h1,rfl⟩:=wDV A (Z.sub a ha _ A.get) d hd
  exact hag q h1
 have hw:=wGj A J.env
 have main:∀ (v:AV) (cv:Value) (hB:AH) (w':World) (μB:Mu),wAS tb ex exY (s ++ [a]) σ0 h0=some (wEm a.dst σA v,hB)->wAS tb ex exY t (wEm a.dst σA v) hB=some (σf,hf) ->
   Ext μ h.fl.nat w μB w'->Sim (CC P) P μB hB w'->EnvR μB (wEm a.dst σA v) (put' σ' o cv)->hB.fl=h.fl ->
   ∃ σB hB σ'' μB μT,JS tb ex exY P l os σ0 h0 σf hf μ0 w0 (fun k=>k == a.ix || S k) (put' σ o cv) w' (s ++ [a]) t σB hB σ'' μB μT:=by
  intro v cv hB w' μB r1 r2 E' S' hE' hfl
  have hne:∀ b ∈ t,b.ix ≠ a.ix:=fun b hb e=>by
   have:=Z.one
   rw [J.e] at this
   exact (nR.1 (na.1 this).2.1).1 b hb e.symm
  have hSb:∀ b ∈ t,(b.ix == a.ix || S b.ix)=true->S b.ix=true:=fun b hb h=>by
   have:=hne b hb
   simpa [this] using h
  have hbo:∀ b ∈ t,b ∈ os:=fun b hb=>by rw [J.e];simp [hb]
  have eB:os=(s ++ [a]) ++ t:=by rw [J.e];simp
  have hnm:∀ b ∈ t,∀ s1 t1 σ1 h1,os=s1 ++ b :: t1->wAS tb ex exY s1 σ0 h0=some (σ1,h1)->μB h1.nx=none/\μ h1.nx=none:=fun b hb s1 t1 σ1 h1 e1 hr=>by
   have g1:=wOJ HE HY Z eB r1 hb e1 hr
   have g2:=wOJ HE HY Z J.e J.hs (b:=b) (by simp [hb]) e1 hr
   exact ⟨S'.nx _ g1,J.sim.nx _ g2⟩
  let μT:Mu:=fun q=>match μB q with | some c=>some c | none=>μS q
  have hT:μB.Le μT:=fun q c hq=>by show (match μB q with | some c=>some c | none=>μS q)=_;rw [hq]
  have hST:μS.Le μT:=fun q c hq=>by
   show (match μB q with | some c=>some c | none=>μS q)=_
   cases hB:μB q with
   | none=>exact hq
   | some c' =>
    rcases J.nm q c hq with h1 | ⟨b,ob,s1,t1,σ1,h1,k1,k2,k3,k4,k5,k6,k7,k8⟩
    ·rw [E'.mono _ _ h1] at hB
     exact hB.symm ▸ rfl
    ·rcases nL.1 k1 with rfl | k1
     ·rw [hS] at k2;cases k2
     ·have:=(hnm b k1 s1 t1 σ1 h1 k6 k7).1
      rw [<- k8,hB] at this
      cases this
  refine ⟨_,hB,_,μB,μT,eB,r1,r2,fun b hb=>?_,fun b hb hh=>J.free b (by simp [hb]) (hSb b hb hh),?_,S',hfl.trans J.fl,hE',fun q hq=>?_,hT,fun q c hq=>?_,fun b hb hh=>?_⟩
  ·rcases nB.1 hb with hb | hb
   ·simp [J.inS b hb]
   ·rw [nH.1 hb];simp
  ·have:=J.E
   refine this.trans ?_
   rw [<- J.fl]
   exact E'
  ·have old:σ (q.nat - 1)=σ' (q.nat - 1) \/ a.dst=some q:=by
    by_cases hq':a.dst=some q
    ·exact .inr hq'
    ·exact .inl (J.ag q fun b hb h=>by
      rcases nL.1 hb with rfl | hb
      ·exact hq'
      ·exact hq b hb (by simp [h]))
   rcases A.dst with ⟨h1,h2⟩ | ⟨p,d,h1,h2,h3,_⟩
   ·unfold put'
    rw [h2]
    rcases old with old | old
    ·exact old
    ·rw [h1] at old;cases old
   ·unfold put'
    rw [h2]
    by_cases e:q.nat - 1=d
    ·simp only [e,wBx]
    ·simp only
     rw [wCh _ _ e,wCh _ _ e]
     rcases old with old | old
     ·exact old
     ·rw [h1] at old
      cases old
      exact absurd h3.symm e
  ·have hq:(match μB q with | some c=>some c | none=>μS q)=some c:=hq
   cases hB':μB q with
   | some c' =>
    rw [hB'] at hq
    exact .inl hq
   | none =>
    rw [hB'] at hq
    rcases J.nm q c hq with h1 | ⟨b,ob,s1,t1,σ1,h1,k1,k2,k3,k4,k5,k6,k7,k8⟩
    ·rw [E'.mono _ _ h1] at hB'
     cases hB'
    ·rcases nL.1 k1 with rfl | k1
     ·rw [hS] at k2;cases k2
     ·exact .inr ⟨b,ob,s1,t1,σ1,h1,k1,by simp [k2],k3,(wBd (wEx Z hdc ha hS (hbo b k1) k2 A k3 cv)).symm.trans k4,k5,k6,k7,k8⟩
  ·have hbS:=hSb b hb hh
   obtain ⟨ob,p,Pd⟩:=J.pd b (by simp [hb]) hbS
   have hA:=wEx (σ:=σ) Z hdc ha hS (hbo b hb) hbS A Pd.get cv
   have hp:put' σ o cv (p.nat - 1)=σ (p.nat - 1):=wFA fun d hd e=>by
    rcases A.dst with ⟨_,h2⟩ | ⟨q,d',h1,h2,h3,_⟩
    ·rw [h2] at hd;cases hd
    ·rw [h2] at hd
     have hd:=nD hd
     have eq:q=p:=Pos.nat_inj (by have:=q.nat_pos;have:=p.nat_pos;have:q.nat - 1=p.nat - 1:=h3.symm.trans (hd.trans e);omega)
     subst eq
     exact Z.wr s a t J.e q h1 b (nS _ hb) Pd.dst
   have hsb:=Z.sel b (hbo b hb) _ Pd.get
   refine ⟨ob,p,Pd.get,Pd.dst,?_⟩
   rw [hp,<- wBd hA]
   rcases Pd.fact with f | ⟨f,⟨f1,f2⟩ | ⟨f1,f2,w1,w2,f3⟩ | ⟨f1,f2,w1,o1,s1,t1,σ1,h1,f3,f4,f5,f6,f7,f8,f9⟩⟩
   ·exact .inl f
   ·exact .inr ⟨f,.inl ⟨f1,f2.mono E'.mono⟩⟩
   ·exact .inr ⟨f,.inr (.inl ⟨f1,f2.mono hST,w1,w2,(Runs.agr hsb hA).1 f3⟩)⟩
   ·obtain ⟨n1,n2⟩:=hnm b hb s1 t1 σ1 h1 f6 f7
    have nimg:¬ img μ h.fl.nat w1.heap.size:=by
     rintro ⟨q,d,g1,g2,_⟩
     have:=f9 q d (J.le _ _ g1) g2
     rw [this,n2] at g1
     cases g1
    refine .inr ⟨f,.inr (.inr ⟨f1,f2.mono hST,w1,o1,s1,t1,σ1,h1,(Runs.agr hsb hA).1 f3,(E'.keep.block _ (wAN f4) nimg).trans f4,f5,f6,f7,hST _ _ f8,fun q c hq hc=>?_⟩)⟩
    have hq:(match μB q with | some c=>some c | none=>μS q)=some c:=hq
    cases hB':μB q with
    | none=>rw [hB'] at hq;exact f9 q c hq hc
    | some c' =>
     rw [hB'] at hq
     cases hq
     rcases E'.new q c hB' with g | g | g
     ·exact f9 q c (J.le _ _ g) hc
     ·rw [hc] at g;exact absurd g nimg
     ·have:=wAN f4;omega
 obtain ⟨σx,hx,q1,q2⟩:=wJB (s:=[]) (a:=a) (t:=t) (σ0:=σA) (h0:=h) (by rw [nY];exact J.hr)
 rw [wAe] at q1
 cases q1
 refine Step1.agr hsel (fun d hd=>(hagr d hd).symm) ?_
 rcases q2 with ⟨g1,v,h2,g2,g3⟩ | ⟨g1,g3⟩
 ·refine (wPT HC HY' A (hw.trans g1) g2 J.env J.sim).mono ?_
  rintro cv w' ⟨_,μB,e1,e2,e3,e4⟩
  refine main v cv h2 w' μB ?_ g3 e1 e2 e3 e4
  rw [wCd s [a] _ _ _ _ J.hs,wAf,g1]
  simp only
  rw [g2]
  exact wAe _ _ _ _ _
 ·refine .inr ⟨hw.trans g1,?_⟩
  refine main u undef h w μ ?_ g3 (Ext.refl μ _ w) J.sim (wCu A J.env (wKj μ)) rfl
  rw [wCd s [a] _ _ _ _ J.hs,wAf,g1]
  exact wAe _ _ _ _ _
theorem JS.opnd (Z:ZOK P N l os) {μ0:Mu} {w0:World} {S:Nat->Bool} (J:JS tb ex exY P l os σ0 h0 σf hf μ0 w0 S σ w s t σA h σ' μ μS) (ha:a ∈ os) (hl:a.ix < l.length) (hp:∀ j ∈ prI l a.ix,S j=true)
  (hdc:∀ k,k < l.length->S k=true->∀ j ∈ prI l k,S j=true) {p:Pos} (hr:p ∈ wBf a):Rv μS (evA σf (.t p)) (σ (p.nat - 1))/\(a.kd=1 \/ a.kd=3 \/ 8 <= a.kd->Rv μ (evA σf (.t p)) (σ (p.nat - 1))):=by
 have base:(∀ b ∈ t,b.dst ≠ some p)->Rv μ (evA σf (.t p)) (σ (p.nat - 1)):=fun hn=>by
  rw [wBv t _ _ _ _ J.hr p hn,J.ag p fun b hb _=>hn b hb]
  exact J.env p
 by_cases hw:∃ b ∈ t,b.dst=some p
 ·obtain ⟨b,hb,hd⟩:=hw
  have hbo:b ∈ os:=by rw [J.e];simp [hb]
  have hanc:=Z.rdS a ha p hr b hbo hd
  have hS:=wCs hdc hp hanc
  obtain ⟨ob,p',Pd⟩:=J.pd b hb hS
  have ep:p'=p:=by have:=Pd.dst;rw [hd] at this;exact (nD this).symm
  subst ep
  rcases Pd.fact with ⟨_,f1,f2⟩ | ⟨_,⟨_,f1⟩ | ⟨f0,f1,_⟩ | ⟨f0,f1,_⟩⟩
  ·rw [f1,f2]
   exact ⟨wKj _,fun _=>wKj _⟩
  ·exact ⟨f1.mono J.le,fun _=>f1⟩
  ·exact ⟨f1,fun hk=>absurd f0 (Z.cl a ha hk p' hr b hbo hd).2⟩
  ·exact ⟨f1,fun hk=>absurd f0 (Z.cl a ha hk p' hr b hbo hd).1⟩
 ·have:=base fun b hb hd=>hw ⟨b,hb,hd⟩
  exact ⟨this.mono J.le,fun _=>this⟩
end
end Go.KX
namespace Go.KX
open Go.RowKit Go.KL
section
variable {tb:Tr AF} {ex exY:Run} {P:Program} {N:Nat} {l:List Oper} {os s t:List AO} {a:AO} {σ0 σA σf:Tr AV} {h0 h h1 h' hf:AH} {μ μS:Mu} {σ σ':Env} {w:World} {o:Oper} {v:AV}
theorem wML {a:AOp} {op:Op} (hk:kdA a=1) (hc:wFd P a op=true) (hE:EnvR μ σA σ) (hm:∀ b c,μ b=some c->h.m.get b=h1.m.get b) (hr:opY a tb ex exY σA h1=some (v,h')):opY a tb ex exY σA h=some (v,h):=by
 have cel:∀ b c,μ b=some c->wCO h b=wCO h1 b:=fun b c hb=>by unfold wCO;rw [hm b c hb]
 cases a <;> first | (simp [kdA] at hk;done) | skip
 case ld x =>
  have hr:wLp x σA h1=some (v,h'):=hr
  show wLp x σA h=some (v,h)
  have hc:wPI P x op=true:=hc
  unfold wPI at hc
  split at hc
  ·simp only [nA] at hc
   have g:=wAF hc.2 hE
   unfold wLp at hr ⊢
   split at hr
   ·rename_i b off hb
    rw [hb] at g
    obtain ⟨c,g1,_⟩:=g
    simp only [hb,cel b c g1]
    split at hr
    ·exact wLQ hr h
    ·cases hr
   ·cases hr
  ·cases hc
 case ldA n x =>
  have hr:wGA n x σA h1=some (v,h'):=hr
  show wGA n x σA h=some (v,h)
  have hc:wKy P n x op=true:=hc
  unfold wKy at hc
  split at hc
  ·simp only [nA] at hc
   have g:=wAF hc.2 hE
   unfold wGA at hr ⊢
   split at hr
   ·rename_i b off hb
    rw [hb] at g
    obtain ⟨c,g1,_⟩:=g
    simp only [hb,cel b c g1]
    split at hr
    ·exact wLQ hr h
    ·cases hr
   ·cases hr
  ·cases hc
 case lk two k ok z x y =>
  have hr:wLq two k ok z x y σA h1=some (v,h'):=hr
  show wLq two k ok z x y σA h=some (v,h)
  have hc:wPM P two k ok z x y op=true:=hc
  unfold wPM at hc
  split at hc
  ·simp only [nA] at hc
   have g:=wAF hc.2.2.1 hE
   unfold wLq at hr ⊢
   split at hr
   ·rename_i b hb
    rw [hb] at g
    obtain ⟨c,g1,_⟩:=g
    simp only [hb,hm b c g1]
    repeat' (split at hr)
    all_goals first | (cases hr;done) | (cases hr;rfl)
   ·cases hr
  ·cases hc
 case lenM x =>
  have hr:wDd x σA h1=some (v,h'):=hr
  show wDd x σA h=some (v,h)
  have hc:wHS P x op=true:=hc
  unfold wHS at hc
  split at hc
  ·split at hc
   ·simp only [nA] at hc
    obtain ⟨_,hc⟩:=hc
    split at hc
    ·simp only [nA] at hc
     have g:=wAF hc.2 hE
     unfold wDd at hr ⊢
     split at hr
     ·rename_i hb
      cases hr
      simp_all
     ·rename_i b hb
      rw [hb] at g
      obtain ⟨c,g1,_⟩:=g
      simp only [hb,hm b c g1]
      repeat' (split at hr)
      all_goals first | (cases hr;done) | (cases hr;rfl)
     ·cases hr
    ·cases hc
   ·cases hc
  ·cases hc
theorem wGo (HE:FrX ex) (HY:FrX exY):∀ (r:List AO) (σ1:Tr AV) (h1:AH) (σ2:Tr AV) (h2:AH),wAS tb ex exY r σ1 h1=some (σ2,h2)->(∀ b ∈ r,wFe P N l b=true) ->
  (∀ b ∈ r,b.kd=2 \/ (b.kd=1 \/ b.kd=3 \/ (b.kd=6/\kdA b.op=3) \/ (b.kd=4/\wJp b.op=true) \/ (8 <= b.kd/\kdA b.op=1)))->h1.nx.nat <= h2.nx.nat/\∀ p:Pos,p.nat < h1.nx.nat->h2.m.get p=h1.m.get p
 | [],σ1,h1,σ2,h2,hr,_,_=>by
  rw [wAe] at hr
  cases hr
  exact ⟨nQ _,fun _ _=>rfl⟩
 | b :: r,σ1,h1,σ2,h2,hr,hc,hk=>by
  rw [wAf] at hr
  cases hw:wBp σ1 b.grd with
  | false =>
   rw [hw] at hr
   exact wGo HE HY r _ _ _ _ hr (fun c hcc=>hc c (by simp [hcc])) (fun c hcc=>hk c (by simp [hcc]))
  | true =>
   rw [hw] at hr
   simp only at hr
   cases hq:opK b.kd b.op tb ex exY σ1 h1 with
   | none=>rw [hq] at hr;cases hr
   | some q =>
    rw [hq] at hr
    obtain ⟨v,h3⟩:=q
    obtain ⟨g1,g2⟩:=wGo HE HY r _ _ _ _ hr (fun c hcc=>hc c (by simp [hcc])) (fun c hcc=>hk c (by simp [hcc]))
    obtain ⟨o,A⟩:=wCA (hc b (by simp))
    have one:h1.nx.nat <= h3.nx.nat/\∀ p:Pos,p.nat < h1.nx.nat->h3.m.get p=h1.m.get p:=by
     have same:h3=h1->h1.nx.nat <= h3.nx.nat/\∀ p:Pos,p.nat < h1.nx.nat->h3.m.get p=h1.m.get p:=fun e=>by subst e;exact ⟨nQ _,fun _ _=>rfl⟩
     rcases hk b (by simp) with k | k | k | ⟨k,k'⟩ | ⟨k,k'⟩ | ⟨k,k'⟩
     ·exact ⟨(wNH HE HY _ _ hq).nx,wPX HE HY b.op (by rw [k] at hq;exact hq)⟩
     ·rw [k] at hq
      exact same (wGO (C:=CC P) (A.k1 k) A.op _ _ _ _ hq).1
     ·rw [k] at hq
      exact same (wGN (A.k3 k) A.op _ _ _ _ hq).1
     ·rw [k] at hq
      exact same (wGN k' A.op _ _ _ _ hq).1
     ·rw [k] at hq
      obtain ⟨B,vf,e1,_⟩:=wJA (C:=CC P) k' A.op _ _ _ _ hq
      subst e1
      refine ⟨(Fr.push h1 B).nx,fun p hp=>?_⟩
      show (h1.m.set h1.nx B).get p=_
      rw [Tr.get_set,if_neg (fun e=>by subst e;omega)]
     ·exact same (wGO (C:=CC P) (.inl k') A.op _ _ _ _ (wLT (by omega) hq)).1
    exact ⟨nh one.1 g1,fun p hp=>(g2 p (Nat.lt_of_lt_of_le hp one.1)).trans (one.2 p hp)⟩
theorem JS.full {μ0:Mu} {w0:World} {S:Nat->Bool} (J:JS tb ex exY P l os σ0 h0 σf hf μ0 w0 S σ w s t σA h σ' μ μS):wAS tb ex exY os σ0 h0=some (σf,hf):=by
 rw [J.e,wCd s t _ _ _ _ J.hs]
 exact J.hr
theorem JS.frm (Z:ZOK P N l os) {μ0:Mu} {w0:World} {S:Nat->Bool} (J:JS tb ex exY P l os σ0 h0 σf hf μ0 w0 S σ w s t σA h σ' μ μS) (ha:a ∈ os) (hl:a.ix < l.length) (hp:∀ j ∈ prI l a.ix,S j=true)
  (hdc:∀ k,k < l.length->S k=true->∀ j ∈ prI l k,S j=true) (A:AOK P N l a o) {s1 t1:List AO} {σ1:Tr AV} (e1:os=s1 ++ a :: t1) (hr1:wAS tb ex exY s1 σ0 h0=some (σ1,h1)) :
  wanted l σ o=wBp σ1 a.grd/\∀ p ∈ wBf a,evA σf (.t p)=evA σ1 (.t p):=by
 have hf:=J.full
 have hrd:∀ p ∈ wBf a,evA σf (.t p)=evA σ1 (.t p):=fun p hp=>by
  rw [e1,wCd s1 _ _ _ _ _ hr1] at hf
  exact wPZ Z e1 hf hp
 refine ⟨?_,hrd⟩
 have hE:EnvR μS (rst σf (wBf a)) (rsl σ (wBf a)):=wFj fun p hpr=>(J.opnd Z ha hl hp hdc hpr).1
 have hw:=wGj A hE
 have hag:Agr l o (rsl σ (wBf a)) σ:=fun d hd=>by
  obtain ⟨p,h1,h2⟩:=wDV A (Z.sub a ha _ A.get) d hd
  unfold rsl
  rw [if_pos ⟨p,h1,h2⟩]
 rw [<- wBd hag,hw]
 cases hg:a.grd with
 | none=>rfl
 | some q =>
  obtain ⟨p,b⟩:=q
  show isB b (evA _ (.t p))=isB b (evA _ (.t p))
  have hpr:p ∈ wBf a:=nS _ (by rw [hg];simp)
  rw [wFi,if_pos hpr,hrd p hpr]
theorem wPb (HE:FrX ex) (HY:FrX exY) (Z:ZOK P N l os) {a b:AO} {s1 t1 s2 t2:List AO} {σ1 σ2:Tr AV} {h1 h2:AH} (e1:os=s1 ++ a :: t1) (e2:os=s2 ++ b :: t2) (r1:wAS tb ex exY s1 σ0 h0=some (σ1,h1)) (r2:wAS tb ex exY s2 σ0 h0=some (σ2,h2))
  (w1:wBp σ1 a.grd=true) (ka:a.kd=4) (la:wJp a.op=true) (hin:a ∈ s2):h1.nx.nat < h2.nx.nat:=by
 obtain ⟨o,A⟩:=wCA (Z.ao a (by rw [e1];simp))
 obtain ⟨r,r',rfl⟩:=nN hin
 have es:s1=r:=(wBw (e1 ▸ Z.one) (e1.symm.trans (e2.trans (by rw [nO,nM])))).1
 subst es
 rw [wCd s1 _ _ _ _ _ r1,wAf,w1] at r2
 simp only at r2
 cases hq:opK a.kd a.op tb ex exY σ1 h1 with
 | none=>rw [hq] at r2;cases r2
 | some q =>
  rw [hq] at r2
  obtain ⟨v,h3⟩:=q
  rw [ka] at hq
  obtain ⟨B,vf,q1,_⟩:=wJA (C:=CC P) la A.op _ _ _ _ hq
  subst q1
  have:=(wGS HE HY _ _ _ _ _ r2).nx
  have h3:(h1.push B).nx.nat=h1.nx.nat + 1:=Pos.nat_succ _
  simp only at this
  omega
theorem nm_ne (HE:FrX ex) (HY:FrX exY) (Z:ZOK P N l os) {a b:AO} {s1 t1 s2 t2:List AO} {σ1 σ2:Tr AV} {h1 h2:AH} (e1:os=s1 ++ a :: t1) (e2:os=s2 ++ b :: t2) (r1:wAS tb ex exY s1 σ0 h0=some (σ1,h1)) (r2:wAS tb ex exY s2 σ0 h0=some (σ2,h2))
  (w1:wBp σ1 a.grd=true) (w2:wBp σ2 b.grd=true) (ka:a.kd=4) (la:wJp a.op=true) (kb:b.kd=4) (lb:wJp b.op=true) (hne:a ≠ b):h1.nx ≠ h2.nx:=by
 have ha:a ∈ s2 ++ b :: t2:=by rw [<- e2,e1];simp
 rcases nB.1 ha with h | h
 ·intro e
  have:=wPb HE HY Z e1 e2 r1 r2 w1 ka la h
  rw [e] at this
  exact absurd this (nr _)
 ·rcases nL.1 h with h | h
  ·exact absurd h hne
  ·obtain ⟨r,r',rfl⟩:=nN h
   have es:s1=s2 ++ b :: r:=(wBw (e1 ▸ Z.one) (e1.symm.trans (e2.trans (by rw [nO,nM])))).1
   intro e
   have:=wPb HE HY Z e2 e1 r2 r1 w2 kb lb (by rw [es];simp)
   rw [e] at this
   exact absurd this (nr _)
end
end Go.KX
namespace Go.KX
open Go.RowKit Go.KL
section
variable {tb:Tr AF} {ex exY:Run} {P:Program} {N:Nat} {l:List Oper} {os s t:List AO} {a:AO} {σ0 σA σf:Tr AV} {h0 h h1 h' hf:AH} {μ μS:Mu} {σ σ':Env} {w:World} {o:Oper} {v:AV}
theorem wLV (Z:ZOK P N l os) {a b:AO} (ha:a ∈ os) (hb:b ∈ os) (e:b.ix=a.ix):b=a:=by
 obtain ⟨s,t,hs⟩:=nN ha
 have one:=Z.one
 rw [hs] at hb one
 rcases nB.1 hb with h | h
 ·exact absurd e ((na.1 one).2.2 b h a (by simp))
 ·rcases nL.1 h with h | h
  ·exact h
  ·exact absurd e.symm ((nR.1 (na.1 one).2.1).1 b h)
theorem wEy (A:AOK P N l a o) {q:Pos} (hn:a.dst ≠ some q) (cv:Value):put' σ o cv (q.nat - 1)=σ (q.nat - 1):=by
 refine wFA fun d hd e=>?_
 rcases A.dst with ⟨_,h2⟩ | ⟨p,d',h1,h2,h3,_⟩
 ·rw [h2] at hd;cases hd
 ·rw [h2] at hd
  have hd:=nD hd
  have:p=q:=Pos.nat_inj (by have:=q.nat_pos;have:=p.nat_pos;have:p.nat - 1=q.nat - 1:=h3.symm.trans (hd.trans e);omega)
  subst this
  exact hn h1
theorem JS.add (Z:ZOK P N l os) {μ0:Mu} {w0:World} {S:Nat->Bool} (J:JS tb ex exY P l os σ0 h0 σf hf μ0 w0 S σ w s t σA h σ' μ μS) (ha:a ∈ t) (hS:S a.ix=false) (hfree:wBa a.kd=false)
  (hdc:∀ k,k < l.length->S k=true->∀ j ∈ prI l k,S j=true) (A:AOK P N l a o) {cv:Value} {w':World} {μT:Mu} (K:Keep w w' Non) (hle:μS.Le μT)
  (hnew:∀ q c,μT q=some c->μS q=some c \/ (c.1=w.heap.size/\wanted l σ o=true/\a.kd=4/\∃ s1 t1 σ1 h1,os=s1 ++ a :: t1/\wAS tb ex exY s1 σ0 h0=some (σ1,h1)/\q=h1.nx))
  (hpa:∃ p,Pend tb ex exY P l os σ0 h0 σf w0 μ μT (put' σ o cv) w' a o p) :
  JS tb ex exY P l os σ0 h0 σf hf μ0 w0 (fun k=>k == a.ix || S k) (put' σ o cv) w' s t σA h σ' μ μT:=by
 have hao:a ∈ os:=by rw [J.e];simp [ha]
 have hbo:∀ b ∈ t,b ∈ os:=fun b hb=>by rw [J.e];simp [hb]
 obtain ⟨sa,ta,ea⟩:=nN hao
 have hself:Agr l o σ (put' σ o cv):=by
  intro d hd
  obtain ⟨p,hp,rfl⟩:=wDV A (Z.sub a hao _ A.get) d hd
  exact (wEy A (Z.rd sa a ta ea p hp a (by simp)) cv).symm
 refine ⟨J.e,J.hs,J.hr,fun b hb=>by simp [J.inS b hb],fun b hb hh=>?_,⟨J.E.mono,J.E.new,J.E.keep.step K fun _ _ hn=>hn.elim⟩,J.sim.keep K,J.fl,J.env,fun q hq=>?_,J.le.trans hle,fun q c hq=>?_,fun b hb hh=>?_⟩
 ·by_cases e:b.ix=a.ix
  ·rw [wLV Z hao (hbo b hb) e];exact hfree
  ·exact J.free b hb (by simpa [e] using hh)
 ·rw [wEy A (hq a ha (by simp))]
  exact J.ag q fun b hb hs=>hq b hb (by simp [hs])
 ·rcases hnew q c hq with h1 | ⟨_,h2,h3,s1,t1,σ1,h1,e1,e2,e3⟩
  ·rcases J.nm q c h1 with g | ⟨b,ob,s1,t1,σ1,h1,k1,k2,k3,k4,k5,k6,k7,k8⟩
   ·exact .inl g
   ·exact .inr ⟨b,ob,s1,t1,σ1,h1,k1,by simp [k2],k3,(wBd (wEx Z hdc hao hS (hbo b k1) k2 A k3 cv)).symm.trans k4,k5,k6,k7,k8⟩
  ·exact .inr ⟨a,o,s1,t1,σ1,h1,ha,by simp,A.get,(wBd hself).symm.trans h2,h3,e1,e2,e3⟩
 ·by_cases e:b.ix=a.ix
  ·have:=wLV Z hao (hbo b hb) e
   subst this
   exact ⟨o,hpa⟩
  ·have hbS:S b.ix=true:=by simpa [e] using hh
   obtain ⟨ob,p,Pd⟩:=J.pd b hb hbS
   have hA:=wEx (σ:=σ) Z hdc hao hS (hbo b hb) hbS A Pd.get cv
   have hp:put' σ o cv (p.nat - 1)=σ (p.nat - 1):=by
    refine wEy A (fun hd=>?_) cv
    have hb':=hbo b hb
    rw [ea] at hb'
    have hb'':b ∈ sa ++ ta:=by
     rcases nB.1 hb' with h | h
     ·exact nT _ h
     ·rcases nL.1 h with h | h
      ·exact absurd (by rw [h]) e
      ·exact nS _ h
    exact Z.wr sa a ta ea p hd b hb'' Pd.dst
   have hsb:=Z.sel b (hbo b hb) _ Pd.get
   refine ⟨ob,p,Pd.get,Pd.dst,?_⟩
   rw [hp,<- wBd hA]
   rcases Pd.fact with f | ⟨f,⟨f1,f2⟩ | ⟨f1,f2,w1,w2,f3⟩ | ⟨f1,f2,w1,o1,s1,t1,σ1,h1,f3,f4,f5,f6,f7,f8,f9⟩⟩
   ·exact .inl f
   ·exact .inr ⟨f,.inl ⟨f1,f2⟩⟩
   ·exact .inr ⟨f,.inr (.inl ⟨f1,f2.mono hle,w1,w2,(Runs.agr hsb hA).1 f3⟩)⟩
   ·refine .inr ⟨f,.inr (.inr ⟨f1,f2.mono hle,w1,o1,s1,t1,σ1,h1,(Runs.agr hsb hA).1 f3,(K.block _ (wAN f4) id).trans f4,f5,f6,f7,hle _ _ f8,fun q c hq hc=>?_⟩)⟩
    rcases hnew q c hq with h1 | ⟨h1,_⟩
    ·exact f9 q c h1 hc
    ·have:=wAN f4
     omega
theorem wGT:∀ (r:List AO),(∀ b ∈ r,b.kd ≠ 0) \/ ∃ x b y,r=x ++ b :: y/\b.kd=0/\∀ c ∈ x,c.kd ≠ 0
 | []=>.inl fun b hb=>by simp at hb
 | a :: r=>by
  by_cases h0:a.kd=0
  ·exact .inr ⟨[],a,r,rfl,h0,fun c hc=>by simp at hc⟩
  ·rcases wGT r with h | ⟨x,b,y,h1,h2,h3⟩
   ·refine .inl fun b hb=>?_
    rcases nL.1 hb with rfl | hb
    ·exact h0
    ·exact h b hb
   ·refine .inr ⟨a :: x,b,y,by rw [h1];rfl,h2,fun c hc=>?_⟩
    rcases nL.1 hc with rfl | hc
    ·exact h0
    ·exact h3 c hc
theorem JS.freeOp {σg:Tr AV} (HE:FrX ex) (HY:FrX exY) (Z:ZOK P N l os) (HL:LCK tb ex exY os σ0 h0 σg) (Hg:∀ a ∈ os,8 <= a.kd->∀ p,p ∈ wBf a \/ a.dst=some p->evA σf (.t p)=evA σg (.t p)) {μ0:Mu} {w0:World} {S:Nat->Bool} (J:JS tb ex exY P l os σ0 h0 σf hf μ0 w0 S σ w s t σA h σ' μ μS) (ha:a ∈ t) (hS:S a.ix=false) (hfree:wBa a.kd=false)
  (hp:∀ j ∈ prI l a.ix,S j=true) (hdc:∀ k,k < l.length->S k=true->∀ j ∈ prI l k,S j=true) (A:AOK P N l a o) :
  Step1 P l o σ w fun cv w'=>∃ μT,JS tb ex exY P l os σ0 h0 σf hf μ0 w0 (fun k=>k == a.ix || S k) (put' σ o cv) w' s t σA h σ' μ μT:=by
 have hao:a ∈ os:=by rw [J.e];simp [ha]
 have hl:a.ix < l.length:=(nP.1 A.get).1
 obtain ⟨r,r',et⟩:=nN ha
 have e1:os=(s ++ r) ++ a :: r':=by rw [J.e,et,nO]
 have hsel:=Z.sel a hao _ A.get
 have hsub:=Z.sub a hao _ A.get
 have hfull:=J.full
 rw [e1] at hfull
 obtain ⟨σ1,h1,r1,r2⟩:=wJB hfull
 obtain ⟨hw,hrd⟩:=J.frm Z hao hl hp hdc A e1 r1
 have hrr:wAS tb ex exY r σA h=some (σ1,h1):=by rw [<- wCd s r _ _ _ _ J.hs];exact r1
 have hself:∀ cv,Agr l o σ (put' σ o cv):=by
  intro cv d hd
  obtain ⟨p,hp,rfl⟩:=wDV A hsub d hd
  exact (wEy A (Z.rd _ a _ e1 p hp a (by simp)) cv).symm
 obtain ⟨hdn,hkd⟩:a.dst ≠ none/\(a.kd=1 \/ a.kd=3 \/ (a.kd=6/\kdA a.op=3) \/ (a.kd=4/\wJp a.op=true) \/ (8 <= a.kd/\kdA a.op=1)):=by
  rcases Z.kd a hao with h | h
  ·rw [hfree] at h;cases h
  ·exact h
 obtain ⟨p,d,d1,d2,d3,_⟩:∃ p d,a.dst=some p/\o.dst=some d/\d=p.nat - 1/\d < N:=by
  rcases A.dst with ⟨h1,_⟩ | h
  ·exact absurd h1 hdn
  ·exact h
 have eput:∀ cv,put' σ o cv (p.nat - 1)=cv:=fun cv=>by unfold put';rw [d2,d3];exact wBx _ _ _
 have hslot:∀ q ∈ wBo (wBJ a.op),q ∈ wBf a:=fun q hq=>nT _ hq
 rcases r2 with ⟨g1,v,h2,g2,g3⟩ | ⟨g1,g3⟩
 ·have hv:evA σf (.t p)=v:=wIN Z e1 g3 d1
  have hw':wanted l σ o=true:=hw.trans g1
  have hwn:∀ cv,wanted l (put' σ o cv) o=true:=fun cv=>(wBd (hself cv)).symm.trans hw'
  have hvS:∀ q ∈ wBo (wBJ a.op),Rv μS (evA σ1 (.t q)) (σ (q.nat - 1)):=fun q hq=>by
   rw [<- hrd q (hslot q hq)]
   exact (J.opnd Z hao hl hp hdc (hslot q hq)).1
  have clean:(a.kd=1 \/ a.kd=3 \/ 8 <= a.kd)->(∃ cv,Rv μ v cv/\Runs P σ w o cv w)->Step1 P l o σ w fun cv w'=>∃ μT,JS tb ex exY P l os σ0 h0 σf hf μ0 w0 (fun k=>k == a.ix || S k) (put' σ o cv) w' s t σA h σ' μ μT:=by
   rintro hk ⟨cv,c1,c2⟩
   refine .inl ⟨hw',.inr (.inl ⟨cv,w,c2,μS,J.add Z ha hS hfree hdc A (Keep.refl w _) (Mu.Le.refl _) (fun q c hq=>.inl hq) ⟨p,A.get,d1,.inr ⟨hwn cv,.inl ⟨hk,?_⟩⟩⟩⟩)⟩
   rw [hv,eput]
   exact c1
  have hvC:(a.kd=1 \/ a.kd=3 \/ 8 <= a.kd)->∀ q ∈ wBo (wBJ a.op),Rv μ (evA σ1 (.t q)) (σ (q.nat - 1)):=fun hk q hq=>by
   rw [<- hrd q (hslot q hq)]
   exact (J.opnd Z hao hl hp hdc (hslot q hq)).2 hk
  have loadC:(a.kd=1 \/ a.kd=3 \/ 8 <= a.kd)->kdA a.op=1->∀ (x:List AO),(∀ b ∈ x,b ∈ t)->∀ {σ2:Tr AV} {h3 h4:AH} {σ3:Tr AV},wAS tb ex exY x σA h=some (σ2,h3)->opY a.op tb ex exY σ3 h3=some (v,h4)->(∀ b ∈ x,b.kd=0->False)->(∀ q ∈ wBf a,evA σf (.t q)=evA σ3 (.t q))->∃ cv,Rv μ v cv/\Runs P σ w o cv w:=by
   intro hk k x hx σ2 h3 h4 σ3 hrx gY hx0 hrd3
   have hv3:∀ q ∈ wBo (wBJ a.op),Rv μ (evA σ3 (.t q)) (σ (q.nat - 1)):=fun q hq=>by
    rw [<- hrd3 q (hslot q hq)]
    exact (J.opnd Z hao hl hp hdc (hslot q hq)).2 hk
   have hrs:=wIz gY
   have henv:=wFj hv3
   obtain ⟨_,hold⟩:=wGo HE HY x _ _ _ _ hrx (fun b hb=>Z.ao b (by rw [J.e];simp [hx b hb])) (fun b hb=>by
    rcases Z.kd b (by rw [J.e];simp [hx b hb]) with h | h
    ·unfold wBa at h
     simp only [Bool.or_eq_true] at h
     rcases h with h | h
     ·exact absurd (nG h) (hx0 b hb)
     ·exact .inl (nG h)
    ·exact .inr h.2)
   have hm:∀ b c,μ b=some c->h.m.get b=h3.m.get b:=fun b c hb=>by
    refine (hold b ?_).symm
    rcases Nat.lt_or_ge b.nat h.nx.nat with hlt | hge
    ·exact hlt
    ·rw [J.sim.nx b hge] at hb;cases hb
   have hld:=wML k A.op henv hm hrs
   obtain ⟨cv,c1,c2⟩:=wLS (C:=CC P) hsel hsub (.inl k) A.op hld J.sim (fun q hq=>by rw [wFi,if_pos hq];exact hv3 q hq)
   exact ⟨cv,c1,c2⟩
  rcases hkd with hk | hk | ⟨hk,hk2⟩ | ⟨hk,hk2⟩ | ⟨hk,hk2⟩
  ·have gY:opY a.op tb ex exY σ1 h1=some (v,h2):=by rw [hk] at g2;exact g2
   refine clean (.inl hk) ?_
   rcases A.k1 hk with k | k
   ·exact loadC (.inl hk) k r (fun b hb=>by rw [et];simp [hb]) hrr gY (fun b hb h0=>by
     have:=wCs hdc hp (Z.ld _ a _ e1 hk b (by simp [hb]) h0)
     have:=J.free b (by rw [et];simp [hb]) this
     rw [h0] at this
     cases this) hrd
   ·obtain ⟨cv,c1,c2⟩:=wFk hsel hsub k A.op gY (hvC (.inl hk))
    exact ⟨cv,c1,c2 w⟩
  ·have gY:opY a.op tb ex exY σ1 h1=some (v,h2):=by rw [hk] at g2;exact g2
   obtain ⟨cv,c1,c2⟩:=wFk hsel hsub (A.k3 hk) A.op gY (hvC (.inr (.inl hk)))
   exact clean (.inr (.inl hk)) ⟨cv,c1,c2 w⟩
  ·have gY:opY a.op tb ex exY σ1 h1=some (v,h2):=by rw [hk] at g2;exact g2
   obtain ⟨cv,c1,c2⟩:=wFk hsel hsub hk2 A.op gY hvS
   refine .inl ⟨hw',.inr (.inl ⟨cv,w,c2 w,μS,J.add Z ha hS hfree hdc A (Keep.refl w _) (Mu.Le.refl _) (fun q c hq=>.inl hq) ⟨p,A.get,d1,.inr ⟨hwn cv,.inr (.inl ⟨hk,?_,w,w,?_⟩)⟩⟩⟩)⟩
   ·rw [hv,eput]
    exact c1
   ·rw [eput]
    exact (Runs.agr hsel (hself cv)).1 (c2 w)
  ·have gY:opY a.op tb ex exY σ1 h1=some (v,h2):=by rw [hk] at g2;exact g2
   obtain ⟨B,vf,ob,val,_,ev',_,c1,c2,c3⟩:=wJg (C:=CC P) hsel hsub hk2 A.op gY hvS
   have hno:μS h1.nx=none:=by
    cases hq:μS h1.nx with
    | none=>rfl
    | some c =>
     rcases J.nm _ c hq with g | ⟨b,ob',s2,t2,σ2,h3,k1,k2,k3,k4,k5,k6,k7,k8⟩
     ·have:=wOJ HE HY Z J.e J.hs ha e1 r1
      rw [J.sim.nx _ this] at g
      cases g
     ·have hbo:b ∈ os:=by rw [J.e];simp [k1]
      have hne:a ≠ b:=fun e=>by subst e;rw [hS] at k2;cases k2
      obtain ⟨ob2,B2⟩:=wCA (Z.ao b hbo)
      have hb2:wJp b.op=true:=by
       rcases Z.kd b hbo with hh | ⟨_,hh | hh | hh | hh | hh⟩
       ·rw [k5] at hh;exact absurd hh (by decide)
       ·omega
       ·omega
       ·omega
       ·exact hh.2
       ·omega
      have hwb:wBp σ2 b.grd=true:=by
       have hlb:b.ix < l.length:=(nP.1 k3).1
       have eo:ob2=ob':=by have:=B2.get;rw [k3] at this;exact (nD this).symm
       subst eo
       have:=(J.frm Z hbo hlb (hdc _ hlb k2) hdc B2 k6 k7).1
       rw [<- this]
       exact k4
      exact absurd k8 (nm_ne HE HY Z e1 k6 r1 k7 g1 hwb hk hk2 k5 hb2 hne)
   have hadd:=Mu.add_le (c:=(⟨w.heap.size,0,g0⟩:Cl)) hno
   have hsz:∀ q c,μS q=some c->c.1 < w.heap.size:=fun q c hq=>by
    rcases J.nm q c hq with g | ⟨b,ob',s2,t2,σ2,h3,k1,k2,k3,k4,k5,k6,k7,k8⟩
    ·exact J.sim.lt q c g
    ·obtain ⟨ob2,p2,Pd⟩:=J.pd b k1 k2
     have eo:ob2=ob':=by have:=Pd.get;rw [k3] at this;exact (nD this).symm
     subst eo
     rcases Pd.fact with ⟨f,_⟩ | ⟨_,⟨f,_⟩ | ⟨f,_⟩ | ⟨_,_,w1,o1,s3,t3,σ3,h4,_,f4,_,f6,f7,f8,_⟩⟩
     ·rw [k4] at f;cases f
     ·omega
     ·omega
     ·have es:s3=s2:=(wBw (f6 ▸ Z.one) (f6.symm.trans k6)).1
      subst es
      rw [k7] at f7
      cases f7
      subst k8
      rw [hq] at f8
      cases f8
      exact wAN f4
   refine .inl ⟨hw',.inr (.inl ⟨val w.heap.size,w.alloc ob,c1 w,μS.add h1.nx ⟨w.heap.size,0,g0⟩,J.add Z ha hS hfree hdc A (wAy w ob) hadd (fun q c hq=>?_) ⟨p,A.get,d1,.inr ⟨hwn _,.inr (.inr ⟨hk,?_,w,ob,s ++ r,r',σ1,h1,?_,heap_alloc_new w ob,J.E.keep.size,e1,r1,Mu.add_same _ _ _,fun q c hq hc=>?_⟩)⟩⟩⟩)⟩
   ·unfold Mu.add at hq
    split at hq
    ·rename_i eq
     cases hq
     exact .inr ⟨rfl,hw',hk,s ++ r,r',σ1,h1,e1,r1,eq⟩
    ·exact .inl hq
   ·rw [hv,eput,ev']
    exact c3 _ _ _ (Mu.add_same _ _ _)
   ·rw [eput]
    exact (Runs.agr hsel (hself _)).1 (c1 w)
   ·unfold Mu.add at hq
    split at hq
    ·rename_i eq
     exact eq
    ·have:=hsz q c hq
     omega
  ·have gY:opY a.op tb ex exY σ1 h1=some (v,h2):=wLT (by omega) g2
   refine clean (.inr (.inr hk)) ?_
   rcases wGT r with hz | ⟨x,b,y,er,hb0,hx0⟩
   ·exact loadC (.inr (.inr hk)) hk2 r (fun b hb=>by rw [et];simp [hb]) hrr gY (fun b hb h0=>hz b hb h0) hrd
   ·have e2:os=(s ++ x) ++ b :: (y ++ a :: r'):=by rw [J.e,et,er];simp
    have hfull2:=J.full
    rw [e2] at hfull2
    obtain ⟨σ2,h3,r3,_⟩:=wJB hfull2
    have hbt:b ∈ t:=by rw [et,er];simp
    have hanc:wLt y + 8 < a.kd:=by
     rcases Z.ld8 _ a _ e1 hk (s ++ x) b y (by rw [er];simp) hb0 with g | g
     ·have:=J.free b hbt (wCs hdc hp g)
      rw [hb0] at this
      cases this
     ·exact g
    have hlk:=HL _ b _ e2 hb0 _ _ r3
    have hsame:=wII y a r' 0 hlk hfree (by omega)
    have hgf:wBp σg a.grd=true:=by
     rw [<- g1]
     cases hg:a.grd with
     | none=>rfl
     | some q =>
      obtain ⟨q,c⟩:=q
      show isB c (evA _ (.t q))=isB c (evA _ (.t q))
      have hqr:q ∈ wBf a:=nS _ (by rw [hg];simp)
      rw [<- Hg a hao hk q (.inl hqr),hrd q hqr]
    unfold wGK at hsame
    rw [d1] at hsame
    simp only [hgf] at hsame
    split at hsame
    ·rename_i v' h5 hq
     have hvv:=wIM hsame
     rw [<- Hg a hao hk p (.inr d1),hv] at hvv
     subst hvv
     have hrx:wAS tb ex exY x σA h=some (σ2,h3):=by rw [<- wCd s x _ _ _ _ J.hs];exact r3
     exact loadC (.inr (.inr hk)) hk2 x (fun b hb=>by rw [et,er];simp [hb]) hrx hq (fun b hb h0=>hx0 b hb h0) (fun q hq=>Hg a hao hk q (.inl hq))
    ·cases hsame
 ·refine .inr ⟨hw.trans g1,μS,J.add Z ha hS hfree hdc A (Keep.refl w _) (Mu.Le.refl _) (fun q c hq=>.inl hq) ⟨p,A.get,d1,.inl ⟨(wBd (hself _)).symm.trans (hw.trans g1),eput _,?_⟩⟩⟩
  exact wIN Z e1 (v:=u) g3 d1
theorem JS.catch (Z:ZOK P N l os) {μ0:Mu} {w0:World} {S:Nat->Bool}:∀ (r:List AO) {s t:List AO} {σA:Tr AV} {h:AH} {σ':Env} {μ:Mu},JS tb ex exY P l os σ0 h0 σf hf μ0 w0 S σ w s (r ++ t) σA h σ' μ μS->(∀ a ∈ r,S a.ix=true) ->
  ∃ σB hB σ'' μB,JS tb ex exY P l os σ0 h0 σf hf μ0 w0 S σ w (s ++ r) t σB hB σ'' μB μS
 | [],s,t,σA,h,σ',μ,J,_=>⟨σA,h,σ',μ,by rw [nf];exact J⟩
 | a :: r,s,t,σA,h,σ',μ,J,hS=>by
  obtain ⟨σB,hB,σ'',μB,J1⟩:=JS.catch1 (t:=r ++ t) Z J (hS a (by simp))
  obtain ⟨σC,hC,σ3,μC,J2⟩:=JS.catch Z r J1 fun b hb=>hS b (by simp [hb])
  exact ⟨σC,hC,σ3,μC,by rw [show s ++ a :: r=s ++ [a] ++ r by simp];exact J2⟩
theorem JS.anew {A B:List AO} {σm:Tr AV} {h2:AH} {μ0:Mu} {w0:World} {S:Nat->Bool} (J:JS tb ex exY P l A σ0 h0 σm h2 μ0 w0 S σ w s [] σA h σ' μ μS) (hr:wAS tb ex exY B σm h2=some (σf,hf)) (hB:∀ b ∈ B,S b.ix=false) :
  Ext μ0 h0.fl.nat w0 μ w/\h2.fl=h0.fl/\JS tb ex exY P l B σm h2 σf hf μ w S σ w [] B σm h2 σ' μ μ:=by
 have hr1:=J.hr
 rw [wAe] at hr1
 cases hr1
 exact ⟨J.E,J.fl,rfl,wAe _ _ _ _ _,hr,fun b hb=>(by simp at hb),fun b hb hS=>(by rw [hB b hb] at hS;cases hS),Ext.refl μ _ w,J.sim,rfl,J.env,fun q _=>J.ag q fun b hb=>(by simp at hb),Mu.Le.refl _,fun q c hq=>.inl hq,fun b hb hS=>(by rw [hB b hb] at hS;cases hS)⟩
theorem CK.lazy {rr:Option Nat} {Q:wCF} {D:List Deferred} {id:Nat} (hm:P.follows .mixedOrders=true) (HC:wEh (CC P) P tb ex) (HY':wDm (CC P) P exY) (HE:FrX ex) (HY:FrX exY) (ZZ:∃ A B,ZAll P N l os A B) (HL0:LCK tb ex exY os σ0 h0 σf)
  (hr:wAS tb ex exY os σ0 h0=some (σf,hf)) (S:Sim (CC P) P μ h0 w) (hE:EnvR μ σ0 σ)
  (hQ:∀ μ' w' σ',Ext μ h0.fl.nat w μ' w'->Sim (CC P) P μ' hf w'->EnvR μ' σf σ'->hf.fl=h0.fl->Q D .normal σ' w'):CK rr N P (.region id l.toArray true) Q D σ w:=by
 obtain ⟨A,B,ZZ⟩:=ZZ
 obtain ⟨σm,h2,hrA,hrB⟩:=wCX A B σ0 h0 _ (ZZ.eq ▸ hr)
 have HL:LCK tb ex exY A σ0 h0 σf/\LCK tb ex exY B σm h2 σf:=by
  refine ⟨fun s b t e k0 σ1 h1 hs=>?_,wIw ZZ.low⟩
  have:=HL0 s b (t ++ B) (by rw [ZZ.eq,e];simp) k0 σ1 h1 hs
  exact wGk t B 0 this
 have Hg:∀ a ∈ A,8 <= a.kd->∀ p,p ∈ wBf a \/ a.dst=some p->evA σm (.t p)=evA σf (.t p):=fun a ha h8 p hp=>(wBv B _ _ _ _ hrB p fun b hb=>ZZ.far a ha h8 p hp b hb).symm
 have lt:∀ b ∈ os,b.ix < l.length:=fun b hb=>by
  rw [ZZ.eq] at hb
  rcases nB.1 hb with hb | hb
  ·obtain ⟨o,A⟩:=wCA (ZZ.za.ao b hb)
   exact (nP.1 A.get).1
  ·obtain ⟨o,A⟩:=wCA (ZZ.zb.ao b hb)
   exact (nP.1 A.get).1
 have stepB:∀ (S1:Nat->Bool) (a:AO) (σ1:Env) (w1:World) (μm:Mu) (wm:World) (s t:List AO) (σA:Tr AV) (h:AH) (σ':Env) (μ1 μS:Mu) (o:Oper),a ∈ B->S1 a.ix=false->(∀ j ∈ prI l a.ix,S1 j=true)->(∀ k,k < l.length->S1 k=true->∀ j ∈ prI l k,S1 j=true)->AOK P N l a o ->
   JS tb ex exY P l B σm h2 σf hf μm wm S1 σ1 w1 s t σA h σ' μ1 μS->Step1 P l o σ1 w1 fun v w'=>∃ s t σA h σ' μ1 μS,JS tb ex exY P l B σm h2 σf hf μm wm (fun k=>k == a.ix || S1 k) (put' σ1 o v) w' s t σA h σ' μ1 μS:=by
  intro S1 a σ1 w1 μm wm s t σA h σ' μ1 μS o ha hSi hpi hdc A J
  have hat:a ∈ t:=by
   have:=ha
   rw [J.e] at this
   rcases nB.1 this with h | h
   ·rw [J.inS a h] at hSi;cases hSi
   ·exact h
  cases hf:wBa a.kd with
  | true =>
   obtain ⟨r,r',et⟩:=nN hat
   rw [et] at J
   obtain ⟨σB,hB,σ'',μB,J1⟩:=JS.catch ZZ.zb r J fun b hb=>wCs hdc hpi (ZZ.zb.anc (s ++ r) a r' (by rw [J.e,nO]) hf b (by simp [hb]))
   refine (J1.fixed HC HY' HE HY ZZ.zb hf hSi hdc A).mono ?_
   rintro v w' ⟨σC,hC,σ3,μC,μT,J2⟩
   exact ⟨_,_,_,_,_,_,_,J2⟩
  | false =>
   refine (J.freeOp HE HY ZZ.zb HL.2 (fun _ _ _ _ _=>rfl) hat hSi hf hpi hdc A).mono ?_
   rintro v w' ⟨μT,J2⟩
   exact ⟨_,_,_,_,_,_,_,J2⟩
 have toB:∀ (S1:Nat->Bool) (σ1:Env) (w1:World) (s t:List AO) (σA:Tr AV) (h:AH) (σ':Env) (μ1 μS:Mu),(∀ a ∈ A,S1 a.ix=true)->(∀ b ∈ B,S1 b.ix=false)->JS tb ex exY P l A σ0 h0 σm h2 μ w S1 σ1 w1 s t σA h σ' μ1 μS ->
   ∃ μm σ',Ext μ h0.fl.nat w μm w1/\h2.fl=h0.fl/\JS tb ex exY P l B σm h2 σf hf μm w1 S1 σ1 w1 [] B σm h2 σ' μm μm:=by
  intro S1 σ1 w1 s t σA h σ' μ1 μS hA hB J
  have J0:JS tb ex exY P l A σ0 h0 σm h2 μ w S1 σ1 w1 s (t ++ []) σA h σ' μ1 μS:=by rw [nf];exact J
  obtain ⟨σB,hB',σ'',μB,J1⟩:=JS.catch ZZ.za t J0 fun b hb=>hA b (by rw [J.e];simp [hb])
  obtain ⟨g1,g2,g3⟩:=J1.anew hrB hB
  exact ⟨μB,σ'',g1,g2,g3⟩
 refine CK.anyRel hm ZZ.za.pr (fun S σ w1=>((∀ b ∈ B,S b.ix=false)/\∃ s t σA h σ' μ1 μS,JS tb ex exY P l A σ0 h0 σm h2 μ w S σ w1 s t σA h σ' μ1 μS) \/
  ((∀ a ∈ A,S a.ix=true)/\∃ μm wm,Ext μ h0.fl.nat w μm wm/\h2.fl=h0.fl/\∃ s t σA h σ' μ1 μS,JS tb ex exY P l B σm h2 σf hf μm wm S σ w1 s t σA h σ' μ1 μS)) ?_ ?_ ?_
 ·exact .inl ⟨fun b _=>rfl,[],A,σ0,h0,σ,μ,μ,rfl,wAe _ _ _ _ _,hrA,fun b hb=>(by simp at hb),fun b _ hb=>(by cases hb),Ext.drew μ _ w,S.keep (Keep.drew w),rfl,hE,fun _ _=>rfl,Mu.Le.refl _,fun q c hq=>.inl hq,fun b _ hb=>(by cases hb)⟩
 ·rintro S1 i σ1 w1 hi hSi hpi hdc hlt hI
  obtain ⟨a,ha,rfl⟩:=ZZ.all i hi
  rw [ZZ.eq] at ha
  rcases nB.1 ha with ha | ha
  ·obtain ⟨o,AK⟩:=wCA (ZZ.za.ao a ha)
   refine ⟨o,AK.get,wGP AK,?_⟩
   rcases hI with ⟨hB,s,t,σA,h,σ',μ1,μS,J⟩ | ⟨hA,_⟩
   ·have hB':∀ b ∈ B,(fun k=>k == a.ix || S1 k) b.ix=false:=fun b hb=>by
     have:=(ZZ.cross b hb a ha).1
     simp [hB b hb,Ne.symm this]
    have hat:a ∈ t:=by
     have:=ha
     rw [J.e] at this
     rcases nB.1 this with h | h
     ·rw [J.inS a h] at hSi;cases hSi
     ·exact h
    cases hf:wBa a.kd with
    | true =>
     obtain ⟨r,r',et⟩:=nN hat
     rw [et] at J
     obtain ⟨σB,hB2,σ'',μB,J1⟩:=JS.catch ZZ.za r J fun b hb=>wCs hdc hpi (ZZ.za.anc (s ++ r) a r' (by rw [J.e,nO]) hf b (by simp [hb]))
     refine (J1.fixed HC HY' HE HY ZZ.za hf hSi hdc AK).mono ?_
     rintro v w' ⟨σC,hC,σ3,μC,μT,J2⟩
     exact .inl ⟨hB',_,_,_,_,_,_,_,J2⟩
    | false =>
     refine (J.freeOp HE HY ZZ.za HL.1 Hg hat hSi hf hpi hdc AK).mono ?_
     rintro v w' ⟨μT,J2⟩
     exact .inl ⟨hB',_,_,_,_,_,_,_,J2⟩
   ·rw [hA a ha] at hSi
    cases hSi
  ·obtain ⟨o,AK⟩:=wCA (ZZ.zb.ao a ha)
   refine ⟨o,AK.get,wGP AK,?_⟩
   have hA:∀ c ∈ A,S1 c.ix=true:=fun c hc=>wCs hdc hpi (ZZ.cross a ha c hc).2
   rcases hI with ⟨hB,s,t,σA,h,σ',μ1,μS,J⟩ | ⟨_,μm,wm,g1,g2,s,t,σA,h,σ',μ1,μS,J⟩
   ·obtain ⟨μm,σ2,g1,g2,J1⟩:=toB S1 σ1 w1 s t σA h σ' μ1 μS hA hB J
    refine (stepB S1 a σ1 w1 _ _ _ _ _ _ _ _ _ o ha hSi hpi hdc AK J1).mono ?_
    rintro v w' ⟨s,t,σA,h,σ',μ1,μS,J2⟩
    exact .inr ⟨fun c hc=>by simp [hA c hc],_,_,g1,g2,_,_,_,_,_,_,_,J2⟩
   ·refine (stepB S1 a σ1 w1 _ _ _ _ _ _ _ _ _ o ha hSi hpi hdc AK J).mono ?_
    rintro v w' ⟨s,t,σA,h,σ',μ1,μS,J2⟩
    exact .inr ⟨fun c hc=>by simp [hA c hc],_,_,g1,g2,_,_,_,_,_,_,_,J2⟩
 ·rintro S1 σ1 w1 hall hI
  have hI2:∃ μm wm,Ext μ h0.fl.nat w μm wm/\h2.fl=h0.fl/\∃ s t σA h σ' μ1 μS,JS tb ex exY P l B σm h2 σf hf μm wm S1 σ1 w1 s t σA h σ' μ1 μS:=by
   rcases hI with ⟨hB,s,t,σA,h,σ',μ1,μS,J⟩ | ⟨_,hI⟩
   ·obtain ⟨μm,σ2,g1,g2,J1⟩:=toB S1 σ1 w1 s t σA h σ' μ1 μS (fun a ha=>hall _ (lt a (by rw [ZZ.eq];simp [ha]))) hB J
    exact ⟨_,_,g1,g2,_,_,_,_,_,_,_,J1⟩
   ·exact hI
  obtain ⟨μm,wm,g1,g2,s,t,σA,h,σ',μ1,μS,J⟩:=hI2
  have J0:JS tb ex exY P l B σm h2 σf hf μm wm S1 σ1 w1 s (t ++ []) σA h σ' μ1 μS:=by rw [nf];exact J
  obtain ⟨σB,hB,σ'',μB,J1⟩:=JS.catch ZZ.zb t J0 fun b hb=>hall _ (lt b (by rw [ZZ.eq,J.e];simp [hb]))
  have hr1:=J1.hr
  rw [wAe] at hr1
  cases hr1
  refine hQ μB w1 σ1 (g1.trans (g2 ▸ J1.E)) J1.sim (fun q=>?_) (J1.fl.trans g2)
  rw [J1.ag q fun b hb=>by simp at hb]
  exact J1.env q
end
end Go.KX
namespace Go.KX
open Go.RowKit Go.KL
section
variable {P:Program} {tb:Tr AF}
theorem wLW (hm:P.follows .mixedOrders=true) {ex exY:Run} (HC:wEh (CC P) P tb ex) (HY:wDm (CC P) P exY) (FE:FrX ex) (FY:FrX exY) {os:List AO} {σA σA':Tr AV} {h h':AH} (hr:wAS tb ex exY os σA h=some (σA',h')) {id N:Nat} {ops:Array Oper} {draw:Bool} (hc:chkR P N os ops.toList draw=true)
  {rr:Option Nat} {μ:Mu} {σ:Env} {w:World} {D:List Deferred} {n0:Nat} (S:Sim (CC P) P μ h w) (hE:EnvR μ σA σ) (M:Mk μ w n0 D):CK rr N P (.region id ops draw) (PostX P μ h.fl w n0 rr D .nrm σA' h') D σ w:=by
 unfold chkR at hc
 simp only [nA,nV] at hc
 obtain ⟨c1,c2⟩:=hc
 have hop:ops=ops.toList.toArray:=by simp
 have hcs:∀ a ∈ os,wFe P N ops.toList a=true/\kOf ((nU ops.toList.length).map fun i=>kdAt i os) a.ix=a.kd:=fun a ha=>⟨(c1 a ha).1,nG (c1 a ha).2⟩
 have post:∀ {w0:World},Ext μ h.fl.nat w μ w0->Sim (CC P) P μ h w0->OKS N P ops.toList (PostX P μ h.fl w n0 rr D .nrm σA' h') D ((nU ops.toList.length).map fun i=>kdAt i os) (wHT os) σ w0:=by
  intro w0 E0 S0
  refine wHU HC HY os σA h σA' h' hr hcs μ σ w0 S0 hE fun μ' w' σ' q1 q2 q3 q4=>?_
  have E:=E0.trans q1
  exact ⟨rfl,μ',E,q2,q3,M.ext E,q4,fun _=>rfl⟩
 rw [hop]
 cases draw with
 | true =>
  simp only at c2
  split at c2
  ·simp only [nA,nV,Nat.blt_eq] at c2
   exact CK.lazy hm HC HY FE FY (wLK (fun a ha=>(c1 a ha).1) c2.2) (wIw c2.1) hr S hE fun μ' w' σ' q1 q2 q3 q4=>⟨rfl,μ',q1,q2,q3,M.ext q1,q4,fun _=>rfl⟩
  ·exact CK.anyOrd hm _ _ c2 (post (Ext.drew μ _ w) (S.keep (Keep.drew w)))
 | false=>exact CK.reg _ c2 (post (Ext.refl μ _ w) S)
theorem wMM {ex:Run} (HC:wEh (CC P) P tb ex) {g:AOd} {t:List Pos} {asg body:AC} {g':Operand} {ps:Array Tmp} {asg' body':Code} {N:Nat} (hc:wDo P N (.rf g t asg body) (.rangeFunc g' ps asg' body')=true)
  {σA σA':Tr AV} {h h':AH} {e:Ex} (hr:sRf true g t asg body tb ex σA h=some (e,σA',h')) {μ:Mu} {σ:Env} {w:World} {D:List Deferred} {n0:Nat} (S:Sim (CC P) P μ h w) (hE:EnvR μ σA σ) (M:Mk μ w n0 D) (hn:n0 <= w.heap.size) :
  CK none N P (.rangeFunc g' ps asg' body') (PostX P μ h.fl w n0 none D e σA' h') D σ w:=by
 simp only [wDo,nA] at hc
 obtain ⟨c1,c2,c3,c4⟩:=hc
 obtain ⟨p,rfl⟩:∃ p:List Nat,ps=p.toArray:=⟨ps.toList,by simp⟩
 ·obtain ⟨ht,c6⟩:=wIx (by simpa using c2)
  unfold sRf at hr
  split at hr
  ·rename_i f fi ca hg
   have hx:=wAF c1 hE
   rw [hg] at hx
   obtain ⟨fv,cv,g1,g2,g3⟩:=hx
   split at hr <;> first | (cases hr;done) | skip
   rename_i rv h2 hcall
   obtain ⟨hcf,hgv⟩:=HC _ _ _ _ _ hcall
   refine CK.rangeFunc (t:=p) g3 hcf fun fn l rb w1 e1 e2 hl hd K hs=>?_
   subst e1 e2
   have hle:=Mu.add_le (c:=(⟨w.heap.size + 1,0,⟨N,σ,p,asg',body',w.heap.size,fn⟩⟩:Cl)) (S.nx h.nx (nQ _))
   obtain ⟨s1,s2,s3,s4⟩:=S.push (w':=w1) (c:=⟨w.heap.size + 1,0,⟨N,σ,p,asg',body',w.heap.size,fn⟩⟩) (B:=.loop σA t asg body .ready) K (Nat.le_succ _) (by show w.heap.size + 1 < _;omega) ⟨hl,hE.mono hle,ht,c6,c3,c4⟩
   generalize hμ1:μ.add h.nx (⟨w.heap.size + 1,0,⟨N,σ,p,asg',body',w.heap.size,fn⟩⟩:Cl)=μ1 at *
   have M1:Mk μ1 w1 n0 (wIl w.heap.size :: D):=by
    have M':=M.ext s2
    obtain ⟨rbs,m1,m2,m3⟩:=M'
    have hold:∀ rb ∈ rbs,rb < w.heap.size:=by
     obtain ⟨rbs0,k1,k2,k3⟩:=M
     intro rb hrb
     have hmm:rbs.map wIl=rbs0.map wIl:=by rw [<- m1,<- k1]
     have hinj:rbs=rbs0:=by
      have:∀ (a b:List Nat),a.map wIl=b.map wIl->a=b:=by
       intro a
       induction a with
       | nil=>intro b hb;cases b with
        | nil=>rfl
        | cons _ _=>simp at hb
       | cons x a ih=>intro b hb;cases b with
        | nil=>simp at hb
        | cons y b =>
         simp only [List.map_cons,nc] at hb
         have hxy:x=y:=by have:=hb.1;simp [wIl] at this;exact this
         rw [hxy,ih b hb.2]
      exact this _ _ hmm
     exact (k3 rb (hinj ▸ hrb)).1.lt
    refine ⟨w.heap.size :: rbs,by rw [List.map_cons,<- m1],List.nodup_cons.2 ⟨fun hm=>absurd (hold _ hm) (nr _),m2⟩,fun rb hrb=>?_⟩
    rcases nL.1 hrb with rfl | hrb
    ·refine ⟨hd,hn,fun q c hq=>?_⟩
     rw [<- hμ1] at hq
     unfold Mu.add at hq
     split at hq
     ·cases hq;show w.heap.size + 1 ≠ _;omega
     ·have:=S.lt q c hq;omega
    ·exact m3 rb hrb
   have G:=hgv μ1 w1 (fv ++ (.func (.yield (w.heap.size + 1)) #[] #[] :: cv)) s1 (wCo (g1.mono s2.mono) (wBH ⟨_,s4,rfl⟩ (g2.mono s2.mono)))
   rw [nO]
   refine G.mono ?_
   rintro v3 w3 ⟨μ3,q1,q2,q3,q4⟩
   rw [s3] at q1 q4
   have E13:=s2.trans q1
   have hc3:=q1.mono _ _ s4
   have fin:∀ {B:AB} {h3:AH} (w4:World),h2.m.get h.nx=some B->wJZ B->h2.put h.nx .dead=some h3->Keep w3 w4 (·=w.heap.size + 1)->w4.heap.size=w3.heap.size->∃ μ',Ext μ h.fl.nat w μ' w4/\Sim (CC P) P μ' h3 w4/\EnvR μ' σA σ/\Mk μ' w4 n0 (wIl w.heap.size :: D)/\h3.fl=h.fl:=by
    intro B h3 w4 hB hlv hput K4 _
    obtain ⟨v1,v2,v3⟩:=q2.put hput hB hlv hc3 K4 (B':=.dead) trivial
    rw [q4] at v2 v3
    exact ⟨μ3,E13.trans v2,v1,hE.mono E13.mono,(M1.ext q1).ext v2,v3⟩
   split at hr
   ·rename_i sx tx ax bx hB
    split at hr <;> first | (cases hr;done) | skip
    rename_i h3 hput
    cases hr
    obtain ⟨c',u1,u2⟩:=q2.at_ _ _ hB
    rw [hc3] at u1;cases u1
    have L3:wJY (CC P) μ3 w3 ⟨w.heap.size + 1,0,⟨N,σ,p,asg',body',w.heap.size,fn⟩⟩ sx tx ax bx .ready:=u2
    refine .inl ⟨L3.at_,fun w4 K4 hs4=>?_⟩
    obtain ⟨μ',a1,a2,a3,a4,a5⟩:=fin w4 hB trivial hput K4 hs4
    exact ⟨rfl,μ',a1,a2,a3,a4,a5,fun hq=>by cases hq⟩
   ·rename_i sx tx ax bx ee hB
    split at hr <;> first | (cases hr;done) | skip
    rename_i h3 hput
    cases hr
    obtain ⟨c',u1,u2⟩:=q2.at_ _ _ hB
    rw [hc3] at u1;cases u1
    have L3:wJY (CC P) μ3 w3 ⟨w.heap.size + 1,0,⟨N,σ,p,asg',body',w.heap.size,fn⟩⟩ sx tx ax bx (.done e):=u2
    cases e with
    | nrm =>
     refine .inl ⟨L3.at_,fun w4 K4 hs4=>?_⟩
     obtain ⟨μ',a1,a2,a3,a4,a5⟩:=fin w4 hB trivial hput K4 hs4
     exact ⟨rfl,μ',a1,a2,a3,a4,a5,fun hq=>by cases hq⟩
    | ret =>
     refine .inr ⟨.ret,.inl rfl,L3.at_,fun w4 K4 hs4=>?_⟩
     obtain ⟨μ',a1,a2,a3,a4,a5⟩:=fin w4 hB trivial hput K4 hs4
     exact ⟨rfl,μ',a1,a2,a3,a4,a5,fun hq=>by cases hq⟩
    | exit i =>
     refine .inr ⟨.exit i,.inr ⟨i,rfl⟩,L3.at_,fun w4 K4 hs4=>?_⟩
     obtain ⟨μ',a1,a2,a3,a4,a5⟩:=fin w4 hB trivial hput K4 hs4
     exact ⟨rfl,μ',a1,a2,a3,a4,a5,fun hq=>by cases hq⟩
   ·cases hr
  ·cases hr
theorem CK.ofRounds {rr:Option Nat} {N:Nat} {c:Code} {Q:wCF} {D:List Deferred} {σ:Env} {w:World} (m:Nat) (hh:∀ a,Rep N D a σ->Code.roundsIn (WF rr) 0 P c (wGV N Q) m a w):CK rr N P (.loop c) Q D σ w :=
 fun a ha=>wpIn_loop_rounds m (hh a ha)
theorem wPc {exR:Run} {r:Bool} (HE:wGR P exR r) {a b:AC} {σA σA':Tr AV} {h h':AH} {e:Ex} (hr:wOy a b exR σA h=some (e,σA',h')) {c d:Code} {N:Nat} (hc1:wDo P N a c=true) (hc2:wDo P N b d=true)
  {rr:Option Nat} {μ:Mu} {σ:Env} {w:World} {D:List Deferred} {n0:Nat} (hrr:rr.isSome=r) (S:Sim (CC P) P μ h w) (hE:EnvR μ σA σ) (M:Mk μ w n0 D) (hn:n0 <= w.heap.size):CK rr N P (.seq c d) (PostX P μ h.fl w n0 rr D e σA' h') D σ w:=by
 obtain ⟨⟨e1,σ1,h1⟩,ha,hb⟩:=wOg hr
 rw [wIL] at hb
 refine CK.seq ((HE _ _ _ _ _ _ ha c N hc1 rr μ σ w D n0 hrr S hE M hn).mono ?_)
 intro D' e' σ' w' hp
 obtain ⟨rfl,μ1,q1,q2,q3,q4,q5,q6⟩:=hp
 cases e1 with
 | nrm =>
  refine (HE _ _ _ _ _ _ hb d N hc2 rr μ1 σ' w' D' n0 hrr q2 q3 q4 (nh hn q1.keep.size)).mono ?_
  intro D'' e'' σ'' w'' hp
  rw [q5] at hp
  exact PostX.trans q1 q6 hp
 | ret=>cases hb;exact ⟨rfl,μ1,q1,q2,q3,q4,q5,q6⟩
 | exit i=>cases hb;exact ⟨rfl,μ1,q1,q2,q3,q4,q5,q6⟩
theorem wOK {exR:Run} {r:Bool} {m:Nat} (HE:wGR P exR r) (HL:wLL P exR r m) {a:AC} {σA σA':Tr AV} {h h':AH} {e:Ex} (hr:wKg a exR σA h=some (e,σA',h')) {c:Code} {N:Nat} (hc:wDo P N a c=true)
  {rr:Option Nat} {μ:Mu} {σ:Env} {w:World} {D:List Deferred} {n0:Nat} (hrr:rr.isSome=r) (S:Sim (CC P) P μ h w) (hE:EnvR μ σA σ) (M:Mk μ w n0 D) (hn:n0 <= w.heap.size):∀ act,Rep N D act σ->Code.roundsIn (WF rr) 0 P c (wGV N (PostX P μ h.fl w n0 rr D e σA' h')) (m + 1) act w:=by
 obtain ⟨⟨e1,σ1,h1⟩,ha,hb⟩:=wOg hr
 rw [wIL] at hb
 intro act hact
 rw [roundsIn_succ]
 refine wpIn_mono (HE _ _ _ _ _ _ ha c N hc rr μ σ w D n0 hrr S hE M hn act hact) ?_
 rintro e' act' w' ⟨σ',D',hrep,hp⟩
 obtain ⟨rfl,μ1,q1,q2,q3,q4,q5,q6⟩:=hp
 cases e1 with
 | nrm =>
  refine wFh ?_ m act' w' (HL _ _ _ _ _ _ hb c N hc rr μ1 σ' w' D' n0 hrr q2 q3 q4 (nh hn q1.keep.size) act' hrep)
  rintro e'' act'' w'' ⟨σ'',D'',hrep',hp⟩
  rw [q5] at hp
  exact ⟨σ'',D'',hrep',PostX.trans q1 q6 hp⟩
 | ret=>cases hb;exact ⟨σ',D',hrep,rfl,μ1,q1,q2,q3,q4,q5,q6⟩
 | exit i=>cases hb;exact ⟨σ',D',hrep,rfl,μ1,q1,q2,q3,q4,q5,q6⟩
theorem wOL (hm:P.follows .mixedOrders=true) (T:wGl P tb):∀ (n:Nat) (r:Bool),wGR P (exec tb n r) r/\wLL P (exec tb n r) r n:=by
 intro n
 induction n with
 | zero=>intro r;exact ⟨fun c σA h e σA' h' hr=>(by cases hr),fun c σA h e σA' h' hr=>(by cases hr)⟩
 | succ n ih =>
  intro r
  have HC:=wLM T (ih false).1
  have HY:=wMJ (P:=P) (ih true).1
  obtain ⟨HE,HL⟩:=ih r
  have loop:wLL P (exec tb (n + 1) r) r (n + 1):=by
   intro c σA h e σA' h' hr code N hc rr μ σ w D n0 hrr S hE M hn
   have hr:wKg c (exec tb n r) σA h=some (e,σA',h'):=hr
   exact wOK HE HL hr hc hrr S hE M hn
  refine ⟨?_,loop⟩
  intro c σA h e σA' h' hr code N hc rr μ σ w D n0 hrr S hE M hn
  rw [wHM] at hr
  cases c with
  | skip =>
   have hr:sNrm σA h=some (e,σA',h'):=hr
   cases hr
   have fin:PostX P μ h.fl w n0 rr D .nrm σA h D .normal σ w:=⟨rfl,μ,Ext.refl μ _ w,S,hE,M,rfl,fun _=>rfl⟩
   cases code <;> simp only [wDo,nE] at hc
   ·exact CK.skip fin
   ·exact CK.label fin
  | rg os =>
   have hr:sRg os tb (exec tb n false) (exec tb n true) (exec tb n r) σA h=some (e,σA',h'):=hr
   unfold sRg at hr
   have:∃ y,wAS tb (exec tb n false) (exec tb n true) os σA h=some y/\some (Ex.nrm,y.1,y.2)=some (e,σA',h'):=by
    cases hq:wAS tb (exec tb n false) (exec tb n true) os σA h with
    | none=>rw [hq] at hr;cases hr
    | some y=>rw [hq] at hr;exact ⟨y,rfl,hr⟩
   obtain ⟨y,h1,h2⟩:=this
   cases h2
   cases code <;> simp only [wDo,nE] at hc
   exact wLW hm HC HY (wDp tb n false) (wDp tb n true) h1 hc S hE M
  | seq a b =>
   have hr:wOy a b (exec tb n r) σA h=some (e,σA',h'):=hr
   cases code <;> simp only [wDo,nE,nA] at hc
   exact wPc HE hr hc.1 hc.2 hrr S hE M hn
  | cond x a b =>
   have hr:wKf x a b (exec tb n r) σA h=some (e,σA',h'):=hr
   cases code <;> simp only [wDo,nE,nA] at hc
   have hx:=wAF hc.1 hE
   unfold wKf at hr
   split at hr
   ·rename_i hb;rw [hb] at hx
    exact CK.condT hx (HE _ _ _ _ _ _ hr _ N hc.2.1 rr μ σ w D n0 hrr S hE M hn)
   ·rename_i hb;rw [hb] at hx
    exact CK.condF hx (HE _ _ _ _ _ _ hr _ N hc.2.2 rr μ σ w D n0 hrr S hE M hn)
   ·cases hr
  | block i a =>
   have hr:wIk i a (exec tb n r) σA h=some (e,σA',h'):=hr
   cases code <;> simp only [wDo,nE,nA] at hc
   rename_i j code
   have hij:=nG hc.1
   subst hij
   obtain ⟨⟨e1,σ1,h1⟩,ha,hb⟩:=wOg hr
   refine CK.block ((HE _ _ _ _ _ _ ha code N hc.2 rr μ σ w D n0 hrr S hE M hn).mono ?_)
   rintro D' e' σ' w' ⟨rfl,μ1,q1,q2,q3,q4,q5,q6⟩
   cases e1 with
   | nrm=>cases hb;exact ⟨rfl,μ1,q1,q2,q3,q4,q5,q6⟩
   | ret=>cases hb;exact ⟨rfl,μ1,q1,q2,q3,q4,q5,q6⟩
   | exit k =>
    have hb:Bool.rec (motive:=fun _=>R) (some (.exit k,σ1,h1)) (some (.nrm,σ1,h1)) (np k i)=some (e,σA',h'):=hb
    cases hk:np k i with
    | true =>
     rw [hk] at hb;cases hb
     have:=nG hk
     subst this
     exact wGX ⟨rfl,μ1,q1,q2,q3,q4,q5,q6⟩
    | false =>
     rw [hk] at hb;cases hb
     exact wLu ⟨rfl,μ1,q1,q2,q3,q4,q5,q6⟩ hk
  | loop a =>
   have hr':exec tb (n + 1) r (.loop a) σA h=some (e,σA',h'):=hr
   cases code <;> simp only [wDo,nE] at hc
   exact CK.ofRounds (n + 1) (loop _ _ _ _ _ _ hr' _ N hc rr μ σ w D n0 hrr S hE M hn)
  | rf g t asg body =>
   have hr:sRf (!r) g t asg body tb (exec tb n false) σA h=some (e,σA',h'):=hr
   cases r with
   | true=>unfold sRf at hr;simp at hr
   | false =>
    have hnone:rr=none:=by cases rr <;> first | rfl | cases hrr
    subst hnone
    cases code <;> first | (simp only [wDo,nE] at hc;done) | skip
    exact wMM HC hc hr S hE M hn
  | exit i =>
   have hr:some (Ex.exit i,σA,h)=some (e,σA',h'):=hr
   cases hr
   cases code <;> simp only [wDo,nE] at hc
   have:=nG hc
   subst this
   exact CK.exit ⟨rfl,μ,Ext.refl μ _ w,S,hE,M,rfl,fun _=>rfl⟩
  | scope a =>
   have hr:exec tb n r a σA h=some (e,σA',h'):=hr
   cases code <;> simp only [wDo,nE] at hc
   refine CK.scope ((HE _ _ _ _ _ _ hr _ N hc rr μ σ w D n0 hrr S hE M hn).mono ?_)
   rintro D' e' σ' w' ⟨rfl,q⟩
   cases e with
   | nrm=>exact ⟨rfl,q⟩
   | ret=>exact ⟨rfl,q⟩
   | exit k=>exact ⟨rfl,q⟩
  | ret =>
   have hr:some (Ex.ret,σA,h)=some (e,σA',h'):=hr
   cases hr
   cases code <;> simp only [wDo,nE] at hc
   exact CK.ret ⟨rfl,μ,Ext.refl μ _ w,S,hE,M,rfl,fun _=>rfl⟩
  | rl os =>
   have hr:sRl os tb (exec tb n false) (exec tb n true) σA h=some (e,σA',h'):=hr
   rw [wMx] at hr
   split at hr
   ·rename_i y hq
    cases hr
    obtain ⟨g1,g2⟩:=wIJ _ _ _ _ hq
    cases code <;> simp only [wDo,nE,nA,nV] at hc
    rename_i id ops draw
    obtain ⟨rfl,c1,c2⟩:=hc
    have hop:ops=ops.toList.toArray:=by simp
    rw [hop]
    exact CK.lazy hm HC HY (wDp tb n false) (wDp tb n true) (wLK c1 c2) g2 g1 S hE fun μ' w' σ' q1 q2 q3 q4=>⟨rfl,μ',q1,q2,q3,M.ext q1,q4,fun _=>rfl⟩
   ·cases hr
theorem Sim.empty (C:Chk) (P:Program) (w:World):Sim C P (fun _=>none) ⟨.e,.H,.H⟩ w :=
 ⟨fun _ _=>rfl,fun _ _ h=>(by cases h),fun _ _ _ _ _ _ h=>(by rw [Tr.get_e] at h;cases h),fun _ _ h=>(by rw [Tr.get_e] at h;cases h)⟩
def wLX (f:Nat->AF->Prop):Tr AF->(Nat->Nat)->Prop
 | .e,_=>True
 | .n l v r,g=>(match v with | none=>True | some a=>f (g 1) a)/\wLX f l (fun n=>g (2 * n))/\wLX f r (fun n=>g (2 * n + 1))
theorem wFl {f:Nat->AF->Prop}:∀ {t:Tr AF} {g:Nat->Nat},wLX f t g->∀ p a,t.get p=some a->f (g p.nat) a
 | .e,g,_,p,a,hq=>by rw [Tr.get_e] at hq;cases hq
 | .n l v r,g,⟨h1,h2,h3⟩,.H,a,hq=>by
  rw [Tr.get_H] at hq;subst hq;exact h1
 | .n l v r,g,⟨h1,h2,h3⟩,.O p,a,hq=>wFl h2 p a hq
 | .n l v r,g,⟨h1,h2,h3⟩,.I p,a,hq=>wFl h3 p a hq
theorem wPd (h:wLX (fun n a=>chkF P (n - 1) a=true) tb fun n=>n):wGl P tb:=fun p af hq=>wFl h p af hq
end
end Go.KX
namespace Go.KX
noncomputable section
open Go.RowKit Go.KL
section
variable {P:Program} {tb:Tr AF} {n:Nat} {σ σ1 σ':Tr AV} {h h1 h2 h':AH} {e:Ex} {c c1 c2:AC}
def RunOK (P:Program) (c:AC) (σA:Tr AV) (h:AH) (e:Ex) (σA':Tr AV) (h':AH):Prop:=∀ code N,wDo P N c code=true->∀ (μ:Mu) (σ:Env) (w:World) (D:List Deferred) (n0:Nat),
 Sim (CC P) P μ h w->EnvR μ σA σ->Mk μ w n0 D->n0 <= w.heap.size->CK none N P code (PostX P μ h.fl w n0 none D e σA' h') D σ w
theorem RunOK.exec (hm:P.follows .mixedOrders=true) (T:wGl P tb) (hr:exec tb n false c σ h=some (e,σ',h')):RunOK P c σ h e σ' h' :=
 fun code N hc μ σ w D n0 S hE M hn=>(wOL hm T n false).1 _ _ _ _ _ _ hr code N hc none μ σ w D n0 rfl S hE M hn
theorem RunOK.seq (A:RunOK P c1 σ h .nrm σ1 h1) (B:RunOK P c2 σ1 h1 e σ' h'):RunOK P (.seq c1 c2) σ h e σ' h':=by
 intro code N hc μ σ w D n0 S hE M hn
 cases code <;> simp only [wDo,nE,nA] at hc
 refine CK.seq ((A _ N hc.1 μ σ w D n0 S hE M hn).mono ?_)
 rintro D' e' σ' w' ⟨rfl,μ1,q1,q2,q3,q4,q5,q6⟩
 refine (B _ N hc.2 μ1 σ' w' D' n0 q2 q3 q4 (nh hn q1.keep.size)).mono ?_
 intro D'' e'' σ'' w'' hp
 rw [q5] at hp
 exact PostX.trans q1 q6 hp
theorem RunOK.less (A:RunOK P c σ h2 e σ' h') (hs:∀ p b,h2.m.get p=some b->h.m.get p=some b) (hn:h2.nx=h.nx) (hf:h2.fl=h.fl):RunOK P c σ h e σ' h':=by
 intro code N hc μ σ w D n0 S hE M hn0
 rw [<- hf]
 exact A code N hc μ σ w D n0 ⟨by rw [hn];exact S.nx,S.lt,fun p q a b c d hp hq=>S.inj p q a b c d (hs p a hp) (hs q b hq),fun p b hp=>S.at_ p b (hs p b hp)⟩ hE M hn0
def wEF:Nat->AC->AC
 | k + 1,.seq _ b=>wEF k b
 | _,c=>c
def wJi (tb:Tr AF) (n:Nat):Nat->AC->Tr AV->AH->Option (Tr AV × AH)
 | 0,_,σ,h=>some (σ,h)
 | k + 1,.seq a b,σ,h=>match KX.exec tb n false a σ h with
  | some (.nrm,σ1,h1)=>wJi tb n k b σ1 h1
  | _=>none
 | _ + 1,_,_,_=>none
theorem wJC (hm:P.follows .mixedOrders=true) (T:wGl P tb):∀ (k:Nat) (c:AC) (σ:Tr AV) (h:AH),wJi tb n k c σ h=some (σ1,h1)->RunOK P (wEF k c) σ1 h1 e σ' h'->RunOK P c σ h e σ' h'
 | 0,c,σ,h,hr,B=>by
  have hr:some (σ,h)=some (σ1,h1):=by simpa [wJi] using hr
  cases hr
  have hd:wEF 0 c=c:=by cases c <;> rfl
  rwa [hd] at B
 | k + 1,c,σ,h,hr,B=>by
  cases c <;> first | (simp only [wJi] at hr;cases hr;done) | skip
  rename_i a b
  rw [wJi] at hr
  split at hr
  ·rename_i σ2 h2 hq
   exact (RunOK.exec hm T hq).seq (wJC hm T k b σ2 h2 hr B)
  ·cases hr
def wFm:Tr AV->Tr AV->Bool
 | .e,.e=>true
 | .n l v r,.n l' v' r'=>(match v,v' with | none,none=>true | some a,some b=>same a b | _,_=>false) && (wFm l l' && wFm r r')
 | _,_=>false
theorem wFn:∀ {s t:Tr AV},wFm s t=true->s=t
 | .e,.e,_=>rfl
 | .n l v r,.n l' v' r',hs=>by
  simp only [wFm,nA] at hs
  obtain ⟨h1,h2,h3⟩:=hs
  rw [wFn h2,wFn h3]
  cases v <;> cases v' <;> simp only [nE] at h1
  ·rfl
  ·rw [wIM h1]
 | .e,.n _ _ _,hs=>by simp [wFm] at hs
 | .n _ _ _,.e,hs=>by simp [wFm] at hs
def wLY:AB->AB->Bool
 | .cells T l,.cells T' l'=>np T T' && wFU l l'
 | .row T s l,.row T' s' l'=>np T T' && (np s s' && wFU l l')
 | _,_=>false
theorem wLZ {a b:AB} (hs:wLY a b=true):a=b:=by
 unfold wLY at hs
 split at hs
 ·simp only [nA] at hs
  rw [nG hs.1,wCr hs.2]
 ·simp only [nA] at hs
  rw [nG hs.1,nG hs.2.1,wCr hs.2.2]
 ·cases hs
def wJj:Tr AB->Tr AB->Bool
 | .e,_=>true
 | .n l v r,.n l' v' r'=>(match v,v' with | none,_=>true | some a,some b=>wLY a b | _,_=>false) && (wJj l l' && wJj r r')
 | _,_=>false
theorem wFo:∀ {s t:Tr AB},wJj s t=true->∀ p b,s.get p=some b->t.get p=some b
 | .e,t,_,p,b,hg=>by rw [Tr.get_e] at hg;cases hg
 | .n l v r,.n l' v' r',hs,p,b,hg=>by
  simp only [wJj,nA] at hs
  obtain ⟨h1,h2,h3⟩:=hs
  cases p with
  | H =>
   rw [Tr.get_H] at hg ⊢
   subst hg
   cases v' <;> simp only [nE] at h1
   rw [wLZ h1]
  | O p=>rw [Tr.get_O] at hg ⊢;exact wFo h2 p b hg
  | I p=>rw [Tr.get_I] at hg ⊢;exact wFo h3 p b hg
 | .n _ _ _,.e,hs,_,_,_=>by simp [wJj] at hs
def stg (tb:Tr AF) (n k:Nat) (c:AC) (σ:Tr AV) (h:AH) (σ1:Tr AV) (h2:AH):Bool:=match wJi tb n k c σ h with
 | some (σ',h')=>wFm σ' σ1 && (h2.nx.beq h'.nx && (h2.fl.beq h'.fl && wJj h2.m h'.m))
 | none=>false
theorem wJD (hm:P.follows .mixedOrders=true) (T:wGl P tb) (k:Nat) (hs:stg tb n k c σ h σ1 h2=true) (B:RunOK P (wEF k c) σ1 h2 e σ' h'):RunOK P c σ h e σ' h':=by
 unfold stg at hs
 split at hs
 ·rename_i σ2 h3 hq
  simp only [nA] at hs
  obtain ⟨g1,g2,g3,g4⟩:=hs
  have:=wFn g1
  subst this
  exact wJC hm T k c σ h hq (B.less (wFo g4) (Pos.beq_eq g2) (Pos.beq_eq g3))
 ·cases hs
def stgB (tb:Tr AF) (n:Nat) (c:AC) (σ:Tr AV) (h:AH) (rs:List AR) (b:Bool):Bool:=match KX.exec tb n false c σ h with
 | some (.ret,σ',h')=>(match wLr σ' h' rs with
  | some (.bool b',_)=>b' == b
  | _=>false)
 | _=>false
theorem wOM (hm:P.follows .mixedOrders=true) (T:wGl P tb) {rs:List AR} {b:Bool} (hs:stgB tb n c σ h rs b=true):∃ σ' h' h3,RunOK P c σ h .ret σ' h'/\wLr σ' h' rs=some (.bool b,h3):=by
 unfold stgB at hs
 split at hs
 ·rename_i σ' h' hq
  split at hs
  ·rename_i b' h3 hq2
   have:=eq_of_beq hs
   subst this
   exact ⟨σ',h',h3,RunOK.exec hm T hq,hq2⟩
  ·cases hs
 ·cases hs
open Classical in
def wJE (c0:AC) (σ0:Tr AV) (h0:AH) (r:Ex × Tr AV × AH):Run:=fun c σ h=>if c=c0/\σ=σ0/\h=h0 then some r else none
theorem wJk (T:wGl P tb) (f:Pos) (k:Nat) (hk:f.nat=k + 1) {af:AF} (hf:tb.get f=some af) {b:Bool} (hr:∃ σ' h' h3,RunOK P af.body .e ⟨.e,.H,.H⟩ .ret σ' h'/\wLr σ' h' af.res=some (.bool b,h3)) (w:World) :
  Gv P k [] w fun cv w'=>cv=.bool b/\Keep w w' Non:=by
 obtain ⟨σ',h',h3,R,hres⟩:=hr
 have HE:wGR P (wJE af.body .e ⟨.e,.H,.H⟩ (.ret,σ',h')) false:=by
  intro c σA h e σA' h1 hx code N hc rr μ σ w D n0 hrr S hE M hn
  unfold wJE at hx
  split at hx
  ·rename_i hq
   obtain ⟨rfl,rfl,rfl⟩:=hq
   cases hx
   have:rr=none:=by cases rr <;> first | rfl | cases hrr
   subst this
   exact R code N hc μ σ w D n0 S hE M hn
  ·cases hx
 have hcall:wHJ tb (wJE af.body .e ⟨.e,.H,.H⟩ (.ret,σ',h')) f [] ⟨.e,.H,.H⟩=some (.bool b,h3):=by
  unfold wHJ
  rw [hf]
  have hle:Nat.ble (len ([]:List AV)) af.n=true:=by rw [Nat.ble_eq];exact Nat.zero_le _
  simp only [hle]
  have hi:wJX [] Pos.H .e=.e:=rfl
  rw [hi]
  unfold wJE
  rw [if_pos ⟨rfl,rfl,rfl⟩]
  exact hres
 obtain ⟨_,hg⟩:=wLM T HE f [] _ _ _ hcall
 have:=hg _ w [] (Sim.empty _ _ w) rfl
 rw [hk] at this
 refine this.mono ?_
 rintro cv w' ⟨μ',h1,h2,h3,_⟩
 exact ⟨h3,h1.keep.weak fun i _ ⟨p,d,hp,_⟩=>by cases hp⟩
end
end
end Go.KX
namespace Go.KL
variable {S S' B B' α:Type}
theorem wJF {body:Nat->S->Option (S ⊕ B)} (I:Nat->S->Prop) (Z:B->Prop):∀ (m k:Nat) (s:S),I k s ->
  (∀ i s,k <= i->i < k + m->I i s->(∃ s',body i s=some (.inl s')/\I (i + 1) s') \/ ∃ b,body i s=some (.inr b)/\Z b) ->
  (∃ s',forN body m k s=some (.inl s')/\I (k + m) s') \/ ∃ b,forN body m k s=some (.inr b)/\Z b
 | 0,k,s,h,_=>.inl ⟨s,rfl,h⟩
 | m + 1,k,s,h,hb=>by
  simp only [forN]
  rcases hb k s (nQ _) (by omega) h with ⟨s',h1,h2⟩ | ⟨b,h1,h2⟩
  ·rw [h1]
   have:=wJF I Z m (k + 1) s' h2 fun i s h2 h3 h4=>hb i s (by omega) (by omega) h4
   rwa [show k + 1 + m=k + (m + 1) from by omega] at this
  ·rw [h1];exact .inr ⟨b,rfl,h2⟩
theorem wFq {body:Nat->S->Option S} (I:Nat->S->Prop):∀ (m k:Nat) (s:S),I k s ->
  (∀ i s,k <= i->i < k + m->I i s->∃ s',body i s=some s'/\I (i + 1) s')->∃ s',forN' body m k s=some s'/\I (k + m) s'
 | 0,k,s,h,_=>⟨s,rfl,h⟩
 | m + 1,k,s,h,hb=>by
  simp only [forN']
  obtain ⟨s',h1,h2⟩:=hb k s (nQ _) (by omega) h
  rw [h1]
  have:=wFq I m (k + 1) s' h2 fun i s h2 h3 h4=>hb i s (by omega) (by omega) h4
  rwa [show k + 1 + m=k + (m + 1) from by omega] at this
theorem wFr {body:Nat->S->Option (S ⊕ B)} {n:Nat} {s:S} (hn:n <= 9223372036854775807):wLl 0 (n:Int) body s=forN body n 0 s:=by
 unfold wLl
 rw [if_pos (by omega),show ((n:Int) - 0).toNat=n from by omega]
theorem wEZ {body:Nat->S->Option S} {n:Nat} {s:S} (hn:n <= 9223372036854775807):wDW 0 (n:Int) body s=forN' body n 0 s:=by
 unfold wDW
 rw [if_pos (by omega),show ((n:Int) - 0).toNat=n from by omega]
def first (p:α->Bool):List α->Nat->Int
 | [],_=>-1
 | a :: l,k=>if p a then (k:Int) else first p l (k + 1)
theorem wEI (p:α->Bool):∀ (l:List α) (k:Nat),decide (0 <= first p l k)=l.any p
 | [],k=>by simp [first]
 | a :: l,k=>by
  rw [first,nt]
  by_cases h:p a
  ·simp [h]
  ·simp [h,wEI p l (k + 1)]
theorem wEa {R:Type} {l:List α} {f:α->Option Bool} {p:α->Bool} (hf:∀ a ∈ l,f a=some (p a)) (hn:l.length <= 9223372036854775807) (z:Int->R) :
  (jn (wLl 0 (↑l.length:Int) (fun k2 (_:Unit)=>(idx l (↑k2:Int)).bind fun x=>(f x).bind fun y=>if y=true then esc (some (z (↑k2:Int))) else some (.inl ())) ()) fun _=>some (z (-1)))=some (z (first p l 0)):=by
 rw [wFr hn]
 have key:∀ (m k:Nat),k + m=l.length->(jn (forN (fun k2 (_:Unit)=>(idx l (↑k2:Int)).bind fun x=>(f x).bind fun y=>if y=true then esc (some (z (↑k2:Int))) else some (.inl ())) m k ()) fun _=>some (z (-1)))=some (z (first p (l.drop k) k)):=by
  intro m
  induction m with
  | zero=>intro k hk;rw [nq (by omega)];rfl
  | succ m ih =>
   intro k hk
   have hlt:k < l.length:=by omega
   rw [nk hlt,first,forN,wJx,nW hlt]
   simp only [hH,hf _ (List.getElem_mem hlt)]
   by_cases h:p l[k]=true
   ·simp [h]
   ·simp only [h,if_false,nE]
    exact ih (k + 1) (by omega)
 exact key l.length 0 (by omega)
theorem wCx {bytes:Nat} {l m:List α} (h:(l.length + m.length) * bytes <= 140737488355328):app bytes l m=some (l ++ m):=if_pos h
end Go.KL
namespace Go.KL
variable {S B R α β:Type}
theorem wHY {body:Nat->S->Option S} (s:Nat->S):∀ (m k:Nat),(∀ i,k <= i->i < k + m->body i (s i)=some (s (i + 1)))->forN' body m k (s k)=some (s (k + m))
 | 0,_,_=>rfl
 | m + 1,k,h=>by
  rw [forN',h k (nQ _) (by omega)]
  have:=wHY s m (k + 1) fun i h1 h2=>h i (by omega) (by omega)
  rw [show k + 1 + m=k + (m + 1) by omega] at this
  exact this
theorem wFs {body:Nat->S->Option S} {n:Nat} {s0:S} (s:Nat->S) (h0:s 0=s0) (hn:n <= 9223372036854775807) (h:∀ i,i < n->body i (s i)=some (s (i + 1))):wDW 0 (n:Int) body s0=some (s n):=by
 rw [wEZ hn,<- h0]
 have:=wHY s n 0 fun i _ hi=>h i (by omega)
 rwa [ng] at this
theorem wDR [Inhabited α] {l:List α} {k:Nat} (h:k < l.length):idx l (k:Int)=some (gd l k):=by
 rw [wJx]
 exact wCR h
theorem wFt [Inhabited α] {l:List α} {k:Nat} (h:k < l.length):gd l k ∈ l:=List.mem_of_getElem? (wCR h)
theorem wIV [Inhabited α] {l:List α} {k:Nat} (h:k < l.length):l.take (k + 1)=l.take k ++ [gd l k]:=by
 rw [List.take_add_one,wCR h]
 rfl
theorem wON [Inhabited α] {l:List α} {k:Nat} (h:k < l.length):l.drop k=gd l k :: l.drop (k + 1):=by
 have:=wCR h
 rw [nW h] at this
 rw [nk h,nD this]
theorem wEJ [Inhabited α] {l m:List α} {k:Nat} (h:k < l.length):gd (l ++ m) k=gd l k:=by
 have h1:=wCR (xs:=l ++ m) (k:=k) (by rw [nK];omega)
 rw [List.getElem?_append_left h,wCR h] at h1
 exact (nD h1).symm
theorem wJG [Inhabited α] (l m:List α) (x:α):gd (l ++ x :: m) l.length=x:=by
 have h1:=wCR (xs:=l ++ x :: m) (k:=l.length) (by simp)
 rw [List.getElem?_append_right (nQ _),Nat.sub_self] at h1
 exact (nD h1).symm
theorem wOO [Inhabited α] [Inhabited β] (f:α->β) {l:List α} {k:Nat} (h:k < l.length):gd (l.map f) k=f (gd l k):=by
 have h1:=wCR (xs:=l.map f) (k:=k) (by simpa using h)
 rw [List.getElem?_map,wCR h] at h1
 exact (nD h1).symm
end Go.KL
namespace Go.KL
def wEb (m:Nat) (ok:Nat->Nat->Bool):Nat->List Int->List (List Int)
 | 0,o=>[o]
 | k + 1,o=>(nU m).flatMap fun s=>if ok s o.length=true then wEb m ok k (o ++ [(s:Int)]) else []
def wLa (tk:List Int->Option Int) (st:List Int × Int) (o:List Int):List Int × Int :=
 match tk o with
 | some v=>if st.1=[] \/ v < st.2 then (o,v) else st
 | none=>st
structure Fits2 (m:Nat) (ok:Nat->Nat->Bool) (n:Nat) (o:List Int):Prop where
 len:o.length=n
 rg:∀ i,i < n->0 <= gd o i/\gd o i < m
 ok:∀ i,i < n->ok (gd o i).toNat i=true
theorem wFu {m:Nat} {ok:Nat->Nat->Bool}:∀ {k:Nat} {o x:List Int},x ∈ wEb m ok k o ↔ ∃ y:List Int,x=o ++ y/\y.length=k/\∀ i,i < k->(0 <= gd y i/\gd y i < m)/\ok (gd y i).toNat (o.length + i)=true
 | 0,o,x=>by
  unfold wEb
  rw [nH]
  constructor
  ·rintro rfl;exact ⟨[],by simp,rfl,fun i h=>by omega⟩
  ·rintro ⟨y,rfl,h,_⟩
   rw [List.eq_nil_of_length_eq_zero h,nf]
 | k + 1,o,x=>by
  unfold wEb
  rw [List.mem_flatMap]
  constructor
  ·rintro ⟨s,hs,hx⟩
   have hs:=List.mem_range.1 hs
   split at hx
   ·rename_i c
    obtain ⟨y,rfl,hl,hy⟩:=wFu.1 hx
    refine ⟨(s:Int) :: y,by simp,by simp [hl],fun i hi=>?_⟩
    cases i with
    | zero=>exact ⟨⟨by show (0:Int) <= (s:Int);omega,by show (s:Int) < m;omega⟩,by show ok ((s:Int)).toNat (o.length + 0)=true;rw [Int.toNat_natCast,Nat.add_zero];exact c⟩
    | succ i =>
     have:=hy i (by omega)
     rw [nK,nZ,Nat.add_assoc,Nat.add_comm 1 i] at this
     exact this
   ·cases hx
  ·rintro ⟨y,rfl,hl,hy⟩
   match y,hl,hy with
   | a :: y,hl,hy =>
    have h0:=hy 0 (by omega)
    have h0':(0 <= a/\a < m)/\ok a.toNat (o.length + 0)=true:=h0
    refine ⟨a.toNat,List.mem_range.2 (by omega),?_⟩
    rw [if_pos (by rw [<- h0'.2,Nat.add_zero])]
    refine wFu.2 ⟨y,by rw [nO,nb h0'.1.1];rfl,by simpa using hl,fun i hi=>?_⟩
    have:=hy (i + 1) (by omega)
    rw [nK,nZ,Nat.add_assoc,Nat.add_comm 1 i]
    exact this
theorem wFv {m:Nat} {ok:Nat->Nat->Bool} {n:Nat} {x:List Int}:x ∈ wEb m ok n [] ↔ Fits2 m ok n x:=by
 rw [wFu]
 constructor
 ·rintro ⟨y,rfl,h,hy⟩
  exact ⟨by simpa using h,fun i hi=>(hy i hi).1,fun i hi=>by
   have:=(hy i hi).2
   rw [nI,ng] at this
   exact this⟩
 ·intro h
  exact ⟨x,rfl,h.len,fun i hi=>⟨h.rg i hi,by rw [nI,ng];exact h.ok i hi⟩⟩
structure wOP (tk:List Int->Option Int) (L:List (List Int)) (st:List Int × Int):Prop where
 none_:st.1=[]->st.2=0/\∀ o ∈ L,tk o=none
 some_:st.1 ≠ []->st.1 ∈ L/\tk st.1=some st.2/\∀ o ∈ L,∀ v,tk o=some v->st.2 <= v
theorem wMQ {tk:List Int->Option Int}:∀ {L:List (List Int)},(∀ o ∈ L,o ≠ [])->wOP tk L (L.foldl (wLa tk) ([],0)):=by
 have key:∀ (L M:List (List Int)) (st:List Int × Int),(∀ o ∈ L ++ M,o ≠ [])->wOP tk L st->wOP tk (L ++ M) (M.foldl (wLa tk) st):=by
  intro L M
  induction M generalizing L with
  | nil=>intro st _ h;rw [nf];exact h
  | cons a M ih =>
   intro st hne h
   rw [List.foldl_cons,show L ++ a :: M=(L ++ [a]) ++ M by simp]
   refine ih (L ++ [a]) _ (by simpa using hne) ?_
   have ha:a ≠ []:=hne a (by simp)
   unfold wLa
   cases ht:tk a with
   | none =>
    simp only
    refine ⟨fun e=>⟨(h.none_ e).1,fun o ho=>?_⟩,fun e=>⟨nT _ (h.some_ e).1,(h.some_ e).2.1,fun o ho v hv=>?_⟩⟩
    ·rcases nB.1 ho with ho | ho
     ·exact (h.none_ e).2 o ho
     ·rw [nH.1 ho];exact ht
    ·rcases nB.1 ho with ho | ho
     ·exact (h.some_ e).2.2 o ho v hv
     ·rw [nH.1 ho,ht] at hv;cases hv
   | some w =>
    simp only
    by_cases c:st.1=[] \/ w < st.2
    ·rw [if_pos c]
     refine ⟨fun e=>absurd e ha,fun _=>⟨by simp,ht,fun o ho v hv=>?_⟩⟩
     rcases nB.1 ho with ho | ho
     ·rcases c with c | c
      ·rw [(h.none_ c).2 o ho] at hv;cases hv
      ·by_cases e:st.1=[]
       ·rw [(h.none_ e).2 o ho] at hv;cases hv
       ·have:=(h.some_ e).2.2 o ho v hv
        simp only
        omega
     ·rw [nH.1 ho,ht] at hv
      cases hv
      exact nJ _
    ·rw [if_neg c]
     refine ⟨fun e=>absurd (.inl e) c,fun e=>⟨nT _ (h.some_ e).1,(h.some_ e).2.1,fun o ho v hv=>?_⟩⟩
     rcases nB.1 ho with ho | ho
     ·exact (h.some_ e).2.2 o ho v hv
     ·rw [nH.1 ho,ht] at hv
      cases hv
      have:¬ w < st.2:=fun q=>c (.inr q)
      omega
 intro L hL
 exact key [] L ([],0) hL ⟨fun _=>⟨rfl,fun o ho=>by cases ho⟩,fun h=>absurd rfl h⟩
end Go.KL
namespace Go.Proofs.YtkedcbligiebkaaGreat
open Go.KL
theorem wLb {a b:Int} (h0:0 <= a) (hb:0 < b):∃ x,rem a b=some x/\0 <= x/\x < b:=by
 refine ⟨a.tmod b,if_neg (by omega),?_,?_⟩
 ·rw [ni h0];exact Int.emod_nonneg _ (by omega)
 ·rw [ni h0];exact Int.emod_lt_of_pos _ hb
theorem wIW (x:Int):0 <= wDC x:=by unfold wDC;omega
theorem wOQ (x:Int):wDC x < 4294967296:=by unfold wDC;omega
theorem w64u (x:Int):w64 (wDC x)=wDC x:=by
 have:=wIW x
 have:=wOQ x
 exact wBR (by omega) (by omega)
theorem wMR (a:Int) {b:Int} (hb:b ≠ 0):∃ x,quo a b=some x:=⟨_,if_neg hb⟩
theorem wLc (d:wAA) (n:Int) (h0:0 <= d.next) (h1:d.next <= 1000000):∃ x d',wAD d n=some (x,d')/\0 <= d'.next/\d'.next <= d.next + 1/\0 <= x/\(x < n \/ (n <= 1/\x=0)):=by
 unfold wAD
 by_cases hn:n <= 1
 ·exact ⟨0,d,by rw [if_pos hn],h0,by omega,by omega,.inr ⟨hn,rfl⟩⟩
 rw [if_neg hn]
 by_cases hl:(d.bytes.length:Int)=0
 ·exact ⟨0,d,by rw [if_pos hl],h0,by omega,by omega,.inl (by omega)⟩
 rw [if_neg hl]
 obtain ⟨r,e1,r0,r1⟩:=wLb h0 (show (0:Int) < d.bytes.length by omega)
 obtain ⟨b,e2⟩:∃ b,idx d.bytes r=some b:=by
  unfold idx
  rw [if_pos r0,nW (by omega)]
  exact ⟨_,rfl⟩
 obtain ⟨q,e3⟩:=wMR d.next (b:=d.bytes.length) hl
 obtain ⟨st,e4,_,_⟩:=wLb (wIW ((wDC ((wDC ((wDC (d.state * 45)) + (wDC b))) + (wDC (77 * (wDC q))))) + 1)) (b:=65519) (by decide)
 rw [e1,hH,e2,hH,e3,hH,e4,hH,wBR (x:=d.next + 1) (by omega) (by omega)]
 have fin:∀ z:Int,∃ x d',((rem (w64 (wDC z)) n).bind fun x=>some (x,(⟨d.bytes,d.next + 1,st⟩:wAA)))=some (x,d')/\0 <= d'.next/\d'.next <= d.next + 1/\0 <= x/\(x < n \/ (n <= 1/\x=0)):=by
  intro z
  obtain ⟨x,e5,x0,x1⟩:=wLb (a:=w64 (wDC z)) (b:=n) (by rw [w64u];exact wIW z) (by omega)
  exact ⟨x,_,by rw [e5];rfl,by show 0 <= d.next + 1;omega,by show d.next + 1 <= _;omega,x0,.inl x1⟩
 by_cases c1:wDC q=0
 ·rw [if_pos c1]
  by_cases c2:n <= 256
  ·rw [if_pos c2];exact fin _
  ·rw [if_neg c2];exact fin _
 ·rw [if_neg c1];exact fin _
theorem wOR (d:wAA) (a b:Int) (h0:0 <= d.next) (h1:d.next <= 1000000) (ha:-1000000 <= a) (hab:a <= b) (hb:b <= 1000000):∃ x d',wAK d a b=some (x,d')/\0 <= d'.next/\d'.next <= d.next + 1/\a <= x/\x <= b:=by
 unfold wAK
 rw [wBR (x:=b - a) (by omega) (by omega),wBR (x:=b - a + 1) (by omega) (by omega)]
 obtain ⟨x,d',e,n0,n1,x0,x1⟩:=wLc d (b - a + 1) h0 h1
 refine ⟨a + x,d',?_,n0,n1,by omega,by omega⟩
 rw [e,hH]
 simp only
 rw [wBR (by omega) (by omega)]
end Go.Proofs.YtkedcbligiebkaaGreat
namespace Go.Proofs.YtkedcbligiebkaaGreat
open Go.KL
def inB (n lo hi:Int):Bool:=decide (lo <= n/\n <= hi)
theorem wIX (n lo hi:Int):wBc n lo hi=some (inB n lo hi):=by
 unfold wBc inB
 by_cases h:lo <= n
 ·rw [if_pos h];simp [h]
 ·rw [if_neg h];simp [h]
structure wHZ (p:wAB):Prop where
 n:1 <= p.Classes.length/\p.Classes.length <= 4
 cls:∀ c ∈ p.Classes,0 <= c/\c <= 3
 each:1 <= p.Each/\p.Each <= 4
 laps:1 <= p.Laps/\p.Laps <= 5
 spare:0 <= p.Spare/\p.Spare <= 600
 loop:0 <= p.Loop/\p.Loop <= 600
 unused:0 <= p.Unused/\p.Unused <= 6000
theorem wBr {n lo hi:Int} (h1:lo <= n) (h2:n <= hi):inB n lo hi=true:=by unfold inB;simp [h1,h2]
theorem wIY {l:List Int} {f:Int->Option Bool} {p:Int->Bool} (hf:∀ a,f a=some (p a)) (hn:l.length <= 9223372036854775807):wBQ l f=some (l.all p):=by
 unfold wBQ wAl wAx wBE
 have:=wEa (R:=Int) (l:=l) (f:=fun x=>(f x).bind fun x5=>some (!x5)) (p:=fun a=>!p a) (fun a _=>by rw [hf];rfl) hn id
 simp only [id] at this
 rw [this]
 simp only [hH,wEI]
 congr 1
 clear this hn
 induction l with
 | nil=>rfl
 | cons a l ih=>rw [nt,nu,<- ih];cases p a <;> simp
theorem wOS {l:List wAE} {f:wAE->Option Bool} {p:wAE->Bool} (hf:∀ a ∈ l,f a=some (p a)) (hn:l.length <= 9223372036854775807):wAn l f=some (l.all p):=by
 unfold wAn wAL wAP wAT
 have:=wEa (R:=Int) (l:=l) (f:=fun x=>(f x).bind fun x5=>some (!x5)) (p:=fun a=>!p a) (fun a ha=>by rw [hf a ha];rfl) hn id
 simp only [id] at this
 rw [this]
 simp only [hH,wEI]
 congr 1
 clear this hn hf
 induction l with
 | nil=>rfl
 | cons a l ih=>rw [nt,nu,<- ih];cases p a <;> simp
theorem wMS {p:wAB} (g:wHZ p):wBS p=some 0:=by
 unfold wBS
 have h1:=g.n
 have h2:=g.each;have h3:=g.laps;have h4:=g.spare;have h5:=g.loop;have h6:=g.unused
 rw [wIX,hH,wBr (by omega) (by omega),if_pos rfl]
 have hc:wBD p.Classes=some true:=by
  unfold wBD
  rw [wIY (f:=wAd) (p:=fun n=>inB n 0 3) (fun a=>by unfold wAd;rw [wIX];rfl) (by omega),hH]
  exact congrArg some (nV.2 fun c hc=>wBr (g.cls c hc).1 (g.cls c hc).2)
 rw [hc,hH,if_pos rfl]
 unfold wBz
 rw [hH,wOS (p:=fun a=>match a.of p with | some x=>inB x a.lo a.hi | none=>true) (fun a ha=>by
  unfold wAp
  simp only [nL,List.not_mem_nil,or_false] at ha
  rcases ha with rfl | rfl | rfl | rfl | rfl <;> simp [wAs,wAt,wAu,wAv,wAw,wIX]) (by simp)]
 simp only [hH,nu,List.all_nil,Bool.and_true,wAs,wAt,wAu,wAv,wAw]
 rw [wBr h2.1 h2.2,wBr h3.1 h3.2,wBr h4.1 h4.2,wBr h5.1 h5.2,wBr h6.1 h6.2]
 rfl
def wCk (d:wAA) (n:Int):Prop:=0 <= d.next/\d.next <= n
theorem wEK {d:wAA} {N:Int} (h:wCk d N) (hN:N <= 1000000) (n:Int):∃ x d',wAD d n=some (x,d')/\wCk d' (N + 1)/\0 <= x/\(x < n \/ (n <= 1/\x=0)):=by
 obtain ⟨x,d',e,a,b,c⟩:=wLc d n h.1 (by have:=h.2;omega)
 exact ⟨x,d',e,⟨a,by have:=h.2;omega⟩,c⟩
theorem wJH {d:wAA} {N:Int} (h:wCk d N) (hN:N <= 1000000) {a b:Int} (ha:-1000000 <= a) (hab:a <= b) (hb:b <= 1000000):∃ x d',wAK d a b=some (x,d')/\wCk d' (N + 1)/\a <= x/\x <= b:=by
 obtain ⟨x,d',e,c,c2,c3⟩:=wOR d a b h.1 (by have:=h.2;omega) ha hab hb
 exact ⟨x,d',e,⟨c,by have:=h.2;omega⟩,c3⟩
theorem wMT {N:Int} {n:Nat} (hn:n <= 10) {d:wAA} (h:wCk d N) (hN:N <= 900000):∃ s':List Int × Int × Int × List Int,(wDW 0 (n:Int) (fun (k204:Nat) ((l195,x198,x199,l200):List Int × Int × Int × List Int) =>
      (wAD (⟨l195,x198,x199⟩:wAA) 2).bind fun (x269,x270) =>
      (app 8 l200 [x269]).bind fun x288 =>
      some (x270.bytes,x270.next,x270.state,x288)) (d.bytes,d.next,d.state,[]))=some s'/\wCk ⟨s'.1,s'.2.1,s'.2.2.1⟩ (N + 10)/\s'.2.2.2.length=n/\∀ c ∈ s'.2.2.2,0 <= c/\c <= 3:=by
  rw [wEZ (by omega)]
  obtain ⟨s',e,i1,i2,i3⟩:=wFq (S:=List Int × Int × Int × List Int) (body:=fun (k204:Nat) ((l195,x198,x199,l200):List Int × Int × Int × List Int) =>
      (wAD (⟨l195,x198,x199⟩:wAA) 2).bind fun (x269,x270) =>
      (app 8 l200 [x269]).bind fun x288 =>
      some (x270.bytes,x270.next,x270.state,x288)) (fun k s=>wCk ⟨s.1,s.2.1,s.2.2.1⟩ (N + (k:Int))/\s.2.2.2.length=k/\∀ c ∈ s.2.2.2,0 <= c/\c <= 3) n 0 (d.bytes,d.next,d.state,[]) ⟨⟨h.1,by have:=h.2;simp only;omega⟩,rfl,fun c hc=>by simp at hc⟩
    (by
      rintro k ⟨B,x,s,l⟩ _ hk ⟨i1,i2,i3⟩
      simp only at i1 i2 i3 ⊢
      obtain ⟨c,d2,e1,g1,c0,c1⟩:=wEK i1 (by omega) 2
      rw [e1,hH]
      simp only
      rw [wCx (by simp;omega),hH]
      refine ⟨_,rfl,⟨g1.1,by have:=g1.2;simp only;omega⟩,by simp [i2],fun a ha=>?_⟩
      rcases nB.1 ha with ha | ha
      · exact i3 a ha
      · simp at ha
        omega)
  rw [ng] at i1 i2
  exact ⟨s',e,⟨i1.1,by have:=i1.2;omega⟩,i2,i3⟩
theorem wMU {d:wAA} {N:Int} (h:wCk d N) (hN:N <= 800000) {m:Int} (hm:1 <= m/\m <= 4):∃ p d',wBK d m=some (p,d')/\wCk d' (N + 16)/\wHZ p/\p.Each <= 2/\(p.Classes.length:Int) <= m:=by
 unfold wBK
 obtain ⟨a1,d1,e1,g1,u1,v1⟩:=wJH h (by omega) (a:=1) (b:=2) (by omega) (by omega) (by omega)
 rw [e1,hH];simp only
 obtain ⟨a2,d2,e2,g2,u2,v2⟩:=wJH g1 (by omega) (a:=1) (b:=3) (by omega) (by omega) (by omega)
 rw [e2,hH];simp only
 obtain ⟨a3,d3,e3,g3,u3,v3⟩:=wEK g2 (by omega) 100
 rw [e3,hH];simp only
 obtain ⟨a4,d4,e4,g4,u4,v4⟩:=wEK g3 (by omega) 100
 rw [e4,hH];simp only
 obtain ⟨a5,d5,e5,g5,u5,v5⟩:=wEK g4 (by omega) 13
 rw [e5,hH];simp only
 obtain ⟨a6,d6,e6,g6,u6,v6⟩:=wJH g5 (by omega) (a:=1) (b:=m) (by omega) (by omega) (by omega)
 rw [e6,hH];simp only
 obtain ⟨n,rfl⟩:∃ n:Nat,a6=n:=⟨a6.toNat,by omega⟩
 obtain ⟨⟨sB,sx,ss,sl⟩,e7,g7,i2,i3⟩:=wMT (n:=n) (by omega) g6 (by omega)
 simp only at g7 i2 i3
 rw [e7,hH];simp only
 rw [wBR (x:=200 + a4) (by omega) (by omega),wBR (x:=100 * a5) (by omega) (by omega)]
 refine ⟨_,_,rfl,⟨g7.1,by have:=g7.2;omega⟩,⟨by simp only;omega,i3,by simp only;omega,by simp only;omega,by simp only;omega,by simp only;omega,by simp only;omega⟩,by simp only;omega,by simp only;omega⟩
end Go.Proofs.YtkedcbligiebkaaGreat
namespace Go.KL
variable {S B α:Type}
theorem wNI [Inhabited α] {l:List α} {i k:Nat} {x:α} (hi:i < l.length) (hk:k < l.length):gd (l.set i x) k=if k=i then x else gd l k:=by
 have h1:=wCR (xs:=l.set i x) (k:=k) (by rw [List.length_set];exact hk)
 rw [List.getElem?_set] at h1
 by_cases e:i=k
 ·subst e
  rw [if_pos rfl,if_pos hi] at h1
  rw [if_pos rfl]
  exact (nD h1).symm
 ·rw [if_neg e,wCR hk] at h1
  rw [if_neg (fun h=>e h.symm)]
  exact (nD h1).symm
end Go.KL
namespace Go.Proofs.YtkedcbligiebkaaGreat
open Go.KL
open Classical
theorem wGU {S:Type} {body:Nat->S->Option S} {n:Nat} {s0:S} (I:Nat->S->Prop) (hn:n <= 1000) (h0:I 0 s0) (h:∀ i s,i < n->I i s->∃ s',body i s=some s'/\I (i + 1) s'):∃ s,wDW 0 (n:Int) body s0=some s/\I n s:=by
 rw [wEZ (by omega)]
 have:=wFq (body:=body) I n 0 s0 h0 fun i s _ h2 h3=>h i s (by omega) h3
 rwa [ng] at this
structure wGt (p:wAB) (s:wAC):Prop where
 rules:wHZ p
 m:1 <= s.Classes.length/\s.Classes.length <= 8
 t:s.Times.length=s.Classes.length
 cls:∀ c ∈ s.Classes,0 <= c/\c <= 3
 row:∀ i,i < s.Classes.length->(gd s.Times i).length=p.Classes.length
 val:∀ i,i < s.Classes.length->∀ j,j < p.Classes.length->0 <= gd (gd s.Times i) j/\gd (gd s.Times i) j <= 100000
theorem wJI {l:List (List Int)} {f:List Int->Option Bool} (hf:∀ a ∈ l,f a=some true) (hn:l.length <= 9223372036854775807):wAz l f=some true:=by
 unfold wAz wAa wAg wAh
 have:=wEa (R:=Int) (l:=l) (f:=fun x=>(f x).bind fun x5=>some (!x5)) (p:=fun _=>false) (fun a ha=>by rw [hf a ha];rfl) hn id
 simp only [id] at this
 rw [this]
 simp only [hH,wEI]
 simp
theorem wPe {α:Type} [Inhabited α] {l:List α} {k:Nat} (h:k < l.length):gd l k=l[k]:=by
 have:=wCR h
 rw [nW h] at this
 exact (nD this).symm
theorem memQ {α:Type} [Inhabited α] {l:List α} {a:α} (h:a ∈ l):∃ i,i < l.length/\gd l i=a:=by
 obtain ⟨i,hi,e⟩:=List.getElem_of_mem h
 exact ⟨i,hi,by rw [wPe hi];exact e⟩
theorem wJJ {p:wAB} {s:wAC} (S:wGt p s):wBF p s=some 0:=by
 have hm:=S.m
 have hn:=S.rules.n
 unfold wBF
 rw [wMS S.rules,hH,if_pos rfl,wIX,hH,wBr (by omega) (by omega),if_pos rfl,if_pos (by rw [S.t]),wJI (fun a ha=>by
  obtain ⟨i,hi,rfl⟩:=memQ ha
  unfold wAq
  rw [decide_eq_true (by rw [S.row i (by rw [<- S.t];exact hi)])]) (by rw [S.t];omega),hH,if_pos rfl]
 have hc:wBD s.Classes=some true:=by
  unfold wBD
  rw [wIY (f:=wAd) (p:=fun n=>inB n 0 3) (fun a=>by unfold wAd;rw [wIX];rfl) (by omega),hH]
  exact congrArg some (nV.2 fun c hc=>wBr (S.cls c hc).1 (S.cls c hc).2)
 rw [hc,hH,if_pos rfl,wJI (fun a ha=>by
  obtain ⟨i,hi,rfl⟩:=memQ ha
  have hi:i < s.Classes.length:=by rw [<- S.t];exact hi
  have rl:=S.row i hi
  unfold wAr
  rw [wIY (f:=wAY) (p:=fun n=>inB n 0 100000) (fun a=>by unfold wAY;rw [wIX];rfl) (by omega),hH]
  refine congrArg some (nV.2 fun c hc=>?_)
  obtain ⟨j,hj,rfl⟩:=memQ hc
  have:=S.val i hi j (by omega)
  exact wBr this.1 this.2) (by rw [S.t];omega),hH,if_pos rfl]
def okA (p:wAB) (s:wAC) (o:List Int) (k:Nat):Prop:=gd s.Classes (gd o k).toNat=gd p.Classes k/\((o.take (k + 1)).count (gd o k):Int) <= p.Each
def vl (s:wAC) (o:List Int):Nat->Int
 | 0=>0
 | k + 1=>vl s o k + gd (gd s.Times (gd o k).toNat) k
noncomputable def tk (p:wAB) (s:wAC) (o:List Int):Option Int:=if ∀ k,k < o.length->okA p s o k then some (vl s o o.length) else none
theorem wMV {p:wAB} {s:wAC} (S:wGt p s) {o:List Int} (hr:∀ i,i < o.length->0 <= gd o i/\gd o i < s.Classes.length):∀ k,k <= o.length->k <= p.Classes.length->0 <= vl s o k/\vl s o k <= 100000 * (k:Int)
 | 0,_,_=>by simp only [vl];omega
 | k + 1,h1,h2=>by
  have a:=wMV S hr k (by omega) (by omega)
  have r:=hr k (by omega)
  have b:=S.val (gd o k).toNat (by omega) k (by omega)
  rw [vl]
  omega
theorem arrN {n:Nat} (a:Arr Int n) {i j:Nat} (hi:i < n) (v:Int):(a.set i v).get j=if j=i then v else a.get j:=by
 unfold Arr.set Arr.get
 simp only [nj]
 by_cases e:j=i
 ·rw [if_pos e,e,List.getElem?_set_self (by rw [a.h];exact hi)]
  rfl
 ·rw [if_neg e,List.getElem?_set_ne (Ne.symm e)]
theorem wMW {p:wAB} {s:wAC} (S:wGt p s) {o:List Int} (ho:o.length <= p.Classes.length) (hr:∀ i,i < o.length->0 <= gd o i/\gd o i < s.Classes.length):wBL ⟨s,p⟩ o=some (match tk p s o with | some v=>(v,true) | none=>(0,false)):=by
 have hm:=S.m;have hn:=S.rules.n;have hE:=S.rules.each
 unfold wBL
 rw [wFr (by omega)]
 rcases wJF (S:=Arr Int 8 × List Int) (B:=Int × Bool) (body:=fun (k31:Nat) ((a26,l27):Arr Int 8 × List Int) =>
  (idx o (↑k31:Int)).bind fun x56 =>
  (chk x56 8).bind fun _ =>
  (wAo (⟨s,p⟩:wAM) x56 (↑k31:Int)).bind fun x76 =>
  if x76=true then
   if p.Each < ((a26.set x56.toNat (w64 ((a26.get x56.toNat) + 1))).get x56.toNat) then
    esc (some (0,false))
   else
    (idx s.Times x56).bind fun x95 =>
    (idx x95 (↑k31:Int)).bind fun x108 =>
    (app 8 l27 [x108]).bind fun x120 =>
    some (.inl ((a26.set x56.toNat (w64 ((a26.get x56.toNat) + 1))),x120))
  else
   esc (some (0,false)))
  (fun k st=>(∀ j,j < k->okA p s o j)/\(∀ v:Nat,v < 8->st.1.get v=((o.take k).count (v:Int):Int))/\st.2=(nU k).map fun j=>gd (gd s.Times (gd o j).toNat) j)
  (fun b=>b=(0,false)/\¬ ∀ k,k < o.length->okA p s o k) o.length 0 (Arr.fill 8 0,[]) ⟨fun j h=>by omega,fun v hv=>by
   rcases (show v=0 \/ v=1 \/ v=2 \/ v=3 \/ v=4 \/ v=5 \/ v=6 \/ v=7 by omega) with rfl | rfl | rfl | rfl | rfl | rfl | rfl | rfl <;> rfl,rfl⟩ (by
  rintro k ⟨a,l⟩ _ hk ⟨i1,i2,i3⟩
  simp only at i2 i3 ⊢
  have hk:k < o.length:=by omega
  obtain ⟨r0,r1⟩:=hr k hk
  have hkp:k < p.Classes.length:=by omega
  have hg:(gd o k).toNat < s.Classes.length:=by omega
  have e1:idx s.Classes (gd o k)=some (gd s.Classes (gd o k).toNat):=by unfold idx;rw [if_pos r0,wCR hg]
  have e2:idx s.Times (gd o k)=some (gd s.Times (gd o k).toNat):=by unfold idx;rw [if_pos r0,wCR (by rw [S.t];exact hg)]
  have cl:(o.take k).count (gd o k) <= k:=nh List.count_le_length (by rw [List.length_take];omega)
  have ga:a.get (gd o k).toNat=((o.take k).count (gd o k):Int):=by
   rw [i2 _ (by omega),nb r0]
  have tc:(o.take (k + 1)).count (gd o k)=(o.take k).count (gd o k) + 1:=by
   rw [wIV hk,nw,nl]
  rw [wDR hk,hH,wJw (by omega) (by omega),hH]
  unfold wAo
  rw [e1,hH,wDR (by omega),hH,hH]
  have w:w64 (a.get (gd o k).toNat + 1)=a.get (gd o k).toNat + 1:=wBR (by omega) (by omega)
  rw [w,arrN _ (by omega),if_pos rfl]
  by_cases c1:gd s.Classes (gd o k).toNat=gd p.Classes k
  ·rw [if_pos (decide_eq_true c1)]
   by_cases c2:p.Each < a.get (gd o k).toNat + 1
   ·rw [if_pos c2]
    refine .inr ⟨_,rfl,rfl,fun h=>?_⟩
    have:=(h k hk).2
    rw [tc] at this
    omega
   ·rw [if_neg c2,e2,hH,wDR (by rw [S.row _ (by omega)];omega),hH,wCx (by rw [i3];simp only [List.length_map,ny,nX,nI];omega),hH]
    refine .inl ⟨_,rfl,fun j hj=>?_,fun v hv=>?_,?_⟩
    ·by_cases e:j=k
     ·rw [e];exact ⟨c1,by rw [tc];omega⟩
     ·exact i1 j (by omega)
    ·simp only
     rw [arrN _ (by omega),wIV hk,nw]
     by_cases e:v=(gd o k).toNat
     ·rw [if_pos e,ga,e,nb r0,nl]
      omega
     ·rw [if_neg e,i2 v hv,List.count_eq_zero_of_not_mem (l:=[gd o k]) (fun h=>by
       rw [nH] at h
       omega)]
      omega
    ·simp only
     rw [i3,List.range_succ,List.map_append]
     rfl
  ·rw [if_neg (by simpa using c1)]
   exact .inr ⟨_,rfl,rfl,fun h=>c1 (h k hk).1⟩) with ⟨⟨a,l⟩,e,i1,_,i3⟩ | ⟨b,e,rfl,hb⟩
 ·rw [ng] at i1 i3
  erw [e]
  have et:tk p s o=some (vl s o o.length):=by unfold tk;rw [if_pos i1]
  rw [et]
  simp only at i3
  show ((wCN l).bind fun x160=>some (x160,true))=_
  rw [i3]
  unfold wCN
  rw [wFs (S:=Int) (n:=((nU o.length).map fun j=>gd (gd s.Times (gd o j).toNat) j).length) (fun k=>vl s o k) (s0:=0) rfl (by simp;omega) fun k hk=>?_]
  ·simp only [hH,List.length_map,ny]
  ·have hk':k < o.length:=by simpa using hk
   have bd:=wMV S hr k (by omega) (by omega)
   have bd2:=wMV S hr (k + 1) (by omega) (by omega)
   rw [vl] at bd2
   have eg:gd ((nU o.length).map fun j=>gd (gd s.Times (gd o j).toNat) j) k=gd (gd s.Times (gd o k).toNat) k:=by
    rw [wOO _ (by simpa using hk')]
    have:gd (nU o.length) k=k:=by
     unfold gd
     rw [nj,List.getElem?_range hk']
     rfl
    rw [this]
   rw [wDR hk,hH,eg,wBR (by omega) (by omega)]
   rfl
 ·erw [e]
  have et:tk p s o=none:=by unfold tk;rw [if_neg hb]
  rw [et]
  rfl
noncomputable def okf (p:wAB) (s:wAC) (w:Int) (x pos:Nat):Bool:=decide ((x:Int) ≠ w/\gd s.Classes x=gd p.Classes pos)
theorem wOT {p:wAB} {s:wAC} (S:wGt p s) (w:Int):∀ (k f:Nat) (o:List Int) (st:List Int × Int),k < f->o.length + k=p.Classes.length->(∀ i,i < o.length->0 <= gd o i/\gd o i < s.Classes.length)->wAc f o ⟨s,p⟩ st.1 st.2 w ()=some ((wEb s.Classes.length (okf p s w) k o).foldl (wLa (tk p s)) st):=by
 have hm:=S.m;have hn:=S.rules.n
 intro k
 induction k with
 | zero =>
  intro f o st hf hl hr
  obtain ⟨f,rfl⟩:∃ g,f=g + 1:=⟨f - 1,by omega⟩
  have oc:wAQ o=some o:=by
   unfold wAQ
   rw [wCx (by simp only [nI];omega)]
   rfl
  have one:o ≠ []:=fun h=>by rw [h] at hl;simp only [nI] at hl;omega
  show wAV (wAc f) o ⟨s,p⟩ st.1 st.2 w ()=_
  unfold wAV
  rw [if_pos (show (o.length:Int)=(p.Classes.length:Int) by omega),wMW S (by omega) hr,hH]
  show _=some (wLa (tk p s) st o)
  unfold wLa
  cases tk p s o with
  | none=>rfl
  | some v =>
   simp only [if_true]
   by_cases c:st.1=[]
   ·rw [if_pos c,if_pos (.inl c),oc,hH,wGI one,hH]
   ·rw [if_neg c]
    by_cases c2:v < st.2
    ·rw [if_pos c2,if_pos (.inr c2),oc,hH,wGI one,hH]
    ·rw [if_neg c2,if_neg (fun h=>h.elim c c2)]
 | succ k ih =>
  intro f o st hf hl hr
  obtain ⟨f,rfl⟩:∃ g,f=g + 1:=⟨f - 1,by omega⟩
  have oc:wAQ o=some o:=by
   unfold wAQ
   rw [wCx (by simp only [nI];omega)]
   rfl
  show wAV (wAc f) o ⟨s,p⟩ st.1 st.2 w ()=_
  unfold wAV
  rw [if_neg (show ¬ (o.length:Int)=(p.Classes.length:Int) by omega)]
  rw [wFs (S:=List Int × Int) (n:=s.Classes.length) (fun q=>((nU q).flatMap fun x=>if okf p s w x o.length=true then wEb s.Classes.length (okf p s w) k (o ++ [(x:Int)]) else []).foldl (wLa (tk p s)) st) (s0:=(st.1,st.2)) rfl (by omega) fun q hq=>?_]
  ·rfl
  ·generalize hQ:((nU q).flatMap fun x=>if okf p s w x o.length=true then wEb s.Classes.length (okf p s w) k (o ++ [(x:Int)]) else []).foldl (wLa (tk p s)) st=S2
   have step:((nU (q + 1)).flatMap fun x=>if okf p s w x o.length=true then wEb s.Classes.length (okf p s w) k (o ++ [(x:Int)]) else []).foldl (wLa (tk p s)) st=(if okf p s w q o.length=true then wEb s.Classes.length (okf p s w) k (o ++ [(q:Int)]) else []).foldl (wLa (tk p s)) S2:=by
    rw [List.range_succ,List.flatMap_append,List.foldl_append,hQ,List.flatMap_singleton]
   rw [step]
   clear hQ step
   obtain ⟨b0,v0⟩:=S2
   simp only
   by_cases c:(q:Int)=w
   ·rw [if_pos c,if_neg (by unfold okf;simp [c])]
    rfl
   ·rw [if_neg c]
    unfold wAo
    rw [wDR hq,hH,wDR (show o.length < p.Classes.length by omega),hH,hH]
    by_cases c2:gd s.Classes q=gd p.Classes o.length
    ·rw [if_pos (decide_eq_true c2),oc,hH,wCx (by simp only [nX,nI];omega),hH,if_pos (by unfold okf;simp [c,c2])]
     rw [ih f (o ++ [(q:Int)]) (b0,v0) (by omega) (by rw [nK,nZ];omega) (fun i hi=>by
      rw [nK,nZ] at hi
      by_cases e:i < o.length
      ·rw [wEJ e];exact hr i e
      ·rw [show i=o.length by omega,wJG];omega)]
     rfl
    ·rw [if_neg (by simpa using c2),if_neg (by unfold okf;simp [c2])]
     rfl
end Go.Proofs.YtkedcbligiebkaaGreat
namespace Go.Proofs.YtkedcbligiebkaaGreat
open Go.KL
theorem wMX (v:Int) {n:Int} (h1:1 <= n) (h2:n <= 100000):∃ x,wBU v n=some x/\0 <= x/\x < n:=by
 unfold wBU
 rw [if_neg (by omega),rem,if_neg (by omega),hH]
 have a1:=Int.lt_tmod_of_pos v (show 0 < n by omega)
 have a2:=nv v (show 0 < n by omega)
 rw [wBR (by omega) (by omega)]
 have b1:=Int.tmod_nonneg n (a:=v.tmod n + n) (by omega)
 have b2:=nv (v.tmod n + n) (show 0 < n by omega)
 rw [rem,if_neg (by omega)]
 exact ⟨_,rfl,b1,b2⟩
end Go.Proofs.YtkedcbligiebkaaGreat
namespace Go.Proofs.YtkedcbligiebkaaGreat
open Go.KL
theorem wIZ {l:List Int} (b:Int) (hn:l.length <= 1000):wAI l b=some (decide (b ∈ l)):=by
 have key:∀ (m k:Nat),k + m=l.length->∃ q,jn (forN (B:=Int) (fun k2 _ =>
   (idx l (↑k2:Int)).bind fun x22 =>
   if b=x22 then
    esc (some (↑k2:Int))
   else
    some (.inl ())) m k ()) (fun _=>some (-1))=some q/\(0 <= q ↔ b ∈ l.drop k):=by
  intro m
  induction m with
  | zero=>intro k hk;exact ⟨-1,rfl,by rw [nq (by omega)];simp⟩
  | succ m ih =>
   intro k hk
   have hlt:k < l.length:=by omega
   rw [forN,wON hlt,wDR hlt,hH]
   by_cases e:b=gd l k
   ·rw [if_pos e]
    exact ⟨(k:Int),rfl,by simp [e]⟩
   ·rw [if_neg e]
    obtain ⟨q,h1,h2⟩:=ih (k + 1) (by omega)
    exact ⟨q,h1,by rw [h2];simp [e]⟩
 unfold wAI wBP
 obtain ⟨q,h1,h2⟩:=key l.length 0 (by omega)
 rw [wFr (by omega),h1,hH]
 rw [List.drop_zero] at h2
 simp [h2]
end Go.Proofs.YtkedcbligiebkaaGreat
namespace Go.Proofs.YtkedcbligiebkaaGreat
open Go.KL
open Classical
structure Adm (p:wAB) (s:wAC) (w:Int) (o:List Int):Prop where
 len:o.length=p.Classes.length
 rg:∀ i,i < p.Classes.length->(0 <= gd o i/\gd o i < s.Classes.length)/\gd o i ≠ w
 ok:∀ i,i < p.Classes.length->okA p s o i
structure wFw (p:wAB) (s:wAC) (w:Int) (st:List Int × Int):Prop where
 none_:st.1=[]->st.2=0/\∀ o,¬ Adm p s w o
 some_:st.1 ≠ []->Adm p s w st.1/\st.2=vl s st.1 p.Classes.length/\∀ o,Adm p s w o->st.2 <= vl s o p.Classes.length
theorem tk_some {p:wAB} {s:wAC} {w:Int} {o:List Int} (h:Adm p s w o):tk p s o=some (vl s o p.Classes.length):=by
 unfold tk
 rw [if_pos (by rw [h.len];exact h.ok),h.len]
theorem wPf {p:wAB} {s:wAC} {o:List Int} {v:Int} (h:tk p s o=some v):∀ k,k < o.length->okA p s o k:=by
 unfold tk at h
 split at h
 ·assumption
 ·cases h
theorem wLd {p:wAB} {s:wAC} {w:Int} {o:List Int} (h:Adm p s w o):o ∈ wEb s.Classes.length (okf p s w) p.Classes.length []:=wFv.2 ⟨h.len,fun i hi=>(h.rg i hi).1,fun i hi=>by
 unfold okf
 have:=h.rg i hi
 have:=h.ok i hi
 unfold okA at this
 rw [decide_eq_true]
 exact ⟨by omega,this.1⟩⟩
theorem wIa {p:wAB} {s:wAC} (S:wGt p s) (w:Int):∃ st,wAm ⟨s,p⟩ w=some st/\wFw p s w st:=by
 have hn:=S.rules.n
 unfold wAm
 have:=wOT S w p.Classes.length 1000 [] ([],0) (by omega) (by simp) (fun i hi=>by simp at hi)
 simp only at this
 rw [this,hH]
 refine ⟨_,rfl,?_⟩
 have L:=wMQ (tk:=tk p s) (L:=wEb s.Classes.length (okf p s w) p.Classes.length []) (fun o ho e=>by
  have:=(wFv.1 ho).len
  rw [e,nI] at this
  omega)
 refine ⟨fun e=>⟨(L.none_ e).1,fun o ho=>?_⟩,fun e=>?_⟩
 ·have:=(L.none_ e).2 o (wLd ho)
  rw [tk_some ho] at this
  cases this
 ·obtain ⟨a,b,c⟩:=L.some_ e
  simp only at a b c ⊢
  have f:=wFv.1 a
  have A:Adm p s w ((wEb s.Classes.length (okf p s w) p.Classes.length []).foldl (wLa (tk p s)) ([],0)).1:=by
   refine ⟨f.len,fun i hi=>⟨f.rg i hi,fun q=>?_⟩,?_⟩
   ·have:=of_decide_eq_true (f.ok i hi)
    rw [nb (f.rg i hi).1] at this
    exact this.1 q
   ·have h:=wPf b
    rw [f.len] at h
    exact h
  refine ⟨A,?_,fun o ho=>c o (wLd ho) _ (tk_some ho)⟩
  rw [tk_some A] at b
  exact (nD b).symm
theorem wGr {p:wAB} {s:wAC} (S:wGt p s):∃ st,wFw p s (-1) st/\wBY p s=some (if st.1=[] then ([],0,6) else (st.1,st.2,0)):=by
 obtain ⟨st,e,h⟩:=wIa S (-1)
 refine ⟨st,h,?_⟩
 unfold wBY
 rw [wJJ S,hH,if_pos rfl,e,hH]
 by_cases c:st.1=[]
 ·simp only [if_pos c]
 ·simp only [if_neg c]
theorem wLe {p:wAB} {s:wAC} {w:Int} {o:List Int} (h:Adm p s w o):Adm p s (-1) o:=⟨h.len,fun i hi=>⟨(h.rg i hi).1,by have:=h.rg i hi;omega⟩,h.ok⟩
theorem wPg {p:wAB} {s:wAC} (S:wGt p s) {w:Int} {o:List Int} (h:Adm p s w o):0 <= vl s o p.Classes.length/\vl s o p.Classes.length <= 400000:=by
 have:=S.rules.n
 have:=wMV S (o:=o) (fun i hi=>(h.rg i (by rw [<- h.len];exact hi)).1) p.Classes.length (by rw [h.len];exact nQ _) (nQ _)
 omega
theorem wJK {p:wAB} {s:wAC} (S:wGt p s) {w:Int} {st:List Int × Int} (h:wFw p s w st):0 <= st.2/\st.2 <= 400000:=by
 by_cases c:st.1=[]
 ·rw [(h.none_ c).1];omega
 ·have:=h.some_ c
  rw [this.2.1]
  exact wPg S this.1
theorem wLf {p:wAB} {s:wAC} (S:wGt p s) {k:Int} (h0:0 <= k) (h1:k < s.Classes.length):∃ st st',wFw p s (-1) st/\wFw p s k st'/\wBn p s k=some (if st'.1=[] then (0,6) else (st'.2 - st.2,0)):=by
 obtain ⟨st,e,h⟩:=wIa S (-1)
 obtain ⟨st',e',h'⟩:=wIa S k
 refine ⟨st,st',h,h',?_⟩
 have hm:=S.m
 unfold wBn
 rw [wJJ S,hH,if_pos rfl,wIX,hH,wBR (by omega) (by omega),wBr h0 (by omega),if_pos rfl,e,hH]
 simp only [e',hH]
 by_cases c:st'.1=[]
 ·simp only [if_pos c]
 ·simp only [if_neg c]
  have a:=wJK S h
  have b:=wJK S h'
  rw [wBR (by omega) (by omega)]
theorem wCg {p:wAB} {s:wAC} {w:Int} {p':wAB} {s':wAC} {w':Int} {a b:List Int × Int} (ha:wFw p s w a) (hb:wFw p' s' w' b) (h:∀ o,Adm p s w o->∃ o',Adm p' s' w' o'/\vl s' o' p'.Classes.length <= vl s o p.Classes.length) (c:a.1 ≠ []):b.1 ≠ []/\b.2 <= a.2:=by
 obtain ⟨A,e,_⟩:=ha.some_ c
 obtain ⟨o',A',l⟩:=h _ A
 have cb:b.1 ≠ []:=fun q=>(hb.none_ q).2 _ A'
 refine ⟨cb,?_⟩
 have:=(hb.some_ cb).2.2 _ A'
 omega
theorem wJL {N:Int} {n:Nat} (hn:n <= 10) {B:List Int} {x y:Int} (h:wCk ⟨B,x,y⟩ N) (hN:N <= 900000) {M base:Int} (hM:1 < M/\M <= 100) (hb:0 <= base/\base <= 10000):∃ s':List Int × Int × Int × List Int,(wDW 0 (n:Int) (fun (k185:Nat) ((l176,x179,x180,l181):List Int × Int × Int × List Int) =>
      (wAD (⟨l176,x179,x180⟩:wAA) M).bind fun (x218,x219) =>
      (app 8 l181 [w64 (base + x218)]).bind fun x237 =>
      some (x219.bytes,x219.next,x219.state,x237)) (B,x,y,[]))=some s'/\wCk ⟨s'.1,s'.2.1,s'.2.2.1⟩ (N + 10)/\s'.2.2.2.length=n/\∀ c ∈ s'.2.2.2,base <= c/\c < base + M:=by
  obtain ⟨s',e,i1,i2,i3⟩:=wGU (S:=List Int × Int × Int × List Int) (n:=n) (s0:=(B,x,y,[])) (body:=fun (k185:Nat) ((l176,x179,x180,l181):List Int × Int × Int × List Int) =>
      (wAD (⟨l176,x179,x180⟩:wAA) M).bind fun (x218,x219) =>
      (app 8 l181 [w64 (base + x218)]).bind fun x237 =>
      some (x219.bytes,x219.next,x219.state,x237)) (fun k s=>wCk ⟨s.1,s.2.1,s.2.2.1⟩ (N + (k:Int))/\s.2.2.2.length=k/\∀ c ∈ s.2.2.2,base <= c/\c < base + M) (by omega) ⟨⟨h.1,by have:=h.2;simp only at this ⊢;omega⟩,rfl,fun c hc=>by simp at hc⟩
    (by
      rintro k ⟨B,x,s,l⟩ hk ⟨i1,i2,i3⟩
      simp only at i1 i2 i3 ⊢
      obtain ⟨c,d2,e1,g1,c0,c1⟩:=wEK i1 (by omega) M
      rw [e1,hH]
      simp only
      rw [wCx (by simp;omega),hH,wBR (by omega) (by omega)]
      refine ⟨_,rfl,⟨g1.1,by have:=g1.2;simp only;omega⟩,by simp [i2],fun a ha=>?_⟩
      rcases nB.1 ha with ha | ha
      · exact i3 a ha
      · simp at ha
        omega)
  exact ⟨s',e,⟨i1.1,by have:=i1.2;simp only at this ⊢;omega⟩,i2,i3⟩
theorem wLg (p0:List Int):∃ p s d,wBC ⟨p0,0,17⟩ 7=some (p,s,d)/\wGt p s/\p.Each <= 2/\s.Classes.length <= 7/\∀ i,i < s.Classes.length->∀ j,j < p.Classes.length->2000 <= gd (gd s.Times i) j/\gd (gd s.Times i) j < 2060:=by
 unfold wBC
 obtain ⟨p,d1,e1,g1,R,r1,r2⟩:=wMU (d:=⟨p0,0,17⟩) (N:=0) ⟨by simp,by simp⟩ (by omega) (m:=4) (by omega)
 have hn:=R.n
 rw [e1,hH];simp only
 obtain ⟨a,d2,e2,g2,a1,a2⟩:=wJH g1 (by omega) (a:=1) (b:=7) (by omega) (by omega) (by omega)
 rw [e2,hH];simp only
 obtain ⟨n,rfl⟩:∃ n:Nat,a=n:=⟨a.toNat,by omega⟩
 obtain ⟨⟨B,x,y,C,T⟩,e,i1,i2,i3,i4,i5⟩:=wGU (S:=List Int × Int × Int × List Int × List (List Int)) (n:=n) (s0:=(d2.bytes,d2.next,d2.state,[],[])) (body:=(fun (k112:Nat) ((l97,x100,x101,l102,l106):List Int × Int × Int × List Int × List (List Int)) =>
  (wDW 0 (↑p.Classes.length:Int) (fun (k185:Nat) ((l176,x179,x180,l181):List Int × Int × Int × List Int) =>
   (wAD (⟨l176,x179,x180⟩:wAA) 60).bind fun (x218,x219) =>
   (app 8 l181 [w64 (2000 + x218)]).bind fun x237 =>
   some (x219.bytes,x219.next,x219.state,x237)) (l97,x100,x101,[])).bind fun (y190,y191,y192,y193) =>
  (wAD (⟨y190,y191,y192⟩:wAA) 2).bind fun (x348,x349) =>
  (app 8 l102 [x348]).bind fun x367 =>
  (app 24 l106 [y193]).bind fun x387 =>
  some (x349.bytes,x349.next,x349.state,x367,x387))) (fun k s=>wCk ⟨s.1,s.2.1,s.2.2.1⟩ (1000 + 20 * (k:Int))/\s.2.2.2.1.length=k/\s.2.2.2.2.length=k/\(∀ c ∈ s.2.2.2.1,0 <= c/\c <= 3)/\∀ r ∈ s.2.2.2.2,r.length=p.Classes.length/\∀ v ∈ r,2000 <= v/\v < 2060) (by omega) ⟨⟨g2.1,by have:=g2.2;simp only at this ⊢;omega⟩,rfl,rfl,fun c hc=>by simp at hc,fun c hc=>by simp at hc⟩
  (by
   rintro k ⟨B,x,y,C,T⟩ hk ⟨i1,i2,i3,i4,i5⟩
   simp only at i1 i2 i3 i4 i5 ⊢
   obtain ⟨⟨B2,x2,y2,r⟩,e3,j1,j2,j3⟩:=wJL (n:=p.Classes.length) (by omega) i1 (by omega) (M:=60) (base:=2000) (by omega) (by omega)
   rw [e3,hH]
   simp only at j1 j2 j3 ⊢
   obtain ⟨c,d3,e4,g4,c0,c1⟩:=wEK j1 (by omega) 2
   rw [e4,hH]
   simp only
   rw [wCx (by simp;omega),hH,wCx (by simp;omega),hH]
   refine ⟨_,rfl,⟨g4.1,by have:=g4.2;simp only at this ⊢;omega⟩,by simp [i2],by simp [i3],fun a ha=>?_,fun a ha=>?_⟩
   ·rcases nB.1 ha with ha | ha
    ·exact i4 a ha
    ·simp at ha
     omega
   ·rcases nB.1 ha with ha | ha
    ·exact i5 a ha
    ·rw [nH.1 ha]
     exact ⟨j2,fun v hv=>by have:=j3 v hv;omega⟩)
 simp only at i1 i2 i3 i4 i5
 rw [e,hH];simp only [hH]
 have rl:∀ i,i < n->(gd T i).length=p.Classes.length/\∀ v ∈ gd T i,2000 <= v/\v < 2060:=fun i hi=>i5 _ (wFt (by omega))
 have vb:∀ i,i < n->∀ j,j < p.Classes.length->2000 <= gd (gd T i) j/\gd (gd T i) j < 2060:=fun i hi j hj=>(rl i hi).2 _ (wFt (by rw [(rl i hi).1];exact hj))
 refine ⟨_,_,_,rfl,⟨R,by simp only;omega,by simp only;omega,i4,fun i hi=>(rl i (by simp only at hi;omega)).1,fun i hi j hj=>?_⟩,r1,by simp only;omega,fun i hi j hj=>vb i (by simp only at hi;omega) j hj⟩
 have:=vb i (by simp only at hi;omega) j hj
 simp only
 omega
end Go.Proofs.YtkedcbligiebkaaGreat
namespace Go.Proofs.YtkedcbligiebkaaGreat
open Go.KL
open Classical
theorem wOU {l:List Int} (h:l.length <= 100000):wAZ l=some l:=by
 unfold wAZ
 rw [wCx (by simp only [nI];omega)]
 rfl
theorem wOV {l:List (List Int)} (h:l.length <= 1000) (hr:∀ r ∈ l,r.length <= 1000):wAj l=some l:=by
 unfold wAj
 rw [wFs (S:=List (List Int)) (n:=l.length) (fun k=>l.take k) (s0:=[]) rfl (by omega) fun k hk=>?_]
 ·rw [List.take_length];rfl
 ·have:=hr _ (wFt hk)
  rw [wDR hk,hH,wOU (by omega),hH,wCx (by rw [List.length_take];simp;omega),hH,wIV hk]
theorem wPh {p:wAB} {s:wAC} (S:wGt p s):wAX s=some s:=by
 have hm:=S.m;have hn:=S.rules.n
 unfold wAX
 rw [wOU (by omega),hH,wOV (by rw [S.t];omega) (fun r hr=>by
  obtain ⟨i,hi,rfl⟩:=memQ hr
  rw [S.row i (by rw [<- S.t];exact hi)]
  omega),hH]
theorem wPi {p:wAB} (R:wHZ p):wAk p=some p:=by
 have hn:=R.n
 unfold wAk
 rw [wOU (by omega),hH]
theorem wMY {s s':wAC} {o:List Int}:∀ k,(∀ j,j < k->gd (gd s'.Times (gd o j).toNat) j <= gd (gd s.Times (gd o j).toNat) j)->vl s' o k <= vl s o k
 | 0,_=>nJ _
 | k + 1,h=>by
  have a:=wMY k fun j hj=>h j (by omega)
  have b:=h k (by omega)
  rw [vl,vl]
  omega
theorem wOW {p:wAB} {s:wAC} (S:wGt p s) (h7:s.Classes.length <= 7) {c:Int} (hc:0 <= c/\c <= 3) {r:List Int} (hr:r.length=p.Classes.length) (hv:∀ v ∈ r,0 <= v/\v <= 100000):wGt p ⟨s.Classes ++ [c],s.Times ++ [r]⟩:=by
 have hm:=S.m
 have row:∀ i,i < s.Classes.length->gd (s.Times ++ [r]) i=gd s.Times i:=fun i hi=>wEJ (by rw [S.t];exact hi)
 have last:gd (s.Times ++ [r]) s.Classes.length=r:=by rw [<- S.t];exact wJG _ _ _
 refine ⟨S.rules,by simp;omega,by simp [S.t],fun a ha=>?_,fun i hi=>?_,fun i hi j hj=>?_⟩
 ·rcases nB.1 ha with ha | ha
  ·exact S.cls a ha
  ·rw [nH.1 ha];exact hc
 ·simp only [nK,nX,nI] at hi ⊢
  by_cases e:i < s.Classes.length
  ·rw [row i e];exact S.row i e
  ·rw [show i=s.Classes.length by omega,last];exact hr
 ·simp only [nK,nX,nI] at hi ⊢
  by_cases e:i < s.Classes.length
  ·rw [row i e];exact S.val i e j hj
  ·rw [show i=s.Classes.length by omega,last];exact hv _ (wFt (by omega))
theorem wEL {p:wAB} {s:wAC} (S:wGt p s) {c:Int} {r:List Int} {o:List Int} (h:Adm p s (-1) o):Adm p ⟨s.Classes ++ [c],s.Times ++ [r]⟩ (s.Classes.length:Int) o/\vl ⟨s.Classes ++ [c],s.Times ++ [r]⟩ o p.Classes.length=vl s o p.Classes.length:=by
 have t:∀ j,j < p.Classes.length->gd (s.Times ++ [r]) (gd o j).toNat=gd s.Times (gd o j).toNat:=fun j hj=>wEJ (by have:=(h.rg j hj).1;rw [S.t];omega)
 refine ⟨⟨h.len,fun i hi=>?_,fun i hi=>?_⟩,Int.le_antisymm (wMY _ fun j hj=>by rw [t j hj];exact nJ _) (wMY _ fun j hj=>by rw [t j hj];exact nJ _)⟩
 ·have:=(h.rg i hi).1
  simp only [nK,nX,nI]
  omega
 ·have:=h.ok i hi
  have g:=(h.rg i hi).1
  unfold okA at this ⊢
  simp only
  rw [wEJ (by omega)]
  exact this
theorem wHa {p:wAB} {s:wAC} (S:wGt p s) {c:Int} {r:List Int} {o:List Int} (h:Adm p ⟨s.Classes ++ [c],s.Times ++ [r]⟩ (s.Classes.length:Int) o):Adm p s (-1) o:=by
 have g:∀ i,i < p.Classes.length->0 <= gd o i/\gd o i < s.Classes.length:=fun i hi=>by
  have:=h.rg i hi
  simp only [nK,nX,nI] at this
  omega
 refine ⟨h.len,fun i hi=>⟨g i hi,by have:=g i hi;omega⟩,fun i hi=>?_⟩
 have:=h.ok i hi
 have gi:=g i hi
 unfold okA at this ⊢
 simp only at this
 rw [wEJ (by omega)] at this
 exact this
theorem wOX {p:wAB} {s:wAC} (S:wGt p s) {k c:Nat} (hk:k < s.Classes.length) (hc:c < p.Classes.length) {v:Int} (h0:0 <= v) (h1:v <= gd (gd s.Times k) c):wGt p ⟨s.Classes,s.Times.set k ((gd s.Times k).set c v)⟩/\∀ i,i < s.Classes.length->∀ j,j < p.Classes.length->gd (gd (s.Times.set k ((gd s.Times k).set c v)) i) j <= gd (gd s.Times i) j:=by
 have g:∀ i,i < s.Classes.length->gd (s.Times.set k ((gd s.Times k).set c v)) i=if i=k then (gd s.Times k).set c v else gd s.Times i:=fun i hi=>wNI (by rw [S.t];exact hk) (by rw [S.t];exact hi)
 have gj:∀ j,j < p.Classes.length->gd ((gd s.Times k).set c v) j=if j=c then v else gd (gd s.Times k) j:=fun j hj=>wNI (by rw [S.row k hk];exact hc) (by rw [S.row k hk];exact hj)
 have b:=S.val k hk c hc
 refine ⟨⟨S.rules,S.m,by simp [S.t],S.cls,fun i hi=>?_,fun i hi j hj=>?_⟩,fun i hi j hj=>?_⟩
 ·simp only at hi ⊢
  rw [g i hi]
  by_cases e:i=k
  ·rw [if_pos e,List.length_set];exact S.row k hk
  ·rw [if_neg e];exact S.row i hi
 ·simp only at hi ⊢
  rw [g i hi]
  by_cases e:i=k
  ·rw [if_pos e,gj j hj]
   by_cases e2:j=c
   ·rw [if_pos e2];omega
   ·rw [if_neg e2];exact S.val k hk j hj
  ·rw [if_neg e];exact S.val i hi j hj
 ·rw [g i hi]
  by_cases e:i=k
  ·rw [if_pos e,gj j hj,e]
   by_cases e2:j=c
   ·rw [if_pos e2,e2];exact h1
   ·rw [if_neg e2];exact nJ _
  ·rw [if_neg e];exact nJ _
theorem nm {p:wAB} {s:wAC} {b:List Int} (B:Adm p s (-1) b) {k:Int} (h:k ∉ b):Adm p s k b:=⟨B.len,fun i hi=>⟨(B.rg i hi).1,fun e=>h (e ▸ wFt (by rw [B.len];exact hi))⟩,B.ok⟩
theorem wMZ (p0 p1:List Int) (p2:Int) (_:-9223372036854775808 <= p2) (_:p2 <= 9223372036854775807):wBG p0 p1 p2=some true:=by
 unfold wBG wBg
 have aw:wBT=some true:=rfl
 rw [hH]
 obtain ⟨p,s,dd,e1,S,hE,h7,hv⟩:=wLg p0
 have hm:=S.m;have hn:=S.rules.n
 rw [e1,hH];simp only [hH]
 obtain ⟨st,B,e2⟩:=wGr S
 rw [e2,hH]
 by_cases c:st.1=[]
 ·rw [if_pos c]
  simp only [if_true]
  rw [if_neg (by decide),aw,hH]
 rw [if_neg c]
 simp only [if_true]
 obtain ⟨A,ev,least⟩:=B.some_ c
 obtain ⟨k,e3,k0,k1⟩:=wMX p2 (n:=(s.Classes.length:Int)) (by omega) (by omega)
 rw [e3,hH]
 obtain ⟨sa,sb,BA,BB,e4⟩:=wLf S k0 (by omega)
 have hsa:=wCg BA B (fun o ho=>⟨o,ho,nJ _⟩) (fun q=>(BA.none_ q).2 _ A)
 have hsb:=wCg B BA (fun o ho=>⟨o,ho,nJ _⟩) c
 have eqa:sa.2=st.2:=by omega
 have bl:st.1.length <= 1000:=by rw [A.len];omega
 rw [e4,hH]
 have cb:∀ k':Int,wAI st.1 k'=some (decide (k' ∈ st.1)):=fun k'=>wIZ k' bl
 have hb:(if (if sb.1=[] then ((0,6):Int × Int) else (sb.2 - sa.2,0)).2=0 then
   if (if sb.1=[] then ((0,6):Int × Int) else (sb.2 - sa.2,0)).1 < 0 then
    some true
   else
    if 0 < (if sb.1=[] then ((0,6):Int × Int) else (sb.2 - sa.2,0)).1 then
     (wAI st.1 k).bind fun x163 =>
     if x163=true then
      if (if sb.1=[] then ((0,6):Int × Int) else (sb.2 - sa.2,0)).2=6 then
       (wAI st.1 k).bind fun x178 =>
       some (!x178)
      else
       some false
     else
      some true
    else
     if (if sb.1=[] then ((0,6):Int × Int) else (sb.2 - sa.2,0)).2=6 then
      (wAI st.1 k).bind fun x201 =>
      some (!x201)
     else
      some false
  else
   if (if sb.1=[] then ((0,6):Int × Int) else (sb.2 - sa.2,0)).2=6 then
    (wAI st.1 k).bind fun x222 =>
    some (!x222)
   else
    some true)=some false:=by
  rw [cb]
  by_cases d:sb.1=[]
  ·simp only [if_pos d]
   rw [if_neg (by decide),hH]
   have:k ∈ st.1:=no fun q=>(BB.none_ d).2 _ (nm A q)
   simp [this]
  ·simp only [if_neg d,if_true]
   have le:=(wCg BB BA (fun o ho=>⟨o,wLe ho,nJ _⟩) d).2
   rw [if_neg (by omega)]
   by_cases g:0 < sb.2 - sa.2
   ·have:k ∈ st.1:=no fun q=>by
     have:=(BB.some_ d).2.2 _ (nm A q)
     omega
    rw [if_pos g,hH]
    simp [this]
   ·rw [if_neg g]
    simp
 erw [hb]
 rw [hH,if_neg (by decide),wPh S,hH,hH,wPi S.rules,hH,hH]
 clear hb cb e2 e4 BB hsa hsb eqa BA
 obtain ⟨⟨B2,x2,y2,r⟩,e5,j1,j2,j3⟩:=wJL (n:=p.Classes.length) (by omega) (B:=p1) (x:=0) (y:=17) (N:=0) ⟨by simp,by simp⟩ (by omega) (M:=80) (base:=1980) (by omega) (by omega)
 simp only at j1 j2 j3 ⊢
 erw [e5]
 rw [hH]
 simp only
 obtain ⟨cc,d3,e6,g6,c0,c1⟩:=wEK j1 (by omega) 2
 rw [e6,hH]
 simp only
 rw [wCx (by simp;omega),hH,wCx (by simp [S.t];omega),hH,hH]
 simp only
 rw [wJw k0 (by rw [S.t];exact k1),hH]
 obtain ⟨cl,d4,e7,g7,l0,l1⟩:=wEK g6 (by omega) (p.Classes.length:Int)
 erw [e7]
 rw [hH]
 simp only
 rw [wJw l0 (by rw [S.row k.toNat (by omega)];omega),hH]
 obtain ⟨xx,d5,e8,g8,q0,q1⟩:=wEK g7 (by omega) 100
 rw [e8,hH]
 simp only
 have hold:=hv k.toNat (by omega) cl.toNat (by omega)
 have ST:=wOW S h7 (c:=cc) (by omega) j2 (fun v hv=>by have:=j3 v hv;omega)
 obtain ⟨SF,lf⟩:=wOX S (k:=k.toNat) (c:=cl.toNat) (by omega) (by omega) (v:=w64 (gd (gd s.Times k.toNat) cl.toNat - xx)) (by rw [wBR (by omega) (by omega)];omega) (by rw [wBR (by omega) (by omega)];omega)
 have we:w64 (p.Each + 1)=p.Each + 1:=wBR (by have:=S.rules.each;omega) (by omega)
 have RL:wHZ ⟨p.Classes,w64 (p.Each + 1),p.Laps,p.Spare,p.Loop,p.Unused⟩:=⟨S.rules.n,S.rules.cls,by have:=S.rules.each;simp only [we];omega,S.rules.laps,S.rules.spare,S.rules.loop,S.rules.unused⟩
 have SL:wGt ⟨p.Classes,w64 (p.Each + 1),p.Laps,p.Spare,p.Loop,p.Unused⟩ s:=⟨RL,S.m,S.t,S.cls,S.row,S.val⟩
 obtain ⟨t1,T1,f1⟩:=wGr ST
 obtain ⟨t2,T2,f2⟩:=wGr SF
 obtain ⟨t3,T3,f3⟩:=wGr SL
 obtain ⟨ta,tb,TA,TB,f4⟩:=wLf ST (k:=(s.Classes.length:Int)) (by omega) (by simp;omega)
 have n1:=wCg B T1 (fun o ho=>⟨o,wLe (wEL S ho).1,by rw [(wEL S ho).2];exact nJ _⟩) c
 have n2:=wCg B T2 (fun o ho=>⟨o,⟨ho.len,ho.rg,ho.ok⟩,wMY _ fun j hj=>lf _ (by have:=(ho.rg j hj).1;omega) j hj⟩) c
 have n3:=wCg B T3 (fun o ho=>⟨o,⟨ho.len,ho.rg,fun i hi=>⟨(ho.ok i hi).1,by have:=(ho.ok i hi).2;simp only [we];omega⟩⟩,nJ _⟩) c
 have n4:=wCg B TB (fun o ho=>⟨o,(wEL S ho).1,by rw [(wEL S ho).2];exact nJ _⟩) c
 have n5:=wCg TB B (fun o ho=>⟨o,wHa S ho,by rw [<- (wEL (c:=cc) (r:=r) S (wHa S ho)).2];exact nJ _⟩) n4.1
 have n6:=wCg T1 TA (fun o ho=>⟨o,ho,nJ _⟩) n1.1
 have n7:=wCg TA T1 (fun o ho=>⟨o,ho,nJ _⟩) n6.1
 have bt:=wJK ST T1
 have bs:=wJK S B
 rw [f1,if_neg n1.1,hH]
 erw [f2]
 rw [if_neg n2.1,hH,f3,if_neg n3.1,hH,f4,if_neg n4.1,hH]
 simp only [if_true]
 rw [if_pos n1.2,if_pos n2.2,if_pos n3.2,if_pos (by rw [wBR (by omega) (by omega)];omega),aw,hH]
end Go.Proofs.YtkedcbligiebkaaGreat
