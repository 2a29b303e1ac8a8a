import Derived.Test.YtghaibkggdecnaaGreatV1
import Derived.Test.YtghaibkggdecnaaGreatV0
set_option linter.all false
open Option renaming bind_some->hH
open List renaming length_append->nA,append_assoc->nB,take_append_drop->nD,pairwise_append->nG,length_take->nI,mem_cons->nK,getElem?_eq_getElem->nM,length_drop->nN,getElem_of_mem->nO,mem_append_right->nP,mem_append->nQ,drop_eq_getElem_cons->nR,getElem?_append_left->nS,length_singleton->nT,eq_nil_of_length_eq_zero->nU,append_of_mem->nV,set->nW,mem_append_left->nX,getElem?_eq_some_iff->na,length_cons->nb,take_length->nc,drop_eq_nil_of_le->nf,pairwise_cons->ng,length_set->nh,set_append_right->ni,getElem?_append_right->nj,getD_eq_getElem?_getD->nk,pairwise_iff_getElem->no,all_eq_true->np,append_nil->nq,nodup_iff_pairwise_ne->nv,length_map->nw,foldl_cons->ny,mem_map->kA,getElem_drop->kC,getElem_take->kD,take_of_length_le->kE,cons_append->kG,getElem_map->kH,getElem?_eq_none->kJ,mem_cons_of_mem->kL,map_append->kM,getElem?_take->kP,getElem?_drop->kQ,perm_append_singleton->kR,ext_getElem?->kS,getElem_mem->kW,length_nil->kY,length_eq_one_iff->kZ,mem_of_mem_take->ke,map_cons->kg,map_congr_left->kh,getElem?_range->ki,mem_singleton->kj,getElem?_map->km,nodup_append->kq,foldl_append->kr,range->ku
open Bool renaming false_eq_true->nE,and_eq_true->nH
open Option.some renaming inj->nJ
open Nat renaming le_refl->nL,eq_of_beq_eq_true->nZ,min_eq_left->nr,min_eq_right->nu,zero_add->nz,lt_trichotomy->kB,sub_self->kK,le_trans->kU,lt_or_ge->kV,le_of_lt->kX,lt_irrefl->kf,add_sub_cancel->kk
open Int renaming toNat_natCast->nY,tmod_eq_emod_of_nonneg->nl,emod_add_mul_ediv->nt,emod_nonneg->kO,emod_lt_of_pos->kl
open List.Perm renaming append_left->kc,refl->kv
open List.Pairwise renaming nil->ko
open List.cons renaming inj->kx
namespace Go.KX
open Go.RowKit Go.KL
section
variable {tb:Tr AF} {ex exY:Run} {P:Program} {N:Nat} {l:List Oper} {os s t:List AO} {a:AO} {σ0 σA σf:Tr AV} {h0 h hf:AH} {μ μS:Mu} {σ σ':Env} {w:World} {o:Oper}
theorem wCd:∀ (l1 l2:List AO) (x:Tr AV) (y:AH) (x1:Tr AV) (y1:AH),wAX tb ex exY l1 x y=some (x1,y1)->wAX tb ex exY (l1 ++ l2) x y=wAX tb ex exY l2 x1 y1
 | [],l2,x,y,x1,y1,h=>by rw [wAf] at h;cases h;rfl
 | b :: l1,l2,x,y,x1,y1,h=>by
  rw [kG,wAh]
  rw [wAh] at h
  cases hb:wBl x b.grd with
  | true =>
   rw [hb] at h
   simp only at h ⊢
   cases hq:opK b.kd b.op tb ex exY x y with
   | none=>rw [hq] at h;cases h
   | some r=>rw [hq] at h;exact wCd l1 l2 _ _ _ _ h
  | false =>
   rw [hb] at h
   exact wCd l1 l2 _ _ _ _ h
theorem wNw (HE:FrX ex) (HY:FrX exY) (Z:ZOK P N l os) (e:os=s ++ t) (hs:wAX tb ex exY s σ0 h0=some (σA,h)) {b:AO} (hb:b ∈ t) {s1 t1:List AO} {σ1:Tr AV} {h1:AH} (e1:os=s1 ++ b :: t1) (hr:wAX tb ex exY s1 σ0 h0=some (σ1,h1)):h.nx.nat <= h1.nx.nat:=by
 obtain ⟨r,r',rfl⟩:=nV hb
 have es:s1=s ++ r:=(wBt (e1 ▸ Z.one) (e1.symm.trans (e.trans (nB _ _ _).symm))).1
 subst es
 rw [wCd s r _ _ _ _ hs] at hr
 exact (wGE HE HY _ _ _ _ _ hr).nx
theorem wEn (Z:ZOK P N l os) {S:Nat->Bool} (hdc:∀ k,k < l.length->S k=true->∀ j ∈ prI l k,S j=true) (ha:a ∈ os) (hS:S a.ix=false) {b:AO} (hb:b ∈ os) (hbS:S b.ix=true) (A:AOK P N l a o) {ob:Oper} (hob:l[b.ix]?=some ob) (v:Value):Agr l ob σ (put' σ o v):=by
 obtain ⟨ob',B⟩:=wCC (Z.ao b hb)
 have eo:ob'=ob:=by have:=B.get;rw [hob] at this;exact (nJ this).symm
 subst eo
 intro d hd
 obtain ⟨p,hp,rfl⟩:=wDQ B (Z.sub b hb _ B.get) d hd
 symm
 refine wEr fun dd hdd e=>?_
 rcases A.dst with ⟨_,h2⟩ | ⟨q,d',h1,h2,h3,_⟩
 ·rw [h2] at hdd;cases hdd
 ·rw [h2] at hdd
  have hdd:=nJ hdd
  have eq:q=p:=Pos.nat_inj (by have:=q.nat_pos;have:=p.nat_pos;have:q.nat - 1=p.nat - 1:=h3.symm.trans (hdd.trans e);omega)
  subst eq
  have:=Z.rdS b hb q hp a ha h1
  have hlt:b.ix < l.length:=(na.1 hob).1
  have:=wCt hdc (hdc _ hlt hbS) this
  rw [hS] at this
  cases this
theorem JS.fixed (HC:wEa (CC P) P tb ex) (HY':wDi (CC P) P exY) (HE:FrX ex) (HY:FrX exY) (Z:ZOK P N l os) {μ0:Mu} {w0:World} {S:Nat->Bool} (J:JS tb ex exY P l os σ0 h0 σf hf μ0 w0 S σ w s (a :: t) σA h σ' μ μS) (hfix:wBT a.kd=true) (hS:S a.ix=false)
  (hdc:∀ k,k < l.length->S k=true->∀ j ∈ prI l k,S j=true) (A:AOK P N l a o) :
  Step1 P l o σ w fun v w'=>∃ σB hB σ'' μB μT,JS tb ex exY P l os σ0 h0 σf hf μ0 w0 (fun k=>k == a.ix || S k) (put' σ o v) w' (s ++ [a]) t σB hB σ'' μB μT:=by
 have ha:a ∈ os:=by rw [J.e];simp
 have hsel:=Z.sel a ha _ A.get
 have hag:∀ q ∈ wBX a,σ (q.nat - 1)=σ' (q.nat - 1):=fun q hq=>J.ag q fun b hb _=>Z.rd s a t J.e q hq b hb
 have hagr:Agr l o σ σ':=fun d hd=>by
  obtain ⟨q,h1,rfl⟩:=wDQ A (Z.sub a ha _ A.get) d hd
  exact hag q h1
 have hw:=wGa A J.env
 have main:∀ (v:AV) (cv:Value) (hB:AH) (w':World) (μB:Mu),wAX tb ex exY (s ++ [a]) σ0 h0=some (wEd a.dst σA v,hB)->wAX tb ex exY t (wEd a.dst σA v) hB=some (σf,hf) ->
   Ext μ h.fl.nat w μB w'->Sim (CC P) P μB hB w'->EnvR μB (wEd a.dst σA v) (put' σ' o cv)->hB.fl=h.fl ->
   ∃ σB hB σ'' μB μT,JS tb ex exY P l os σ0 h0 σf hf μ0 w0 (fun k=>k == a.ix || S k) (put' σ o cv) w' (s ++ [a]) t σB hB σ'' μB μT:=by
  intro v cv hB w' μB r1 r2 E' S' hE' hfl
  have hne:∀ b ∈ t,b.ix ≠ a.ix:=fun b hb e=>by
   have:=Z.one
   rw [J.e] at this
   exact (ng.1 (nG.1 this).2.1).1 b hb e.symm
  have hSb:∀ b ∈ t,(b.ix == a.ix || S b.ix)=true->S b.ix=true:=fun b hb h=>by
   have:=hne b hb
   simpa [this] using h
  have hbo:∀ b ∈ t,b ∈ os:=fun b hb=>by rw [J.e];simp [hb]
  have eB:os=(s ++ [a]) ++ t:=by rw [J.e];simp
  have hnm:∀ b ∈ t,∀ s1 t1 σ1 h1,os=s1 ++ b :: t1->wAX tb ex exY s1 σ0 h0=some (σ1,h1)->μB h1.nx=none/\μ h1.nx=none:=fun b hb s1 t1 σ1 h1 e1 hr=>by
   have g1:=wNw HE HY Z eB r1 hb e1 hr
   have g2:=wNw HE HY Z J.e J.hs (b:=b) (by simp [hb]) e1 hr
   exact ⟨S'.nx _ g1,J.sim.nx _ g2⟩
  let μT:Mu:=fun q=>match μB q with | some c=>some c | none=>μS q
  have hT:μB.Le μT:=fun q c hq=>by show (match μB q with | some c=>some c | none=>μS q)=_;rw [hq]
  have hST:μS.Le μT:=fun q c hq=>by
   show (match μB q with | some c=>some c | none=>μS q)=_
   cases hB:μB q with
   | none=>exact hq
   | some c' =>
    rcases J.nm q c hq with h1 | ⟨b,ob,s1,t1,σ1,h1,k1,k2,k3,k4,k5,k6,k7,k8⟩
    ·rw [E'.mono _ _ h1] at hB
     exact hB.symm ▸ rfl
    ·rcases nK.1 k1 with rfl | k1
     ·rw [hS] at k2;cases k2
     ·have:=(hnm b k1 s1 t1 σ1 h1 k6 k7).1
      rw [<- k8,hB] at this
      cases this
  refine ⟨_,hB,_,μB,μT,eB,r1,r2,fun b hb=>?_,fun b hb hh=>J.free b (by simp [hb]) (hSb b hb hh),?_,S',hfl.trans J.fl,hE',fun q hq=>?_,hT,fun q c hq=>?_,fun b hb hh=>?_⟩
  ·rcases nQ.1 hb with hb | hb
   ·simp [J.inS b hb]
   ·rw [kj.1 hb];simp
  ·have:=J.E
   refine this.trans ?_
   rw [<- J.fl]
   exact E'
  ·have old:σ (q.nat - 1)=σ' (q.nat - 1) \/ a.dst=some q:=by
    by_cases hq':a.dst=some q
    ·exact .inr hq'
    ·exact .inl (J.ag q fun b hb h=>by
      rcases nK.1 hb with rfl | hb
      ·exact hq'
      ·exact hq b hb (by simp [h]))
   rcases A.dst with ⟨h1,h2⟩ | ⟨p,d,h1,h2,h3,_⟩
   ·unfold put'
    rw [h2]
    rcases old with old | old
    ·exact old
    ·rw [h1] at old;cases old
   ·unfold put'
    rw [h2]
    by_cases e:q.nat - 1=d
    ·simp only [e,wBz]
    ·simp only
     rw [wCg _ _ e,wCg _ _ e]
     rcases old with old | old
     ·exact old
     ·rw [h1] at old
      cases old
      exact absurd h3.symm e
  ·have hq:(match μB q with | some c=>some c | none=>μS q)=some c:=hq
   cases hB':μB q with
   | some c' =>
    rw [hB'] at hq
    exact .inl hq
   | none =>
    rw [hB'] at hq
    rcases J.nm q c hq with h1 | ⟨b,ob,s1,t1,σ1,h1,k1,k2,k3,k4,k5,k6,k7,k8⟩
    ·rw [E'.mono _ _ h1] at hB'
     cases hB'
    ·rcases nK.1 k1 with rfl | k1
     ·rw [hS] at k2;cases k2
     ·exact .inr ⟨b,ob,s1,t1,σ1,h1,k1,by simp [k2],k3,(wBV (wEn Z hdc ha hS (hbo b k1) k2 A k3 cv)).symm.trans k4,k5,k6,k7,k8⟩
  ·have hbS:=hSb b hb hh
   obtain ⟨ob,p,Pd⟩:=J.pd b (by simp [hb]) hbS
   have hA:=wEn (σ:=σ) Z hdc ha hS (hbo b hb) hbS A Pd.get cv
   have hp:put' σ o cv (p.nat - 1)=σ (p.nat - 1):=wEr fun d hd e=>by
    rcases A.dst with ⟨_,h2⟩ | ⟨q,d',h1,h2,h3,_⟩
    ·rw [h2] at hd;cases hd
    ·rw [h2] at hd
     have hd:=nJ hd
     have eq:q=p:=Pos.nat_inj (by have:=q.nat_pos;have:=p.nat_pos;have:q.nat - 1=p.nat - 1:=h3.symm.trans (hd.trans e);omega)
     subst eq
     exact Z.wr s a t J.e q h1 b (nP _ hb) Pd.dst
   have hsb:=Z.sel b (hbo b hb) _ Pd.get
   refine ⟨ob,p,Pd.get,Pd.dst,?_⟩
   rw [hp,<- wBV hA]
   rcases Pd.fact with f | ⟨f,⟨f1,f2⟩ | ⟨f1,f2,w1,w2,f3⟩ | ⟨f1,f2,w1,o1,s1,t1,σ1,h1,f3,f4,f5,f6,f7,f8,f9⟩⟩
   ·exact .inl f
   ·exact .inr ⟨f,.inl ⟨f1,f2.mono E'.mono⟩⟩
   ·exact .inr ⟨f,.inr (.inl ⟨f1,f2.mono hST,w1,w2,(Runs.agr hsb hA).1 f3⟩)⟩
   ·obtain ⟨n1,n2⟩:=hnm b hb s1 t1 σ1 h1 f6 f7
    have nimg:¬ img μ h.fl.nat w1.heap.size:=by
     rintro ⟨q,d,g1,g2,_⟩
     have:=f9 q d (J.le _ _ g1) g2
     rw [this,n2] at g1
     cases g1
    refine .inr ⟨f,.inr (.inr ⟨f1,f2.mono hST,w1,o1,s1,t1,σ1,h1,(Runs.agr hsb hA).1 f3,(E'.keep.block _ (wAS f4) nimg).trans f4,f5,f6,f7,hST _ _ f8,fun q c hq hc=>?_⟩)⟩
    have hq:(match μB q with | some c=>some c | none=>μS q)=some c:=hq
    cases hB':μB q with
    | none=>rw [hB'] at hq;exact f9 q c hq hc
    | some c' =>
     rw [hB'] at hq
     cases hq
     rcases E'.new q c hB' with g | g | g
     ·exact f9 q c (J.le _ _ g) hc
     ·rw [hc] at g;exact absurd g nimg
     ·have:=wAS f4;omega
 obtain ⟨σx,hx,q1,q2⟩:=wIq (s:=[]) (a:=a) (t:=t) (σ0:=σA) (h0:=h) (by rw [List.nil_append];exact J.hr)
 rw [wAf] at q1
 cases q1
 refine Step1.agr hsel (fun d hd=>(hagr d hd).symm) ?_
 rcases q2 with ⟨g1,v,h2,g2,g3⟩ | ⟨g1,g3⟩
 ·refine (wPC HC HY' A (hw.trans g1) g2 J.env J.sim).mono ?_
  rintro cv w' ⟨_,μB,e1,e2,e3,e4⟩
  refine main v cv h2 w' μB ?_ g3 e1 e2 e3 e4
  rw [wCd s [a] _ _ _ _ J.hs,wAh,g1]
  simp only
  rw [g2]
  exact wAf _ _ _ _ _
 ·refine .inr ⟨hw.trans g1,?_⟩
  refine main u undef h w μ ?_ g3 (Ext.refl μ _ w) J.sim (wCy A J.env (wKZ μ)) rfl
  rw [wCd s [a] _ _ _ _ J.hs,wAh,g1]
  exact wAf _ _ _ _ _
theorem JS.opnd (Z:ZOK P N l os) {μ0:Mu} {w0:World} {S:Nat->Bool} (J:JS tb ex exY P l os σ0 h0 σf hf μ0 w0 S σ w s t σA h σ' μ μS) (ha:a ∈ os) (hl:a.ix < l.length) (hp:∀ j ∈ prI l a.ix,S j=true)
  (hdc:∀ k,k < l.length->S k=true->∀ j ∈ prI l k,S j=true) {p:Pos} (hr:p ∈ wBX a):Rv μS (evA σf (.t p)) (σ (p.nat - 1))/\(a.kd=1 \/ a.kd=3 \/ 8 <= a.kd->Rv μ (evA σf (.t p)) (σ (p.nat - 1))):=by
 have base:(∀ b ∈ t,b.dst ≠ some p)->Rv μ (evA σf (.t p)) (σ (p.nat - 1)):=fun hn=>by
  rw [wBs t _ _ _ _ J.hr p hn,J.ag p fun b hb _=>hn b hb]
  exact J.env p
 by_cases hw:∃ b ∈ t,b.dst=some p
 ·obtain ⟨b,hb,hd⟩:=hw
  have hbo:b ∈ os:=by rw [J.e];simp [hb]
  have hanc:=Z.rdS a ha p hr b hbo hd
  have hS:=wCt hdc hp hanc
  obtain ⟨ob,p',Pd⟩:=J.pd b hb hS
  have ep:p'=p:=by have:=Pd.dst;rw [hd] at this;exact (nJ this).symm
  subst ep
  rcases Pd.fact with ⟨_,f1,f2⟩ | ⟨_,⟨_,f1⟩ | ⟨f0,f1,_⟩ | ⟨f0,f1,_⟩⟩
  ·rw [f1,f2]
   exact ⟨wKZ _,fun _=>wKZ _⟩
  ·exact ⟨f1.mono J.le,fun _=>f1⟩
  ·exact ⟨f1,fun hk=>absurd f0 (Z.cl a ha hk p' hr b hbo hd).2⟩
  ·exact ⟨f1,fun hk=>absurd f0 (Z.cl a ha hk p' hr b hbo hd).1⟩
 ·have:=base fun b hb hd=>hw ⟨b,hb,hd⟩
  exact ⟨this.mono J.le,fun _=>this⟩
end
end Go.KX
namespace Go.KX
open Go.RowKit Go.KL
section
variable {tb:Tr AF} {ex exY:Run} {P:Program} {N:Nat} {l:List Oper} {os s t:List AO} {a:AO} {σ0 σA σf:Tr AV} {h0 h h1 h' hf:AH} {μ μS:Mu} {σ σ':Env} {w:World} {o:Oper} {v:AV}
theorem wMH {a:AOp} {op:Op} (hk:kdA a=1) (hc:wFR P a op=true) (hE:EnvR μ σA σ) (hm:∀ b c,μ b=some c->h.m.get b=h1.m.get b) (hr:opY a tb ex exY σA h1=some (v,h')):opY a tb ex exY σA h=some (v,h):=by
 have cel:∀ b c,μ b=some c->wCO h b=wCO h1 b:=fun b c hb=>by unfold wCO;rw [hm b c hb]
 cases a <;> first | (simp [kdA] at hk;done) | skip
 case ld x =>
  have hr:wLo x σA h1=some (v,h'):=hr
  show wLo x σA h=some (v,h)
  have hc:wOr P x op=true:=hc
  unfold wOr at hc
  split at hc
  ·simp only [nH] at hc
   have g:=wAJ hc.2 hE
   unfold wLo at hr ⊢
   split at hr
   ·rename_i b off hb
    rw [hb] at g
    obtain ⟨c,g1,_⟩:=g
    simp only [hb,cel b c g1]
    split at hr
    ·exact wLH hr h
    ·cases hr
   ·cases hr
  ·cases hc
 case ldA n x =>
  have hr:wFm n x σA h1=some (v,h'):=hr
  show wFm n x σA h=some (v,h)
  have hc:wKo P n x op=true:=hc
  unfold wKo at hc
  split at hc
  ·simp only [nH] at hc
   have g:=wAJ hc.2 hE
   unfold wFm at hr ⊢
   split at hr
   ·rename_i b off hb
    rw [hb] at g
    obtain ⟨c,g1,_⟩:=g
    simp only [hb,cel b c g1]
    split at hr
    ·exact wLH hr h
    ·cases hr
   ·cases hr
  ·cases hc
 case lk two k ok z x y =>
  have hr:wLp two k ok z x y σA h1=some (v,h'):=hr
  show wLp two k ok z x y σA h=some (v,h)
  have hc:wOv P two k ok z x y op=true:=hc
  unfold wOv at hc
  split at hc
  ·simp only [nH] at hc
   have g:=wAJ hc.2.2.1 hE
   unfold wLp at hr ⊢
   split at hr
   ·rename_i b hb
    rw [hb] at g
    obtain ⟨c,g1,_⟩:=g
    simp only [hb,hm b c g1]
    repeat' (split at hr)
    all_goals first | (cases hr;done) | (cases hr;rfl)
   ·cases hr
  ·cases hc
 case lenM x =>
  have hr:wDU x σA h1=some (v,h'):=hr
  show wDU x σA h=some (v,h)
  have hc:wHH P x op=true:=hc
  unfold wHH at hc
  split at hc
  ·split at hc
   ·simp only [nH] at hc
    obtain ⟨_,hc⟩:=hc
    split at hc
    ·simp only [nH] at hc
     have g:=wAJ hc.2 hE
     unfold wDU at hr ⊢
     split at hr
     ·rename_i hb
      cases hr
      simp_all
     ·rename_i b hb
      rw [hb] at g
      obtain ⟨c,g1,_⟩:=g
      simp only [hb,hm b c g1]
      repeat' (split at hr)
      all_goals first | (cases hr;done) | (cases hr;rfl)
     ·cases hr
    ·cases hc
   ·cases hc
  ·cases hc
theorem wGe (HE:FrX ex) (HY:FrX exY):∀ (r:List AO) (σ1:Tr AV) (h1:AH) (σ2:Tr AV) (h2:AH),wAX tb ex exY r σ1 h1=some (σ2,h2)->(∀ b ∈ r,wFS P N l b=true) ->
  (∀ b ∈ r,b.kd=2 \/ (b.kd=1 \/ b.kd=3 \/ (b.kd=6/\kdA b.op=3) \/ (b.kd=4/\wJj b.op=true) \/ (8 <= b.kd/\kdA b.op=1)))->h1.nx.nat <= h2.nx.nat/\∀ p:Pos,p.nat < h1.nx.nat->h2.m.get p=h1.m.get p
 | [],σ1,h1,σ2,h2,hr,_,_=>by
  rw [wAf] at hr
  cases hr
  exact ⟨nL _,fun _ _=>rfl⟩
 | b :: r,σ1,h1,σ2,h2,hr,hc,hk=>by
  rw [wAh] at hr
  cases hw:wBl σ1 b.grd with
  | false =>
   rw [hw] at hr
   exact wGe HE HY r _ _ _ _ hr (fun c hcc=>hc c (by simp [hcc])) (fun c hcc=>hk c (by simp [hcc]))
  | true =>
   rw [hw] at hr
   simp only at hr
   cases hq:opK b.kd b.op tb ex exY σ1 h1 with
   | none=>rw [hq] at hr;cases hr
   | some q =>
    rw [hq] at hr
    obtain ⟨v,h3⟩:=q
    obtain ⟨g1,g2⟩:=wGe HE HY r _ _ _ _ hr (fun c hcc=>hc c (by simp [hcc])) (fun c hcc=>hk c (by simp [hcc]))
    obtain ⟨o,A⟩:=wCC (hc b (by simp))
    have one:h1.nx.nat <= h3.nx.nat/\∀ p:Pos,p.nat < h1.nx.nat->h3.m.get p=h1.m.get p:=by
     have same:h3=h1->h1.nx.nat <= h3.nx.nat/\∀ p:Pos,p.nat < h1.nx.nat->h3.m.get p=h1.m.get p:=fun e=>by subst e;exact ⟨nL _,fun _ _=>rfl⟩
     rcases hk b (by simp) with k | k | k | ⟨k,k'⟩ | ⟨k,k'⟩ | ⟨k,k'⟩
     ·exact ⟨(wMu HE HY _ _ hq).nx,wPG HE HY b.op (by rw [k] at hq;exact hq)⟩
     ·rw [k] at hq
      exact same (wGB (C:=CC P) (A.k1 k) A.op _ _ _ _ hq).1
     ·rw [k] at hq
      exact same (wGA (A.k3 k) A.op _ _ _ _ hq).1
     ·rw [k] at hq
      exact same (wGA k' A.op _ _ _ _ hq).1
     ·rw [k] at hq
      obtain ⟨B,vf,e1,_⟩:=wIp (C:=CC P) k' A.op _ _ _ _ hq
      subst e1
      refine ⟨(Fr.push h1 B).nx,fun p hp=>?_⟩
      show (h1.m.set h1.nx B).get p=_
      rw [Tr.get_set,if_neg (fun e=>by subst e;omega)]
     ·exact same (wGB (C:=CC P) (.inl k') A.op _ _ _ _ (wLK (by omega) hq)).1
    exact ⟨kU one.1 g1,fun p hp=>(g2 p (Nat.lt_of_lt_of_le hp one.1)).trans (one.2 p hp)⟩
theorem JS.full {μ0:Mu} {w0:World} {S:Nat->Bool} (J:JS tb ex exY P l os σ0 h0 σf hf μ0 w0 S σ w s t σA h σ' μ μS):wAX tb ex exY os σ0 h0=some (σf,hf):=by
 rw [J.e,wCd s t _ _ _ _ J.hs]
 exact J.hr
theorem JS.frm (Z:ZOK P N l os) {μ0:Mu} {w0:World} {S:Nat->Bool} (J:JS tb ex exY P l os σ0 h0 σf hf μ0 w0 S σ w s t σA h σ' μ μS) (ha:a ∈ os) (hl:a.ix < l.length) (hp:∀ j ∈ prI l a.ix,S j=true)
  (hdc:∀ k,k < l.length->S k=true->∀ j ∈ prI l k,S j=true) (A:AOK P N l a o) {s1 t1:List AO} {σ1:Tr AV} (e1:os=s1 ++ a :: t1) (hr1:wAX tb ex exY s1 σ0 h0=some (σ1,h1)) :
  wanted l σ o=wBl σ1 a.grd/\∀ p ∈ wBX a,evA σf (.t p)=evA σ1 (.t p):=by
 have hf:=J.full
 have hrd:∀ p ∈ wBX a,evA σf (.t p)=evA σ1 (.t p):=fun p hp=>by
  rw [e1,wCd s1 _ _ _ _ _ hr1] at hf
  exact wPI Z e1 hf hp
 refine ⟨?_,hrd⟩
 have hE:EnvR μS (rst σf (wBX a)) (rsl σ (wBX a)):=wFX fun p hpr=>(J.opnd Z ha hl hp hdc hpr).1
 have hw:=wGa A hE
 have hag:Agr l o (rsl σ (wBX a)) σ:=fun d hd=>by
  obtain ⟨p,h1,h2⟩:=wDQ A (Z.sub a ha _ A.get) d hd
  unfold rsl
  rw [if_pos ⟨p,h1,h2⟩]
 rw [<- wBV hag,hw]
 cases hg:a.grd with
 | none=>rfl
 | some q =>
  obtain ⟨p,b⟩:=q
  show isB b (evA _ (.t p))=isB b (evA _ (.t p))
  have hpr:p ∈ wBX a:=nP _ (by rw [hg];simp)
  rw [wFW,if_pos hpr,hrd p hpr]
theorem wPK (HE:FrX ex) (HY:FrX exY) (Z:ZOK P N l os) {a b:AO} {s1 t1 s2 t2:List AO} {σ1 σ2:Tr AV} {h1 h2:AH} (e1:os=s1 ++ a :: t1) (e2:os=s2 ++ b :: t2) (r1:wAX tb ex exY s1 σ0 h0=some (σ1,h1)) (r2:wAX tb ex exY s2 σ0 h0=some (σ2,h2))
  (w1:wBl σ1 a.grd=true) (ka:a.kd=4) (la:wJj a.op=true) (hin:a ∈ s2):h1.nx.nat < h2.nx.nat:=by
 obtain ⟨o,A⟩:=wCC (Z.ao a (by rw [e1];simp))
 obtain ⟨r,r',rfl⟩:=nV hin
 have es:s1=r:=(wBt (e1 ▸ Z.one) (e1.symm.trans (e2.trans (by rw [nB,kG])))).1
 subst es
 rw [wCd s1 _ _ _ _ _ r1,wAh,w1] at r2
 simp only at r2
 cases hq:opK a.kd a.op tb ex exY σ1 h1 with
 | none=>rw [hq] at r2;cases r2
 | some q =>
  rw [hq] at r2
  obtain ⟨v,h3⟩:=q
  rw [ka] at hq
  obtain ⟨B,vf,q1,_⟩:=wIp (C:=CC P) la A.op _ _ _ _ hq
  subst q1
  have:=(wGE HE HY _ _ _ _ _ r2).nx
  have h3:(h1.push B).nx.nat=h1.nx.nat + 1:=Pos.nat_succ _
  simp only at this
  omega
theorem nm_ne (HE:FrX ex) (HY:FrX exY) (Z:ZOK P N l os) {a b:AO} {s1 t1 s2 t2:List AO} {σ1 σ2:Tr AV} {h1 h2:AH} (e1:os=s1 ++ a :: t1) (e2:os=s2 ++ b :: t2) (r1:wAX tb ex exY s1 σ0 h0=some (σ1,h1)) (r2:wAX tb ex exY s2 σ0 h0=some (σ2,h2))
  (w1:wBl σ1 a.grd=true) (w2:wBl σ2 b.grd=true) (ka:a.kd=4) (la:wJj a.op=true) (kb:b.kd=4) (lb:wJj b.op=true) (hne:a ≠ b):h1.nx ≠ h2.nx:=by
 have ha:a ∈ s2 ++ b :: t2:=by rw [<- e2,e1];simp
 rcases nQ.1 ha with h | h
 ·intro e
  have:=wPK HE HY Z e1 e2 r1 r2 w1 ka la h
  rw [e] at this
  exact absurd this (kf _)
 ·rcases nK.1 h with h | h
  ·exact absurd h hne
  ·obtain ⟨r,r',rfl⟩:=nV h
   have es:s1=s2 ++ b :: r:=(wBt (e1 ▸ Z.one) (e1.symm.trans (e2.trans (by rw [nB,kG])))).1
   intro e
   have:=wPK HE HY Z e2 e1 r2 r1 w2 kb lb (by rw [es];simp)
   rw [e] at this
   exact absurd this (kf _)
end
end Go.KX
namespace Go.KX
open Go.RowKit Go.KL
section
variable {tb:Tr AF} {ex exY:Run} {P:Program} {N:Nat} {l:List Oper} {os s t:List AO} {a:AO} {σ0 σA σf:Tr AV} {h0 h h1 h' hf:AH} {μ μS:Mu} {σ σ':Env} {w:World} {o:Oper} {v:AV}
theorem wLM (Z:ZOK P N l os) {a b:AO} (ha:a ∈ os) (hb:b ∈ os) (e:b.ix=a.ix):b=a:=by
 obtain ⟨s,t,hs⟩:=nV ha
 have one:=Z.one
 rw [hs] at hb one
 rcases nQ.1 hb with h | h
 ·exact absurd e ((nG.1 one).2.2 b h a (by simp))
 ·rcases nK.1 h with h | h
  ·exact h
  ·exact absurd e.symm ((ng.1 (nG.1 one).2.1).1 b h)
theorem wEo (A:AOK P N l a o) {q:Pos} (hn:a.dst ≠ some q) (cv:Value):put' σ o cv (q.nat - 1)=σ (q.nat - 1):=by
 refine wEr fun d hd e=>?_
 rcases A.dst with ⟨_,h2⟩ | ⟨p,d',h1,h2,h3,_⟩
 ·rw [h2] at hd;cases hd
 ·rw [h2] at hd
  have hd:=nJ hd
  have:p=q:=Pos.nat_inj (by have:=q.nat_pos;have:=p.nat_pos;have:p.nat - 1=q.nat - 1:=h3.symm.trans (hd.trans e);omega)
  subst this
  exact hn h1
theorem JS.add (Z:ZOK P N l os) {μ0:Mu} {w0:World} {S:Nat->Bool} (J:JS tb ex exY P l os σ0 h0 σf hf μ0 w0 S σ w s t σA h σ' μ μS) (ha:a ∈ t) (hS:S a.ix=false) (hfree:wBT a.kd=false)
  (hdc:∀ k,k < l.length->S k=true->∀ j ∈ prI l k,S j=true) (A:AOK P N l a o) {cv:Value} {w':World} {μT:Mu} (K:Keep w w' Non) (hle:μS.Le μT)
  (hnew:∀ q c,μT q=some c->μS q=some c \/ (c.1=w.heap.size/\wanted l σ o=true/\a.kd=4/\∃ s1 t1 σ1 h1,os=s1 ++ a :: t1/\wAX tb ex exY s1 σ0 h0=some (σ1,h1)/\q=h1.nx))
  (hpa:∃ p,Pend tb ex exY P l os σ0 h0 σf w0 μ μT (put' σ o cv) w' a o p) :
  JS tb ex exY P l os σ0 h0 σf hf μ0 w0 (fun k=>k == a.ix || S k) (put' σ o cv) w' s t σA h σ' μ μT:=by
 have hao:a ∈ os:=by rw [J.e];simp [ha]
 have hbo:∀ b ∈ t,b ∈ os:=fun b hb=>by rw [J.e];simp [hb]
 obtain ⟨sa,ta,ea⟩:=nV hao
 have hself:Agr l o σ (put' σ o cv):=by
  intro d hd
  obtain ⟨p,hp,rfl⟩:=wDQ A (Z.sub a hao _ A.get) d hd
  exact (wEo A (Z.rd sa a ta ea p hp a (by simp)) cv).symm
 refine ⟨J.e,J.hs,J.hr,fun b hb=>by simp [J.inS b hb],fun b hb hh=>?_,⟨J.E.mono,J.E.new,J.E.keep.step K fun _ _ hn=>hn.elim⟩,J.sim.keep K,J.fl,J.env,fun q hq=>?_,J.le.trans hle,fun q c hq=>?_,fun b hb hh=>?_⟩
 ·by_cases e:b.ix=a.ix
  ·rw [wLM Z hao (hbo b hb) e];exact hfree
  ·exact J.free b hb (by simpa [e] using hh)
 ·rw [wEo A (hq a ha (by simp))]
  exact J.ag q fun b hb hs=>hq b hb (by simp [hs])
 ·rcases hnew q c hq with h1 | ⟨_,h2,h3,s1,t1,σ1,h1,e1,e2,e3⟩
  ·rcases J.nm q c h1 with g | ⟨b,ob,s1,t1,σ1,h1,k1,k2,k3,k4,k5,k6,k7,k8⟩
   ·exact .inl g
   ·exact .inr ⟨b,ob,s1,t1,σ1,h1,k1,by simp [k2],k3,(wBV (wEn Z hdc hao hS (hbo b k1) k2 A k3 cv)).symm.trans k4,k5,k6,k7,k8⟩
  ·exact .inr ⟨a,o,s1,t1,σ1,h1,ha,by simp,A.get,(wBV hself).symm.trans h2,h3,e1,e2,e3⟩
 ·by_cases e:b.ix=a.ix
  ·have:=wLM Z hao (hbo b hb) e
   subst this
   exact ⟨o,hpa⟩
  ·have hbS:S b.ix=true:=by simpa [e] using hh
   obtain ⟨ob,p,Pd⟩:=J.pd b hb hbS
   have hA:=wEn (σ:=σ) Z hdc hao hS (hbo b hb) hbS A Pd.get cv
   have hp:put' σ o cv (p.nat - 1)=σ (p.nat - 1):=by
    refine wEo A (fun hd=>?_) cv
    have hb':=hbo b hb
    rw [ea] at hb'
    have hb'':b ∈ sa ++ ta:=by
     rcases nQ.1 hb' with h | h
     ·exact nX _ h
     ·rcases nK.1 h with h | h
      ·exact absurd (by rw [h]) e
      ·exact nP _ h
    exact Z.wr sa a ta ea p hd b hb'' Pd.dst
   have hsb:=Z.sel b (hbo b hb) _ Pd.get
   refine ⟨ob,p,Pd.get,Pd.dst,?_⟩
   rw [hp,<- wBV hA]
   rcases Pd.fact with f | ⟨f,⟨f1,f2⟩ | ⟨f1,f2,w1,w2,f3⟩ | ⟨f1,f2,w1,o1,s1,t1,σ1,h1,f3,f4,f5,f6,f7,f8,f9⟩⟩
   ·exact .inl f
   ·exact .inr ⟨f,.inl ⟨f1,f2⟩⟩
   ·exact .inr ⟨f,.inr (.inl ⟨f1,f2.mono hle,w1,w2,(Runs.agr hsb hA).1 f3⟩)⟩
   ·refine .inr ⟨f,.inr (.inr ⟨f1,f2.mono hle,w1,o1,s1,t1,σ1,h1,(Runs.agr hsb hA).1 f3,(K.block _ (wAS f4) id).trans f4,f5,f6,f7,hle _ _ f8,fun q c hq hc=>?_⟩)⟩
    rcases hnew q c hq with h1 | ⟨h1,_⟩
    ·exact f9 q c h1 hc
    ·have:=wAS f4
     omega
theorem wGF:∀ (r:List AO),(∀ b ∈ r,b.kd ≠ 0) \/ ∃ x b y,r=x ++ b :: y/\b.kd=0/\∀ c ∈ x,c.kd ≠ 0
 | []=>.inl fun b hb=>by simp at hb
 | a :: r=>by
  by_cases h0:a.kd=0
  ·exact .inr ⟨[],a,r,rfl,h0,fun c hc=>by simp at hc⟩
  ·rcases wGF r with h | ⟨x,b,y,h1,h2,h3⟩
   ·refine .inl fun b hb=>?_
    rcases nK.1 hb with rfl | hb
    ·exact h0
    ·exact h b hb
   ·refine .inr ⟨a :: x,b,y,by rw [h1];rfl,h2,fun c hc=>?_⟩
    rcases nK.1 hc with rfl | hc
    ·exact h0
    ·exact h3 c hc
theorem JS.freeOp {σg:Tr AV} (HE:FrX ex) (HY:FrX exY) (Z:ZOK P N l os) (HL:LCK tb ex exY os σ0 h0 σg) (Hg:∀ a ∈ os,8 <= a.kd->∀ p,p ∈ wBX a \/ a.dst=some p->evA σf (.t p)=evA σg (.t p)) {μ0:Mu} {w0:World} {S:Nat->Bool} (J:JS tb ex exY P l os σ0 h0 σf hf μ0 w0 S σ w s t σA h σ' μ μS) (ha:a ∈ t) (hS:S a.ix=false) (hfree:wBT a.kd=false)
  (hp:∀ j ∈ prI l a.ix,S j=true) (hdc:∀ k,k < l.length->S k=true->∀ j ∈ prI l k,S j=true) (A:AOK P N l a o) :
  Step1 P l o σ w fun cv w'=>∃ μT,JS tb ex exY P l os σ0 h0 σf hf μ0 w0 (fun k=>k == a.ix || S k) (put' σ o cv) w' s t σA h σ' μ μT:=by
 have hao:a ∈ os:=by rw [J.e];simp [ha]
 have hl:a.ix < l.length:=(na.1 A.get).1
 obtain ⟨r,r',et⟩:=nV ha
 have e1:os=(s ++ r) ++ a :: r':=by rw [J.e,et,nB]
 have hsel:=Z.sel a hao _ A.get
 have hsub:=Z.sub a hao _ A.get
 have hfull:=J.full
 rw [e1] at hfull
 obtain ⟨σ1,h1,r1,r2⟩:=wIq hfull
 obtain ⟨hw,hrd⟩:=J.frm Z hao hl hp hdc A e1 r1
 have hrr:wAX tb ex exY r σA h=some (σ1,h1):=by rw [<- wCd s r _ _ _ _ J.hs];exact r1
 have hself:∀ cv,Agr l o σ (put' σ o cv):=by
  intro cv d hd
  obtain ⟨p,hp,rfl⟩:=wDQ A hsub d hd
  exact (wEo A (Z.rd _ a _ e1 p hp a (by simp)) cv).symm
 obtain ⟨hdn,hkd⟩:a.dst ≠ none/\(a.kd=1 \/ a.kd=3 \/ (a.kd=6/\kdA a.op=3) \/ (a.kd=4/\wJj a.op=true) \/ (8 <= a.kd/\kdA a.op=1)):=by
  rcases Z.kd a hao with h | h
  ·rw [hfree] at h;cases h
  ·exact h
 obtain ⟨p,d,d1,d2,d3,_⟩:∃ p d,a.dst=some p/\o.dst=some d/\d=p.nat - 1/\d < N:=by
  rcases A.dst with ⟨h1,_⟩ | h
  ·exact absurd h1 hdn
  ·exact h
 have eput:∀ cv,put' σ o cv (p.nat - 1)=cv:=fun cv=>by unfold put';rw [d2,d3];exact wBz _ _ _
 have hslot:∀ q ∈ wBj (wBC a.op),q ∈ wBX a:=fun q hq=>nX _ hq
 rcases r2 with ⟨g1,v,h2,g2,g3⟩ | ⟨g1,g3⟩
 ·have hv:evA σf (.t p)=v:=wIK Z e1 g3 d1
  have hw':wanted l σ o=true:=hw.trans g1
  have hwn:∀ cv,wanted l (put' σ o cv) o=true:=fun cv=>(wBV (hself cv)).symm.trans hw'
  have hvS:∀ q ∈ wBj (wBC a.op),Rv μS (evA σ1 (.t q)) (σ (q.nat - 1)):=fun q hq=>by
   rw [<- hrd q (hslot q hq)]
   exact (J.opnd Z hao hl hp hdc (hslot q hq)).1
  have clean:(a.kd=1 \/ a.kd=3 \/ 8 <= a.kd)->(∃ cv,Rv μ v cv/\Runs P σ w o cv w)->Step1 P l o σ w fun cv w'=>∃ μT,JS tb ex exY P l os σ0 h0 σf hf μ0 w0 (fun k=>k == a.ix || S k) (put' σ o cv) w' s t σA h σ' μ μT:=by
   rintro hk ⟨cv,c1,c2⟩
   refine .inl ⟨hw',.inr (.inl ⟨cv,w,c2,μS,J.add Z ha hS hfree hdc A (Keep.refl w _) (Mu.Le.refl _) (fun q c hq=>.inl hq) ⟨p,A.get,d1,.inr ⟨hwn cv,.inl ⟨hk,?_⟩⟩⟩⟩)⟩
   rw [hv,eput]
   exact c1
  have hvC:(a.kd=1 \/ a.kd=3 \/ 8 <= a.kd)->∀ q ∈ wBj (wBC a.op),Rv μ (evA σ1 (.t q)) (σ (q.nat - 1)):=fun hk q hq=>by
   rw [<- hrd q (hslot q hq)]
   exact (J.opnd Z hao hl hp hdc (hslot q hq)).2 hk
  have loadC:(a.kd=1 \/ a.kd=3 \/ 8 <= a.kd)->kdA a.op=1->∀ (x:List AO),(∀ b ∈ x,b ∈ t)->∀ {σ2:Tr AV} {h3 h4:AH} {σ3:Tr AV},wAX tb ex exY x σA h=some (σ2,h3)->opY a.op tb ex exY σ3 h3=some (v,h4)->(∀ b ∈ x,b.kd=0->False)->(∀ q ∈ wBX a,evA σf (.t q)=evA σ3 (.t q))->∃ cv,Rv μ v cv/\Runs P σ w o cv w:=by
   intro hk k x hx σ2 h3 h4 σ3 hrx gY hx0 hrd3
   have hv3:∀ q ∈ wBj (wBC a.op),Rv μ (evA σ3 (.t q)) (σ (q.nat - 1)):=fun q hq=>by
    rw [<- hrd3 q (hslot q hq)]
    exact (J.opnd Z hao hl hp hdc (hslot q hq)).2 hk
   have hrs:=wIo gY
   have henv:=wFX hv3
   obtain ⟨_,hold⟩:=wGe HE HY x _ _ _ _ hrx (fun b hb=>Z.ao b (by rw [J.e];simp [hx b hb])) (fun b hb=>by
    rcases Z.kd b (by rw [J.e];simp [hx b hb]) with h | h
    ·unfold wBT at h
     simp only [Bool.or_eq_true] at h
     rcases h with h | h
     ·exact absurd (nZ h) (hx0 b hb)
     ·exact .inl (nZ h)
    ·exact .inr h.2)
   have hm:∀ b c,μ b=some c->h.m.get b=h3.m.get b:=fun b c hb=>by
    refine (hold b ?_).symm
    rcases kV b.nat h.nx.nat with hlt | hge
    ·exact hlt
    ·rw [J.sim.nx b hge] at hb;cases hb
   have hld:=wMH k A.op henv hm hrs
   obtain ⟨cv,c1,c2⟩:=wLJ (C:=CC P) hsel hsub (.inl k) A.op hld J.sim (fun q hq=>by rw [wFW,if_pos hq];exact hv3 q hq)
   exact ⟨cv,c1,c2⟩
  rcases hkd with hk | hk | ⟨hk,hk2⟩ | ⟨hk,hk2⟩ | ⟨hk,hk2⟩
  ·have gY:opY a.op tb ex exY σ1 h1=some (v,h2):=by rw [hk] at g2;exact g2
   refine clean (.inl hk) ?_
   rcases A.k1 hk with k | k
   ·exact loadC (.inl hk) k r (fun b hb=>by rw [et];simp [hb]) hrr gY (fun b hb h0=>by
     have:=wCt hdc hp (Z.ld _ a _ e1 hk b (by simp [hb]) h0)
     have:=J.free b (by rw [et];simp [hb]) this
     rw [h0] at this
     cases this) hrd
   ·obtain ⟨cv,c1,c2⟩:=wFY hsel hsub k A.op gY (hvC (.inl hk))
    exact ⟨cv,c1,c2 w⟩
  ·have gY:opY a.op tb ex exY σ1 h1=some (v,h2):=by rw [hk] at g2;exact g2
   obtain ⟨cv,c1,c2⟩:=wFY hsel hsub (A.k3 hk) A.op gY (hvC (.inr (.inl hk)))
   exact clean (.inr (.inl hk)) ⟨cv,c1,c2 w⟩
  ·have gY:opY a.op tb ex exY σ1 h1=some (v,h2):=by rw [hk] at g2;exact g2
   obtain ⟨cv,c1,c2⟩:=wFY hsel hsub hk2 A.op gY hvS
   refine .inl ⟨hw',.inr (.inl ⟨cv,w,c2 w,μS,J.add Z ha hS hfree hdc A (Keep.refl w _) (Mu.Le.refl _) (fun q c hq=>.inl hq) ⟨p,A.get,d1,.inr ⟨hwn cv,.inr (.inl ⟨hk,?_,w,w,?_⟩)⟩⟩⟩)⟩
   ·rw [hv,eput]
    exact c1
   ·rw [eput]
    exact (Runs.agr hsel (hself cv)).1 (c2 w)
  ·have gY:opY a.op tb ex exY σ1 h1=some (v,h2):=by rw [hk] at g2;exact g2
   obtain ⟨B,vf,ob,val,_,ev',_,c1,c2,c3⟩:=wJX (C:=CC P) hsel hsub hk2 A.op gY hvS
   have hno:μS h1.nx=none:=by
    cases hq:μS h1.nx with
    | none=>rfl
    | some c =>
     rcases J.nm _ c hq with g | ⟨b,ob',s2,t2,σ2,h3,k1,k2,k3,k4,k5,k6,k7,k8⟩
     ·have:=wNw HE HY Z J.e J.hs ha e1 r1
      rw [J.sim.nx _ this] at g
      cases g
     ·have hbo:b ∈ os:=by rw [J.e];simp [k1]
      have hne:a ≠ b:=fun e=>by subst e;rw [hS] at k2;cases k2
      obtain ⟨ob2,B2⟩:=wCC (Z.ao b hbo)
      have hb2:wJj b.op=true:=by
       rcases Z.kd b hbo with hh | ⟨_,hh | hh | hh | hh | hh⟩
       ·rw [k5] at hh;exact absurd hh (by decide)
       ·omega
       ·omega
       ·omega
       ·exact hh.2
       ·omega
      have hwb:wBl σ2 b.grd=true:=by
       have hlb:b.ix < l.length:=(na.1 k3).1
       have eo:ob2=ob':=by have:=B2.get;rw [k3] at this;exact (nJ this).symm
       subst eo
       have:=(J.frm Z hbo hlb (hdc _ hlb k2) hdc B2 k6 k7).1
       rw [<- this]
       exact k4
      exact absurd k8 (nm_ne HE HY Z e1 k6 r1 k7 g1 hwb hk hk2 k5 hb2 hne)
   have hadd:=Mu.add_le (c:=(⟨w.heap.size,0,g0⟩:Cl)) hno
   have hsz:∀ q c,μS q=some c->c.1 < w.heap.size:=fun q c hq=>by
    rcases J.nm q c hq with g | ⟨b,ob',s2,t2,σ2,h3,k1,k2,k3,k4,k5,k6,k7,k8⟩
    ·exact J.sim.lt q c g
    ·obtain ⟨ob2,p2,Pd⟩:=J.pd b k1 k2
     have eo:ob2=ob':=by have:=Pd.get;rw [k3] at this;exact (nJ this).symm
     subst eo
     rcases Pd.fact with ⟨f,_⟩ | ⟨_,⟨f,_⟩ | ⟨f,_⟩ | ⟨_,_,w1,o1,s3,t3,σ3,h4,_,f4,_,f6,f7,f8,_⟩⟩
     ·rw [k4] at f;cases f
     ·omega
     ·omega
     ·have es:s3=s2:=(wBt (f6 ▸ Z.one) (f6.symm.trans k6)).1
      subst es
      rw [k7] at f7
      cases f7
      subst k8
      rw [hq] at f8
      cases f8
      exact wAS f4
   refine .inl ⟨hw',.inr (.inl ⟨val w.heap.size,w.alloc ob,c1 w,μS.add h1.nx ⟨w.heap.size,0,g0⟩,J.add Z ha hS hfree hdc A (wAw w ob) hadd (fun q c hq=>?_) ⟨p,A.get,d1,.inr ⟨hwn _,.inr (.inr ⟨hk,?_,w,ob,s ++ r,r',σ1,h1,?_,heap_alloc_new w ob,J.E.keep.size,e1,r1,Mu.add_same _ _ _,fun q c hq hc=>?_⟩)⟩⟩⟩)⟩
   ·unfold Mu.add at hq
    split at hq
    ·rename_i eq
     cases hq
     exact .inr ⟨rfl,hw',hk,s ++ r,r',σ1,h1,e1,r1,eq⟩
    ·exact .inl hq
   ·rw [hv,eput,ev']
    exact c3 _ _ _ (Mu.add_same _ _ _)
   ·rw [eput]
    exact (Runs.agr hsel (hself _)).1 (c1 w)
   ·unfold Mu.add at hq
    split at hq
    ·rename_i eq
     exact eq
    ·have:=hsz q c hq
     omega
  ·have gY:opY a.op tb ex exY σ1 h1=some (v,h2):=wLK (by omega) g2
   refine clean (.inr (.inr hk)) ?_
   rcases wGF r with hz | ⟨x,b,y,er,hb0,hx0⟩
   ·exact loadC (.inr (.inr hk)) hk2 r (fun b hb=>by rw [et];simp [hb]) hrr gY (fun b hb h0=>hz b hb h0) hrd
   ·have e2:os=(s ++ x) ++ b :: (y ++ a :: r'):=by rw [J.e,et,er];simp
    have hfull2:=J.full
    rw [e2] at hfull2
    obtain ⟨σ2,h3,r3,_⟩:=wIq hfull2
    have hbt:b ∈ t:=by rw [et,er];simp
    have hanc:wLr y + 8 < a.kd:=by
     rcases Z.ld8 _ a _ e1 hk (s ++ x) b y (by rw [er];simp) hb0 with g | g
     ·have:=J.free b hbt (wCt hdc hp g)
      rw [hb0] at this
      cases this
     ·exact g
    have hlk:=HL _ b _ e2 hb0 _ _ r3
    have hsame:=wIG y a r' 0 hlk hfree (by omega)
    have hgf:wBl σg a.grd=true:=by
     rw [<- g1]
     cases hg:a.grd with
     | none=>rfl
     | some q =>
      obtain ⟨q,c⟩:=q
      show isB c (evA _ (.t q))=isB c (evA _ (.t q))
      have hqr:q ∈ wBX a:=nP _ (by rw [hg];simp)
      rw [<- Hg a hao hk q (.inl hqr),hrd q hqr]
    unfold wFx at hsame
    rw [d1] at hsame
    simp only [hgf] at hsame
    split at hsame
    ·rename_i v' h5 hq
     have hvv:=wLG hsame
     rw [<- Hg a hao hk p (.inr d1),hv] at hvv
     subst hvv
     have hrx:wAX tb ex exY x σA h=some (σ2,h3):=by rw [<- wCd s x _ _ _ _ J.hs];exact r3
     exact loadC (.inr (.inr hk)) hk2 x (fun b hb=>by rw [et,er];simp [hb]) hrx hq (fun b hb h0=>hx0 b hb h0) (fun q hq=>Hg a hao hk q (.inl hq))
    ·cases hsame
 ·refine .inr ⟨hw.trans g1,μS,J.add Z ha hS hfree hdc A (Keep.refl w _) (Mu.Le.refl _) (fun q c hq=>.inl hq) ⟨p,A.get,d1,.inl ⟨(wBV (hself _)).symm.trans (hw.trans g1),eput _,?_⟩⟩⟩
  exact wIK Z e1 (v:=u) g3 d1
theorem JS.catch (Z:ZOK P N l os) {μ0:Mu} {w0:World} {S:Nat->Bool}:∀ (r:List AO) {s t:List AO} {σA:Tr AV} {h:AH} {σ':Env} {μ:Mu},JS tb ex exY P l os σ0 h0 σf hf μ0 w0 S σ w s (r ++ t) σA h σ' μ μS->(∀ a ∈ r,S a.ix=true) ->
  ∃ σB hB σ'' μB,JS tb ex exY P l os σ0 h0 σf hf μ0 w0 S σ w (s ++ r) t σB hB σ'' μB μS
 | [],s,t,σA,h,σ',μ,J,_=>⟨σA,h,σ',μ,by rw [nq];exact J⟩
 | a :: r,s,t,σA,h,σ',μ,J,hS=>by
  obtain ⟨σB,hB,σ'',μB,J1⟩:=JS.catch1 (t:=r ++ t) Z J (hS a (by simp))
  obtain ⟨σC,hC,σ3,μC,J2⟩:=JS.catch Z r J1 fun b hb=>hS b (by simp [hb])
  exact ⟨σC,hC,σ3,μC,by rw [show s ++ a :: r=s ++ [a] ++ r by simp];exact J2⟩
theorem JS.anew {A B:List AO} {σm:Tr AV} {h2:AH} {μ0:Mu} {w0:World} {S:Nat->Bool} (J:JS tb ex exY P l A σ0 h0 σm h2 μ0 w0 S σ w s [] σA h σ' μ μS) (hr:wAX tb ex exY B σm h2=some (σf,hf)) (hB:∀ b ∈ B,S b.ix=false) :
  Ext μ0 h0.fl.nat w0 μ w/\h2.fl=h0.fl/\JS tb ex exY P l B σm h2 σf hf μ w S σ w [] B σm h2 σ' μ μ:=by
 have hr1:=J.hr
 rw [wAf] at hr1
 cases hr1
 exact ⟨J.E,J.fl,rfl,wAf _ _ _ _ _,hr,fun b hb=>(by simp at hb),fun b hb hS=>(by rw [hB b hb] at hS;cases hS),Ext.refl μ _ w,J.sim,rfl,J.env,fun q _=>J.ag q fun b hb=>(by simp at hb),Mu.Le.refl _,fun q c hq=>.inl hq,fun b hb hS=>(by rw [hB b hb] at hS;cases hS)⟩
theorem CK.lazy {rr:Option Nat} {Q:wCT} {D:List Deferred} {id:Nat} (hm:P.follows .mixedOrders=true) (HC:wEa (CC P) P tb ex) (HY':wDi (CC P) P exY) (HE:FrX ex) (HY:FrX exY) (ZZ:∃ A B,ZAll P N l os A B) (HL0:LCK tb ex exY os σ0 h0 σf)
  (hr:wAX tb ex exY os σ0 h0=some (σf,hf)) (S:Sim (CC P) P μ h0 w) (hE:EnvR μ σ0 σ)
  (hQ:∀ μ' w' σ',Ext μ h0.fl.nat w μ' w'->Sim (CC P) P μ' hf w'->EnvR μ' σf σ'->hf.fl=h0.fl->Q D .normal σ' w'):CK rr N P (.region id l.toArray true) Q D σ w:=by
 obtain ⟨A,B,ZZ⟩:=ZZ
 obtain ⟨σm,h2,hrA,hrB⟩:=wCX A B σ0 h0 _ (ZZ.eq ▸ hr)
 have HL:LCK tb ex exY A σ0 h0 σf/\LCK tb ex exY B σm h2 σf:=by
  refine ⟨fun s b t e k0 σ1 h1 hs=>?_,wIl ZZ.low⟩
  have:=HL0 s b (t ++ B) (by rw [ZZ.eq,e];simp) k0 σ1 h1 hs
  exact wGb t B 0 this
 have Hg:∀ a ∈ A,8 <= a.kd->∀ p,p ∈ wBX a \/ a.dst=some p->evA σm (.t p)=evA σf (.t p):=fun a ha h8 p hp=>(wBs B _ _ _ _ hrB p fun b hb=>ZZ.far a ha h8 p hp b hb).symm
 have lt:∀ b ∈ os,b.ix < l.length:=fun b hb=>by
  rw [ZZ.eq] at hb
  rcases nQ.1 hb with hb | hb
  ·obtain ⟨o,A⟩:=wCC (ZZ.za.ao b hb)
   exact (na.1 A.get).1
  ·obtain ⟨o,A⟩:=wCC (ZZ.zb.ao b hb)
   exact (na.1 A.get).1
 have stepB:∀ (S1:Nat->Bool) (a:AO) (σ1:Env) (w1:World) (μm:Mu) (wm:World) (s t:List AO) (σA:Tr AV) (h:AH) (σ':Env) (μ1 μS:Mu) (o:Oper),a ∈ B->S1 a.ix=false->(∀ j ∈ prI l a.ix,S1 j=true)->(∀ k,k < l.length->S1 k=true->∀ j ∈ prI l k,S1 j=true)->AOK P N l a o ->
   JS tb ex exY P l B σm h2 σf hf μm wm S1 σ1 w1 s t σA h σ' μ1 μS->Step1 P l o σ1 w1 fun v w'=>∃ s t σA h σ' μ1 μS,JS tb ex exY P l B σm h2 σf hf μm wm (fun k=>k == a.ix || S1 k) (put' σ1 o v) w' s t σA h σ' μ1 μS:=by
  intro S1 a σ1 w1 μm wm s t σA h σ' μ1 μS o ha hSi hpi hdc A J
  have hat:a ∈ t:=by
   have:=ha
   rw [J.e] at this
   rcases nQ.1 this with h | h
   ·rw [J.inS a h] at hSi;cases hSi
   ·exact h
  cases hf:wBT a.kd with
  | true =>
   obtain ⟨r,r',et⟩:=nV hat
   rw [et] at J
   obtain ⟨σB,hB,σ'',μB,J1⟩:=JS.catch ZZ.zb r J fun b hb=>wCt hdc hpi (ZZ.zb.anc (s ++ r) a r' (by rw [J.e,nB]) hf b (by simp [hb]))
   refine (J1.fixed HC HY' HE HY ZZ.zb hf hSi hdc A).mono ?_
   rintro v w' ⟨σC,hC,σ3,μC,μT,J2⟩
   exact ⟨_,_,_,_,_,_,_,J2⟩
  | false =>
   refine (J.freeOp HE HY ZZ.zb HL.2 (fun _ _ _ _ _=>rfl) hat hSi hf hpi hdc A).mono ?_
   rintro v w' ⟨μT,J2⟩
   exact ⟨_,_,_,_,_,_,_,J2⟩
 have toB:∀ (S1:Nat->Bool) (σ1:Env) (w1:World) (s t:List AO) (σA:Tr AV) (h:AH) (σ':Env) (μ1 μS:Mu),(∀ a ∈ A,S1 a.ix=true)->(∀ b ∈ B,S1 b.ix=false)->JS tb ex exY P l A σ0 h0 σm h2 μ w S1 σ1 w1 s t σA h σ' μ1 μS ->
   ∃ μm σ',Ext μ h0.fl.nat w μm w1/\h2.fl=h0.fl/\JS tb ex exY P l B σm h2 σf hf μm w1 S1 σ1 w1 [] B σm h2 σ' μm μm:=by
  intro S1 σ1 w1 s t σA h σ' μ1 μS hA hB J
  have J0:JS tb ex exY P l A σ0 h0 σm h2 μ w S1 σ1 w1 s (t ++ []) σA h σ' μ1 μS:=by rw [nq];exact J
  obtain ⟨σB,hB',σ'',μB,J1⟩:=JS.catch ZZ.za t J0 fun b hb=>hA b (by rw [J.e];simp [hb])
  obtain ⟨g1,g2,g3⟩:=J1.anew hrB hB
  exact ⟨μB,σ'',g1,g2,g3⟩
 refine CK.anyRel hm ZZ.za.pr (fun S σ w1=>((∀ b ∈ B,S b.ix=false)/\∃ s t σA h σ' μ1 μS,JS tb ex exY P l A σ0 h0 σm h2 μ w S σ w1 s t σA h σ' μ1 μS) \/
  ((∀ a ∈ A,S a.ix=true)/\∃ μm wm,Ext μ h0.fl.nat w μm wm/\h2.fl=h0.fl/\∃ s t σA h σ' μ1 μS,JS tb ex exY P l B σm h2 σf hf μm wm S σ w1 s t σA h σ' μ1 μS)) ?_ ?_ ?_
 ·exact .inl ⟨fun b _=>rfl,[],A,σ0,h0,σ,μ,μ,rfl,wAf _ _ _ _ _,hrA,fun b hb=>(by simp at hb),fun b _ hb=>(by cases hb),Ext.drew μ _ w,S.keep (Keep.drew w),rfl,hE,fun _ _=>rfl,Mu.Le.refl _,fun q c hq=>.inl hq,fun b _ hb=>(by cases hb)⟩
 ·rintro S1 i σ1 w1 hi hSi hpi hdc hlt hI
  obtain ⟨a,ha,rfl⟩:=ZZ.all i hi
  rw [ZZ.eq] at ha
  rcases nQ.1 ha with ha | ha
  ·obtain ⟨o,AK⟩:=wCC (ZZ.za.ao a ha)
   refine ⟨o,AK.get,wGC AK,?_⟩
   rcases hI with ⟨hB,s,t,σA,h,σ',μ1,μS,J⟩ | ⟨hA,_⟩
   ·have hB':∀ b ∈ B,(fun k=>k == a.ix || S1 k) b.ix=false:=fun b hb=>by
     have:=(ZZ.cross b hb a ha).1
     simp [hB b hb,Ne.symm this]
    have hat:a ∈ t:=by
     have:=ha
     rw [J.e] at this
     rcases nQ.1 this with h | h
     ·rw [J.inS a h] at hSi;cases hSi
     ·exact h
    cases hf:wBT a.kd with
    | true =>
     obtain ⟨r,r',et⟩:=nV hat
     rw [et] at J
     obtain ⟨σB,hB2,σ'',μB,J1⟩:=JS.catch ZZ.za r J fun b hb=>wCt hdc hpi (ZZ.za.anc (s ++ r) a r' (by rw [J.e,nB]) hf b (by simp [hb]))
     refine (J1.fixed HC HY' HE HY ZZ.za hf hSi hdc AK).mono ?_
     rintro v w' ⟨σC,hC,σ3,μC,μT,J2⟩
     exact .inl ⟨hB',_,_,_,_,_,_,_,J2⟩
    | false =>
     refine (J.freeOp HE HY ZZ.za HL.1 Hg hat hSi hf hpi hdc AK).mono ?_
     rintro v w' ⟨μT,J2⟩
     exact .inl ⟨hB',_,_,_,_,_,_,_,J2⟩
   ·rw [hA a ha] at hSi
    cases hSi
  ·obtain ⟨o,AK⟩:=wCC (ZZ.zb.ao a ha)
   refine ⟨o,AK.get,wGC AK,?_⟩
   have hA:∀ c ∈ A,S1 c.ix=true:=fun c hc=>wCt hdc hpi (ZZ.cross a ha c hc).2
   rcases hI with ⟨hB,s,t,σA,h,σ',μ1,μS,J⟩ | ⟨_,μm,wm,g1,g2,s,t,σA,h,σ',μ1,μS,J⟩
   ·obtain ⟨μm,σ2,g1,g2,J1⟩:=toB S1 σ1 w1 s t σA h σ' μ1 μS hA hB J
    refine (stepB S1 a σ1 w1 _ _ _ _ _ _ _ _ _ o ha hSi hpi hdc AK J1).mono ?_
    rintro v w' ⟨s,t,σA,h,σ',μ1,μS,J2⟩
    exact .inr ⟨fun c hc=>by simp [hA c hc],_,_,g1,g2,_,_,_,_,_,_,_,J2⟩
   ·refine (stepB S1 a σ1 w1 _ _ _ _ _ _ _ _ _ o ha hSi hpi hdc AK J).mono ?_
    rintro v w' ⟨s,t,σA,h,σ',μ1,μS,J2⟩
    exact .inr ⟨fun c hc=>by simp [hA c hc],_,_,g1,g2,_,_,_,_,_,_,_,J2⟩
 ·rintro S1 σ1 w1 hall hI
  have hI2:∃ μm wm,Ext μ h0.fl.nat w μm wm/\h2.fl=h0.fl/\∃ s t σA h σ' μ1 μS,JS tb ex exY P l B σm h2 σf hf μm wm S1 σ1 w1 s t σA h σ' μ1 μS:=by
   rcases hI with ⟨hB,s,t,σA,h,σ',μ1,μS,J⟩ | ⟨_,hI⟩
   ·obtain ⟨μm,σ2,g1,g2,J1⟩:=toB S1 σ1 w1 s t σA h σ' μ1 μS (fun a ha=>hall _ (lt a (by rw [ZZ.eq];simp [ha]))) hB J
    exact ⟨_,_,g1,g2,_,_,_,_,_,_,_,J1⟩
   ·exact hI
  obtain ⟨μm,wm,g1,g2,s,t,σA,h,σ',μ1,μS,J⟩:=hI2
  have J0:JS tb ex exY P l B σm h2 σf hf μm wm S1 σ1 w1 s (t ++ []) σA h σ' μ1 μS:=by rw [nq];exact J
  obtain ⟨σB,hB,σ'',μB,J1⟩:=JS.catch ZZ.zb t J0 fun b hb=>hall _ (lt b (by rw [ZZ.eq,J.e];simp [hb]))
  have hr1:=J1.hr
  rw [wAf] at hr1
  cases hr1
  refine hQ μB w1 σ1 (g1.trans (g2 ▸ J1.E)) J1.sim (fun q=>?_) (J1.fl.trans g2)
  rw [J1.ag q fun b hb=>by simp at hb]
  exact J1.env q
end
end Go.KX
namespace Go.KX
open Go.RowKit Go.KL
section
variable {P:Program} {tb:Tr AF}
theorem wLN (hm:P.follows .mixedOrders=true) {ex exY:Run} (HC:wEa (CC P) P tb ex) (HY:wDi (CC P) P exY) (FE:FrX ex) (FY:FrX exY) {os:List AO} {σA σA':Tr AV} {h h':AH} (hr:wAX tb ex exY os σA h=some (σA',h')) {id N:Nat} {ops:Array Oper} {draw:Bool} (hc:chkR P N os ops.toList draw=true)
  {rr:Option Nat} {μ:Mu} {σ:Env} {w:World} {D:List Deferred} {n0:Nat} (S:Sim (CC P) P μ h w) (hE:EnvR μ σA σ) (M:Mk μ w n0 D):CK rr N P (.region id ops draw) (PostX P μ h.fl w n0 rr D .nrm σA' h') D σ w:=by
 unfold chkR at hc
 simp only [nH,np] at hc
 obtain ⟨c1,c2⟩:=hc
 have hop:ops=ops.toList.toArray:=by simp
 have hcs:∀ a ∈ os,wFS P N ops.toList a=true/\kOf ((ku ops.toList.length).map fun i=>kdAt i os) a.ix=a.kd:=fun a ha=>⟨(c1 a ha).1,nZ (c1 a ha).2⟩
 have post:∀ {w0:World},Ext μ h.fl.nat w μ w0->Sim (CC P) P μ h w0->OKS N P ops.toList (PostX P μ h.fl w n0 rr D .nrm σA' h') D ((ku ops.toList.length).map fun i=>kdAt i os) (wHI os) σ w0:=by
  intro w0 E0 S0
  refine wHJ HC HY os σA h σA' h' hr hcs μ σ w0 S0 hE fun μ' w' σ' q1 q2 q3 q4=>?_
  have E:=E0.trans q1
  exact ⟨rfl,μ',E,q2,q3,M.ext E,q4,fun _=>rfl⟩
 rw [hop]
 cases draw with
 | true =>
  simp only at c2
  split at c2
  ·simp only [nH,np,Nat.blt_eq] at c2
   exact CK.lazy hm HC HY FE FY (wLA (fun a ha=>(c1 a ha).1) c2.2) (wIl c2.1) hr S hE fun μ' w' σ' q1 q2 q3 q4=>⟨rfl,μ',q1,q2,q3,M.ext q1,q4,fun _=>rfl⟩
  ·exact CK.anyOrd hm _ _ c2 (post (Ext.drew μ _ w) (S.keep (Keep.drew w)))
 | false=>exact CK.reg _ c2 (post (Ext.refl μ _ w) S)
theorem wMI {ex:Run} (HC:wEa (CC P) P tb ex) {g:AOd} {t:List Pos} {asg body:AC} {g':Operand} {ps:Array Tmp} {asg' body':Code} {N:Nat} (hc:wED P N (.rf g t asg body) (.rangeFunc g' ps asg' body')=true)
  {σA σA':Tr AV} {h h':AH} {e:Ex} (hr:sRf true g t asg body tb ex σA h=some (e,σA',h')) {μ:Mu} {σ:Env} {w:World} {D:List Deferred} {n0:Nat} (S:Sim (CC P) P μ h w) (hE:EnvR μ σA σ) (M:Mk μ w n0 D) (hn:n0 <= w.heap.size) :
  CK none N P (.rangeFunc g' ps asg' body') (PostX P μ h.fl w n0 none D e σA' h') D σ w:=by
 simp only [wED,nH] at hc
 obtain ⟨c1,c2,c3,c4⟩:=hc
 obtain ⟨p,rfl⟩:∃ p:List Nat,ps=p.toArray:=⟨ps.toList,by simp⟩
 ·obtain ⟨ht,c6⟩:=wIm (by simpa using c2)
  unfold sRf at hr
  split at hr
  ·rename_i f fi ca hg
   have hx:=wAJ c1 hE
   rw [hg] at hx
   obtain ⟨fv,cv,g1,g2,g3⟩:=hx
   split at hr <;> first | (cases hr;done) | skip
   rename_i rv h2 hcall
   obtain ⟨hcf,hgv⟩:=HC _ _ _ _ _ hcall
   refine CK.rangeFunc (t:=p) g3 hcf fun fn l rb w1 e1 e2 hl hd K hs=>?_
   subst e1 e2
   have hle:=Mu.add_le (c:=(⟨w.heap.size + 1,0,⟨N,σ,p,asg',body',w.heap.size,fn⟩⟩:Cl)) (S.nx h.nx (nL _))
   obtain ⟨s1,s2,s3,s4⟩:=S.push (w':=w1) (c:=⟨w.heap.size + 1,0,⟨N,σ,p,asg',body',w.heap.size,fn⟩⟩) (B:=.loop σA t asg body .ready) K (Nat.le_succ _) (by show w.heap.size + 1 < _;omega) ⟨hl,hE.mono hle,ht,c6,c3,c4⟩
   generalize hμ1:μ.add h.nx (⟨w.heap.size + 1,0,⟨N,σ,p,asg',body',w.heap.size,fn⟩⟩:Cl)=μ1 at *
   have M1:Mk μ1 w1 n0 (wIa w.heap.size :: D):=by
    have M':=M.ext s2
    obtain ⟨rbs,m1,m2,m3⟩:=M'
    have hold:∀ rb ∈ rbs,rb < w.heap.size:=by
     obtain ⟨rbs0,k1,k2,k3⟩:=M
     intro rb hrb
     have hmm:rbs.map wIa=rbs0.map wIa:=by rw [<- m1,<- k1]
     have hinj:rbs=rbs0:=by
      have:∀ (a b:List Nat),a.map wIa=b.map wIa->a=b:=by
       intro a
       induction a with
       | nil=>intro b hb;cases b with
        | nil=>rfl
        | cons _ _=>simp at hb
       | cons x a ih=>intro b hb;cases b with
        | nil=>simp at hb
        | cons y b =>
         simp only [kg,List.cons.injEq] at hb
         have hxy:x=y:=by have:=hb.1;simp [wIa] at this;exact this
         rw [hxy,ih b hb.2]
      exact this _ _ hmm
     exact (k3 rb (hinj ▸ hrb)).1.lt
    refine ⟨w.heap.size :: rbs,by rw [kg,<- m1],List.nodup_cons.2 ⟨fun hm=>absurd (hold _ hm) (kf _),m2⟩,fun rb hrb=>?_⟩
    rcases nK.1 hrb with rfl | hrb
    ·refine ⟨hd,hn,fun q c hq=>?_⟩
     rw [<- hμ1] at hq
     unfold Mu.add at hq
     split at hq
     ·cases hq;show w.heap.size + 1 ≠ _;omega
     ·have:=S.lt q c hq;omega
    ·exact m3 rb hrb
   have G:=hgv μ1 w1 (fv ++ (.func (.yield (w.heap.size + 1)) #[] #[] :: cv)) s1 (wCq (g1.mono s2.mono) (wBA ⟨_,s4,rfl⟩ (g2.mono s2.mono)))
   rw [nB]
   refine G.mono ?_
   rintro v3 w3 ⟨μ3,q1,q2,q3,q4⟩
   rw [s3] at q1 q4
   have E13:=s2.trans q1
   have hc3:=q1.mono _ _ s4
   have fin:∀ {B:AB} {h3:AH} (w4:World),h2.m.get h.nx=some B->wJP B->h2.put h.nx .dead=some h3->Keep w3 w4 (·=w.heap.size + 1)->w4.heap.size=w3.heap.size->∃ μ',Ext μ h.fl.nat w μ' w4/\Sim (CC P) P μ' h3 w4/\EnvR μ' σA σ/\Mk μ' w4 n0 (wIa w.heap.size :: D)/\h3.fl=h.fl:=by
    intro B h3 w4 hB hlv hput K4 _
    obtain ⟨v1,v2,v3⟩:=q2.put hput hB hlv hc3 K4 (B':=.dead) trivial
    rw [q4] at v2 v3
    exact ⟨μ3,E13.trans v2,v1,hE.mono E13.mono,(M1.ext q1).ext v2,v3⟩
   split at hr
   ·rename_i sx tx ax bx hB
    split at hr <;> first | (cases hr;done) | skip
    rename_i h3 hput
    cases hr
    obtain ⟨c',u1,u2⟩:=q2.at_ _ _ hB
    rw [hc3] at u1;cases u1
    have L3:wJO (CC P) μ3 w3 ⟨w.heap.size + 1,0,⟨N,σ,p,asg',body',w.heap.size,fn⟩⟩ sx tx ax bx .ready:=u2
    refine .inl ⟨L3.at_,fun w4 K4 hs4=>?_⟩
    obtain ⟨μ',a1,a2,a3,a4,a5⟩:=fin w4 hB trivial hput K4 hs4
    exact ⟨rfl,μ',a1,a2,a3,a4,a5,fun hq=>by cases hq⟩
   ·rename_i sx tx ax bx ee hB
    split at hr <;> first | (cases hr;done) | skip
    rename_i h3 hput
    cases hr
    obtain ⟨c',u1,u2⟩:=q2.at_ _ _ hB
    rw [hc3] at u1;cases u1
    have L3:wJO (CC P) μ3 w3 ⟨w.heap.size + 1,0,⟨N,σ,p,asg',body',w.heap.size,fn⟩⟩ sx tx ax bx (.done e):=u2
    cases e with
    | nrm =>
     refine .inl ⟨L3.at_,fun w4 K4 hs4=>?_⟩
     obtain ⟨μ',a1,a2,a3,a4,a5⟩:=fin w4 hB trivial hput K4 hs4
     exact ⟨rfl,μ',a1,a2,a3,a4,a5,fun hq=>by cases hq⟩
    | ret =>
     refine .inr ⟨.ret,.inl rfl,L3.at_,fun w4 K4 hs4=>?_⟩
     obtain ⟨μ',a1,a2,a3,a4,a5⟩:=fin w4 hB trivial hput K4 hs4
     exact ⟨rfl,μ',a1,a2,a3,a4,a5,fun hq=>by cases hq⟩
    | exit i =>
     refine .inr ⟨.exit i,.inr ⟨i,rfl⟩,L3.at_,fun w4 K4 hs4=>?_⟩
     obtain ⟨μ',a1,a2,a3,a4,a5⟩:=fin w4 hB trivial hput K4 hs4
     exact ⟨rfl,μ',a1,a2,a3,a4,a5,fun hq=>by cases hq⟩
   ·cases hr
  ·cases hr
theorem CK.ofRounds {rr:Option Nat} {N:Nat} {c:Code} {Q:wCT} {D:List Deferred} {σ:Env} {w:World} (m:Nat) (hh:∀ a,Rep N D a σ->Code.roundsIn (WF rr) 0 P c (wGL N Q) m a w):CK rr N P (.loop c) Q D σ w :=
 fun a ha=>wpIn_loop_rounds m (hh a ha)
theorem wPL {exR:Run} {r:Bool} (HE:wHK P exR r) {a b:AC} {σA σA':Tr AV} {h h':AH} {e:Ex} (hr:wOh a b exR σA h=some (e,σA',h')) {c d:Code} {N:Nat} (hc1:wED P N a c=true) (hc2:wED P N b d=true)
  {rr:Option Nat} {μ:Mu} {σ:Env} {w:World} {D:List Deferred} {n0:Nat} (hrr:rr.isSome=r) (S:Sim (CC P) P μ h w) (hE:EnvR μ σA σ) (M:Mk μ w n0 D) (hn:n0 <= w.heap.size):CK rr N P (.seq c d) (PostX P μ h.fl w n0 rr D e σA' h') D σ w:=by
 obtain ⟨⟨e1,σ1,h1⟩,ha,hb⟩:=wOV hr
 rw [wIJ] at hb
 refine CK.seq ((HE _ _ _ _ _ _ ha c N hc1 rr μ σ w D n0 hrr S hE M hn).mono ?_)
 intro D' e' σ' w' hp
 obtain ⟨rfl,μ1,q1,q2,q3,q4,q5,q6⟩:=hp
 cases e1 with
 | nrm =>
  refine (HE _ _ _ _ _ _ hb d N hc2 rr μ1 σ' w' D' n0 hrr q2 q3 q4 (kU hn q1.keep.size)).mono ?_
  intro D'' e'' σ'' w'' hp
  rw [q5] at hp
  exact PostX.trans q1 q6 hp
 | ret=>cases hb;exact ⟨rfl,μ1,q1,q2,q3,q4,q5,q6⟩
 | exit i=>cases hb;exact ⟨rfl,μ1,q1,q2,q3,q4,q5,q6⟩
theorem wNx {exR:Run} {r:Bool} {m:Nat} (HE:wHK P exR r) (HL:wLB P exR r m) {a:AC} {σA σA':Tr AV} {h h':AH} {e:Ex} (hr:wKW a exR σA h=some (e,σA',h')) {c:Code} {N:Nat} (hc:wED P N a c=true)
  {rr:Option Nat} {μ:Mu} {σ:Env} {w:World} {D:List Deferred} {n0:Nat} (hrr:rr.isSome=r) (S:Sim (CC P) P μ h w) (hE:EnvR μ σA σ) (M:Mk μ w n0 D) (hn:n0 <= w.heap.size):∀ act,Rep N D act σ->Code.roundsIn (WF rr) 0 P c (wGL N (PostX P μ h.fl w n0 rr D e σA' h')) (m + 1) act w:=by
 obtain ⟨⟨e1,σ1,h1⟩,ha,hb⟩:=wOV hr
 rw [wIJ] at hb
 intro act hact
 rw [roundsIn_succ]
 refine wpIn_mono (HE _ _ _ _ _ _ ha c N hc rr μ σ w D n0 hrr S hE M hn act hact) ?_
 rintro e' act' w' ⟨σ',D',hrep,hp⟩
 obtain ⟨rfl,μ1,q1,q2,q3,q4,q5,q6⟩:=hp
 cases e1 with
 | nrm =>
  refine wFV ?_ m act' w' (HL _ _ _ _ _ _ hb c N hc rr μ1 σ' w' D' n0 hrr q2 q3 q4 (kU hn q1.keep.size) act' hrep)
  rintro e'' act'' w'' ⟨σ'',D'',hrep',hp⟩
  rw [q5] at hp
  exact ⟨σ'',D'',hrep',PostX.trans q1 q6 hp⟩
 | ret=>cases hb;exact ⟨σ',D',hrep,rfl,μ1,q1,q2,q3,q4,q5,q6⟩
 | exit i=>cases hb;exact ⟨σ',D',hrep,rfl,μ1,q1,q2,q3,q4,q5,q6⟩
theorem wNy (hm:P.follows .mixedOrders=true) (T:wJW P tb):∀ (n:Nat) (r:Bool),wHK P (exec tb n r) r/\wLB P (exec tb n r) r n:=by
 intro n
 induction n with
 | zero=>intro r;exact ⟨fun c σA h e σA' h' hr=>(by cases hr),fun c σA h e σA' h' hr=>(by cases hr)⟩
 | succ n ih =>
  intro r
  have HC:=wLC T (ih false).1
  have HY:=wMF (P:=P) (ih true).1
  obtain ⟨HE,HL⟩:=ih r
  have loop:wLB P (exec tb (n + 1) r) r (n + 1):=by
   intro c σA h e σA' h' hr code N hc rr μ σ w D n0 hrr S hE M hn
   have hr:wKW c (exec tb n r) σA h=some (e,σA',h'):=hr
   exact wNx HE HL hr hc hrr S hE M hn
  refine ⟨?_,loop⟩
  intro c σA h e σA' h' hr code N hc rr μ σ w D n0 hrr S hE M hn
  rw [wHB] at hr
  cases c with
  | skip =>
   have hr:sNrm σA h=some (e,σA',h'):=hr
   cases hr
   have fin:PostX P μ h.fl w n0 rr D .nrm σA h D .normal σ w:=⟨rfl,μ,Ext.refl μ _ w,S,hE,M,rfl,fun _=>rfl⟩
   cases code <;> simp only [wED,nE] at hc
   ·exact CK.skip fin
   ·exact CK.label fin
  | rg os =>
   have hr:sRg os tb (exec tb n false) (exec tb n true) (exec tb n r) σA h=some (e,σA',h'):=hr
   unfold sRg at hr
   have:∃ y,wAX tb (exec tb n false) (exec tb n true) os σA h=some y/\some (Ex.nrm,y.1,y.2)=some (e,σA',h'):=by
    cases hq:wAX tb (exec tb n false) (exec tb n true) os σA h with
    | none=>rw [hq] at hr;cases hr
    | some y=>rw [hq] at hr;exact ⟨y,rfl,hr⟩
   obtain ⟨y,h1,h2⟩:=this
   cases h2
   cases code <;> simp only [wED,nE] at hc
   exact wLN hm HC HY (wDk tb n false) (wDk tb n true) h1 hc S hE M
  | seq a b =>
   have hr:wOh a b (exec tb n r) σA h=some (e,σA',h'):=hr
   cases code <;> simp only [wED,nE,nH] at hc
   exact wPL HE hr hc.1 hc.2 hrr S hE M hn
  | cond x a b =>
   have hr:wKV x a b (exec tb n r) σA h=some (e,σA',h'):=hr
   cases code <;> simp only [wED,nE,nH] at hc
   have hx:=wAJ hc.1 hE
   unfold wKV at hr
   split at hr
   ·rename_i hb;rw [hb] at hx
    exact CK.condT hx (HE _ _ _ _ _ _ hr _ N hc.2.1 rr μ σ w D n0 hrr S hE M hn)
   ·rename_i hb;rw [hb] at hx
    exact CK.condF hx (HE _ _ _ _ _ _ hr _ N hc.2.2 rr μ σ w D n0 hrr S hE M hn)
   ·cases hr
  | block i a =>
   have hr:wIZ i a (exec tb n r) σA h=some (e,σA',h'):=hr
   cases code <;> simp only [wED,nE,nH] at hc
   rename_i j code
   have hij:=nZ hc.1
   subst hij
   obtain ⟨⟨e1,σ1,h1⟩,ha,hb⟩:=wOV hr
   refine CK.block ((HE _ _ _ _ _ _ ha code N hc.2 rr μ σ w D n0 hrr S hE M hn).mono ?_)
   rintro D' e' σ' w' ⟨rfl,μ1,q1,q2,q3,q4,q5,q6⟩
   cases e1 with
   | nrm=>cases hb;exact ⟨rfl,μ1,q1,q2,q3,q4,q5,q6⟩
   | ret=>cases hb;exact ⟨rfl,μ1,q1,q2,q3,q4,q5,q6⟩
   | exit k =>
    have hb:Bool.rec (motive:=fun _=>R) (some (.exit k,σ1,h1)) (some (.nrm,σ1,h1)) (Nat.beq k i)=some (e,σA',h'):=hb
    cases hk:Nat.beq k i with
    | true =>
     rw [hk] at hb;cases hb
     have:=nZ hk
     subst this
     exact wGN ⟨rfl,μ1,q1,q2,q3,q4,q5,q6⟩
    | false =>
     rw [hk] at hb;cases hb
     exact wLs ⟨rfl,μ1,q1,q2,q3,q4,q5,q6⟩ hk
  | loop a =>
   have hr':exec tb (n + 1) r (.loop a) σA h=some (e,σA',h'):=hr
   cases code <;> simp only [wED,nE] at hc
   exact CK.ofRounds (n + 1) (loop _ _ _ _ _ _ hr' _ N hc rr μ σ w D n0 hrr S hE M hn)
  | rf g t asg body =>
   have hr:sRf (!r) g t asg body tb (exec tb n false) σA h=some (e,σA',h'):=hr
   cases r with
   | true=>unfold sRf at hr;simp at hr
   | false =>
    have hnone:rr=none:=by cases rr <;> first | rfl | cases hrr
    subst hnone
    cases code <;> first | (simp only [wED,nE] at hc;done) | skip
    exact wMI HC hc hr S hE M hn
  | exit i =>
   have hr:some (Ex.exit i,σA,h)=some (e,σA',h'):=hr
   cases hr
   cases code <;> simp only [wED,nE] at hc
   have:=nZ hc
   subst this
   exact CK.exit ⟨rfl,μ,Ext.refl μ _ w,S,hE,M,rfl,fun _=>rfl⟩
  | scope a =>
   have hr:exec tb n r a σA h=some (e,σA',h'):=hr
   cases code <;> simp only [wED,nE] at hc
   refine CK.scope ((HE _ _ _ _ _ _ hr _ N hc rr μ σ w D n0 hrr S hE M hn).mono ?_)
   rintro D' e' σ' w' ⟨rfl,q⟩
   cases e with
   | nrm=>exact ⟨rfl,q⟩
   | ret=>exact ⟨rfl,q⟩
   | exit k=>exact ⟨rfl,q⟩
  | ret =>
   have hr:some (Ex.ret,σA,h)=some (e,σA',h'):=hr
   cases hr
   cases code <;> simp only [wED,nE] at hc
   exact CK.ret ⟨rfl,μ,Ext.refl μ _ w,S,hE,M,rfl,fun _=>rfl⟩
  | rl os =>
   have hr:sRl os tb (exec tb n false) (exec tb n true) σA h=some (e,σA',h'):=hr
   rw [wMk] at hr
   split at hr
   ·rename_i y hq
    cases hr
    obtain ⟨g1,g2⟩:=wIH _ _ _ _ hq
    cases code <;> simp only [wED,nE,nH,np] at hc
    rename_i id ops draw
    obtain ⟨rfl,c1,c2⟩:=hc
    have hop:ops=ops.toList.toArray:=by simp
    rw [hop]
    exact CK.lazy hm HC HY (wDk tb n false) (wDk tb n true) (wLA c1 c2) g2 g1 S hE fun μ' w' σ' q1 q2 q3 q4=>⟨rfl,μ',q1,q2,q3,M.ext q1,q4,fun _=>rfl⟩
   ·cases hr
theorem Sim.empty (C:Chk) (P:Program) (w:World):Sim C P (fun _=>none) ⟨.e,.H,.H⟩ w :=
 ⟨fun _ _=>rfl,fun _ _ h=>(by cases h),fun _ _ _ _ _ _ h=>(by rw [Tr.get_e] at h;cases h),fun _ _ h=>(by rw [Tr.get_e] at h;cases h)⟩
theorem wJZ (hm:P.follows .mixedOrders=true) (T:wJW P tb) (n:Nat) (f:Pos) (args:List AV) (vs:List Value) (v:AV) (h:AH) (hv:∀ μ,RvL μ args vs) (hr:wGy tb (exec tb n false) f args ⟨.e,.H,.H⟩=some (v,h)) (w:World) :
  Gv P (f.nat - 1) vs w fun cv w'=>∃ μ,Rv μ v cv/\Keep w w' Non:=by
 obtain ⟨_,hg⟩:=wLC T (wNy hm T n false).1 f args _ v h hr
 refine (hg _ w vs (Sim.empty _ _ w) (hv _)).mono ?_
 rintro cv w' ⟨μ',h1,h2,h3,_⟩
 exact ⟨μ',h3,h1.keep.weak fun i _ ⟨p,d,hp,_⟩=>by cases hp⟩
noncomputable def okB (tb:Tr AF) (n:Nat) (f:Pos) (b:Bool):Bool:=match wGy tb (exec tb n false) f [] ⟨.e,.H,.H⟩ with
 | some (.bool b',_)=>b' == b
 | _=>false
theorem wMJ (hm:P.follows .mixedOrders=true) (T:wJW P tb) (n:Nat) (f:Pos) (k:Nat) (hk:f.nat=k + 1) (b:Bool) (hr:okB tb n f b=true) (w:World):Gv P k [] w fun cv w'=>cv=.bool b/\Keep w w' Non:=by
 unfold okB at hr
 split at hr
 ·rename_i b' h hq
  have hb:=eq_of_beq hr
  subst hb
  have:=wJZ hm T n f [] [] _ h (fun _=>rfl) hq w
  rw [hk] at this
  refine this.mono ?_
  rintro cv w' ⟨μ,h1,h2⟩
  exact ⟨h1,h2⟩
 ·cases hr
def wLO (f:Nat->AF->Prop):Tr AF->(Nat->Nat)->Prop
 | .e,_=>True
 | .n l v r,g=>(match v with | none=>True | some a=>f (g 1) a)/\wLO f l (fun n=>g (2 * n))/\wLO f r (fun n=>g (2 * n + 1))
theorem wFZ {f:Nat->AF->Prop}:∀ {t:Tr AF} {g:Nat->Nat},wLO f t g->∀ p a,t.get p=some a->f (g p.nat) a
 | .e,g,_,p,a,hq=>by rw [Tr.get_e] at hq;cases hq
 | .n l v r,g,⟨h1,h2,h3⟩,.H,a,hq=>by
  rw [Tr.get_H] at hq;subst hq;exact h1
 | .n l v r,g,⟨h1,h2,h3⟩,.O p,a,hq=>wFZ h2 p a hq
 | .n l v r,g,⟨h1,h2,h3⟩,.I p,a,hq=>wFZ h3 p a hq
theorem wPM (h:wLO (fun n a=>chkF P (n - 1) a=true) tb fun n=>n):wJW P tb:=fun p af hq=>wFZ h p af hq
end
end Go.KX
namespace Go.KL
variable {S S' B B' α:Type}
theorem wFc {body:Nat->S->Option S} (I:Nat->S->Prop):∀ (m k:Nat) (s:S),I k s ->
  (∀ i s,k <= i->i < k + m->I i s->∃ s',body i s=some s'/\I (i + 1) s')->∃ s',forN' body m k s=some s'/\I (k + m) s'
 | 0,k,s,h,_=>⟨s,rfl,h⟩
 | m + 1,k,s,h,hb=>by
  simp only [forN']
  obtain ⟨s',h1,h2⟩:=hb k s (nL _) (by omega) h
  rw [h1]
  have:=wFc I m (k + 1) s' h2 fun i s h2 h3 h4=>hb i s (by omega) (by omega) h4
  rwa [show k + 1 + m=k + (m + 1) from by omega] at this
theorem wCk {body:Nat->S->Option (S ⊕ B)} {n:Nat} {s:S} (hn:n <= 9223372036854775807):wFi 0 (n:Int) body s=forN body n 0 s:=by
 unfold wFi
 rw [if_pos (by omega),show ((n:Int) - 0).toNat=n from by omega]
theorem wDR {body:Nat->S->Option S} {n:Nat} {s:S} (hn:n <= 9223372036854775807):wCZ 0 (n:Int) body s=forN' body n 0 s:=by
 unfold wCZ
 rw [if_pos (by omega),show ((n:Int) - 0).toNat=n from by omega]
def first (p:α->Bool):List α->Nat->Int
 | [],_=>-1
 | a :: l,k=>if p a then (k:Int) else first p l (k + 1)
theorem wJa {R:Type} {l:List α} {f:α->Option Bool} {p:α->Bool} (hf:∀ a ∈ l,f a=some (p a)) (hn:l.length <= 9223372036854775807) (z:Int->R) :
  (jn (wFi 0 (↑l.length:Int) (fun k2 (_:Unit)=>(idx l (↑k2:Int)).bind fun x=>(f x).bind fun y=>if y=true then esc (some (z (↑k2:Int))) else some (.inl ())) ()) fun _=>some (z (-1)))=some (z (first p l 0)):=by
 rw [wCk hn]
 have key:∀ (m k:Nat),k + m=l.length->(jn (forN (fun k2 (_:Unit)=>(idx l (↑k2:Int)).bind fun x=>(f x).bind fun y=>if y=true then esc (some (z (↑k2:Int))) else some (.inl ())) m k ()) fun _=>some (z (-1)))=some (z (first p (l.drop k) k)):=by
  intro m
  induction m with
  | zero=>intro k hk;rw [nf (by omega)];rfl
  | succ m ih =>
   intro k hk
   have hlt:k < l.length:=by omega
   rw [nR hlt,first,forN,wEI,nM hlt]
   simp only [hH,hf _ (kW hlt)]
   by_cases h:p l[k]=true
   ·simp [h]
   ·simp only [h,if_false,nE]
    exact ih (k + 1) (by omega)
 exact key l.length 0 (by omega)
theorem wJb [DecidableEq α] {l m:List α} (hn:l.length <= 9223372036854775807) :
  (if (↑l.length:Int)=(↑m.length:Int) then jn (wFi 0 (↑l.length:Int) (fun k4 (_:Unit)=>(idx l (↑k4:Int)).bind fun x26=>(idx m (↑k4:Int)).bind fun x34=>if x26=x34 then some (.inl ()) else esc (some false)) ()) fun _=>some true else some false)=some (decide (l=m)):=by
 by_cases hl:l.length=m.length
 ·rw [if_pos (by omega),wCk hn]
  have key:∀ (n k:Nat),k + n=l.length->(jn (forN (fun k4 (_:Unit)=>(idx l (↑k4:Int)).bind fun x26=>(idx m (↑k4:Int)).bind fun x34=>if x26=x34 then some (.inl ()) else esc (some false)) n k ()) fun _=>some true)=some (decide (l.drop k=m.drop k)):=by
   intro n
   induction n with
   | zero=>intro k hk;rw [nf (by omega),nf (by omega)];simp [forN]
   | succ n ih =>
    intro k hk
    have h1:k < l.length:=by omega
    have h2:k < m.length:=by omega
    rw [nR h1,nR h2,forN,wEI,wEI,nM h1,nM h2]
    simp only [hH]
    by_cases h:l[k]=m[k]
    ·rw [if_pos h]
     simp only
     rw [ih (k + 1) (by omega)]
     congr 1
     exact decide_eq_decide.2 ⟨fun e=>by rw [e,h],fun e=>(kx e).2⟩
    ·rw [if_neg h]
     have:¬ l[k] :: l.drop (k + 1)=m[k] :: m.drop (k + 1):=fun e=>h (kx e).1
     simp only [wEi,wEv,this,decide_false]
  have:=key l.length 0 (by omega)
  simpa using this
 ·rw [if_neg (by omega)]
  have:l ≠ m:=fun e=>hl (by rw [e])
  simp [this]
theorem wIs {R:Type} {l:List α} {g:α->Option (Unit ⊕ R)} {p:α->Bool} {z:R} {K:Unit->Option R} (hg:∀ a ∈ l,g a=if p a=true then some (.inl ()) else some (.inr z)) (hn:l.length <= 9223372036854775807) :
  jn (wFi 0 (↑l.length:Int) (fun k (_:Unit)=>(idx l (↑k:Int)).bind g) ()) K=if l.all p=true then K () else some z:=by
 rw [wCk hn]
 have key:∀ (m k:Nat),k + m=l.length->jn (forN (fun k (_:Unit)=>(idx l (↑k:Int)).bind g) m k ()) K=if (l.drop k).all p=true then K () else some z:=by
  intro m
  induction m with
  | zero=>intro k hk;rw [nf (by omega)];rfl
  | succ m ih =>
   intro k hk
   have hlt:k < l.length:=by omega
   have e:l.drop k=l[k] :: l.drop (k + 1):=nR hlt
   rw [e,List.all_cons,forN,wEI,nM hlt]
   simp only [hH,hg _ (kW hlt)]
   by_cases h:p l[k]=true
   ·rw [h]
    simp only [if_true,Bool.true_and]
    exact ih (k + 1) (by omega)
   ·rw [if_neg h]
    have:p l[k]=false:=by simpa using h
    simp only [this,Bool.false_and,wEv,nE,if_false]
 exact key l.length 0 (by omega)
theorem wMN {β:Type} {l:List α} {f:α->β} {bytes:Nat} {g:α->List β->Option (List β)} (hg:∀ a ∈ l,∀ r,g a r=app bytes r [f a]) (hn:l.length <= 9223372036854775807) (hb:l.length * bytes <= 140737488355328) :
  wCZ 0 (↑l.length:Int) (fun k r=>(idx l (↑k:Int)).bind fun x=>g x r) []=some (l.map f):=by
 rw [wDR hn]
 have key:∀ (m k:Nat) (r:List β),k + m=l.length->r.length=k->forN' (fun k r=>(idx l (↑k:Int)).bind fun x=>g x r) m k r=some (r ++ (l.drop k).map f):=by
  intro m
  induction m with
  | zero=>intro k r hk _;rw [nf (by omega)];simp [forN']
  | succ m ih =>
   intro k r hk hr
   have hlt:k < l.length:=by omega
   have e:l.drop k=l[k] :: l.drop (k + 1):=nR hlt
   rw [e,forN',wEI,nM hlt]
   have ha:app bytes r [f l[k]]=some (r ++ [f l[k]]):=by
    refine if_pos ?_
    simp only [nb,kY]
    exact kU (Nat.mul_le_mul_right _ (by omega)) hb
   simp only [hH,hg _ (kW hlt),ha]
   rw [ih (k + 1) _ (by omega) (by simp [hr]),nB]
   rfl
 exact key l.length 0 [] (by omega) rfl
theorem wFd {bytes:Nat} {l m:List α} (h:(l.length + m.length) * bytes <= 140737488355328):app bytes l m=some (l ++ m):=if_pos h
end Go.KL
namespace Go.KL
variable {S B R α β:Type}
theorem wIt {body:Nat->S->Option (S ⊕ B)} (s:Nat->S):∀ (m k:Nat),(∀ i,k <= i->i < k + m->body i (s i)=some (.inl (s (i + 1))))->forN body m k (s k)=some (.inl (s (k + m)))
 | 0,_,_=>rfl
 | m + 1,k,h=>by
  rw [forN,h k (nL _) (by omega)]
  have:=wIt s m (k + 1) fun i h1 h2=>h i (by omega) (by omega)
  rw [show k + 1 + m=k + (m + 1) by omega] at this
  exact this
theorem wHM {body:Nat->S->Option S} (s:Nat->S):∀ (m k:Nat),(∀ i,k <= i->i < k + m->body i (s i)=some (s (i + 1)))->forN' body m k (s k)=some (s (k + m))
 | 0,_,_=>rfl
 | m + 1,k,h=>by
  rw [forN',h k (nL _) (by omega)]
  have:=wHM s m (k + 1) fun i h1 h2=>h i (by omega) (by omega)
  rw [show k + 1 + m=k + (m + 1) by omega] at this
  exact this
theorem wCQ {body:Nat->S->Option S} {n:Nat} {s0:S} (s:Nat->S) (h0:s 0=s0) (hn:n <= 9223372036854775807) (h:∀ i,i < n->body i (s i)=some (s (i + 1))):wCZ 0 (n:Int) body s0=some (s n):=by
 rw [wDR hn,<- h0]
 have:=wHM s n 0 fun i _ hi=>h i (by omega)
 rwa [nz] at this
theorem wMO {body:Nat->S->Option (S ⊕ B)} {n:Nat} {s0:S} (s:Nat->S) (h0:s 0=s0) (hn:n <= 9223372036854775807) (h:∀ i,i < n->body i (s i)=some (.inl (s (i + 1)))):wFi 0 (n:Int) body s0=some (.inl (s n)):=by
 rw [wCk hn,<- h0]
 have:=wIt s n 0 fun i _ hi=>h i (by omega)
 rwa [nz] at this
theorem wFe {body:Nat->Unit->Option (Unit ⊕ B)} {n:Nat} (hn:n <= 9223372036854775807) (h:∀ i,i < n->body i ()=some (.inl ())):wFi 0 (n:Int) body ()=some (.inl ()):=wMO (fun _=>()) rfl hn h
theorem wCK [Inhabited α] {l:List α} {k:Nat} (h:k < l.length):idx l (k:Int)=some (gd l k):=by
 rw [wEI]
 exact wAu h
theorem wBG [Inhabited α] {l:List α} {k:Nat} (h:k < l.length):gd l k ∈ l:=List.mem_of_getElem? (wAu h)
theorem wCR [Inhabited α] {l:List α} {k:Nat} (h:k < l.length):l.take (k + 1)=l.take k ++ [gd l k]:=by
 rw [List.take_add_one,wAu h]
 rfl
theorem wDn [Inhabited α] {l:List α} {k:Nat} (h:k < l.length):l.drop k=gd l k :: l.drop (k + 1):=by
 have:=wAu h
 rw [nM h] at this
 rw [nR h,nJ this]
theorem wMP [Inhabited α] {l m:List α} {k:Nat} (h:k < l.length):gd (l ++ m) k=gd l k:=by
 have h1:=wAu (xs:=l ++ m) (k:=k) (by rw [nA];omega)
 rw [nS h,wAu h] at h1
 exact (nJ h1).symm
theorem wEp [Inhabited α] (l m:List α) (x:α):gd (l ++ x :: m) l.length=x:=by
 have h1:=wAu (xs:=l ++ x :: m) (k:=l.length) (by simp)
 rw [nj (nL _),kK] at h1
 exact (nJ h1).symm
theorem wBb [Inhabited α] [Inhabited β] (f:α->β) {l:List α} {k:Nat} (h:k < l.length):gd (l.map f) k=f (gd l k):=by
 have h1:=wAu (xs:=l.map f) (k:=k) (by simpa using h)
 rw [km,wAu h] at h1
 exact (nJ h1).symm
theorem wOB (o:Option α):(o.bind fun x=>some x)=o:=by cases o <;> rfl
theorem wPT [Inhabited α] {l m:List α} (h:l.length=m.length) (hk:∀ k,k < l.length->gd l k=gd m k):l=m:=by
 apply kS
 intro k
 rcases kV k l.length with h1 | h1
 ·rw [wAu h1,wAu (by omega),hk k h1]
 ·rw [kJ h1,kJ (by omega)]
end Go.KL
namespace Go.KL
variable {S B α:Type}
theorem wLS {body:S->Option (S ⊕ B)} (F:Nat):∀ (m:Nat) (s:Nat->S),(∀ i,i < m->body (s i)=some (.inl (s (i + 1))))->iter body (m + F) (s 0)=iter body F (s m)
 | 0,s,_=>by rw [nz]
 | m + 1,s,h=>by
  rw [show m + 1 + F=(m + F) + 1 by omega,iter,h 0 (by omega)]
  exact wLS F m (fun i=>s (i + 1)) fun i hi=>h (i + 1) (by omega)
theorem wIM {body:S->Option (S ⊕ B)} {m:Nat} (s:Nat->S) (h:∀ i,i < m->body (s i)=some (.inl (s (i + 1)))) {b:B} (hb:body (s m)=some (.inr b)) {s0:S} (h0:s 0=s0) (hm:m < 1000000):iter body big s0=some b:=by
 subst h0
 have:=wLS (big - m - 1 + 1) m s h
 rw [show m + (big - m - 1 + 1)=big by unfold big;omega] at this
 rw [this,iter,hb]
theorem wCv {body:S->Option (S ⊕ B)} (I:Nat->S->Prop) (Z:B->Prop) (m:Nat) (step:∀ i s,i <= m->I i s->(i < m/\∃ s',body s=some (.inl s')/\I (i + 1) s') \/ ∃ b,body s=some (.inr b)/\Z b) {s0:S} (h0:I 0 s0) (hm:m < 1000000):∃ b,iter body big s0=some b/\Z b:=by
 have key:∀ (d i:Nat) (s:S),i + d=m->I i s->∀ F,d < F->∃ b,iter body F s=some b/\Z b:=by
  intro d
  induction d with
  | zero =>
   intro i s hi hI F hF
   obtain ⟨F,rfl⟩:∃ G,F=G + 1:=⟨F - 1,by omega⟩
   rcases step i s (by omega) hI with ⟨h,_⟩ | ⟨b,h1,h2⟩
   ·omega
   ·exact ⟨b,by rw [iter,h1],h2⟩
  | succ d ih =>
   intro i s hi hI F hF
   obtain ⟨F,rfl⟩:∃ G,F=G + 1:=⟨F - 1,by omega⟩
   rcases step i s (by omega) hI with ⟨_,s',h1,h2⟩ | ⟨b,h1,h2⟩
   ·obtain ⟨b,h3,h4⟩:=ih (i + 1) s' (by omega) h2 F (by omega)
    exact ⟨b,by rw [iter,h1];exact h3,h4⟩
   ·exact ⟨b,by rw [iter,h1],h2⟩
 exact key m 0 s0 (by omega) h0 big (by unfold big;omega)
theorem wMw [Inhabited α] {l:List α} {i k:Nat} {x:α} (hi:i < l.length) (hk:k < l.length):gd (l.set i x) k=if k=i then x else gd l k:=by
 have h1:=wAu (xs:=l.set i x) (k:=k) (by rw [nh];exact hk)
 rw [List.getElem?_set] at h1
 by_cases e:i=k
 ·subst e
  rw [if_pos rfl,if_pos hi] at h1
  rw [if_pos rfl]
  exact (nJ h1).symm
 ·rw [if_neg e,wAu hk] at h1
  rw [if_neg (fun h=>e h.symm)]
  exact (nJ h1).symm
theorem wCS [Inhabited α] {l:List α} {k:Nat} (h:k < l.length):gd l k=l[k]:=by
 have:=wAu h
 rw [nM h] at this
 exact (nJ this).symm
theorem wJc [DecidableEq α] {l:List α} (hn:l.length <= 9223372036854775807) :
  (if (↑l.length:Int)=(↑l.length:Int) then jn (wFi 0 (↑l.length:Int) (fun k4 (_:Unit)=>(idx l (↑k4:Int)).bind fun x26=>(idx l (↑k4:Int)).bind fun x34=>if x26=x34 then some (.inl ()) else esc (some false)) ()) fun _=>some true else some false)=some true:=by
 rw [wJb hn]
 simp
end Go.KL
namespace Go.KL
end Go.KL
namespace Go.Proofs.YtghaibkggdecnaaGreat
open Go.KL
theorem wLT (a b:List Int) (i:Nat):gd (a ++ b) i=if i < a.length then gd a i else gd b (i - a.length):=by
 unfold gd
 split
 ·rename_i h;rw [nk,nS h,<- nk]
 ·rename_i h;rw [nk,nj (by omega),<- nk]
theorem wBy {a b:Nat} (h:b <= a) (ha:a <= 1000000):w64 ((a:Int) - (b:Int))=((a - b:Nat):Int):=by rw [wAg (by omega) (by omega)];omega
theorem wCw {a b:Nat} (h:a + b <= 1000000):w64 ((a:Int) + (b:Int))=((a + b:Nat):Int):=by rw [wAg (by omega) (by omega)];omega
theorem wET {a:Nat} (h:a <= 1000000):w64 ((a:Int) + 1)=((a + 1:Nat):Int):=by rw [wAg (by omega) (by omega)];omega
theorem wGf {a:Nat} (h:1 <= a) (h2:a <= 1000000):w64 ((a:Int) - 1)=((a - 1:Nat):Int):=by rw [wAg (by omega) (by omega)];omega
theorem wHN {l:List Int} {i j:Nat} (h:i=j):gd l i=gd l j:=by rw [h]
theorem wJd {l:List Int} {p q n:Nat} {c:(Int × Int)->Option Int} (h1:p + n <= q) (h2:q + n <= l.length) (hl:l.length <= 1000):∃ r,wAE l p q n c=some r/\r.length=l.length /\
  ∀ i,i < l.length->gd r i=if p <= i/\i < p + n then gd l (i - p + q) else if q <= i/\i < q + n then gd l (i - q + p) else gd l i:=by
 unfold wAE
 rw [wDR (by omega)]
 obtain ⟨s,hs,I1,I2⟩:=wFc (body:=fun (k8:Nat) (l7:List Int) =>
  (chk (w64 ((q:Int) + (↑k8:Int))) l7.length).bind fun _ =>
  (chk (w64 ((p:Int) + (↑k8:Int))) l7.length).bind fun _ =>
  (chk (w64 ((q:Int) + (↑k8:Int))) (nW l7 (w64 ((p:Int) + (↑k8:Int))).toNat (gd l7 (w64 ((q:Int) + (↑k8:Int))).toNat)).length).bind fun _ =>
  some (nW (nW l7 (w64 ((p:Int) + (↑k8:Int))).toNat (gd l7 (w64 ((q:Int) + (↑k8:Int))).toNat)) (w64 ((q:Int) + (↑k8:Int))).toNat (gd l7 (w64 ((p:Int) + (↑k8:Int))).toNat)))
  (fun k s=>s.length=l.length/\∀ i,i < l.length->gd s i=if p <= i/\i < p + k then gd l (i - p + q) else if q <= i/\i < q + k then gd l (i - q + p) else gd l i) n 0 l
  ⟨rfl,fun i hi=>by rw [if_neg (by omega),if_neg (by omega)]⟩ (fun k s _ hk ⟨J1,J2⟩=>by
   have hk:k < n:=by omega
   have e1:w64 ((q:Int) + (k:Int))=((q + k:Nat):Int):=wCw (by omega)
   have e2:w64 ((p:Int) + (k:Int))=((p + k:Nat):Int):=wCw (by omega)
   rw [e1,e2,wBW (by omega) (by omega),hH,wBW (by omega) (by omega),hH,wBW (by omega) (by rw [nh];omega),hH]
   simp only [nY]
   refine ⟨_,rfl,by simp [J1],fun i hi=>?_⟩
   rw [wMw (by rw [nh];omega) (by rw [nh];omega),wMw (by omega) (by omega),J2 (p + k) (by omega),J2 (q + k) (by omega),J2 i hi]
   rw [if_neg (show ¬ (p <= q + k/\q + k < p + k) by omega),if_neg (show ¬ (q <= q + k/\q + k < q + k) by omega),if_neg (show ¬ (p <= p + k/\p + k < p + k) by omega),if_neg (show ¬ (q <= p + k/\p + k < q + k) by omega)]
   by_cases c1:i=q + k
   ·subst c1
    rw [if_pos rfl,if_neg (by omega),if_pos (by omega)]
    exact wHN (by omega)
   ·rw [if_neg c1]
    by_cases c2:i=p + k
    ·subst c2
     rw [if_pos rfl,if_pos (by omega)]
     exact wHN (by omega)
    ·rw [if_neg c2]
     by_cases c3:p <= i/\i < p + k
     ·rw [if_pos c3,if_pos (by omega)]
     ·rw [if_neg c3,if_neg (show ¬ (p <= i/\i < p + (k + 1)) by omega)]
      by_cases c4:q <= i/\i < q + k
      ·rw [if_pos c4,if_pos (by omega)]
      ·rw [if_neg c4,if_neg (by omega)])
 rw [hs]
 rw [nz] at I2
 exact ⟨s,rfl,I1,I2⟩
theorem wDo {P X M Y S:List Int} {c:(Int × Int)->Option Int} (h:X.length=Y.length) (hl:(P ++ X ++ M ++ Y ++ S).length <= 1000):wAE (P ++ X ++ M ++ Y ++ S) (P.length:Nat) ((P.length + X.length + M.length:Nat):Int) (X.length:Nat) c=some (P ++ Y ++ M ++ X ++ S):=by
 have hl':=hl
 simp only [nA] at hl
 obtain ⟨r,hr,h1,h2⟩:=wJd (l:=P ++ X ++ M ++ Y ++ S) (p:=P.length) (q:=P.length + X.length + M.length) (n:=X.length) (c:=c) (by omega) (by simp only [nA];omega) hl'
 rw [hr]
 refine congrArg some (wPT (by rw [h1];simp only [nA];omega) fun i hi=>?_)
 rw [h1] at hi
 rw [h2 i hi]
 simp only [nA] at hi
 simp only [wLT,nA]
 by_cases c1:i < P.length
 ·rw [if_neg (by omega),if_neg (by omega),if_pos (by omega),if_pos (by omega),if_pos (by omega),if_pos c1,if_pos (by omega),if_pos (by omega),if_pos (by omega),if_pos c1]
 ·by_cases c2:i < P.length + X.length
  ·rw [if_pos (by omega),if_pos (by omega),if_neg (by omega),if_pos (by omega),if_pos (by omega),if_pos (by omega),if_neg c1]
   exact wHN (by omega)
  ·rw [if_neg (show ¬ (P.length <= i/\i < P.length + X.length) by omega)]
   by_cases c3:i < P.length + X.length + M.length
   ·rw [if_neg (by omega),if_pos (by omega),if_pos (by omega),if_neg (by omega),if_pos (by omega),if_pos (by omega),if_neg (by omega)]
    exact wHN (by omega)
   ·by_cases c4:i < P.length + X.length + M.length + Y.length
    ·rw [if_pos (by omega),if_pos (by omega),if_pos (by omega),if_pos (by omega),if_neg (by omega),if_pos (by omega),if_neg (by omega)]
     exact wHN (by omega)
    ·rw [if_neg (by omega),if_neg (by omega),if_neg (by omega)]
     exact wHN (by omega)
theorem wMQ {P X Y S:List Int} {c:(Int × Int)->Option Int} {m:Nat} (hm:P.length + X.length=m) (g:Y.length < X.length) (hl:(P ++ X ++ Y ++ S).length <= 1000) :
  wAE (P ++ X ++ Y ++ S) (w64 ((m:Int) - (X.length:Nat))) (m:Nat) (Y.length:Nat) c=some (P ++ Y ++ X.drop Y.length ++ X.take Y.length ++ S):=by
 have hx1:(X.take Y.length).length=Y.length:=by rw [nI];omega
 have hx2:(X.drop Y.length).length=X.length - Y.length:=by rw [nN]
 have e3:P ++ X.take Y.length ++ X.drop Y.length ++ Y ++ S=P ++ X ++ Y ++ S:=by rw [nB P,nD]
 have hsw:=wDo (P:=P) (X:=X.take Y.length) (M:=X.drop Y.length) (Y:=Y) (S:=S) (c:=c) hx1 (by rw [e3];exact hl)
 have hl2:=hl
 simp only [nA] at hl2
 rw [hx1,hx2,e3,show P.length + Y.length + (X.length - Y.length)=m by omega] at hsw
 rw [wBy (by omega) (by omega),show m - X.length=P.length by omega]
 exact hsw
theorem wLU {P X Y S:List Int} {c:(Int × Int)->Option Int} {m:Nat} (hm:P.length + X.length=m) (g:X.length < Y.length) (hl:(P ++ X ++ Y ++ S).length <= 1000) :
  wAE (P ++ X ++ Y ++ S) (w64 ((m:Int) - (X.length:Nat))) (w64 ((w64 ((m:Int) + (Y.length:Nat))) - (X.length:Nat))) (X.length:Nat) c=some (P ++ Y.drop (Y.length - X.length) ++ Y.take (Y.length - X.length) ++ X ++ S):=by
 have hy1:(Y.drop (Y.length - X.length)).length=X.length:=by rw [nN];omega
 have hy2:(Y.take (Y.length - X.length)).length=Y.length - X.length:=by rw [nI];omega
 have e3:P ++ X ++ Y.take (Y.length - X.length) ++ Y.drop (Y.length - X.length) ++ S=P ++ X ++ Y ++ S:=by rw [nB (P ++ X),nD]
 have hsw:=wDo (P:=P) (X:=X) (M:=Y.take (Y.length - X.length)) (Y:=Y.drop (Y.length - X.length)) (S:=S) (c:=c) hy1.symm (by rw [e3];exact hl)
 have hl2:=hl
 simp only [nA] at hl2
 rw [hy2,e3,show P.length + X.length + (Y.length - X.length)=m + Y.length - X.length by omega] at hsw
 rw [wCw (by omega),wBy (by omega) (by omega),wBy (by omega) (by omega),show m - X.length=P.length by omega]
 exact hsw
theorem wOC {P X Y S:List Int} {c:(Int × Int)->Option Int} {m:Nat} (hm:P.length + X.length=m) (g:X.length=Y.length) (hl:(P ++ X ++ Y ++ S).length <= 1000) :
  wAE (P ++ X ++ Y ++ S) (w64 ((m:Int) - (X.length:Nat))) (m:Nat) (X.length:Nat) c=some (P ++ Y ++ X ++ S):=by
 have hsw:=wDo (P:=P) (X:=X) (M:=[]) (Y:=Y) (S:=S) (c:=c) g (by simpa using hl)
 have hl2:=hl
 simp only [nA] at hl2
 rw [nq,nq,kY,Nat.add_zero,hm] at hsw
 rw [wBy (by omega) (by omega),show m - X.length=P.length by omega]
 exact hsw
def RotI (m:Nat) (G:List Int) (s:List Int × Int × Int) (n:Nat):Prop:=∃ P X Y S:List Int,s=(P ++ X ++ Y ++ S,((X.length:Nat):Int),((Y.length:Nat):Int))/\0 < X.length/\0 < Y.length/\P.length + X.length=m/\(P ++ X ++ Y ++ S).length <= 1000/\P ++ Y ++ X ++ S=G/\X.length + Y.length <= n
theorem wMR {m:Nat} {G:List Int} {c:(Int × Int)->Option Int} {l:List Int} {x y:Int} {n:Nat} (h:RotI m G (l,x,y) n) (hne:x ≠ y):0 < n/\∃ s',(if y < x then
        (wAE l (w64 ((m:Int) - x)) (m:Int) y c).bind fun x46 =>
        some (Sum.inl (β:=List Int × Int) (x46,w64 (x - y),y))
      else
        (wAE l (w64 ((m:Int) - x)) (w64 ((w64 ((m:Int) + y)) - x)) x c).bind fun x62 =>
        some (.inl (x62,x,w64 (y - x))))=some (.inl s')/\RotI m G s' (n - 1):=by
  obtain ⟨P,X,Y,S,e,i1,i2,i3,i4,i5,i6⟩:=h
  injection e with e1 e2
  injection e2 with e2 e3
  subst e1 e2 e3
  have hl:=i4
  simp only [nA] at hl
  refine ⟨by omega,?_⟩
  by_cases g:Y.length < X.length
  · rw [if_pos (by omega),wMQ i3 g i4,hH,wBy (by omega) (by omega)]
    have hx1:(X.take Y.length).length=Y.length:=by rw [nI];omega
    have hx2:(X.drop Y.length).length=X.length - Y.length:=by rw [nN]
    refine ⟨_,rfl,P ++ Y,X.drop Y.length,X.take Y.length,S,by rw [hx1,hx2],by omega,by omega,by rw [nA];omega,by simp only [nA];omega,?_,by omega⟩
    rw [nB (P ++ Y) (X.take _),nD,i5]
  · have g2:X.length < Y.length:=by
      rcases kB X.length Y.length with h | h | h
      · exact h
      · exact absurd (by rw [h]) hne
      · exact absurd h g
    rw [if_neg (by omega),wLU i3 g2 i4,hH,wBy (by omega) (by omega)]
    have hy1:(Y.drop (Y.length - X.length)).length=X.length:=by rw [nN];omega
    have hy2:(Y.take (Y.length - X.length)).length=Y.length - X.length:=by rw [nI];omega
    refine ⟨_,rfl,P,Y.drop (Y.length - X.length),Y.take (Y.length - X.length),X ++ S,by rw [hy1,hy2,nB _ X S],by omega,by omega,by omega,by simp only [nA];omega,?_,by omega⟩
    rw [nB P,nD,<- nB,i5]
theorem wLV {A X Y B:List Int} {c:(Int × Int)->Option Int} {a m b:Nat} (ha:A.length=a) (hm:A.length + X.length=m) (hb:A.length + X.length + Y.length=b) (hX:0 < X.length) (hY:0 < Y.length) (hl:(A ++ X ++ Y ++ B).length <= 1000):wAV (A ++ X ++ Y ++ B) (a:Int) (m:Int) (b:Int) c=some (A ++ Y ++ X ++ B):=by
 unfold wAV
 have hl2:=hl
 simp only [nA] at hl2
 rw [wBy (by omega) (by omega),wBy (by omega) (by omega),show m - a=X.length by omega,show b - m=Y.length by omega]
 obtain ⟨r,h1,P,X',Y',S,rfl,h2,h3,h4,h5⟩:=wCv (body:=fun (l16,x17,x18) =>
  if x17=x18 then
   esc (some (l16,x17))
  else
   if x18 < x17 then
    (wAE l16 (w64 ((m:Int) - x17)) (m:Int) x18 c).bind fun x46 =>
    some (.inl (x46,w64 (x17 - x18),x18))
   else
    (wAE l16 (w64 ((m:Int) - x17)) (w64 ((w64 ((m:Int) + x18)) - x17)) x17 c).bind fun x62 =>
    some (.inl (x62,x17,w64 (x18 - x17))))
  (fun n s=>RotI m (A ++ Y ++ X ++ B) s (X.length + Y.length - n)) (fun r=>∃ P X' Y' S:List Int,r=(P ++ X' ++ Y' ++ S,((X'.length:Nat):Int))/\X'.length=Y'.length/\P.length + X'.length=m/\(P ++ X' ++ Y' ++ S).length <= 1000/\P ++ Y' ++ X' ++ S=A ++ Y ++ X ++ B) (X.length + Y.length)
  (fun n s hn h=>by
   obtain ⟨l,x,y⟩:=s
   simp only
   by_cases e:x=y
   ·right
    rw [if_pos e]
    obtain ⟨P,X',Y',S,e',i1,i2,i3,i4,i5,i6⟩:=h
    injection e' with e1 e2
    injection e2 with e2 e3
    subst e1 e2 e3
    exact ⟨_,rfl,P,X',Y',S,rfl,by omega,i3,i4,i5⟩
   ·left
    rw [if_neg e]
    obtain ⟨h1,s',h2,h3⟩:=wMR (c:=c) h e
    exact ⟨by omega,s',h2,by rw [show X.length + Y.length - (n + 1)=X.length + Y.length - n - 1 by omega];exact h3⟩)
  (s0:=(A ++ X ++ Y ++ B,((X.length:Nat):Int),((Y.length:Nat):Int))) ⟨A,X,Y,B,rfl,hX,hY,hm,hl,rfl,by omega⟩ (by omega)
 rw [h1,hH]
 simp only
 rw [wOC h3 h2 h4,hH,h5]
theorem wFf {body:Int × Int->Option ((Int × Int) ⊕ Int)} (q:Nat->Bool) {lo hi:Nat} (hle:lo <= hi) (hh:hi <= 1000) (mono:∀ i j,lo <= i->i <= j->j < hi->q j=true->q i=true)
  (hb:∀ i j:Nat,lo <= i->i < j->j <= hi->body ((i:Int),(j:Int))=some (.inl (if q ((i + j) / 2)=true then ((((i + j) / 2 + 1:Nat):Int),(j:Int)) else ((i:Int),(((i + j) / 2:Nat):Int)))))
  (he:∀ i:Nat,lo <= i->i <= hi->body ((i:Int),(i:Int))=some (.inr (i:Int))) :
  ∃ k:Nat,lo <= k/\k <= hi/\iter body big ((lo:Int),(hi:Int))=some (k:Int)/\(∀ i,lo <= i->i < k->q i=true)/\(∀ i,k <= i->i < hi->q i=false):=by
 obtain ⟨b,h1,k,rfl,h2⟩:=wCv (body:=body) (fun n s=>∃ i j:Nat,s=((i:Int),(j:Int))/\lo <= i/\i <= j/\j <= hi/\j - i + n <= hi - lo/\(∀ t,lo <= t->t < i->q t=true)/\(∀ t,j <= t->t < hi->q t=false))
  (fun b=>∃ k:Nat,b=(k:Int)/\lo <= k/\k <= hi/\(∀ t,lo <= t->t < k->q t=true)/\(∀ t,k <= t->t < hi->q t=false)) (hi - lo) (fun n s hn ⟨i,j,hs,i1,i2,i3,i4,i5,i6⟩=>by
   subst hs
   rcases kV i j with c | c
   ·left
    refine ⟨by omega,_,hb i j i1 c i3,?_⟩
    by_cases g:q ((i + j) / 2)=true
    ·rw [if_pos g]
     refine ⟨(i + j) / 2 + 1,j,rfl,by omega,by omega,i3,by omega,fun t h1 h2=>?_,i6⟩
     exact mono t ((i + j) / 2) h1 (by omega) (by omega) g
    ·rw [if_neg g]
     refine ⟨i,(i + j) / 2,rfl,i1,by omega,by omega,by omega,i5,fun t h1 h2=>?_⟩
     cases hq:q t with
     | false=>rfl
     | true=>exact absurd (mono _ t (by omega) h1 h2 hq) g
   ·right
    have:i=j:=by omega
    subst this
    exact ⟨_,he i i1 i3,i,rfl,i1,i3,i5,i6⟩) (s0:=((lo:Int),(hi:Int))) ⟨lo,hi,rfl,nL _,hle,nL _,by omega,fun t h1 h2=>by omega,fun t h1 h2=>by omega⟩ (by omega)
 exact ⟨k,h2.1,h2.2.1,h1,h2.2.2⟩
end Go.Proofs.YtghaibkggdecnaaGreat
namespace Go.Proofs.YtghaibkggdecnaaGreat
open Go.KL
def Lr (K:Int->Int) (a b:Int):Prop:=K a < K b \/ (K a=K b/\a < b)
theorem Lr.le {K:Int->Int} {a b:Int} (h:Lr K a b):K a <= K b:=by unfold Lr at h;omega
theorem Lr.of {K:Int->Int} {a b:Int} (h:K a <= K b) (h2:a < b):Lr K a b:=by unfold Lr;omega
def ByK (K:Int->Int) (n:Int) (c:(Int × Int)->Option Int):Prop:=∀ a b,0 <= a->a < n->0 <= b->b < n->∃ x,c (a,b)=some x/\(x < 0 ↔ K a < K b)
def In (n:Int) (l:List Int):Prop:=∀ x ∈ l,0 <= x/\x < n
theorem wGg (P T:List Int) (z x:Int):gd (P ++ z :: x :: T) P.length=z/\gd (P ++ z :: x :: T) (P.length + 1)=x/\nW (nW (P ++ z :: x :: T) (P.length + 1) z) P.length x=P ++ x :: z :: T/\nW (nW (P ++ z :: x :: T) P.length x) (P.length + 1) z=P ++ x :: z :: T:=by
 refine ⟨wEp _ _ _,?_,?_,?_⟩
 ·have:=wEp (P ++ [z]) T x
  simpa using this
 ·rw [ni _ _ (by omega),show P.length + 1 - P.length=1 by omega,ni _ _ (by omega),kK]
  rfl
 ·rw [ni _ _ (by omega),kK,ni _ _ (by omega),show P.length + 1 - P.length=1 by omega]
  rfl
def wPU (p1:Int) (c:(Int × Int)->Option Int) (x9:Int) (s:List Int × Int):Option ((List Int × Int) ⊕ ((List Int × Int) ⊕ List Int)):=match s with
  | (l34,x35) =>
        if p1 < x35 then
          (chk x35 l34.length).bind fun _ =>
          (chk (w64 (x35 - 1)) l34.length).bind fun _ =>
          (c ((gd l34 x35.toNat),(gd l34 (w64 (x35 - 1)).toNat))).bind fun x65 =>
          if x65 < 0 then
            (chk (w64 (x35 - 1)) (nW l34 x35.toNat (gd l34 (w64 (x35 - 1)).toNat)).length).bind fun _ =>
            some (.inl ((nW (nW l34 x35.toNat (gd l34 (w64 (x35 - 1)).toNat)) (w64 (x35 - 1)).toNat (gd l34 x35.toNat)),w64 (x35 - 1)))
          else
            esc (some (.inl (l34,w64 (x9 + 1))))
        else
          esc (some (.inl (l34,w64 (x9 + 1))))
theorem wJe (p0:List Int) (p1 p2:Int) (c:(Int × Int)->Option Int):wAK p0 p1 p2 c=iter (fun (l8,x9)=>if x9 < p2 then iter (wPU p1 c x9) big (l8,x9) else esc (some l8)) big (p0,w64 (p1 + 1)):=rfl
theorem wMS {K:Int->Int} {n:Int} {c:(Int × Int)->Option Int} (hc:ByK K n c) {A Z S:List Int} {x:Int} {x9:Int} (hx:0 <= x/\x < n) (hZ:In n Z) (hlt:∀ z ∈ Z,z < x) (ho:Z.Pairwise (Lr K)) (hl:(A ++ Z ++ x :: S).length <= 1000) :
  ∃ Z',iter (wPU (A.length:Nat) c x9) big (A ++ Z ++ x :: S,((A.length + Z.length:Nat):Int))=some (.inl (A ++ Z' ++ S,w64 (x9 + 1)))/\Z'.Perm (Z ++ [x])/\Z'.Pairwise (Lr K):=by
 simp only [nA,nb] at hl
 obtain ⟨b,h1,Z1,Z2,rfl,hb,h2,h3⟩:=wCv (body:=wPU (A.length:Nat) c x9) (fun k s=>∃ Z1 Z2,Z=Z1 ++ Z2/\s=(A ++ Z1 ++ x :: (Z2 ++ S),((A.length + Z1.length:Nat):Int))/\(∀ z ∈ Z2,K x < K z)/\Z2.length=k)
  (fun b=>∃ Z1 Z2,Z=Z1 ++ Z2/\b=.inl (A ++ Z1 ++ x :: (Z2 ++ S),w64 (x9 + 1))/\(∀ z ∈ Z2,K x < K z)/\(∀ z ∈ Z1,K z <= K x)) Z.length
  (fun k s hk ⟨Z1,Z2,e,hs,g1,g2⟩=>by
   subst hs
   have el:Z.length=Z1.length + Z2.length:=by rw [e,nA]
   unfold wPU
   simp only
   rcases List.eq_nil_or_concat Z1 with h | ⟨Y,z,h⟩
   ·subst h
    right
    rw [if_neg (by simp)]
    exact ⟨_,rfl,[],Z2,e,rfl,g1,fun z hz=>by simp at hz⟩
   ·rw [List.concat_eq_append] at h
    subst h
    have e1:A ++ (Y ++ [z]) ++ x :: (Z2 ++ S)=(A ++ Y) ++ z :: x :: (Z2 ++ S):=by simp
    have e2:((A.length + (Y ++ [z]).length:Nat):Int)=(((A ++ Y).length + 1:Nat):Int):=by simp only [nA,nT];omega
    obtain ⟨s1,s2,s3,_⟩:=wGg (A ++ Y) (Z2 ++ S) z x
    have hll:(A ++ Y ++ z :: x :: (Z2 ++ S)).length=A.length + Y.length + 2 + Z2.length + S.length:=by simp only [nA,nb];omega
    have el2:Z.length=Y.length + 1 + Z2.length:=by rw [el];simp
    have hY:(A ++ Y).length=A.length + Y.length:=nA
    have hz:z ∈ Z:=by rw [e];simp
    rw [e1,e2,if_pos (by omega),wBW (by omega) (by omega),hH,wGf (by omega) (by omega),wBW (by omega) (by omega),hH]
    simp only [nY,kk,s1,s2]
    obtain ⟨v,hv,hv2⟩:=hc x z hx.1 hx.2 (hZ z hz).1 (hZ z hz).2
    rw [hv,hH]
    by_cases g:K x < K z
    ·left
     rw [if_pos (hv2.2 g),wBW (by omega) (by rw [nh];omega),hH,s3]
     refine ⟨by omega,_,rfl,Y,z :: Z2,by rw [e];simp,by simp,fun y hy=>?_,by simp;omega⟩
     rcases nK.1 hy with rfl | hy
     ·exact g
     ·exact g1 y hy
    ·right
     rw [if_neg (fun h=>g (hv2.1 h))]
     refine ⟨_,rfl,Y ++ [z],Z2,e,by simp,g1,fun y hy=>?_⟩
     rcases nQ.1 hy with hy | hy
     ·have pw:=ho
      rw [e,nB] at pw
      have:=(nG.1 pw).2.2 y hy z (by simp)
      have:=this.le
      omega
     ·rw [kj.1 hy];omega) (s0:=(A ++ Z ++ x :: S,((A.length + Z.length:Nat):Int))) ⟨Z,[],by simp,by simp,fun z hz=>by simp at hz,rfl⟩ (by omega)
 subst hb
 refine ⟨Z1 ++ x :: Z2,by rw [h1];simp,?_,?_⟩
 ·simp only [nB]
  exact kc _ (kR x Z2).symm
 ·rw [nG] at ho ⊢
  rw [ng]
  have hlt1:∀ z ∈ Z1,z < x:=fun z hz=>hlt z (nX _ hz)
  refine ⟨ho.1,⟨fun z hz=>.inl (h2 z hz),ho.2.1⟩,fun a ha b hb=>?_⟩
  rcases nK.1 hb with rfl | hb
  ·exact Lr.of (h3 a ha) (hlt1 a ha)
  ·exact ho.2.2 a ha b hb
theorem wHO {K:Int->Int} {n:Int} {c:(Int × Int)->Option Int} (hc:ByK K n c) {A X B:List Int} (hX:In n X) (hlt:X.Pairwise (· < ·)) (hl:(A ++ X ++ B).length <= 1000) {a b:Nat} (ha:A.length=a) (hb:A.length + X.length=b) :
  ∃ Z,wAK (A ++ X ++ B) (a:Int) (b:Int) c=some (A ++ Z ++ B)/\Z.Perm X/\Z.Pairwise (Lr K):=by
 rw [wJe]
 simp only [nA] at hl
 subst ha
 rw [wET (by omega)]
 cases X with
 | nil =>
  refine ⟨[],?_,kv _,ko⟩
  simp only [kY] at hb
  refine wIM (m:=0) (fun _=>(A ++ [] ++ B,((A.length + 1:Nat):Int))) (fun i hi=>by omega) ?_ rfl (by omega)
  simp only
  rw [if_neg (by omega)]
  rfl
 | cons x0 X =>
  simp only [nb] at hl hb
  obtain ⟨r,h1,Z,rfl,h2,h3⟩:=wCv (body:=fun (l8,x9)=>if x9 < (b:Int) then iter (wPU (A.length:Nat) c x9) big (l8,x9) else esc (some l8))
   (fun k s=>∃ Z,s=(A ++ Z ++ (X.drop k ++ B),((A.length + (k + 1):Nat):Int))/\Z.Perm (x0 :: X.take k)/\Z.Pairwise (Lr K)/\k <= X.length) (fun r=>∃ Z,r=A ++ Z ++ B/\Z.Perm (x0 :: X)/\Z.Pairwise (Lr K)) X.length
   (fun k s hk ⟨Z,hs,g1,g2,g3⟩=>by
    subst hs
    simp only
    have hZl:Z.length=k + 1:=by rw [g1.length_eq];simp;omega
    by_cases e:k=X.length
    ·right
     rw [if_neg (by omega)]
     refine ⟨_,rfl,Z,?_,?_,g2⟩
     ·rw [e,List.drop_length];rfl
     ·rwa [e,nc] at g1
    ·left
     have hk':k < X.length:=by omega
     rw [if_pos (by omega)]
     have hsub:∀ z ∈ Z,z ∈ x0 :: X:=fun z hz=>by
      have:=g1.mem_iff.1 hz
      rcases nK.1 this with h | h
      ·rw [h];simp
      ·exact kL _ (ke h)
     have hlast:∀ z ∈ Z,z < gd X k:=fun z hz=>by
      have pw:=ng.1 hlt
      rcases nK.1 (g1.mem_iff.1 hz) with h | h
      ·rw [h];exact pw.1 _ (wBG hk')
      ·have pw2:=pw.2
       rw [<- nD k X,wDn hk'] at pw2
       exact (nG.1 pw2).2.2 z h _ (by simp)
     obtain ⟨Z',i1,i2,i3⟩:=wMS hc (A:=A) (Z:=Z) (S:=X.drop (k + 1) ++ B) (x:=gd X k) (x9:=((A.length + (k + 1):Nat):Int)) (hX _ (kL _ (wBG hk'))) (fun z hz=>hX z (hsub z hz)) hlast g2 (by simp only [nA,nb,nN];omega)
     refine ⟨by omega,?_⟩
     rw [wDn hk',kG]
     rw [hZl] at i1
     refine ⟨_,i1,Z',by rw [wET (by omega)];rfl,?_,i3,by omega⟩
     rw [wCR hk']
     exact i2.trans (by simpa using g1.append_right [gd X k]))
   (s0:=(A ++ x0 :: X ++ B,((A.length + 1:Nat):Int))) ⟨[x0],by simp,by simp,by simp,by omega⟩ (by omega)
  exact ⟨Z,by rw [h1],h2,h3⟩
end Go.Proofs.YtghaibkggdecnaaGreat
namespace Go.Proofs.YtghaibkggdecnaaGreat
open Go.KL
theorem wGh {i j:Nat} (h:i + j <= 1000000):w64 ((wAU (w64 ((i:Int) + (j:Int)))) / 2)=(((i + j) / 2:Nat):Int):=by
 rw [wCw h]
 have e:wAU ((i + j:Nat):Int)=((i + j:Nat):Int):=by unfold wAU;omega
 rw [e,wAg (by omega) (by omega)]
 omega
def sm1 (p0:List Int) (p1 p2 p3:Int) (p4:(Int × Int)->Option Int):Option (List Int) :=
  (iter (fun (x14,x15) =>
   if x14 < x15 then
    (chk (w64 ((wAU (w64 (x14 + x15))) / 2)) p0.length).bind fun _ =>
    (chk p1 p0.length).bind fun _ =>
    (p4 ((gd p0 (w64 ((wAU (w64 (x14 + x15))) / 2)).toNat),(gd p0 p1.toNat))).bind fun x43 =>
    if x43 < 0 then
     some (.inl (w64 ((w64 ((wAU (w64 (x14 + x15))) / 2)) + 1),x15))
    else
     some (.inl (x14,w64 ((wAU (w64 (x14 + x15))) / 2)))
   else
    esc (some x14)) big (p2,p3)).bind fun x4 =>
  iter (fun (l80,x81) =>
   if x81 < (w64 (x4 - 1)) then
    (chk (w64 (x81 + 1)) l80.length).bind fun _ =>
    (chk x81 l80.length).bind fun _ =>
    (chk (w64 (x81 + 1)) (nW l80 x81.toNat (gd l80 (w64 (x81 + 1)).toNat)).length).bind fun _ =>
    some (.inl ((nW (nW l80 x81.toNat (gd l80 (w64 (x81 + 1)).toNat)) (w64 (x81 + 1)).toNat (gd l80 x81.toNat)),w64 (x81 + 1)))
   else
    esc (some l80)) big (p0,p1)
def sm2 (p0:List Int) (p1 p2 p3:Int) (p4:(Int × Int)->Option Int):Option (List Int) :=
      (iter (fun (x137,x138) =>
        if x137 < x138 then
          (chk p2 p0.length).bind fun _ =>
          (chk (w64 ((wAU (w64 (x137 + x138))) / 2)) p0.length).bind fun _ =>
          (p4 ((gd p0 p2.toNat),(gd p0 (w64 ((wAU (w64 (x137 + x138))) / 2)).toNat))).bind fun x166 =>
          if x166 < 0 then
            some (.inl (x137,w64 ((wAU (w64 (x137 + x138))) / 2)))
          else
            some (.inl (w64 ((w64 ((wAU (w64 (x137 + x138))) / 2)) + 1),x138))
        else
          esc (some x137)) big (p1,p2)).bind fun x127 =>
      iter (fun (l203,x204) =>
        if x127 < x204 then
          (chk (w64 (x204 - 1)) l203.length).bind fun _ =>
          (chk x204 l203.length).bind fun _ =>
          (chk (w64 (x204 - 1)) (nW l203 x204.toNat (gd l203 (w64 (x204 - 1)).toNat)).length).bind fun _ =>
          some (.inl ((nW (nW l203 x204.toNat (gd l203 (w64 (x204 - 1)).toNat)) (w64 (x204 - 1)).toNat (gd l203 x204.toNat)),w64 (x204 - 1)))
        else
          esc (some l203)) big (p0,p2)
def smS (p0:List Int) (m1:Int) (p4:(Int × Int)->Option Int) (s:Int × Int):Option ((Int × Int) ⊕ Int):=match s with
  | (x260,x261) =>
          if x260 < x261 then
            (chk (w64 (m1 - (w64 ((wAU (w64 (x260 + x261))) / 2)))) p0.length).bind fun _ =>
            (chk (w64 ((wAU (w64 (x260 + x261))) / 2)) p0.length).bind fun _ =>
            (p4 ((gd p0 (w64 (m1 - (w64 ((wAU (w64 (x260 + x261))) / 2)))).toNat),(gd p0 (w64 ((wAU (w64 (x260 + x261))) / 2)).toNat))).bind fun x294 =>
            if x294 < 0 then
              some (.inl (x260,w64 ((wAU (w64 (x260 + x261))) / 2)))
            else
              some (.inl (w64 ((w64 ((wAU (w64 (x260 + x261))) / 2)) + 1),x261))
          else
            esc (some x260)
def smT (rec_:(List Int)->Int->Int->Int->((Int × Int)->Option Int)->Option ((List Int))) (l:List Int) (p1 p3 mid e k:Int) (p4:(Int × Int)->Option Int):Option (List Int) :=
          if p1 < k then
            if k < mid then
              (rec_ l p1 k mid p4).bind fun x373 =>
              if mid < e then
                if e < p3 then
                  (rec_ x373 mid e p3 p4).bind fun x389 =>
                  some x389
                else
                  some x373
              else
                some x373
            else
              if mid < e then
                if e < p3 then
                  (rec_ l mid e p3 p4).bind fun x408 =>
                  some x408
                else
                  some l
              else
                some l
          else
            if mid < e then
              if e < p3 then
                (rec_ l mid e p3 p4).bind fun x427 =>
                some x427
              else
                some l
            else
              some l
def smR (rec_:(List Int)->Int->Int->Int->((Int × Int)->Option Int)->Option ((List Int))) (p0:List Int) (p1 p2 p3 mid e k:Int) (p4:(Int × Int)->Option Int):Option (List Int) :=
        (if k < p2 then
          some (decide (p2 < e))
        else
          some false).bind fun b330 =>
        if b330=true then
          (wAV p0 k p2 e p4).bind fun x357=>smT rec_ x357 p1 p3 mid e k p4
        else
          smT rec_ p0 p1 p3 mid e k p4
theorem wJf (rec_:(List Int)->Int->Int->Int->((Int × Int)->Option Int)->Option ((List Int))) (p0:List Int) (p1 p2 p3:Int) (p4:(Int × Int)->Option Int):wAa rec_ p0 p1 p2 p3 p4 =
 if (w64 (p2 - p1))=1 then sm1 p0 p1 p2 p3 p4
 else if (w64 (p3 - p2))=1 then sm2 p0 p1 p2 p3 p4
 else if (w64 ((wAU (w64 (p1 + p3))) / 2)) < p2 then
  (iter (smS p0 (w64 ((w64 ((w64 ((wAU (w64 (p1 + p3))) / 2)) + p2)) - 1)) p4) big (w64 ((w64 ((w64 ((wAU (w64 (p1 + p3))) / 2)) + p2)) - p3),w64 ((wAU (w64 (p1 + p3))) / 2))).bind fun x250 =>
  smR rec_ p0 p1 p2 p3 (w64 ((wAU (w64 (p1 + p3))) / 2)) (w64 ((w64 ((w64 ((wAU (w64 (p1 + p3))) / 2)) + p2)) - x250)) x250 p4
 else
  (iter (smS p0 (w64 ((w64 ((w64 ((wAU (w64 (p1 + p3))) / 2)) + p2)) - 1)) p4) big (p1,p2)).bind fun x250 =>
  smR rec_ p0 p1 p2 p3 (w64 ((wAU (w64 (p1 + p3))) / 2)) (w64 ((w64 ((w64 ((wAU (w64 (p1 + p3))) / 2)) + p2)) - x250)) x250 p4:=rfl
theorem wHP {K:Int->Int} {Y:List Int} (h:Y.Pairwise (Lr K)) {i j:Nat} (hij:i <= j) (hj:j < Y.length):K (gd Y i) <= K (gd Y j):=by
 rcases kV i j with c | c
 ·have:=no.1 h i j (by omega) hj c
  rw [<- wCS (by omega),<- wCS hj] at this
  exact this.le
 ·rw [show i=j by omega]
  exact Int.le_refl _
theorem gd_X {A X Y B:List Int} {i:Nat} (h1:A.length <= i) (h2:i < A.length + X.length):gd (A ++ X ++ Y ++ B) i=gd X (i - A.length):=by
 simp only [wLT,nA]
 rw [if_pos (by omega),if_pos (by omega),if_neg (by omega)]
theorem gd_Y {A X Y B:List Int} {i:Nat} (h1:A.length + X.length <= i) (h2:i < A.length + X.length + Y.length):gd (A ++ X ++ Y ++ B) i=gd Y (i - (A.length + X.length)):=by
 simp only [wLT,nA]
 rw [if_pos (by omega),if_neg (by omega)]
theorem wPV {K:Int->Int} {n:Int} {c:(Int × Int)->Option Int} (hc:ByK K n c) {A Y B:List Int} {x:Int} (hx:0 <= x/\x < n) (hY:In n Y) (hlt:∀ y ∈ Y,x < y) (ho:Y.Pairwise (Lr K)) (hl:(A ++ [x] ++ Y ++ B).length <= 1000) {a m b:Nat} (ha:A.length=a) (hm:a + 1=m) (hb:m + Y.length=b) :
  ∃ Z,sm1 (A ++ [x] ++ Y ++ B) (a:Int) (m:Int) (b:Int) c=some (A ++ Z ++ B)/\Z.Perm ([x] ++ Y)/\Z.Pairwise (Lr K):=by
 have hl2:=hl
 simp only [nA,nT] at hl2
 unfold sm1
 have hx0:gd (A ++ [x] ++ Y ++ B) a=x:=by rw [gd_X (by omega) (by simp;omega),ha,kK];rfl
 have hy:∀ i,m <= i->i < b->gd (A ++ [x] ++ Y ++ B) i=gd Y (i - m):=fun i h1 h2=>by
  rw [gd_Y (by simp;omega) (by simp;omega)]
  exact wHN (by simp;omega)
 obtain ⟨k,k1,k2,k3,k4,k5⟩:=wFf (body:=fun (x14,x15) =>
   if x14 < x15 then
    (chk (w64 ((wAU (w64 (x14 + x15))) / 2)) (A ++ [x] ++ Y ++ B).length).bind fun _ =>
    (chk (a:Int) (A ++ [x] ++ Y ++ B).length).bind fun _ =>
    (c ((gd (A ++ [x] ++ Y ++ B) (w64 ((wAU (w64 (x14 + x15))) / 2)).toNat),(gd (A ++ [x] ++ Y ++ B) (a:Int).toNat))).bind fun x43 =>
    if x43 < 0 then
     some (.inl (w64 ((w64 ((wAU (w64 (x14 + x15))) / 2)) + 1),x15))
    else
     some (.inl (x14,w64 ((wAU (w64 (x14 + x15))) / 2)))
   else
    esc (some x14)) (fun h=>decide (K (gd Y (h - m)) < K x)) (lo:=m) (hi:=b) (by omega) (by omega) (fun i j h1 h2 h3 h4=>by
    have h4:K (gd Y (j - m)) < K x:=by simpa using h4
    have:=wHP ho (i:=i - m) (j:=j - m) (by omega) (by omega)
    simpa using (by omega:K (gd Y (i - m)) < K x)) (fun i j h1 h2 h3=>by
    have hh:(i + j) / 2 - m < Y.length:=by omega
    have hin:=hY _ (wBG hh)
    simp only
    rw [if_pos (by omega),wGh (by omega),wBW (by omega) (by simp only [nA,nT];omega),hH,wBW (by omega) (by simp only [nA,nT];omega),hH]
    simp only [nY]
    rw [hx0,hy _ (by omega) (by omega)]
    obtain ⟨v,hv,hv2⟩:=hc (gd Y ((i + j) / 2 - m)) x hin.1 hin.2 hx.1 hx.2
    rw [hv,hH]
    by_cases g:K (gd Y ((i + j) / 2 - m)) < K x
    ·rw [if_pos (hv2.2 g),if_pos (by simpa using g),wET (by omega)]
    ·rw [if_neg (fun h=>g (hv2.1 h)),if_neg (by simpa using g)]) (fun i h1 h2=>by
    simp only
    rw [if_neg (by omega)]
    rfl)
 rw [k3,hH,wGf (by omega) (by omega)]
 obtain ⟨j,rfl⟩:∃ j,k=m + j:=⟨k - m,by omega⟩
 have hj:j <= Y.length:=by omega
 refine ⟨Y.take j ++ x :: Y.drop j,?_,?_,?_⟩
 ·refine wIM (m:=j) (fun i=>(A ++ Y.take i ++ x :: (Y.drop i ++ B),((a + i:Nat):Int))) (fun i hi=>?_) ?_ (by simp) (by omega)
  ·have e:(A ++ Y.take i).length=a + i:=by rw [nA,nI];omega
   have e2:Y.drop i ++ B=gd Y i :: (Y.drop (i + 1) ++ B):=by rw [wDn (by omega)];rfl
   obtain ⟨s1,s2,_,s4⟩:=wGg (A ++ Y.take i) (Y.drop (i + 1) ++ B) x (gd Y i)
   rw [e] at s1 s2 s4
   have hll:(A ++ Y.take i ++ x :: gd Y i :: (Y.drop (i + 1) ++ B)).length <= 1000/\a + i + 2 <= (A ++ Y.take i ++ x :: gd Y i :: (Y.drop (i + 1) ++ B)).length:=by
    rw [nA,e];simp only [nb,nA,nN];omega
   simp only
   rw [if_pos (by omega),e2,wET (by omega),wBW (by omega) (by omega),hH,wBW (by omega) (by omega),hH,wBW (by omega) (by rw [nh];omega),hH]
   simp only [nY]
   rw [s1,s2,s4,wCR (by omega)]
   simp [Nat.add_assoc]
  ·simp only
   rw [if_neg (by omega)]
   simp
 ·simp only [List.singleton_append]
  refine (List.perm_middle).trans ?_
  rw [nD]
 ·rw [<- nD j Y,nG] at ho
  rw [nG,ng]
  refine ⟨ho.1,⟨fun y hy=>?_,ho.2.1⟩,fun y hy z hz=>?_⟩
  ·obtain ⟨i,hi,e⟩:=nO hy
   rw [nN] at hi
   have h5:=k5 (m + (j + i)) (by omega) (by omega)
   rw [show m + (j + i) - m=j + i by omega] at h5
   have e':gd Y (j + i)=y:=by rw [wCS (by omega),<- e,kC]
   rw [e'] at h5
   have h5:¬ K y < K x:=by simpa using h5
   exact Lr.of (by omega) (hlt y (List.mem_of_mem_drop hy))
  ·rcases nK.1 hz with e0 | hz
   ·rw [e0]
    obtain ⟨i,hi,e⟩:=nO hy
    rw [nI] at hi
    have h4:=k4 (m + i) (by omega) (by omega)
    rw [show m + i - m=i by omega] at h4
    have e':gd Y i=y:=by rw [wCS (by omega),<- e,kD]
    rw [e'] at h4
    exact .inl (by simpa using h4)
   ·exact ho.2.2 y hy z hz
theorem wPW {K:Int->Int} {n:Int} {c:(Int × Int)->Option Int} (hc:ByK K n c) {A X B:List Int} {y:Int} (hy:0 <= y/\y < n) (hX:In n X) (hlt:∀ x ∈ X,x < y) (ho:X.Pairwise (Lr K)) (hl:(A ++ X ++ [y] ++ B).length <= 1000) {a m b:Nat} (ha:A.length=a) (hm:a + X.length=m) (hb:m + 1=b) :
    ∃ Z,sm2 (A ++ X ++ [y] ++ B) (a:Int) (m:Int) (b:Int) c=some (A ++ Z ++ B)/\Z.Perm (X ++ [y])/\Z.Pairwise (Lr K):=by
  have hl2:=hl
  simp only [nA,nT] at hl2
  unfold sm2
  have hy0:gd (A ++ X ++ [y] ++ B) m=y:=by rw [gd_Y (by omega) (by simp;omega),show m - (A.length + X.length)=0 by omega];rfl
  have hx:∀ i,a <= i->i < m->gd (A ++ X ++ [y] ++ B) i=gd X (i - a):=fun i h1 h2=>by rw [gd_X (by omega) (by omega),ha]
  obtain ⟨k,k1,k2,k3,k4,k5⟩:=wFf (body:=fun (x137,x138) =>
        if x137 < x138 then
          (chk (m:Int) (A ++ X ++ [y] ++ B).length).bind fun _ =>
          (chk (w64 ((wAU (w64 (x137 + x138))) / 2)) (A ++ X ++ [y] ++ B).length).bind fun _ =>
          (c ((gd (A ++ X ++ [y] ++ B) (m:Int).toNat),(gd (A ++ X ++ [y] ++ B) (w64 ((wAU (w64 (x137 + x138))) / 2)).toNat))).bind fun x166 =>
          if x166 < 0 then
            some (.inl (x137,w64 ((wAU (w64 (x137 + x138))) / 2)))
          else
            some (.inl (w64 ((w64 ((wAU (w64 (x137 + x138))) / 2)) + 1),x138))
        else
          esc (some x137)) (fun h=>decide (K (gd X (h - a)) <= K y)) (lo:=a) (hi:=m) (by omega) (by omega) (fun i j h1 h2 h3 h4=>by
        have h4:K (gd X (j - a)) <= K y:=by simpa using h4
        have:=wHP ho (i:=i - a) (j:=j - a) (by omega) (by omega)
        simpa using (by omega:K (gd X (i - a)) <= K y)) (fun i j h1 h2 h3=>by
        have hh:(i + j) / 2 - a < X.length:=by omega
        have hin:=hX _ (wBG hh)
        simp only
        rw [if_pos (by omega),wGh (by omega),wBW (by omega) (by simp only [nA,nT];omega),hH,wBW (by omega) (by simp only [nA,nT];omega),hH]
        simp only [nY]
        rw [hy0,hx _ (by omega) (by omega)]
        obtain ⟨v,hv,hv2⟩:=hc y (gd X ((i + j) / 2 - a)) hy.1 hy.2 hin.1 hin.2
        rw [hv,hH]
        by_cases g:K y < K (gd X ((i + j) / 2 - a))
        · rw [if_pos (hv2.2 g),if_neg (by simpa using g)]
        · rw [if_neg (fun h=>g (hv2.1 h)),if_pos (by simpa using g),wET (by omega)]) (fun i h1 h2=>by
        simp only
        rw [if_neg (by omega)]
        rfl)
  rw [k3,hH]
  obtain ⟨j,rfl⟩:∃ j,k=a + j:=⟨k - a,by omega⟩
  have hj:j <= X.length:=by omega
  refine ⟨X.take j ++ y :: X.drop j,?_,?_,?_⟩
  · refine wIM (m:=X.length - j) (fun i=>(A ++ X.take (X.length - i) ++ y :: (X.drop (X.length - i) ++ B),((m - i:Nat):Int))) (fun i hi=>?_) ?_ (by simp) (by omega)
    · obtain ⟨q,hq⟩:∃ q,X.length - i=q + 1:=⟨X.length - i - 1,by omega⟩
      have hq1:X.length - (i + 1)=q:=by omega
      have e:(A ++ X.take q).length=a + q:=by rw [nA,nI];omega
      obtain ⟨s1,s2,s3,_⟩:=wGg (A ++ X.take q) (X.drop (q + 1) ++ B) (gd X q) y
      rw [e] at s1 s2 s3
      have e2:A ++ X.take (q + 1) ++ y :: (X.drop (q + 1) ++ B)=A ++ X.take q ++ gd X q :: y :: (X.drop (q + 1) ++ B):=by rw [wCR (by omega)];simp
      have hll:a + q + 2 <= (A ++ X.take q ++ gd X q :: y :: (X.drop (q + 1) ++ B)).length:=by rw [nA,e];simp only [nb];omega
      have em:m - i=a + q + 1:=by omega
      simp only
      rw [hq,hq1,e2,em,if_pos (by omega),wGf (by omega) (by omega),wBW (by omega) (by omega),hH,wBW (by omega) (by omega),hH,wBW (by omega) (by rw [nh];omega),hH]
      simp only [nY,kk]
      rw [s1,s2,s3,show m - (i + 1)=a + q by omega,wDn (l:=X) (k:=q) (by omega)]
      rfl
    · simp only
      rw [show X.length - (X.length - j)=j by omega,if_neg (by omega)]
      simp
  · refine (List.perm_middle).trans ?_
    rw [nD]
    exact (kR y X).symm
  · rw [<- nD j X,nG] at ho
    rw [nG,ng]
    refine ⟨ho.1,⟨fun x hx=>?_,ho.2.1⟩,fun x hx z hz=>?_⟩
    · obtain ⟨i,hi,e⟩:=nO hx
      rw [nN] at hi
      have h5:=k5 (a + (j + i)) (by omega) (by omega)
      rw [show a + (j + i) - a=j + i by omega] at h5
      have e':gd X (j + i)=x:=by rw [wCS (by omega),<- e,kC]
      rw [e'] at h5
      exact .inl (by simpa using h5)
    · rcases nK.1 hz with e0 | hz
      · rw [e0]
        obtain ⟨i,hi,e⟩:=nO hx
        rw [nI] at hi
        have h4:=k4 (a + i) (by omega) (by omega)
        rw [show a + i - a=i by omega] at h4
        have e':gd X i=x:=by rw [wCS (by omega),<- e,kD]
        rw [e'] at h4
        exact Lr.of (by simpa using h4) (hlt x (ke hx))
      · exact ho.2.2 x hx z hz
end Go.Proofs.YtghaibkggdecnaaGreat
namespace Go.Proofs.YtghaibkggdecnaaGreat
open Go.KL
abbrev Rec:=(List Int)->Int->Int->Int->((Int × Int)->Option Int)->Option ((List Int))
def wIu (K:Int->Int) (n:Int) (c:(Int × Int)->Option Int) (r:Rec) (N:Nat):Prop:=∀ A X Y B:List Int,0 < X.length->0 < Y.length->In n X->In n Y->(∀ x ∈ X,∀ y ∈ Y,x < y)->X.Pairwise (Lr K)->Y.Pairwise (Lr K)->(A ++ X ++ Y ++ B).length <= 1000->X.length + Y.length < N ->
 ∃ Z,r (A ++ X ++ Y ++ B) ((A.length:Nat):Int) ((A.length + X.length:Nat):Int) ((A.length + X.length + Y.length:Nat):Int) c=some (A ++ Z ++ B)/\Z.Perm (X ++ Y)/\Z.Pairwise (Lr K)
theorem wIv {K:Int->Int} {n:Int} {c:(Int × Int)->Option Int} {r:Rec} {N:Nat} (H:wIu K n c r N) {A X Y B:List Int} (hX:In n X) (hY:In n Y) (hlt:∀ x ∈ X,∀ y ∈ Y,x < y) (oX:X.Pairwise (Lr K)) (oY:Y.Pairwise (Lr K)) (hl:(A ++ X ++ Y ++ B).length <= 1000) (hN:X.length + Y.length < N) {a k m:Nat} (ha:A.length=a) (hk:a + X.length=k) (hm:k + Y.length=m) (R:List Int->Option (List Int)) :
  ∃ Z,(if (a:Int) < (k:Int) then (if (k:Int) < (m:Int) then (r (A ++ X ++ Y ++ B) (a:Int) (k:Int) (m:Int) c).bind R else R (A ++ X ++ Y ++ B)) else R (A ++ X ++ Y ++ B))=R (A ++ Z ++ B)/\Z.Perm (X ++ Y)/\Z.Pairwise (Lr K):=by
 by_cases h1:(a:Int) < (k:Int)
 ·rw [if_pos h1]
  by_cases h2:(k:Int) < (m:Int)
  ·rw [if_pos h2]
   obtain ⟨Z,e,p,o⟩:=H A X Y B (by omega) (by omega) hX hY hlt oX oY hl hN
   rw [ha,hk,hm] at e
   exact ⟨Z,by rw [e,hH],p,o⟩
  ·rw [if_neg h2]
   have:Y=[]:=nU (by omega)
   subst this
   exact ⟨X,by simp,by simp,oX⟩
 ·rw [if_neg h1]
  have:X=[]:=nU (by omega)
  subst this
  exact ⟨Y,by simp,by simp,oY⟩
theorem wPX {K:Int->Int} {n:Int} {c:(Int × Int)->Option Int} {r:Rec} {N:Nat} (H:wIu K n c r N) {A X1 X2 Y1 Y2 B:List Int} (hX:In n (X1 ++ X2)) (hY:In n (Y1 ++ Y2)) (hlt:∀ x ∈ X1 ++ X2,∀ y ∈ Y1 ++ Y2,x < y) (oX:(X1 ++ X2).Pairwise (Lr K)) (oY:(Y1 ++ Y2).Pairwise (Lr K))
  (o12:∀ x ∈ X1,∀ y ∈ Y2,Lr K x y) (o21:∀ y ∈ Y1,∀ x ∈ X2,Lr K y x) (hl:(A ++ X1 ++ Y1 ++ X2 ++ Y2 ++ B).length <= 1000) (hN1:X1.length + Y1.length < N) (hN2:X2.length + Y2.length < N) {a k mid e b:Nat} (ha:A.length=a) (hk:a + X1.length=k) (hm:k + Y1.length=mid) (he:mid + X2.length=e) (hb:e + Y2.length=b) :
  ∃ Z,smT r (A ++ X1 ++ Y1 ++ X2 ++ Y2 ++ B) (a:Int) (b:Int) (mid:Int) (e:Int) (k:Int) c=some (A ++ Z ++ B)/\Z.Perm ((X1 ++ X2) ++ (Y1 ++ Y2))/\Z.Pairwise (Lr K):=by
 rw [nG] at oX oY
 have T:∀ l:List Int,smT r l (a:Int) (b:Int) (mid:Int) (e:Int) (k:Int) c=if (a:Int) < (k:Int) then (if (k:Int) < (mid:Int) then (r l (a:Int) (k:Int) (mid:Int) c).bind (fun l=>if (mid:Int) < (e:Int) then (if (e:Int) < (b:Int) then (r l (mid:Int) (e:Int) (b:Int) c).bind some else some l) else some l) else (fun l=>if (mid:Int) < (e:Int) then (if (e:Int) < (b:Int) then (r l (mid:Int) (e:Int) (b:Int) c).bind some else some l) else some l) l) else (fun l=>if (mid:Int) < (e:Int) then (if (e:Int) < (b:Int) then (r l (mid:Int) (e:Int) (b:Int) c).bind some else some l) else some l) l:=fun l=>rfl
 obtain ⟨Z1,e1,p1,o1⟩:=wIv H (A:=A) (X:=X1) (Y:=Y1) (B:=X2 ++ Y2 ++ B) (fun x hx=>hX x (nX _ hx)) (fun y hy=>hY y (nX _ hy)) (fun x hx y hy=>hlt x (nX _ hx) y (nX _ hy)) oX.1 oY.1 (by simpa only [nB] using hl) hN1 ha hk hm (fun l=>if (mid:Int) < (e:Int) then (if (e:Int) < (b:Int) then (r l (mid:Int) (e:Int) (b:Int) c).bind some else some l) else some l)
 have hZ1:Z1.length=X1.length + Y1.length:=by rw [p1.length_eq,nA]
 have hl2:=hl
 simp only [nA] at hl2
 obtain ⟨Z2,e2,p2,o2⟩:=wIv H (A:=A ++ Z1) (X:=X2) (Y:=Y2) (B:=B) (fun x hx=>hX x (nP _ hx)) (fun y hy=>hY y (nP _ hy)) (fun x hx y hy=>hlt x (nP _ hx) y (nP _ hy)) oX.2.1 oY.2.1 (by simp only [nA];omega) hN2 (a:=mid) (by rw [nA];omega) he hb some
 refine ⟨Z1 ++ Z2,?_,?_,?_⟩
 ·rw [T]
  have q:A ++ X1 ++ Y1 ++ X2 ++ Y2 ++ B=A ++ X1 ++ Y1 ++ (X2 ++ Y2 ++ B):=by simp only [nB]
  rw [q,e1]
  have q2:A ++ Z1 ++ (X2 ++ Y2 ++ B)=A ++ Z1 ++ X2 ++ Y2 ++ B:=by simp only [nB]
  rw [q2,e2]
  simp only [nB]
 ·refine (p1.append p2).trans ?_
  rw [nB,nB]
  refine kc _ ?_
  rw [<- nB,<- nB]
  exact List.Perm.append_right _ List.perm_append_comm
 ·rw [nG]
  refine ⟨o1,o2,fun x hx y hy=>?_⟩
  rcases nQ.1 (p1.mem_iff.1 hx) with hx | hx <;> rcases nQ.1 (p2.mem_iff.1 hy) with hy | hy
  ·exact oX.2.2 x hx y hy
  ·exact o12 x hx y hy
  ·exact o21 x hx y hy
  ·exact oY.2.2 x hx y hy
theorem wPY {K:Int->Int} {n:Int} {c:(Int × Int)->Option Int} {r:Rec} {N:Nat} (H:wIu K n c r N) {A X1 X2 Y1 Y2 B:List Int} (hX:In n (X1 ++ X2)) (hY:In n (Y1 ++ Y2)) (hlt:∀ x ∈ X1 ++ X2,∀ y ∈ Y1 ++ Y2,x < y) (oX:(X1 ++ X2).Pairwise (Lr K)) (oY:(Y1 ++ Y2).Pairwise (Lr K))
  (o12:∀ x ∈ X1,∀ y ∈ Y2,Lr K x y) (o21:∀ y ∈ Y1,∀ x ∈ X2,Lr K y x) (hl:(A ++ X1 ++ X2 ++ Y1 ++ Y2 ++ B).length <= 1000) (hN1:X1.length + Y1.length < N) (hN2:X2.length + Y2.length < N) {a k m mid e b:Nat} (ha:A.length=a) (hk:a + X1.length=k) (hm:k + X2.length=m) (hmid:k + Y1.length=mid) (he:m + Y1.length=e) (hb:e + Y2.length=b) :
  ∃ Z,smR r (A ++ X1 ++ X2 ++ Y1 ++ Y2 ++ B) (a:Int) (m:Int) (b:Int) (mid:Int) (e:Int) (k:Int) c=some (A ++ Z ++ B)/\Z.Perm ((X1 ++ X2) ++ (Y1 ++ Y2))/\Z.Pairwise (Lr K):=by
 have hl2:=hl
 simp only [nA] at hl2
 obtain ⟨Z,e1,p,o⟩:=wPX H (A:=A) (B:=B) hX hY hlt oX oY o12 o21 (by simp only [nA];omega) hN1 hN2 ha hk hmid (e:=e) (by omega) hb
 refine ⟨Z,?_,p,o⟩
 rw [<- e1]
 unfold smR
 by_cases h1:k < m
 ·rw [if_pos (by omega),hH]
  by_cases h2:m < e
  ·rw [if_pos (by simp;omega)]
   have q:A ++ X1 ++ X2 ++ Y1 ++ Y2 ++ B=(A ++ X1) ++ X2 ++ Y1 ++ (Y2 ++ B):=by simp only [nB]
   have q2:A ++ X1 ++ Y1 ++ X2 ++ Y2 ++ B=(A ++ X1) ++ Y1 ++ X2 ++ (Y2 ++ B):=by simp only [nB]
   rw [q,wLV (A:=A ++ X1) (a:=k) (m:=m) (b:=e) (by rw [nA];omega) (by rw [nA];omega) (by rw [nA];omega) (by omega) (by omega) (by rw [<- q];exact hl),hH,q2]
  ·rw [if_neg (by simp;omega)]
   have:Y1=[]:=nU (by omega)
   subst this
   simp
 ·rw [if_neg (by omega),hH,if_neg (by simp)]
  have:X2=[]:=nU (by omega)
  subst this
  simp
theorem wMx {K:Int->Int} {n:Int} {c:(Int × Int)->Option Int} (hc:ByK K n c) {A X Y B:List Int} (hX:In n X) (hY:In n Y) (oX:X.Pairwise (Lr K)) (oY:Y.Pairwise (Lr K)) (hl:(A ++ X ++ Y ++ B).length <= 1000) {a m b lo hi p:Nat} (ha:A.length=a) (hm:a + X.length=m) (hb:m + Y.length=b) (h1:a <= lo) (h2:lo <= hi) (h3:hi <= m) (hp:∀ i,lo <= i->i < hi->i <= p/\m <= p - i/\p - i < b) :
  ∃ k:Nat,lo <= k/\k <= hi/\iter (smS (A ++ X ++ Y ++ B) (p:Int) c) big ((lo:Int),(hi:Int))=some (k:Int)/\(∀ i,lo <= i->i < k->K (gd X (i - a)) <= K (gd Y (p - i - m)))/\(∀ i,k <= i->i < hi->K (gd Y (p - i - m)) < K (gd X (i - a))):=by
 have hl2:=hl
 simp only [nA] at hl2
 have gx:∀ i,a <= i->i < m->gd (A ++ X ++ Y ++ B) i=gd X (i - a):=fun i g1 g2=>by rw [gd_X (by omega) (by omega),ha]
 have gy:∀ i,m <= i->i < b->gd (A ++ X ++ Y ++ B) i=gd Y (i - m):=fun i g1 g2=>by rw [gd_Y (by omega) (by omega)];exact wHN (by omega)
 obtain ⟨k,k1,k2,k3,k4,k5⟩:=wFf (body:=smS (A ++ X ++ Y ++ B) (p:Int) c) (fun i=>decide (K (gd X (i - a)) <= K (gd Y (p - i - m)))) h2 (by omega) (fun i j g1 g2 g3 g4=>by
  have g4:K (gd X (j - a)) <= K (gd Y (p - j - m)):=by simpa using g4
  have q1:=hp i g1 (by omega)
  have q2:=hp j (by omega) g3
  have l1:=wHP oX (i:=i - a) (j:=j - a) (by omega) (by omega)
  have l2:=wHP oY (i:=p - j - m) (j:=p - i - m) (by omega) (by omega)
  simpa using (by omega:K (gd X (i - a)) <= K (gd Y (p - i - m)))) (fun i j g1 g2 g3=>by
  obtain ⟨q0,q1,q2⟩:=hp ((i + j) / 2) (by omega) (by omega)
  have hx:(i + j) / 2 - a < X.length:=by omega
  have hy:p - (i + j) / 2 - m < Y.length:=by omega
  have ix:=hX _ (wBG hx)
  have iy:=hY _ (wBG hy)
  unfold smS
  simp only
  have hpb:p <= 1000000:=by omega
  rw [if_pos (by omega),wGh (by omega),wBy (by omega) hpb,wBW (by omega) (by simp only [nA];omega),hH,wBW (by omega) (by simp only [nA];omega),hH]
  simp only [nY]
  rw [gx ((i + j) / 2) (by omega) (by omega),gy (p - (i + j) / 2) q1 q2]
  obtain ⟨v,hv,hv2⟩:=hc (gd Y (p - (i + j) / 2 - m)) (gd X ((i + j) / 2 - a)) iy.1 iy.2 ix.1 ix.2
  rw [hv,hH]
  by_cases g:K (gd Y (p - (i + j) / 2 - m)) < K (gd X ((i + j) / 2 - a))
  ·rw [if_pos (hv2.2 g),if_neg (by simpa using g)]
  ·rw [if_neg (fun h=>g (hv2.1 h)),if_pos (by simpa using g),wET (by omega)]) (fun i g1 g2=>by
  unfold smS
  simp only
  rw [if_neg (by omega)]
  rfl)
 exact ⟨k,k1,k2,k3,fun i g1 g2=>by simpa using k4 i g1 g2,fun i g1 g2=>by simpa using k5 i g1 g2⟩
theorem wPZ {K:Int->Int} {n:Int} {c:(Int × Int)->Option Int} (hc:ByK K n c):∀ F:Nat,wIu K n c (wAI F) (F + 1):=by
 intro F
 induction F with
 | zero=>intro A X Y B h1 h2 _ _ _ _ _ _ h;omega
 | succ F ih =>
  intro A X Y B hx0 hy0 hX hY hlt oX oY hl hF
  show ∃ Z,wAa (wAI F) _ _ _ _ _=_/\_
  rw [wJf]
  have hl2:=hl
  simp only [nA] at hl2
  generalize ha:A.length=a at *
  generalize hm:a + X.length=m at *
  generalize hb:m + Y.length=b at *
  rw [wBy (a:=m) (b:=a) (by omega) (by omega),wBy (a:=b) (b:=m) (by omega) (by omega)]
  by_cases c1:X.length=1
  ·rw [if_pos (by omega)]
   obtain ⟨x,rfl⟩:=kZ.1 c1
   exact wPV hc (hX x (by simp)) hY (fun y hy=>hlt x (by simp) y hy) oY hl ha (by simpa using hm) hb
  rw [if_neg (by omega)]
  by_cases c2:Y.length=1
  ·rw [if_pos (by omega)]
   obtain ⟨y,rfl⟩:=kZ.1 c2
   exact wPW hc (hY y (by simp)) hX (fun x hx=>hlt x hx y (by simp)) oX hl ha hm (by simpa using hb)
  rw [if_neg (by omega),wGh (by omega)]
  generalize hmid:(a + b) / 2=mid at *
  rw [wCw (a:=mid) (b:=m) (by omega),wGf (a:=mid + m) (by omega) (by omega)]
  have fin:∀ k:Nat,a <= k->k <= m->m + k <= mid + m->mid + m <= b + k->(a < k->mid + m < b + k->K (gd X (k - 1 - a)) <= K (gd Y (mid + m - k - m)))->(k < m->k < mid->K (gd Y (mid + m - 1 - k - m)) < K (gd X (k - a))) ->
    ∃ Z,smR (wAI F) (A ++ X ++ Y ++ B) (a:Int) (m:Int) (b:Int) (mid:Int) (w64 (((mid + m:Nat):Int) - (k:Int))) (k:Int) c=some (A ++ Z ++ B)/\Z.Perm (X ++ Y)/\Z.Pairwise (Lr K):=by
   intro k k1 k2 k3 k4 k5 k6
   rw [wBy (by omega) (by omega)]
   have ex:X=X.take (k - a) ++ X.drop (k - a):=(nD ..).symm
   have ey:Y=Y.take (mid - k) ++ Y.drop (mid - k):=(nD ..).symm
   have lx1:(X.take (k - a)).length=k - a:=by rw [nI];omega
   have lx2:(X.drop (k - a)).length=m - k:=by rw [nN];omega
   have ly1:(Y.take (mid - k)).length=mid - k:=by rw [nI];omega
   have ly2:(Y.drop (mid - k)).length=Y.length - (mid - k):=by rw [nN]
   have mx1:∀ x ∈ X.take (k - a),∃ i,i < k - a/\gd X i=x:=fun x hx=>by
    obtain ⟨i,hi,e⟩:=nO hx
    rw [lx1] at hi
    exact ⟨i,hi,by rw [wCS (by omega),<- e,kD]⟩
   have mx2:∀ x ∈ X.drop (k - a),∃ i,k - a <= i/\i < X.length/\gd X i=x:=fun x hx=>by
    obtain ⟨i,hi,e⟩:=nO hx
    rw [lx2] at hi
    exact ⟨k - a + i,by omega,by omega,by rw [wCS (by omega),<- e,kC]⟩
   have my1:∀ y ∈ Y.take (mid - k),∃ i,i < mid - k/\gd Y i=y:=fun y hy=>by
    obtain ⟨i,hi,e⟩:=nO hy
    rw [ly1] at hi
    exact ⟨i,hi,by rw [wCS (by omega),<- e,kD]⟩
   have my2:∀ y ∈ Y.drop (mid - k),∃ i,mid - k <= i/\i < Y.length/\gd Y i=y:=fun y hy=>by
    obtain ⟨i,hi,e⟩:=nO hy
    rw [ly2] at hi
    exact ⟨mid - k + i,by omega,by omega,by rw [wCS (by omega),<- e,kC]⟩
   obtain ⟨Z,e,p,o⟩:=wPY ih (A:=A) (X1:=X.take (k - a)) (X2:=X.drop (k - a)) (Y1:=Y.take (mid - k)) (Y2:=Y.drop (mid - k)) (B:=B) (by rwa [<- ex]) (by rwa [<- ey]) (by rwa [<- ex,<- ey]) (by rwa [<- ex]) (by rwa [<- ey]) (fun x hx y hy=>by
     obtain ⟨i,i1,rfl⟩:=mx1 x hx
     obtain ⟨j,j1,j2,rfl⟩:=my2 y hy
     have h5:=k5 (by omega) (by omega)
     have l1:=wHP oX (i:=i) (j:=k - 1 - a) (by omega) (by omega)
     have l2:=wHP oY (i:=mid + m - k - m) (j:=j) (by omega) j2
     exact Lr.of (by omega) (hlt _ (wBG (by omega)) _ (wBG j2))) (fun y hy x hx=>by
     obtain ⟨i,i1,i2,rfl⟩:=mx2 x hx
     obtain ⟨j,j1,rfl⟩:=my1 y hy
     have h6:=k6 (by omega) (by omega)
     have l1:=wHP oX (i:=k - a) (j:=i) (by omega) i2
     have l2:=wHP oY (i:=j) (j:=mid + m - 1 - k - m) (by omega) (by omega)
     exact .inl (by omega)) (by
     have:A ++ X.take (k - a) ++ X.drop (k - a) ++ Y.take (mid - k) ++ Y.drop (mid - k) ++ B=A ++ X ++ Y ++ B:=by rw [nB A,<- ex,nB (A ++ X),<- ey]
     rw [this];exact hl) (by omega) (by omega) ha (k:=k) (m:=m) (mid:=mid) (e:=mid + m - k) (b:=b) (by omega) (by omega) (by omega) (by omega) (by omega)
   have q:A ++ X.take (k - a) ++ X.drop (k - a) ++ Y.take (mid - k) ++ Y.drop (mid - k) ++ B=A ++ X ++ Y ++ B:=by rw [nB A,<- ex,nB (A ++ X),<- ey]
   rw [q] at e
   rw [<- ex,<- ey] at p
   exact ⟨Z,e,p,o⟩
  by_cases c3:mid < m
  ·rw [if_pos (by omega),wBy (a:=mid + m) (b:=b) (by omega) (by omega)]
   obtain ⟨k,k1,k2,k3,k4,k5⟩:=wMx hc hX hY oX oY hl ha hm hb (lo:=mid + m - b) (hi:=mid) (p:=mid + m - 1) (by omega) (by omega) (by omega) (fun i g1 g2=>by omega)
   rw [k3,hH]
   refine fin k (by omega) (by omega) (by omega) (by omega) (fun g1 g2=>?_) (fun g1 g2=>k5 k (by omega) g2)
   have:=k4 (k - 1) (by omega) (by omega)
   rwa [show mid + m - 1 - (k - 1) - m=mid + m - k - m by omega] at this
  ·rw [if_neg (by omega)]
   obtain ⟨k,k1,k2,k3,k4,k5⟩:=wMx hc hX hY oX oY hl ha hm hb (lo:=a) (hi:=m) (p:=mid + m - 1) (by omega) (by omega) (by omega) (fun i g1 g2=>by omega)
   rw [k3,hH]
   refine fin k (by omega) (by omega) (by omega) (by omega) (fun g1 g2=>?_) (fun g1 g2=>k5 k (by omega) g1)
   have:=k4 (k - 1) (by omega) (by omega)
   rwa [show mid + m - 1 - (k - 1) - m=mid + m - k - m by omega] at this
end Go.Proofs.YtghaibkggdecnaaGreat
namespace Go.Proofs.YtghaibkggdecnaaGreat
open Go.KL
def seg (l:List Int) (i j:Nat):List Int:=(l.drop i).take (j - i)
def rng (i j:Nat):List Int:=(ku (j - i)).map fun (k:Nat)=>((i + k:Nat):Int)
theorem wGG {i j:Nat}:∀ x ∈ rng i j,(i:Int) <= x/\x < j:=by
 intro x hx
 obtain ⟨k,hk,rfl⟩:=kA.1 hx
 have:=List.mem_range.1 hk
 omega
theorem wLW (i j:Nat):(rng i j).Pairwise (· < ·):=by
 unfold rng
 rw [List.pairwise_map]
 exact List.pairwise_lt_range.imp fun h=>by omega
theorem wCf (i j:Nat):(rng i j).length=j - i:=by simp [rng]
theorem wLX {a m b:Nat} (h1:a <= m) (h2:m <= b):rng a m ++ rng m b=rng a b:=by
 unfold rng
 rw [show b - a=(m - a) + (b - m) by omega,List.range_add,kM,List.map_map]
 congr 1
 refine kh fun k _=>?_
 simp only [Function.comp_apply]
 omega
theorem wGi {l:List Int} {i j:Nat} (h:j <= l.length):(seg l i j).length=j - i:=by
 unfold seg;rw [nI,nN];omega
theorem wFg {l:List Int} {a b:Nat} (h1:a <= b):l=l.take a ++ seg l a b ++ l.drop b:=by
 unfold seg
 rw [nB]
 conv=>lhs;rw [<- nD a l]
 congr 1
 conv=>lhs;rw [<- nD (b - a) (l.drop a)]
 congr 1
 rw [List.drop_drop]
 congr 1
 omega
theorem wJg {l:List Int} {a m b:Nat} (h1:a <= m) (h2:m <= b):l=l.take a ++ seg l a m ++ seg l m b ++ l.drop b:=by
 conv=>lhs;rw [wFg (l:=l) h2]
 congr 1
 congr 1
 unfold seg
 conv=>lhs;rw [<- nD a (l.take m)]
 rw [List.take_take,nr h1,List.drop_take]
theorem wLY {A Z Z' B:List Int} (h:Z.length=Z'.length) {i j:Nat} (hij:j <= A.length \/ A.length + Z.length <= i):seg (A ++ Z ++ B) i j=seg (A ++ Z' ++ B) i j:=by
 unfold seg
 apply kS
 intro t
 rw [kP,kP]
 split
 ·rw [kQ,kQ]
  rcases hij with g | g
  ·rw [nS (by simp;omega),nS (by omega),nS (by simp;omega),nS (by omega)]
  ·rw [nj (by simp;omega),nj (by simp;omega)]
   congr 1
   simp only [nA]
   omega
 ·rfl
theorem wLZ {A Z B:List Int} {a b:Nat} (ha:A.length=a) (hb:a + Z.length=b):seg (A ++ Z ++ B) a b=Z:=by
 unfold seg
 rw [nB,<- ha,List.drop_left,List.take_append_of_le_length (by omega),kE (by omega)]
def Srt (K:Int->Int) (l:List Int) (i j:Nat):Prop:=(seg l i j).Perm (rng i j)/\(seg l i j).Pairwise (Lr K)
theorem wGH {K:Int->Int} {n:Nat} {c:(Int × Int)->Option Int} (hc:ByK K n c) {l:List Int} (hl:l.length=n) (hn:n <= 64) {a b:Nat} (hab:a <= b) (hb:b <= n) (hs:seg l a b=rng a b) :
  ∃ l',wAK l (a:Int) (b:Int) c=some l'/\l'.length=n/\Srt K l' a b/\∀ i j,j <= a \/ b <= i->seg l' i j=seg l i j:=by
 have e:=wFg (l:=l) hab
 have la:(l.take a).length=a:=by rw [nI];omega
 have ls:=wGi (l:=l) (i:=a) (j:=b) (by omega)
 obtain ⟨Z,h1,h2,h3⟩:=wHO hc (A:=l.take a) (X:=seg l a b) (B:=l.drop b) (fun x hx=>by rw [hs] at hx;have:=wGG x hx;omega) (by rw [hs];exact wLW a b) (by rw [<- e];omega) (a:=a) (b:=b) la (by rw [la,ls];omega)
 have lz:Z.length=b - a:=by rw [h2.length_eq,ls]
 rw [<- e] at h1
 refine ⟨_,h1,?_,?_,fun i j hij=>?_⟩
 ·have:=congrArg List.length e
  simp only [nA] at this ⊢
  omega
 ·rw [Srt,wLZ la (by omega)]
  exact ⟨by rw [<- hs];exact h2,h3⟩
 ·conv=>rhs;rw [e]
  exact wLY (by omega) (by omega)
theorem wHQ {K:Int->Int} {n:Nat} {c:(Int × Int)->Option Int} (hc:ByK K n c) {l:List Int} (hl:l.length=n) (hn:n <= 64) {a m b:Nat} (ham:a < m) (hmb:m < b) (hb:b <= n) (h1:Srt K l a m) (h2:Srt K l m b) :
  ∃ l',wAI 1000 l (a:Int) (m:Int) (b:Int) c=some l'/\l'.length=n/\Srt K l' a b/\∀ i j,j <= a \/ b <= i->seg l' i j=seg l i j:=by
 have e:=wJg (l:=l) (kX ham) (kX hmb)
 have e2:=wFg (l:=l) (a:=a) (b:=b) (by omega)
 have la:(l.take a).length=a:=by rw [nI];omega
 have l1:=wGi (l:=l) (i:=a) (j:=m) (by omega)
 have l2:=wGi (l:=l) (i:=m) (j:=b) (by omega)
 have l3:=wGi (l:=l) (i:=a) (j:=b) (by omega)
 have i1:∀ x ∈ seg l a m,(a:Int) <= x/\x < m:=fun x hx=>wGG x (h1.1.mem_iff.1 hx)
 have i2:∀ x ∈ seg l m b,(m:Int) <= x/\x < b:=fun x hx=>wGG x (h2.1.mem_iff.1 hx)
 obtain ⟨Z,g1,g2,g3⟩:=wPZ hc 1000 (l.take a) (seg l a m) (seg l m b) (l.drop b) (by omega) (by omega) (fun x hx=>by have:=i1 x hx;omega) (fun x hx=>by have:=i2 x hx;omega) (fun x hx y hy=>by have:=i1 x hx;have:=i2 y hy;omega) h1.2 h2.2 (by rw [<- e];omega) (by omega)
 rw [<- e,la,l1,l2,show a + (m - a)=m by omega,show m + (b - m)=b by omega] at g1
 have lz:Z.length=b - a:=by rw [g2.length_eq,nA,l1,l2];omega
 refine ⟨_,g1,?_,?_,fun i j hij=>?_⟩
 ·have:=congrArg List.length e2
  simp only [nA] at this ⊢
  omega
 ·rw [Srt,wLZ la (by omega)]
  refine ⟨?_,g3⟩
  rw [<- wLX (kX ham) (kX hmb)]
  exact g2.trans (h1.1.append h2.1)
 ·conv=>rhs;rw [e2]
  exact wLY (by omega) (by omega)
def Blk (K:Int->Int) (n bs:Nat) (l:List Int):Prop:=∀ s,bs * s < n->Srt K l (bs * s) (min (bs * s + bs) n)
theorem Srt.same {K:Int->Int} {l l':List Int} {i j:Nat} (h:Srt K l i j) (e:seg l' i j=seg l i j):Srt K l' i j:=by unfold Srt;rw [e];exact h
theorem wIN {K:Int->Int} {n:Nat} {c:(Int × Int)->Option Int} (hc:ByK K n c) (hn:n <= 64):∃ l a l',iter (fun (l16,x17,x18) =>
  if x18 <= (n:Int) then
   (wAK l16 x17 x18 c).bind fun x39 =>
   some (.inl (x39,x18,w64 (x18 + 20)))
  else
   esc (some (l16,x17))) big (rng 0 n,0,20)=some (l,a)/\wAK l a (n:Int) c=some l'/\l'.length=n/\Blk K n 20 l':=by
 obtain ⟨r,h1,l,t,rfl,h2,h3,h4,h5,h6⟩:=wCv (body:=fun (l16,x17,x18) =>
  if x18 <= (n:Int) then
   (wAK l16 x17 x18 c).bind fun x39 =>
   some (.inl (x39,x18,w64 (x18 + 20)))
  else
   esc (some (l16,x17))) (fun t s=>∃ l,s=(l,((20 * t:Nat):Int),((20 * t + 20:Nat):Int))/\l.length=n/\20 * t <= n/\(∀ s,s < t->Srt K l (20 * s) (20 * s + 20))/\(∀ i j,20 * t <= i->j <= n->seg l i j=rng i j))
  (fun r=>∃ l t,r=(l,((20 * t:Nat):Int))/\l.length=n/\20 * t <= n/\n < 20 * t + 20/\(∀ s,s < t->Srt K l (20 * s) (20 * s + 20))/\(∀ i j,20 * t <= i->j <= n->seg l i j=rng i j)) 4
  (fun t s ht ⟨l,hs,g1,g2,g3,g4⟩=>by
   subst hs
   simp only
   by_cases h:((20 * t + 20:Nat):Int) <= (n:Int)
   ·left
    obtain ⟨l',e1,e2,e3,e4⟩:=wGH hc g1 hn (a:=20 * t) (b:=20 * t + 20) (by omega) (by omega) (g4 _ _ (nL _) (by omega))
    have ew:w64 (((20 * t + 20:Nat):Int) + 20)=((20 * (t + 1) + 20:Nat):Int):=by
     have:=wCw (a:=20 * t + 20) (b:=20) (by omega)
     rw [show ((20:Nat):Int)=20 from rfl] at this
     rw [this]
     omega
    rw [if_pos h,e1,hH,ew]
    refine ⟨by omega,_,rfl,l',by rw [show 20 * t + 20=20 * (t + 1) by omega],e2,by omega,fun s hs=>?_,fun i j hi hj=>?_⟩
    ·by_cases c1:s=t
     ·rw [c1];exact e3
     ·exact (g3 s (by omega)).same (e4 _ _ (by omega))
    ·rw [e4 _ _ (by omega)]
     exact g4 i j (by omega) hj
   ·right
    rw [if_neg h]
    exact ⟨_,rfl,l,t,rfl,g1,g2,by omega,g3,g4⟩)
  (s0:=(rng 0 n,0,20)) ⟨rng 0 n,rfl,by rw [wCf];omega,by omega,fun s hs=>by omega,fun i j _ hj=>by
   unfold seg
   apply kS
   intro q
   rw [kP]
   split
   ·rw [kQ]
    simp only [rng,km]
    rw [ki (by omega),ki (by omega)]
    simp
   ·rw [kJ (by rw [wCf];omega)]⟩ (by omega)
 obtain ⟨l',e1,e2,e3,e4⟩:=wGH hc h2 hn (a:=20 * t) (b:=n) h3 (nL _) (h6 _ _ (nL _) (nL _))
 refine ⟨l,_,l',h1,e1,e2,fun s hs=>?_⟩
 by_cases c1:s=t
 ·rw [c1,nu (by omega)];exact e3
 ·have hlt:s < t:=by omega
  rw [nr (by omega)]
  exact (h5 s hlt).same (e4 _ _ (by omega))
theorem wMT {K:Int->Int} {n:Nat} {c:(Int × Int)->Option Int} (hc:ByK K n c) (hn:n <= 64) {bs:Nat} (hbs:bs=20 \/ bs=40) (hlt:bs < n) {l:List Int} (hl:l.length=n) (hB:Blk K n bs l) :
    ∃ l',((iter (fun (l121,x122,x123) =>
        if x123 <= (n:Int) then
          (wAI 1000 l121 x122 (w64 (x122 + (bs:Int))) x123 c).bind fun x146 =>
          some (.inl (x146,x123,w64 (x123 + (w64 (2 * (bs:Int))))))
        else
          esc (some (l121,x122))) big (l,0,w64 (2 * (bs:Int)))).bind fun (l107,x108) =>
      if (w64 (x108 + (bs:Int))) < (n:Int) then
        (wAI 1000 l107 x108 (w64 (x108 + (bs:Int))) (n:Int) c).bind fun x182 =>
        some (.inl (x182,w64 ((bs:Int) * 2)))
      else
        some (.inl (l107,w64 ((bs:Int) * 2))))=some (Sum.inl (β:=List Int) (l',((2 * bs:Nat):Int)))/\l'.length=n/\Blk K n (2 * bs) l':=by
  have e0:w64 (2 * (bs:Int))=((2 * bs:Nat):Int):=by rw [wAg (by omega) (by omega)];omega
  have e00:w64 ((bs:Int) * 2)=((2 * bs:Nat):Int):=by rw [wAg (by omega) (by omega)];omega
  rw [e0,e00]
  obtain ⟨r,h1,m,t,rfl,h2,h3,h4,h5,h6⟩:=wCv (body:=fun (l121,x122,x123) =>
        if x123 <= (n:Int) then
          (wAI 1000 l121 x122 (w64 (x122 + (bs:Int))) x123 c).bind fun x146 =>
          some (.inl (x146,x123,w64 (x123 + ((2 * bs:Nat):Int))))
        else
          esc (some (l121,x122))) (fun t s=>∃ l,s=(l,((2 * bs * t:Nat):Int),((2 * bs * t + 2 * bs:Nat):Int))/\l.length=n/\2 * bs * t <= n/\(∀ s,s < t->Srt K l (2 * bs * s) (2 * bs * s + 2 * bs))/\(∀ s,2 * t <= s->bs * s < n->Srt K l (bs * s) (min (bs * s + bs) n)))
    (fun r=>∃ l t,r=(l,((2 * bs * t:Nat):Int))/\l.length=n/\2 * bs * t <= n/\n < 2 * bs * t + 2 * bs/\(∀ s,s < t->Srt K l (2 * bs * s) (2 * bs * s + 2 * bs))/\(∀ s,2 * t <= s->bs * s < n->Srt K l (bs * s) (min (bs * s + bs) n))) 4
    (fun t s ht ⟨l,hs,g1,g2,g3,g4⟩=>by
      subst hs
      simp only
      by_cases h:((2 * bs * t + 2 * bs:Nat):Int) <= (n:Int)
      · left
        have s1:=g4 (2 * t) (nL _) (by rcases hbs with rfl | rfl <;> omega)
        have s2:=g4 (2 * t + 1) (by omega) (by rcases hbs with rfl | rfl <;> omega)
        have q1:bs * (2 * t)=2 * bs * t:=by rcases hbs with rfl | rfl <;> omega
        have q2:bs * (2 * t + 1)=2 * bs * t + bs:=by rcases hbs with rfl | rfl <;> omega
        rw [q1,nr (by omega)] at s1
        rw [q2,nr (by omega),show 2 * bs * t + bs + bs=2 * bs * t + 2 * bs by omega] at s2
        obtain ⟨l',e1,e2,e3,e4⟩:=wHQ hc g1 hn (by omega) (by omega) (by omega) s1 s2
        have ew:w64 (((2 * bs * t + 2 * bs:Nat):Int) + ((2 * bs:Nat):Int))=((2 * bs * (t + 1) + 2 * bs:Nat):Int):=by
          rw [wCw (by omega)]
          rcases hbs with rfl | rfl <;> omega
        rw [if_pos h,wCw (by omega),e1,hH,ew]
        refine ⟨by rcases hbs with rfl | rfl <;> omega,_,rfl,l',by rw [show 2 * bs * t + 2 * bs=2 * bs * (t + 1) by rw [Nat.mul_add,Nat.mul_one]],e2,by rw [Nat.mul_add,Nat.mul_one];omega,fun s hs=>?_,fun s hs hs2=>?_⟩
        · by_cases c1:s=t
          · rw [c1];exact e3
          · exact (g3 s (by omega)).same (e4 _ _ (by rcases hbs with rfl | rfl <;> omega))
        · exact (g4 s (by omega) hs2).same (e4 _ _ (by rcases hbs with rfl | rfl <;> omega))
      · right
        rw [if_neg h]
        exact ⟨_,rfl,l,t,rfl,g1,g2,by omega,g3,g4⟩)
    (s0:=(l,0,((2 * bs:Nat):Int))) ⟨l,by simp,hl,by omega,fun s hs=>by omega,fun s _ hs=>hB s hs⟩ (by omega)
  rw [h1,hH]
  simp only
  rw [wCw (by omega)]
  have fin:∀ l':List Int,l'.length=n->(2 * bs * t < n->Srt K l' (2 * bs * t) n)->(∀ s,s < t->Srt K l' (2 * bs * s) (2 * bs * s + 2 * bs))->Blk K n (2 * bs) l':=fun l' _ g2 g3 s hs=>by
    by_cases c1:s=t
    · subst c1
      rw [nu (by omega)]
      exact g2 hs
    · have:s < t:=by rcases hbs with rfl | rfl <;> omega
      have q:2 * bs * s + 2 * bs <= n:=by rcases hbs with rfl | rfl <;> omega
      rw [nr q]
      exact g3 s this
  have q1:bs * (2 * t)=2 * bs * t:=by rcases hbs with rfl | rfl <;> omega
  have q2:bs * (2 * t + 1)=2 * bs * t + bs:=by rcases hbs with rfl | rfl <;> omega
  by_cases h:((2 * bs * t + bs:Nat):Int) < (n:Int)
  · have s1:=h6 (2 * t) (nL _) (by omega)
    have s2:=h6 (2 * t + 1) (by omega) (by omega)
    rw [q1,nr (by omega)] at s1
    rw [q2,nu (by omega)] at s2
    obtain ⟨l',e1,e2,e3,e4⟩:=wHQ hc h2 hn (by omega) (by omega) (nL _) s1 s2
    rw [if_pos h,e1,hH]
    refine ⟨l',rfl,e2,fin l' e2 (fun _=>e3) fun s hs=>(h5 s hs).same (e4 _ _ (by rcases hbs with rfl | rfl <;> omega))⟩
  · rw [if_neg h]
    refine ⟨m,rfl,h2,fin m h2 (fun g=>?_) h5⟩
    have s1:=h6 (2 * t) (nL _) (by omega)
    rw [q1,nu (by omega)] at s1
    exact s1
theorem wLa {K:Int->Int} {n:Nat} {c:(Int × Int)->Option Int} (hc:ByK K n c) (hn:n <= 64):∃ r,wAY (rng 0 n) c=some r/\r.Perm (rng 0 n)/\r.Pairwise (Lr K):=by
 unfold wAY wAv
 rw [wCf,Nat.sub_zero]
 obtain ⟨l,a,l',h1,h2,h3,h4⟩:=wIN hc hn
 rw [h1,hH]
 simp only
 rw [h2,hH]
 obtain ⟨r,g1,g2,g3⟩:=wCv (body:=fun (l88,x89) =>
  if x89 < (n:Int) then
   (iter (fun (l121,x122,x123) =>
    if x123 <= (n:Int) then
     (wAI 1000 l121 x122 (w64 (x122 + x89)) x123 c).bind fun x146 =>
     some (.inl (x146,x123,w64 (x123 + (w64 (2 * x89)))))
    else
     esc (some (l121,x122))) big (l88,0,w64 (2 * x89))).bind fun (l107,x108) =>
   if (w64 (x108 + x89)) < (n:Int) then
    (wAI 1000 l107 x108 (w64 (x108 + x89)) (n:Int) c).bind fun x182 =>
    some (.inl (x182,w64 (x89 * 2)))
   else
    some (.inl (l107,w64 (x89 * 2)))
  else
   esc (some l88)) (fun k s=>∃ l bs,s=(l,((bs:Nat):Int))/\(k=0/\bs=20 \/ k=1/\bs=40 \/ k=2/\bs=80)/\l.length=n/\Blk K n bs l) (fun r=>r.length=n/\Srt K r 0 n) 3
  (fun k s hk ⟨l,bs,hs,q1,q2,q3⟩=>by
   subst hs
   simp only
   by_cases h:((bs:Nat):Int) < (n:Int)
   ·left
    obtain ⟨l2,e1,e2,e3⟩:=wMT hc hn (bs:=bs) (by omega) (by omega) q2 q3
    rw [if_pos h,e1]
    exact ⟨by omega,_,rfl,l2,2 * bs,rfl,by omega,e2,e3⟩
   ·right
    rw [if_neg h]
    refine ⟨_,rfl,q2,?_⟩
    by_cases z:n=0
    ·subst z
     have:l=[]:=nU q2
     subst this
     exact ⟨kv _,ko⟩
    ·have:=q3 0 (by omega)
     rw [Nat.mul_zero,nz,nu (by omega)] at this
     exact this) (s0:=(l',20)) ⟨l',20,rfl,.inl ⟨rfl,rfl⟩,h3,h4⟩ (by omega)
 rw [g1,hH]
 refine ⟨r,rfl,?_⟩
 have:seg r 0 n=r:=by unfold seg;rw [List.drop_zero,kE (by omega)]
 unfold Srt at g3
 rwa [this] at g3
end Go.Proofs.YtghaibkggdecnaaGreat
namespace Go.Proofs.YtghaibkggdecnaaGreat
open Go.KL
theorem wLb (x a b:Int):wBP x a b=some (decide (a <= x) && decide (x <= b)):=by
 unfold wBP
 by_cases h:a <= x <;> simp [h]
theorem wMU {K V:Type} [DecidableEq K] {m:List (K × V)} {x y:K} {v:V}:wFk (mput m x v) y=if y=x then some v else wFk m y:=by
 induction m with
 | nil=>simp only [mput,wFk]
 | cons p m ih =>
  obtain ⟨a,u⟩:=p
  rw [mput]
  by_cases h:x=a
  ·subst h
   rw [if_pos rfl,wFk,wFk]
   split <;> rfl
  ·rw [if_neg h,wFk,wFk,ih]
   by_cases h2:y=a
   ·rw [if_pos h2,if_neg (fun e:y=x=>h (e.symm.trans h2)),if_pos h2]
   ·rw [if_neg h2,if_neg h2]
theorem wIw {l:List Int} (hl:l.length <= 1000):wBc l=some (!decide l.Nodup):=by
 unfold wBc
 rw [wCk (by omega)]
 have key:∀ (m k:Nat) (t:List (Int × Bool)),k + m=l.length->(∀ n,wDY t n false=decide (n ∈ l.take k))->(l.take k).Nodup ->
   jn (forN (fun k20 l17 =>
  (idx l (↑k20:Int)).bind fun x41 =>
  if (wDY l17 x41 false)=true then
   esc (some true)
  else
   some (.inl (mput l17 x41 true))) m k t) (fun _=>some false)=some (!decide l.Nodup):=by
  intro m
  induction m with
  | zero =>
   intro k t hk _ hn
   rw [kE (by omega)] at hn
   simp [forN,hn]
  | succ m ih =>
   intro k t hk ht hn
   have hlt:k < l.length:=by omega
   rw [forN,wCK hlt,hH,ht]
   by_cases c:gd l k ∈ l.take k
   ·have:¬ l.Nodup:=fun h=>by
     rw [<- nD k l,wDn hlt] at h
     exact (kq.1 h).2.2 _ c _ (by simp) rfl
    simp [c,this]
   ·rw [if_neg (by simpa using c)]
    simp only
    refine ih (k + 1) _ (by omega) (fun n=>?_) ?_
    ·unfold wDY at ht ⊢
     rw [wMU,wCR hlt]
     by_cases e:n=gd l k
     ·rw [if_pos e];simp [e]
     ·rw [if_neg e,ht];simp [e]
    ·rw [wCR hlt,kq]
     exact ⟨hn,by simp,fun a ha b hb e=>by simp at hb;subst hb;subst e;exact c ha⟩
 exact key l.length 0 [] (by omega) (fun n=>by simp [wDY,wFk]) (by simp)
theorem wIx {α:Type} [Inhabited α] {p:α->Bool}:∀ {l:List α} {j k:Nat},j < l.length->p (gd l j)=true->(∀ i,i < j->p (gd l i)=false)->first p l k=(k:Int) + j
 | [],j,k,h,_,_=>by simp at h
 | a :: l,0,k,h,h1,_=>by
  rw [first,if_pos (show p a=true from h1)];omega
 | a :: l,j + 1,k,h,h1,h2=>by
  have:=h2 0 (by omega)
  rw [first,if_neg (by rw [show p a=false from this];decide),wIx (j:=j) (by simpa using h) h1 fun i hi=>h2 (i + 1) (by omega)]
  omega
theorem wMy {α:Type} [Inhabited α] {l:List α} {a:α} (h:a ∈ l):∃ i,i < l.length/\gd l i=a:=by
 obtain ⟨i,hi,e⟩:=nO h
 exact ⟨i,hi,by rw [wCS hi,e]⟩
theorem wEG {α:Type} [Inhabited α] {l:List α} {p:α->Int}:(l.map p).Nodup ↔ ∀ i,i < l.length->∀ j,j < i->p (gd l i) ≠ p (gd l j):=by
 rw [nv,no]
 constructor
 ·intro h i hi j hj e
  have:=h j i (by simp;omega) (by simpa using hi) hj
  rw [kH,kH,<- wCS (by omega),<- wCS hi] at this
  exact this e.symm
 ·intro h i j hi hj hij e
  rw [nw] at hi hj
  rw [kH,kH,<- wCS hi,<- wCS hj] at e
  exact h j hj i hij e.symm
theorem wGI (a b:Int):wBH a b=some (if a < b then -1 else if b < a then 1 else 0):=by
 unfold wBH wAy
 simp only [not_true_eq_false,decide_false,hH,nE,if_false]
 split
 ·rfl
 ·split <;> rfl
end Go.Proofs.YtghaibkggdecnaaGreat
namespace Go.Proofs.YtghaibkggdecnaaGreat
open Go.KL
theorem wLc {a u:Int} (h:0 <= a) (hu:0 < u):a % u <= a:=by
 have h1:=nt a u
 have h2:=Int.mul_nonneg (Int.le_of_lt hu) (Int.ediv_nonneg h (Int.le_of_lt hu))
 omega
def okQ (x:wAA):Bool:=(decide (1 <= x.Bib) && decide (x.Bib <= 999)) && (decide (0 <= x.Time) && decide (x.Time <= 360000))
def okU (r:wAC):Prop:=(1 <= r.Unit/\r.Unit <= 600)/\0 <= r.Limit/\r.Limit <= 360000
instance (r:wAC):Decidable (okU r):=by unfold okU;exact inferInstance
def wLd (l:List wAA) (r:wAC):Int:=if 60 < l.length then 2 else if l.all okQ=true/\okU r then (if (l.map (·.Bib)).Nodup then 0 else 5) else 3
theorem wOD {l:List wAA} (hn:l.length <= 1000):wAn l wAo=some (l.all okQ):=by
 unfold wAn
 rw [wIs (p:=okQ) (z:=false) (fun x _=>by
  have:wAo x=some (okQ x):=by
   unfold wAo okQ
   rw [wLb,hH]
   by_cases h:(decide (1 <= x.Bib) && decide (x.Bib <= 999))=true
   ·rw [if_pos h,wLb,h];rfl
   ·rw [if_neg h,Bool.eq_false_iff.2 h];rfl
  simp only [this,hH];split <;> rfl) (by omega)]
 cases l.all okQ <;> rfl
theorem wJh {l:List wAA} (hl:l.length <= 1000) (r:wAC):wBa l r=some (wLd l r):=by
 unfold wBa wLd
 rw [wMN (bytes:=8) (f:=fun x:wAA=>x.Bib) (fun s _ r=>by rw [wOB]) (by omega) (by omega)]
 show (some (l.map (·.Bib))).bind _=_
 rw [hH]
 by_cases h0:60 < l.length
 ·rw [if_pos (by omega),if_pos h0]
 rw [if_neg (by omega),if_neg h0,wOD hl,hH]
 by_cases h1:l.all okQ=true
 case neg=>rw [if_neg h1,if_neg (fun h=>h1 h.1)]
 rw [if_pos h1,wLb,hH]
 by_cases h2:1 <= r.Unit/\r.Unit <= 600
 case neg=>rw [if_neg (by simp;omega),if_neg (fun h=>h2 h.2.1)]
 rw [if_pos (by simp;omega),wLb,hH]
 by_cases h3:0 <= r.Limit/\r.Limit <= 360000
 case neg=>rw [if_neg (by simp;omega),if_neg (fun h=>h3 h.2.2)]
 rw [if_pos (by simp;omega),wIw (by simpa using hl),hH,if_pos (show l.all okQ=true/\okU r from ⟨h1,h2,h3⟩)]
 by_cases h4:(l.map (·.Bib)).Nodup
 ·rw [if_neg (by simp [h4]),if_pos h4]
 ·rw [if_pos (by simp [h4]),if_neg h4]
structure wFp (l:List wAA) (r:wAC):Prop where
 len:l.length <= 60
 bib:∀ x ∈ l,1 <= x.Bib/\x.Bib <= 999
 time:∀ x ∈ l,0 <= x.Time/\x.Time <= 360000
 unit:1 <= r.Unit/\r.Unit <= 600
 lim:0 <= r.Limit/\r.Limit <= 360000
 bibs:(l.map (·.Bib)).Nodup
theorem wDN {l:List wAA} {r:wAC}:wLd l r=0 ↔ wFp l r:=by
 unfold wLd
 constructor
 ·intro h
  by_cases h0:60 < l.length
  ·rw [if_pos h0] at h;omega
  rw [if_neg h0] at h
  by_cases h1:l.all okQ=true/\okU r
  case neg=>rw [if_neg h1] at h;omega
  rw [if_pos h1] at h
  by_cases h2:(l.map (·.Bib)).Nodup
  case neg=>rw [if_neg h2] at h;omega
  have:=fun x hx=>np.1 h1.1 x hx
  simp only [okQ,nH,decide_eq_true_iff] at this
  exact ⟨by omega,fun x hx=>(this x hx).1,fun x hx=>(this x hx).2,h1.2.1,h1.2.2,h2⟩
 ·intro G
  have:=G.len
  rw [if_neg (by omega),if_pos ⟨np.2 fun x hx=>by
   have h1:=G.bib x hx
   have h2:=G.time x hx
   simp only [okQ,nH,decide_eq_true_iff]
   exact ⟨h1,h2⟩,G.unit,G.lim⟩,if_pos G.bibs]
def bst (l:List wAA):Int:=l.foldl (fun b x=>min b x.Time) 360000
theorem wMV {l:List wAA} {k:Nat} (hk:k < l.length):bst (l.take (k + 1))=min (bst (l.take k)) (gd l k).Time:=by
 unfold bst
 rw [wCR hk,kr]
 rfl
theorem wIO (l:List wAA):∀ b:Int,l.foldl (fun b x=>min b x.Time) b <= b/\(∀ x ∈ l,l.foldl (fun b x=>min b x.Time) b <= x.Time)/\((∀ x ∈ l,0 <= x.Time)->0 <= b->0 <= l.foldl (fun b x=>min b x.Time) b):=by
 induction l with
 | nil=>intro b;exact ⟨Int.le_refl _,fun x hx=>by simp at hx,fun _ h=>h⟩
 | cons a l ih =>
  intro b
  obtain ⟨h1,h2,h3⟩:=ih (min b a.Time)
  rw [ny]
  refine ⟨by omega,fun x hx=>?_,fun h0 hb=>h3 (fun x hx=>h0 x (kL _ hx)) (by have:=h0 a (List.mem_cons_self ..);omega)⟩
  rcases nK.1 hx with rfl | hx
  ·omega
  ·exact h2 x hx
def dfc (r:wAC) (best t:Int):Int:=min ((t - best) - (t - best) % r.Unit) r.Limit
def dfs (l:List wAA) (r:wAC):List Int:=l.map fun x=>dfc r (bst l) x.Time
theorem wGJ {l:List wAA} {r:wAC} (G:wFp l r):0 <= bst l/\bst l <= 360000/\∀ x ∈ l,bst l <= x.Time:=by
 have:=wIO l 360000
 exact ⟨this.2.2 (fun x hx=>(G.time x hx).1) (by omega),this.1,this.2.1⟩
theorem wMz {l:List wAA} {r:wAC} (G:wFp l r) {x:wAA} (hx:x ∈ l):0 <= dfc r (bst l) x.Time/\dfc r (bst l) x.Time <= r.Limit/\dfc r (bst l) x.Time <= x.Time - bst l:=by
 have h1:=wGJ G
 have h2:=h1.2.2 x hx
 have h3:=G.unit
 have h4:=G.lim
 have h5:=kO (x.Time - bst l) (show r.Unit ≠ 0 by omega)
 have h6:=wLc (a:=x.Time - bst l) (u:=r.Unit) (by omega) (by omega)
 unfold dfc
 omega
theorem wDp {l:List wAA} {r:wAC} (hl:l.length <= 1000):wAl l r=some (if wLd l r=0 then dfs l r else [],wLd l r):=by
 unfold wAl
 rw [wJh hl,hH]
 by_cases h:wLd l r=0
 case neg=>rw [if_neg h,if_neg h]
 rw [if_pos h,if_pos h,h]
 have G:=wDN.1 h
 have B:=wGJ G
 rw [wCQ (s0:=(360000:Int)) (fun k=>bst (l.take k)) (by simp [bst]) (by omega) (fun i hi=>by rw [wCK hi,hH,wMV hi]),hH,nc]
 have hlen:=G.len
 rw [wCQ (s0:=([]:List Int)) (fun k=>(l.take k).map fun x=>dfc r (bst l) x.Time) (by simp) (by omega) (fun i hi=>by
  have hx:=wBG hi
  have t:=G.time _ hx
  have b:=B.2.2 _ hx
  have u:=G.unit
  have em:=kO ((gd l i).Time - bst l) (show r.Unit ≠ 0 by omega)
  have em2:=wLc (a:=(gd l i).Time - bst l) (u:=r.Unit) (by omega) (by omega)
  have e:w64 ((gd l i).Time - bst l)=(gd l i).Time - bst l:=wAg (by omega) (by omega)
  rw [wCK hi,hH,e,rem,if_neg (by omega),hH,nl (by omega),wAg (by omega) (by omega),wFd (by simp;omega),hH,wCR hi,kM]
  rfl),hH,nc]
 rfl
end Go.Proofs.YtghaibkggdecnaaGreat
namespace Go.Proofs.YtghaibkggdecnaaGreat
open Go.KL
def key (l:List wAA) (r:wAC) (i:Int):Int:=dfc r (bst l) (gd l i.toNat).Time * 400000 + (gd l i.toNat).Time
theorem or_is (a b:Int):wCF [a,b]=some (if a=0 then b else a):=by
 unfold wCF
 have e:((([a,b]:List Int).length:Nat):Int)=((2:Nat):Int):=rfl
 rw [e,wCk (by omega)]
 have i0:idx [a,b] ((0:Nat):Int)=some a:=rfl
 have i1:idx [a,b] ((0 + 1:Nat):Int)=some b:=rfl
 simp only [forN,i0,i1,hH]
 by_cases c:a=0
 ·rw [if_pos c,if_pos c]
  by_cases c2:b=0
  ·simp [c2]
  ·simp [c2]
 ·rw [if_neg c,if_neg c]
  rfl
theorem wIP {l:List wAA} {r:wAC} {a b:Int} (ha:0 <= a/\a < l.length) (hb:0 <= b/\b < l.length):wAp a b (dfs l r) l=some (if (if dfc r (bst l) (gd l a.toNat).Time < dfc r (bst l) (gd l b.toNat).Time then (-1:Int) else if dfc r (bst l) (gd l b.toNat).Time < dfc r (bst l) (gd l a.toNat).Time then 1 else 0)=0 then (if (gd l a.toNat).Time < (gd l b.toNat).Time then (-1:Int) else if (gd l b.toNat).Time < (gd l a.toNat).Time then 1 else 0) else (if dfc r (bst l) (gd l a.toNat).Time < dfc r (bst l) (gd l b.toNat).Time then (-1:Int) else if dfc r (bst l) (gd l b.toNat).Time < dfc r (bst l) (gd l a.toNat).Time then 1 else 0)):=by
 unfold wAp
 have e:∀ {i:Int},0 <= i->i < l.length->idx l i=some (gd l i.toNat)/\idx (dfs l r) i=some (dfc r (bst l) (gd l i.toNat).Time):=fun {i} h1 h2=>by
  refine ⟨by unfold idx;rw [if_pos h1,wAu (by omega)],?_⟩
  unfold idx dfs
  rw [if_pos h1,wAu (by simp;omega),wBb _ (by omega)]
 rw [(e ha.1 ha.2).2,hH,(e hb.1 hb.2).2,hH,(e ha.1 ha.2).1,hH,(e hb.1 hb.2).1,hH,wGI,hH,wGI,hH,or_is,hH]
theorem byKey {l:List wAA} {r:wAC} (G:wFp l r):ByK (key l r) (l.length:Int) (fun x=>wAp x.1 x.2 (dfs l r) l):=by
 intro a b a0 a1 b0 b1
 refine ⟨_,wIP ⟨a0,a1⟩ ⟨b0,b1⟩,?_⟩
 have ta:=G.time _ (wBG (l:=l) (k:=a.toNat) (by omega))
 have tb:=G.time _ (wBG (l:=l) (k:=b.toNat) (by omega))
 unfold key
 generalize dfc r (bst l) (gd l a.toNat).Time=x
 generalize dfc r (bst l) (gd l b.toNat).Time=y
 generalize (gd l a.toNat).Time=s at ta ⊢
 generalize (gd l b.toNat).Time=t at tb ⊢
 by_cases c1:x < y
 ·rw [if_pos c1,if_neg (by decide)]
  constructor
  ·intro _;omega
  ·intro _;decide
 ·simp only [c1,if_false]
  by_cases c2:y < x
  ·rw [if_pos c2,if_neg (by decide)]
   constructor
   ·intro h;exact absurd h (by decide)
   ·intro h;omega
  ·simp only [c2,if_false,if_true]
   by_cases c3:s < t
   ·simp only [c3,if_true]
    constructor
    ·intro _;omega
    ·intro _;decide
   ·simp only [c3,if_false]
    by_cases c4:t < s
    ·simp only [c4,if_true]
     constructor
     ·intro h;exact absurd h (by decide)
     ·intro h;omega
    ·simp only [c4,if_false]
     constructor
     ·intro h;omega
     ·intro h;omega
structure Plc (l:List wAA) (r:wAC) (p:List Int):Prop where
 perm:p.Perm (rng 0 l.length)
 ord:p.Pairwise (Lr (key l r))
def stt (l:List wAA) (r:wAC) (i:Int):wAB:=⟨(gd l i.toNat).Bib,dfc r (bst l) (gd l i.toNat).Time,0⟩
theorem wIy {l:List wAA} {r:wAC} {p:List Int} (h:Plc l r p) {k:Nat} (hk:k < l.length):p.length=l.length/\0 <= gd p k/\gd p k < l.length:=by
 have hl:p.length=l.length:=by rw [h.perm.length_eq,wCf];omega
 have:=wGG _ (h.perm.mem_iff.1 (wBG (l:=p) (k:=k) (by omega)))
 exact ⟨hl,by omega,this.2⟩
theorem wGK {l:List wAA} {r:wAC} (hl:l.length <= 1000):∃ p,(wLd l r=0->Plc l r p)/\wAz l r=some (if wLd l r=0 then p.map (stt l r) else [],wLd l r):=by
 unfold wAz
 rw [wDp hl,hH]
 by_cases h:wLd l r=0
 case neg=>exact ⟨[],fun e=>absurd e h,by simp only [if_neg h]⟩
 simp only [if_pos h]
 have G:=wDN.1 h
 have h60:=G.len
 rw [wCQ (s0:=([]:List Int)) (fun k=>rng 0 k) rfl (by omega) (fun i hi=>by
  rw [wFd (by rw [wCf];simp;omega),hH]
  have:=wLX (a:=0) (m:=i) (b:=i + 1) (by omega) (by omega)
  rw [<- this]
  congr 2
  simp [rng]),hH]
 obtain ⟨p,e,hp,ho⟩:=wLa (byKey G) (by omega)
 rw [e,hH]
 have P:Plc l r p:=⟨hp,ho⟩
 have hpl:p.length=l.length:=by rw [hp.length_eq,wCf];omega
 refine ⟨p,fun _=>P,?_⟩
 rw [wCQ (s0:=([]:List wAB)) (fun k=>(p.take k).map (stt l r)) (by simp) (by omega) (fun i hi=>by
  obtain ⟨_,g0,g1⟩:=wIy P (k:=i) (by omega)
  have e1:idx l (gd p i)=some (gd l (gd p i).toNat):=by unfold idx;rw [if_pos g0,wAu (by omega)]
  have e2:idx (dfs l r) (gd p i)=some (dfc r (bst l) (gd l (gd p i).toNat).Time):=by unfold idx dfs;rw [if_pos g0,wAu (by simp;omega),wBb _ (by omega)]
  rw [wBW (by omega) (by omega),hH,e1,hH,e2,hH,wFd (by simp;omega),hH,wCR hi,kM]
  rfl),hH,nc,h]
end Go.Proofs.YtghaibkggdecnaaGreat
namespace Go.Proofs.YtghaibkggdecnaaGreat
open Go.KL
theorem wIz {a b:Int} (h0:0 <= a) (hb:0 < b):∃ x,rem a b=some x/\0 <= x/\x < b:=by
 refine ⟨a.tmod b,if_neg (by omega),?_,?_⟩
 ·rw [nl h0];exact kO _ (by omega)
 ·rw [nl h0];exact kl _ hb
theorem wIQ (x:Int):0 <= wDC x:=by unfold wDC;omega
theorem wOE (x:Int):wDC x < 4294967296:=by unfold wDC;omega
theorem w64u (x:Int):w64 (wDC x)=wDC x:=by
 have:=wIQ x
 have:=wOE x
 exact wAg (by omega) (by omega)
theorem wMW (a:Int) {b:Int} (hb:b ≠ 0):∃ x,quo a b=some x:=⟨_,if_neg hb⟩
theorem wLe (d:wAG) (n:Int) (h0:0 <= d.next) (h1:d.next <= 1000000):∃ x d',wAd d n=some (x,d')/\0 <= d'.next/\d'.next <= d.next + 1/\0 <= x/\(x < n \/ (n <= 1/\x=0)):=by
 unfold wAd
 by_cases hn:n <= 1
 ·exact ⟨0,d,by rw [if_pos hn],h0,by omega,by omega,.inr ⟨hn,rfl⟩⟩
 rw [if_neg hn]
 by_cases hl:(d.bytes.length:Int)=0
 ·exact ⟨0,d,by rw [if_pos hl],h0,by omega,by omega,.inl (by omega)⟩
 rw [if_neg hl]
 obtain ⟨r,e1,r0,r1⟩:=wIz h0 (show (0:Int) < d.bytes.length by omega)
 obtain ⟨b,e2⟩:∃ b,idx d.bytes r=some b:=by
  unfold idx
  rw [if_pos r0,nM (by omega)]
  exact ⟨_,rfl⟩
 obtain ⟨q,e3⟩:=wMW d.next (b:=d.bytes.length) hl
 obtain ⟨st,e4,_,_⟩:=wIz (wIQ ((wDC ((wDC ((wDC (d.state * 45)) + (wDC b))) + (wDC (77 * (wDC q))))) + 1)) (b:=65519) (by decide)
 rw [e1,hH,e2,hH,e3,hH,e4,hH,wAg (x:=d.next + 1) (by omega) (by omega)]
 have fin:∀ z:Int,∃ x d',((rem (w64 (wDC z)) n).bind fun x=>some (x,(⟨d.bytes,d.next + 1,st⟩:wAG)))=some (x,d')/\0 <= d'.next/\d'.next <= d.next + 1/\0 <= x/\(x < n \/ (n <= 1/\x=0)):=by
  intro z
  obtain ⟨x,e5,x0,x1⟩:=wIz (a:=w64 (wDC z)) (b:=n) (by rw [w64u];exact wIQ z) (by omega)
  exact ⟨x,_,by rw [e5];rfl,by show 0 <= d.next + 1;omega,by show d.next + 1 <= _;omega,x0,.inl x1⟩
 by_cases c1:wDC q=0
 ·rw [if_pos c1]
  by_cases c2:n <= 256
  ·rw [if_pos c2];exact fin _
  ·rw [if_neg c2];exact fin _
 ·rw [if_neg c1];exact fin _
theorem wIR (d:wAG) (a b:Int) (h0:0 <= d.next) (h1:d.next <= 1000000) (ha:-1000000 <= a) (hab:a <= b) (hb:b <= 1000000):∃ x d',wAO d a b=some (x,d')/\0 <= d'.next/\d'.next <= d.next + 1/\a <= x/\x <= b:=by
 unfold wAO
 rw [wAg (x:=b - a) (by omega) (by omega),wAg (x:=b - a + 1) (by omega) (by omega)]
 obtain ⟨x,d',e,n0,n1,x0,x1⟩:=wLe d (b - a + 1) h0 h1
 refine ⟨a + x,d',?_,n0,n1,by omega,by omega⟩
 rw [e,hH]
 simp only
 rw [wAg (by omega) (by omega)]
end Go.Proofs.YtghaibkggdecnaaGreat
namespace Go.Proofs.YtghaibkggdecnaaGreat
open Go.KL
def okS (s:wAB):Bool:=(decide (1 <= s.Bib) && decide (s.Bib <= 999)) && ((decide (0 <= s.Time) && decide (s.Time <= 360000)) && (decide (0 <= s.Gate) && decide (s.Gate <= 60)))
theorem wOF (s:wAB):okS s=true ↔ (1 <= s.Bib/\s.Bib <= 999)/\(0 <= s.Time/\s.Time <= 360000)/\0 <= s.Gate/\s.Gate <= 60:=by
 unfold okS
 simp
theorem wLf (s:wAB):wAm s=some (okS s):=by
 unfold wAm okS
 simp only [wLb,hH]
 by_cases h:(decide (1 <= s.Bib) && decide (s.Bib <= 999))=true
 ·rw [h]
  by_cases h2:(decide (0 <= s.Time) && decide (s.Time <= 360000))=true
  ·rw [h2];simp
  ·have:(decide (0 <= s.Time) && decide (s.Time <= 360000))=false:=by simpa using h2
   rw [this];simp
 ·have:(decide (1 <= s.Bib) && decide (s.Bib <= 999))=false:=by simpa using h
  rw [this];simp
theorem wOG {l:List wAB} {f:wAB->Option Bool} {p:wAB->Bool} (hf:∀ a,f a=some (p a)) (hn:l.length <= 1000):wAr l f=some (l.all p):=by
 unfold wAr
 rw [wIs (p:=p) (z:=false) (fun a _=>by rw [hf,hH];split <;> rfl) (by omega)]
 cases l.all p <;> rfl
theorem wOH (a b:Int):wBU a b=some (decide (a < b)):=by
 unfold wBU wAy
 simp
instance ascInt (l:List Int):Decidable (∀ k,k + 1 < l.length->gd l k <= gd l (k + 1)) :=
 decidable_of_iff (∀ k,k < l.length - 1->gd l k <= gd l (k + 1)) ⟨fun h k hk=>h k (by omega),fun h k hk=>h k (by omega)⟩
theorem wLg {l:List Int} (hl:l.length <= 1000):wAk l=some (decide (∀ k,k + 1 < l.length->gd l k <= gd l (k + 1))):=by
 unfold wAk
 rw [wAg (by omega) (by omega)]
 have key:∀ (m F:Nat) (x:Int),x=(m:Int) - 1->m <= l.length->(∀ k,m <= k + 1->k + 1 < l.length->gd l k <= gd l (k + 1))->m < F->iter (fun x4 =>
  if 0 < x4 then
   (idx l x4).bind fun x21 =>
   (idx l (w64 (x4 - 1))).bind fun x29 =>
   (wBU x21 x29).bind fun x36 =>
   if x36=true then
    esc (some false)
   else
    some (.inl (w64 (x4 - 1)))
  else
   esc (some true)) F x=some (decide (∀ k,k + 1 < l.length->gd l k <= gd l (k + 1))):=by
  intro m
  induction m with
  | zero =>
   intro F x hx _ h hF
   obtain ⟨F,rfl⟩:∃ G,F=G + 1:=⟨F - 1,by omega⟩
   rw [iter,if_neg (by omega)]
   have:(∀ k,k + 1 < l.length->gd l k <= gd l (k + 1)):=fun k hk=>h k (by omega) hk
   simp only [wEi,decide_eq_true this]
  | succ m ih =>
   intro F x hx hm h hF
   obtain ⟨F,rfl⟩:∃ G,F=G + 1:=⟨F - 1,by omega⟩
   rw [iter]
   by_cases c:0 < x
   ·obtain ⟨j,rfl⟩:∃ j,m=j + 1:=⟨m - 1,by omega⟩
    have ex:x=((j + 1:Nat):Int):=by omega
    rw [if_pos c,wAg (x:=x - 1) (by omega) (by omega),show x - 1=(j:Int) by omega,ex,wCK (by omega),hH,wCK (by omega),hH,wOH,hH]
    by_cases c2:gd l (j + 1) < gd l j
    ·have:¬ (∀ k,k + 1 < l.length->gd l k <= gd l (k + 1)):=fun hh=>by have:=hh j (by omega);omega
     rw [if_pos (by simpa using c2)]
     simp only [wEi,decide_eq_false this]
    ·rw [if_neg (by simpa using c2)]
     simp only
     refine ih F _ (by omega) (by omega) (fun k h1 h2=>?_) (by omega)
     by_cases e:k=j
     ·subst e;omega
     ·exact h k (by omega) h2
   ·rw [if_neg c]
    have:(∀ k,k + 1 < l.length->gd l k <= gd l (k + 1)):=fun k hk=>h k (by omega) hk
    simp only [wEi,decide_eq_true this]
 exact key l.length big _ rfl (nL _) (fun k h1 h2=>by omega) (by unfold big;omega)
def Asc (l:List wAB):Prop:=∀ k,k + 1 < l.length->(gd l k).Time <= (gd l (k + 1)).Time
instance (l:List wAB):Decidable (Asc l) :=
 decidable_of_iff (∀ k,k < l.length - 1->(gd l k).Time <= (gd l (k + 1)).Time) ⟨fun h k hk=>h k (by omega),fun h k hk=>h k (by omega)⟩
def errL (l:List wAB):Int:=if 60 < l.length then 2 else if l.all okS then (if (l.map (·.Bib)).Nodup then (if Asc l then 0 else 4) else 5) else 3
theorem wHR {l:List wAB} (hl:l.length <= 1000):wAx l=some (errL l):=by
 unfold wAx
 have e:(wCZ 0 (↑l.length:Int) (fun k33 (l25,l29) =>
  ((idx l (↑k33:Int)).bind fun x70 =>
  (app 8 l25 [x70.Bib]).bind fun x90 =>
  (app 8 l29 [x70.Time]).bind fun x103 =>
  some (x90,x103)).bind fun (l61,l64) =>
  some (l61,l64)) (([]:List Int),([]:List Int)))=some (l.map (·.Bib),l.map (·.Time)):=by
  have:=wCQ (body:=fun (k33:Nat) ((l25,l29):List Int × List Int) =>
   ((idx l (↑k33:Int)).bind fun x70 =>
   (app 8 l25 [x70.Bib]).bind fun x90 =>
   (app 8 l29 [x70.Time]).bind fun x103 =>
   some (x90,x103)).bind fun (l61,l64) =>
   some (l61,l64)) (n:=l.length) (s0:=(([]:List Int),([]:List Int))) (fun k=>((l.take k).map (·.Bib),(l.take k).map (·.Time))) rfl (by omega) (by
    intro i hi
    simp only
    rw [wCK hi,hH,wFd (by simp;omega),hH,wFd (by simp;omega),hH,hH,wCR hi]
    simp)
  rw [nc] at this
  exact this
 rw [e,hH]
 simp only
 unfold errL
 by_cases h60:60 < l.length
 ·rw [if_pos (by omega),if_pos h60]
 rw [if_neg (by omega),if_neg h60,wOG wLf hl,hH]
 by_cases ha:l.all okS=true
 ·rw [if_pos ha,if_pos ha,wIw (by simpa using hl),hH]
  by_cases hd:(l.map (·.Bib)).Nodup
  ·rw [if_neg (by simpa using hd),if_pos hd,wLg (by simpa using hl),hH]
   have:(∀ k,k + 1 < (l.map (·.Time)).length->gd (l.map (·.Time)) k <= gd (l.map (·.Time)) (k + 1)) ↔ Asc l:=by
    unfold Asc
    rw [nw]
    constructor
    ·intro h k hk
     have:=h k hk
     rwa [wBb _ (by omega),wBb _ hk] at this
    ·intro h k hk
     rw [wBb _ (by omega),wBb _ hk]
     exact h k hk
   simp only [this]
   by_cases hs:Asc l <;> simp [hs]
  ·rw [if_pos (by simpa using hd),if_neg hd]
 ·rw [if_neg ha,if_neg ha]
theorem wOI {l:List wAB} {f:wAB->Option Bool} {p:wAB->Bool} (hf:∀ a ∈ l,f a=some (p a)) (hn:l.length <= 1000):wAD l f=some (first p l 0):=by
 unfold wAD
 exact wJa (p:=p) hf (by omega) id
end Go.Proofs.YtghaibkggdecnaaGreat
namespace Go.Proofs.YtghaibkggdecnaaGreat
open Go.KL
theorem wIS (v:Int) {n:Int} (h1:1 <= n) (h2:n <= 100000):∃ x,wAc v n=some x/\0 <= x/\x < n:=by
 unfold wAc
 rw [if_neg (by omega),rem,if_neg (by omega),hH]
 have a1:=Int.lt_tmod_of_pos v (show 0 < n by omega)
 have a2:=Int.tmod_lt_of_pos v (show 0 < n by omega)
 rw [wAg (by omega) (by omega)]
 obtain ⟨x,e,x0,x1⟩:=wIz (a:=v.tmod n + n) (b:=n) (by omega) (by omega)
 rw [e,hH]
 exact ⟨x,rfl,x0,x1⟩
def qRd (k53:Nat):List Int × Int × Int × List wAA->Option (List Int × Int × Int × List wAA)
 | (l44,x47,x48,l49) =>
  (wAO (⟨l44,x47,x48⟩:wAG) 1 5).bind fun (x80,x81) =>
  (wAd x81 90).bind fun (x94,x95) =>
  (wAO x95 1 9).bind fun (x108,x109) =>
  (app 16 l49 [(⟨w64 ((w64 (5 * (↑k53:Int))) + x80),w64 (12000 + (w64 (x94 * x108)))⟩:wAA)]).bind fun x127 =>
  some (x109.bytes,x109.next,x109.state,x127)
theorem wFq (p0:wAG) (p1:Int):wAj p0 p1=(wAO p0 1 p1).bind fun (x2,x3) =>
 (wCZ 0 x2 qRd (x3.bytes,x3.next,x3.state,[])).bind fun (y58,y59,y60,y61) =>
 some (y61,(⟨y58,y59,y60⟩:wAG)):=rfl
structure QInv (n:Int) (k:Nat) (s:List Int × Int × Int × List wAA):Prop where
 n0:0 <= s.2.1
 n1:s.2.1 <= n + 3 * (k:Int)
 len:s.2.2.2.length=k
 el:∀ i,i < k->(5 * (i:Int) + 1 <= (gd s.2.2.2 i).Bib/\(gd s.2.2.2 i).Bib <= 5 * (i:Int) + 5)/\12000 <= (gd s.2.2.2 i).Time/\(gd s.2.2.2 i).Time <= 12900
theorem wPa {n:Int} (n1:0 <= n) (n2:n <= 1000) {k:Nat} {s:List Int × Int × Int × List wAA} (hk:k < 40) (I:QInv n k s):∃ s',qRd k s=some s'/\QInv n (k + 1) s':=by
 obtain ⟨b,nx,st,l⟩:=s
 obtain ⟨i0,i1,hl,el⟩:=I
 simp only at i0 i1 hl el
 unfold qRd
 simp only
 obtain ⟨a,d2,e2,p0,p1,a0,a1⟩:=wIR ⟨b,nx,st⟩ 1 5 i0 (by simp only;omega) (by omega) (by omega) (by omega)
 simp only at p1
 obtain ⟨y,d3,e3,q0,q1,y0,y1⟩:=wLe d2 90 p0 (by omega)
 obtain ⟨v,d4,e4,r0,r1,v0,v1⟩:=wIR d3 1 9 q0 (by omega) (by omega) (by omega) (by omega)
 have y89:y <= 89:=by omega
 have hm1:y * v <= 89 * 9:=Int.mul_le_mul y89 v1 (by omega) (by omega)
 have hm0:0 <= y * v:=Int.mul_nonneg y0 (by omega)
 rw [e2,hH]
 simp only
 rw [e3,hH]
 simp only
 rw [e4,hH]
 simp only
 generalize y * v=t at hm0 hm1 ⊢
 rw [wAg (x:=5 * (k:Int)) (by omega) (by omega),wAg (x:=5 * (k:Int) + a) (by omega) (by omega),wAg (x:=t) (by omega) (by omega),wAg (x:=12000 + t) (by omega) (by omega),wFd (by simp;omega),hH]
 refine ⟨_,rfl,r0,by simp only;omega,by simp [hl],fun i hi=>?_⟩
 simp only
 by_cases e:i=k
 ·rw [e,show gd (l ++ [(⟨5 * (k:Int) + a,12000 + t⟩:wAA)]) k=⟨5 * (k:Int) + a,12000 + t⟩ by rw [<- hl,wEp]]
  simp only
  omega
 ·rw [wMP (by omega)]
  exact el i (by omega)
structure MadeQ (l:List wAA):Prop where
 l1:1 <= l.length
 l2:l.length <= 40
 el:∀ x ∈ l,(1 <= x.Bib/\x.Bib <= 999)/\12000 <= x.Time/\x.Time <= 12900
 bibs:(l.map (·.Bib)).Nodup
theorem wJi (d:wAG) (h0:d.next=0):∃ l d',wAj d 40=some (l,d')/\MadeQ l:=by
 rw [wFq]
 obtain ⟨x,d1,e1,m0,m1,x0,x1⟩:=wIR d 1 40 (by omega) (by omega) (by omega) (by omega) (by omega)
 rw [e1,hH]
 simp only
 obtain ⟨m,rfl⟩:∃ m:Nat,x=m:=⟨x.toNat,by omega⟩
 rw [wDR (by omega)]
 obtain ⟨⟨b,nx,st,l⟩,hs,I⟩:=wFc (body:=qRd) (QInv d1.next) m 0 (d1.bytes,d1.next,d1.state,[]) ⟨m0,by simp only;omega,rfl,fun i hi=>by omega⟩ (fun i s _ hi I=>wPa m0 (by omega) (by omega) I)
 rw [hs,hH]
 obtain ⟨i0,i1,hl,el⟩:=I
 simp only at i0 i1 hl el ⊢
 rw [nz] at hl el
 refine ⟨l,_,rfl,by omega,by omega,fun s hs=>?_,?_⟩
 ·obtain ⟨i,hi,e⟩:=wMy hs
  have h1:=el i (by omega)
  rw [e] at h1
  omega
 ·refine wEG.2 fun i hi j hj=>?_
  have h1:=el i (by omega)
  have h2:=el j (by omega)
  omega
theorem MadeQ.good {l:List wAA} (M:MadeQ l) {u lim:Int} (u1:1 <= u) (u2:u <= 600) (m1:0 <= lim) (m2:lim <= 360000):wFp l ⟨u,lim⟩ :=
 ⟨by have:=M.l2;omega,fun x hx=>(M.el x hx).1,fun x hx=>by have:=M.el x hx;omega,⟨u1,u2⟩,⟨m1,m2⟩,M.bibs⟩
theorem wLh (l:List wAA):∀ b c:Int,l.foldl (fun b x=>min b x.Time) (min b c)=min b (l.foldl (fun b x=>min b x.Time) c):=by
 induction l with
 | nil=>intro b c;rfl
 | cons a l ih =>
  intro b c
  rw [ny,ny,show min (min b c) a.Time=min b (min c a.Time) by omega,ih]
theorem wIT {l:List wAA} {t:Int} (ht:t <= 360000) (hx:bst l <= t):l.foldl (fun b x=>min b x.Time) t=bst l:=by
 have:=wLh l t 360000
 rw [show min t 360000=t by omega] at this
 rw [this]
 unfold bst at hx ⊢
 omega
theorem wMX {r:wAC} {b s t:Int} (hu:1 <= r.Unit) (h:s <= t):dfc r b s <= dfc r b t:=by
 have h1:=nt (s - b) r.Unit
 have h2:=nt (t - b) r.Unit
 have h3:=Int.ediv_le_ediv (show 0 < r.Unit by omega) (show s - b <= t - b by omega)
 have h4:=Int.mul_le_mul_of_nonneg_left h3 (show 0 <= r.Unit by omega)
 unfold dfc
 omega
theorem Plc.one {l:List wAA} {r:wAC} {p q:List Int} (h:Plc l r p) (h2:Plc l r q):p=q :=
 List.Perm.eq_of_pairwise (le:=Lr (key l r)) (fun a b _ _ h1 h2=>by unfold Lr at h1 h2;omega) h.ord h2.ord (h.perm.trans h2.perm.symm)
theorem wPb {l:List wAA} {r:wAC} {p:List Int} (P:Plc l r p) {a b:Nat} (ha:a < l.length) (hb:b < l.length) (h:Lr (key l r) (gd p a) (gd p b)):a < b:=by
 have hl:=(wIy P ha).1
 rcases kB a b with c | c | c
 ·exact c
 ·subst c
  unfold Lr at h;omega
 ·have:=no.1 P.ord b a (by omega) (by omega) c
  rw [<- wCS (by omega),<- wCS (by omega)] at this
  unfold Lr at h this
  omega
theorem wLi {l:List wAA} {r:wAC} {p:List Int} (P:Plc l r p) {i:Nat} (hi:i < l.length):∃ j,j < l.length/\gd p j=(i:Int):=by
 have hpl:p.length=l.length:=by rw [P.perm.length_eq,wCf];omega
 have:(i:Int) ∈ p:=P.perm.mem_iff.2 (kA.2 ⟨i,List.mem_range.2 (by omega),by simp⟩)
 obtain ⟨j,hj,e⟩:=wMy this
 exact ⟨j,by omega,e⟩
theorem wJA {l:List wAA} {r:wAC} {p:List Int} (P:Plc l r p) (hn:(l.map (·.Bib)).Nodup) (hl:l.length <= 60) {i j:Nat} (hi:i < l.length) (hj:j < l.length) (e:gd p j=(i:Int)):wAD (p.map (stt l r)) (fun x=>some (decide (x.Bib=(gd l i).Bib)))=some (j:Int):=by
 have hpl:p.length=l.length:=(wIy P hj).1
 have bi:=wEG.1 hn
 rw [wOI (p:=fun s:wAB=>decide (s.Bib=(gd l i).Bib)) (fun _ _=>rfl) (by simp;omega)]
 rw [wIx (j:=j) (by simp;omega) (by rw [wBb _ (by omega),e];simp [stt]) (fun k hk=>by
  rw [wBb _ (by omega)]
  have hk':=wIy P (k:=k) (by omega)
  have hne:gd p k ≠ gd p j:=fun h=>by
   have nd:p.Nodup:=P.perm.nodup_iff.2 (nv.2 ((wLW 0 l.length).imp fun h=>by omega))
   rw [wCS (by omega),wCS (by omega)] at h
   have:=(List.getElem_inj nd).1 h
   omega
  rw [e] at hne
  refine decide_eq_false fun h=>?_
  have h:(gd l (gd p k).toNat).Bib=(gd l i).Bib:=h
  rcases kB (gd p k).toNat i with c | c | c
  ·exact bi i hi _ c h.symm
  ·omega
  ·exact bi _ (by omega) i c h)]
 simp
theorem wLj {l:List wAA} {r:wAC} {p:List Int} (G:wFp l r) (P:Plc l r p):wAx (p.map (stt l r))=some 0:=by
 have hl:=G.len
 have hpl:p.length=l.length:=by rw [P.perm.length_eq,wCf];omega
 rw [wHR (by simp;omega)]
 congr 1
 have hin:∀ x ∈ p,0 <= x/\x < l.length:=fun x hx=>by have:=wGG x (P.perm.mem_iff.1 hx);omega
 have all:(p.map (stt l r)).all okS=true:=np.2 fun s hs=>by
  obtain ⟨i,hi,rfl⟩:=kA.1 hs
  have h:=hin i hi
  have hm:=wBG (l:=l) (k:=i.toNat) (by omega)
  have b:=G.bib _ hm
  have d:=wMz G hm
  have m:=G.lim
  rw [wOF]
  simp only [stt]
  omega
 have nd:((p.map (stt l r)).map (·.Bib)).Nodup:=by
  refine wEG.2 fun i hi j hj=>?_
  rw [nw] at hi
  rw [wBb _ hi,wBb _ (by omega)]
  have h1:=hin _ (wBG hi)
  have h2:=hin _ (wBG (l:=p) (k:=j) (by omega))
  have ndp:p.Nodup:=P.perm.nodup_iff.2 (nv.2 ((wLW 0 l.length).imp fun h=>by omega))
  have hne:gd p i ≠ gd p j:=fun h=>by
   rw [wCS (by omega),wCS (by omega)] at h
   have:=(List.getElem_inj ndp).1 h
   omega
  have bi:=wEG.1 G.bibs
  simp only [stt]
  intro h
  rcases kB (gd p i).toNat (gd p j).toNat with c | c | c
  ·exact bi _ (by omega) _ c h.symm
  ·omega
  ·exact bi _ (by omega) _ c h
 have asc:Asc (p.map (stt l r)):=fun k hk=>by
  rw [nw] at hk
  rw [wBb _ (by omega),wBb _ hk]
  have:=no.1 P.ord k (k + 1) (by omega) hk (by omega)
  rw [<- wCS (by omega),<- wCS hk] at this
  have h1:=hin _ (wBG (l:=p) (k:=k) (by omega))
  have h2:=hin _ (wBG hk)
  have t1:=G.time _ (wBG (l:=l) (k:=(gd p k).toNat) (by omega))
  have t2:=G.time _ (wBG (l:=l) (k:=(gd p (k + 1)).toNat) (by omega))
  unfold Lr key at this
  simp only [stt]
  omega
 unfold errL
 rw [if_neg (by simp;omega),if_pos all,if_pos nd,if_pos asc]
end Go.Proofs.YtghaibkggdecnaaGreat
namespace Go.Proofs.YtghaibkggdecnaaGreat
open Go.KL
def dIn (x16:List wAA) (x65:List Int) (x80:List wAB) (k205:Nat) (x230:wAA) (x320:Int) (k361:Nat) (_:Unit):Option (Unit ⊕ (Unit ⊕ Bool)) :=
                        jn ((idx x16 (↑k361:Int)).bind fun x394 =>
                        (wAD x80 (fun x=>wAR x x394)).bind fun x420 =>
                        if x230.Time < x394.Time then
                          (chk (↑k361:Int) x65.length).bind fun _ =>
                          if (gd x65 k361) < (gd x65 k205) then
                            esc (esc (esc (some false)))
                          else
                            if x420 < x320 then
                              esc (esc (esc (some false)))
                            else
                              if x230.Time=x394.Time then
                                if (↑k205:Int) < (↑k361:Int) then
                                  some (.inl ())
                                else
                                  some (.inl ())
                              else
                                some (.inl ())
                        else
                          if x230.Time=x394.Time then
                            if (↑k205:Int) < (↑k361:Int) then
                              if x420 < x320 then
                                esc (esc (esc (some false)))
                              else
                                some (.inl ())
                            else
                              some (.inl ())
                          else
                            some (.inl ())) fun _ =>
                        some (.inl ())
def dBad (x65:List Int) (u lim y149:Int) (k205:Nat) (x230:wAA):Option Bool :=
              (chk (↑k205:Int) x65.length).bind fun _ =>
              if (gd x65 k205) < 0 then
                some true
              else
                if lim < (gd x65 k205) then
                  some true
                else
                  if (w64 (x230.Time - y149)) < (gd x65 k205) then
                    some true
                  else
                    if (gd x65 k205) < lim then
                      (rem (gd x65 k205) u).bind fun x275 =>
                      if x275=0 then
                        some (decide (u <= (w64 ((w64 (x230.Time - y149)) - (gd x65 k205)))))
                      else
                        some true
                    else
                      some false
def dOut (x16:List wAA) (x65:List Int) (x80:List wAB) (u lim y149:Int) (k205:Nat) (_:Unit):Option (Unit ⊕ Bool) :=
              (idx x16 (↑k205:Int)).bind fun x230 =>
              (dBad x65 u lim y149 k205 x230).bind fun b246 =>
              if b246=true then
                esc (some false)
              else
                (wAD x80 (fun x=>wAQ x x230)).bind fun x320 =>
                if x320 < 0 then
                  esc (some false)
                else
                  (idx x80 x320).bind fun x338 =>
                  (chk (↑k205:Int) x65.length).bind fun _ =>
                  if x338.Time=(gd x65 k205) then
                    if x338.Gate=0 then
                      jn (wFi 0 (↑x16.length:Int) (dIn x16 x65 x80 k205 x230 x320) ()) fun _ =>
                      some (.inl ())
                    else
                      esc (some false)
                  else
                    esc (some false)
theorem wFh (p0:List Int) (p1 p2 p3:Int):wAq p0 p1 p2 p3 =
 (wBZ p0).bind fun x1 =>
 (wAj x1 40).bind fun (x16,x17) =>
 (wAc p1 600).bind fun x33 =>
 (wAc p2 900).bind fun x43 =>
 (wAl x16 (⟨w64 (x33 + 1),x43⟩:wAC)).bind fun (x65,x66) =>
 (wAz x16 (⟨w64 (x33 + 1),x43⟩:wAC)).bind fun (x80,x81) =>
 if x66=0 then
  if x81=0 then
   if (↑x65.length:Int)=(↑x16.length:Int) then
    if (↑x80.length:Int)=(↑x16.length:Int) then
     (wAx x80).bind fun x116 =>
     if x116=0 then
      (idx x16 0).bind fun x128 =>
      (wCZ 0 (↑x16.length:Int) (fun k144 x143 =>
       (idx x16 (↑k144:Int)).bind fun x170 =>
       some (min x143 x170.Time)) x128.Time).bind fun y149 =>
      jn (wFi 0 (↑x16.length:Int) (dOut x16 x65 x80 (w64 (x33 + 1)) x43 y149) ()) fun _ =>
      (wAc p3 9999).bind fun x582 =>
      (wAZ x16).bind fun x595 =>
      (wCZ 0 (↑x595.length:Int) (fun k614 l613 =>
       (chk (↑k614:Int) l613.length).bind fun _ =>
       some (nW l613 k614 (⟨(gd l613 k614).Bib,w64 (((gd l613 k614).Time) + x582)⟩:wAA))) x595).bind fun y619 =>
      (wAz y619 (⟨w64 (x33 + 1),x43⟩:wAC)).bind fun (x672,x673) =>
      (wAl x16 (⟨1,360000⟩:wAC)).bind fun (x690,x691) =>
      if x673=0 then
       if x691=0 then
        (wAT x80 x672).bind fun x723 =>
        if x723=true then
         if (↑x690.length:Int)=(↑x16.length:Int) then
          jn (wFi 0 (↑x16.length:Int) (fun k739 _ =>
           (idx x16 (↑k739:Int)).bind fun x760 =>
           (chk (↑k739:Int) x690.length).bind fun _ =>
           if (gd x690 k739)=(w64 (x760.Time - y149)) then
            some (.inl ())
           else
            esc (some false)) ()) fun _ =>
          (wBe).bind fun x804 =>
          some x804
         else
          some false
        else
         some false
       else
        some false
      else
       some false
     else
      some false
    else
     some false
   else
    some false
  else
   some false
 else
  some false:=rfl
theorem wOJ {l:List wAA} {r:wAC} (G:wFp l r) {i:Nat} (hi:i < l.length):dBad (dfs l r) r.Unit r.Limit (bst l) i (gd l i)=some false:=by
 have hx:=wBG hi
 have t:=G.time _ hx
 have b:=(wGJ G).2.2 _ hx
 have b0:=wGJ G
 have d:=wMz G hx
 have u:=G.unit
 have m:=G.lim
 have hd:gd (dfs l r) i=dfc r (bst l) (gd l i).Time:=by unfold dfs;rw [wBb _ hi]
 unfold dBad
 rw [wBW (by omega) (by unfold dfs;simp;omega),hH,hd,wAg (x:=(gd l i).Time - bst l) (by omega) (by omega),if_neg (by omega),if_neg (by omega),if_neg (by omega)]
 by_cases c:dfc r (bst l) (gd l i).Time < r.Limit
 ·rw [if_pos c]
  have e:dfc r (bst l) (gd l i).Time=(gd l i).Time - bst l - ((gd l i).Time - bst l) % r.Unit:=by unfold dfc at c ⊢;omega
  have h1:=nt ((gd l i).Time - bst l) r.Unit
  have h2:=kl ((gd l i).Time - bst l) (show 0 < r.Unit by omega)
  have h3:=kO ((gd l i).Time - bst l) (show r.Unit ≠ 0 by omega)
  have e2:dfc r (bst l) (gd l i).Time=r.Unit * (((gd l i).Time - bst l) / r.Unit):=by omega
  have z:rem (dfc r (bst l) (gd l i).Time) r.Unit=some 0:=by
   unfold rem
   rw [if_neg (by omega),nl d.1,e2,Int.mul_emod_right]
  rw [z,hH,if_pos rfl,wAg (by omega) (by omega)]
  rw [decide_eq_false (by omega)]
 ·rw [if_neg c]
theorem wNA {l:List wAA} {r:wAC} (G:wFp l r) {i j:Nat} (hi:i < l.length) (hj:j < l.length) (h:(gd l i).Time < (gd l j).Time \/ ((gd l i).Time=(gd l j).Time/\i < j)):Lr (key l r) (i:Int) (j:Int)/\dfc r (bst l) (gd l i).Time <= dfc r (bst l) (gd l j).Time:=by
 have hm:dfc r (bst l) (gd l i).Time <= dfc r (bst l) (gd l j).Time:=wMX G.unit.1 (by omega)
 refine ⟨?_,hm⟩
 unfold Lr key
 simp only [nY]
 rcases h with h | ⟨h1,h2⟩
 ·left;omega
 ·right;rw [h1];exact ⟨rfl,by omega⟩
theorem wOK {l:List wAA} {r:wAC} {p:List Int} (G:wFp l r) (P:Plc l r p) {i:Nat} (hi:i < l.length):dOut l (dfs l r) (p.map (stt l r)) r.Unit r.Limit (bst l) i ()=some (.inl ()):=by
 have h60:=G.len
 have hpl:p.length=l.length:=by rw [P.perm.length_eq,wCf];omega
 obtain ⟨a,ha,ea⟩:=wLi P hi
 have hdl:(dfs l r).length=l.length:=by unfold dfs;simp
 have hd:∀ k,k < l.length->gd (dfs l r) k=dfc r (bst l) (gd l k).Time:=fun k hk=>by unfold dfs;rw [wBb _ hk]
 unfold dOut
 rw [wCK hi,hH,wOJ G hi,hH,if_neg (by decide)]
 have f1:=wJA P G.bibs h60 hi ha ea
 have f1':wAD (p.map (stt l r)) (fun x=>wAQ x (gd l i))=some (a:Int):=f1
 rw [f1',hH,if_neg (by omega),wCK (by simp;omega),hH,wBW (by omega) (by omega),hH,wBb _ (by omega),ea,hd i hi]
 rw [if_pos (by simp [stt]),if_pos (by simp [stt])]
 rw [wFe (by omega) (fun j hj=>by
  obtain ⟨b,hb,eb⟩:=wLi P hj
  have f2:wAD (p.map (stt l r)) (fun x=>wAR x (gd l j))=some (b:Int):=wJA P G.bibs h60 hj hb eb
  have lt:((gd l i).Time < (gd l j).Time \/ ((gd l i).Time=(gd l j).Time/\i < j))->a < b:=fun h=>wPb P ha hb (by rw [ea,eb];exact (wNA G hi hj h).1)
  unfold dIn
  rw [wCK hj,hH,f2,hH]
  by_cases c1:(gd l i).Time < (gd l j).Time
  ·have h1:=lt (.inl c1)
   have h2:=(wNA G hi hj (.inl c1)).2
   rw [if_pos c1,wBW (by omega) (by omega),hH,hd i hi,hd j hj,if_neg (by omega),if_neg (by omega),if_neg (by omega)]
   rfl
  ·rw [if_neg c1]
   by_cases c2:(gd l i).Time=(gd l j).Time
   ·rw [if_pos c2]
    by_cases c3:(i:Int) < (j:Int)
    ·have h1:=lt (.inr ⟨c2,by omega⟩)
     rw [if_pos c3,if_neg (by omega)]
     rfl
    ·rw [if_neg c3];rfl
   ·rw [if_neg c2];rfl),wDX]
def late (l:List wAA) (by_:Int):List wAA:=l.map fun x=>⟨x.Bib,x.Time + by_⟩
theorem wMY {l:List wAA} (M:MadeQ l) {b:Int} (b0:0 <= b) (b1:b <= 10000):bst (late l b)=bst l + b:=by
 have hl:=M.l1
 have go:∀ (l:List wAA) (c:Int),(l.map fun x=>(⟨x.Bib,x.Time + b⟩:wAA)).foldl (fun b x=>min b x.Time) (c + b)=l.foldl (fun b x=>min b x.Time) c + b:=by
  intro l
  induction l with
  | nil=>intro c;rfl
  | cons a l ih =>
   intro c
   rw [kg,ny,ny]
   rw [show min (c + b) (a.Time + b)=min c a.Time + b by omega,ih]
 have hx:=wBG (l:=l) (k:=0) (by omega)
 have t:=M.el _ hx
 have bl:=(wIO l 360000).2.1 _ hx
 have e1:=wIT (l:=l) (t:=(gd l 0).Time) (by omega) bl
 have hx2:(⟨(gd l 0).Bib,(gd l 0).Time + b⟩:wAA) ∈ late l b:=kA.2 ⟨_,hx,rfl⟩
 have bl2:=(wIO (late l b) 360000).2.1 _ hx2
 have e2:=wIT (l:=late l b) (t:=(gd l 0).Time + b) (by omega) bl2
 rw [<- e2,<- e1]
 exact go l _
theorem wOL {l:List wAA} {b:Int} {k:Nat} (hk:k < l.length):gd (late l b) k=⟨(gd l k).Bib,(gd l k).Time + b⟩:=by unfold late;rw [wBb _ hk]
theorem wGj {l:List wAA} (M:MadeQ l) {r:wAC} {b:Int} (b0:0 <= b) (b1:b <= 10000) {i:Int} (hi:0 <= i/\i < l.length):key (late l b) r i=key l r i + b/\stt (late l b) r i=stt l r i:=by
 unfold key stt dfc
 rw [wMY M b0 b1,wOL (by omega)]
 simp only
 rw [show (gd l i.toNat).Time + b - (bst l + b)=(gd l i.toNat).Time - bst l by omega]
 exact ⟨by omega,rfl⟩
theorem wHS (p0:List Int) (p1 p2 p3:Int) (_:-9223372036854775808 <= p1) (_:p1 <= 9223372036854775807) (_:-9223372036854775808 <= p2) (_:p2 <= 9223372036854775807) (_:-9223372036854775808 <= p3) (_:p3 <= 9223372036854775807):wAq p0 p1 p2 p3=some true:=by
  rw [wFh]
  unfold wBZ
  rw [hH]
  obtain ⟨l,d,e,M⟩:=wJi ⟨p0,0,17⟩ rfl
  rw [e,hH]
  simp only
  obtain ⟨u,eu,u0,u1⟩:=wIS p1 (n:=600) (by omega) (by omega)
  obtain ⟨m,em,m0,m1⟩:=wIS p2 (n:=900) (by omega) (by omega)
  obtain ⟨b,eb,b0,b1⟩:=wIS p3 (n:=9999) (by omega) (by omega)
  rw [eu,hH,em,hH,wAg (x:=u + 1) (by omega) (by omega)]
  have l1:=M.l1
  have l2:=M.l2
  have G:=M.good (u:=u + 1) (lim:=m) (by omega) (by omega) m0 (by omega)
  have z:=wDN.2 G
  obtain ⟨p,hP,hp⟩:=wGK (l:=l) (r:=⟨u + 1,m⟩) (by omega)
  have P:=hP z
  have hpl:p.length=l.length:=by rw [P.perm.length_eq,wCf];omega
  rw [z,if_pos rfl] at hp
  have hds:=wDp (l:=l) (r:=⟨u + 1,m⟩) (by omega)
  rw [z,if_pos rfl] at hds
  rw [hds,hH]
  simp only
  rw [hp,hH]
  simp only [if_true]
  rw [if_pos (show ((dfs l ⟨u + 1,m⟩).length:Int)=l.length by unfold dfs;simp),if_pos (show ((p.map (stt l ⟨u + 1,m⟩)).length:Int)=l.length by simp [hpl]),wLj G P,hH,if_pos rfl]
  have hx:=wBG (l:=l) (k:=0) (by omega)
  have t:=M.el _ hx
  have bl:=(wGJ G).2.2 _ hx
  have e0:idx l 0=some (gd l 0):=wCK (l:=l) (k:=0) (by omega)
  rw [e0,hH]
  rw [wCQ (s0:=(gd l 0).Time) (fun k=>(l.take k).foldl (fun b x=>min b x.Time) (gd l 0).Time) (by simp) (by omega) (fun i hi=>by rw [wCK hi,hH,wCR hi,kr];rfl),hH,nc,wIT (by omega) bl]
  rw [wFe (by omega) (fun i hi=>wOK G P hi),wDX,eb,hH]
  unfold wAZ
  rw [wFd (by simp;omega),hH,List.nil_append,hH]
  have hlate:wCZ 0 (↑l.length:Int) (fun k614 l613 =>
              (chk (↑k614:Int) l613.length).bind fun _ =>
              some (nW l613 k614 (⟨(gd l613 k614).Bib,w64 (((gd l613 k614).Time) + b)⟩:wAA))) l=some (late l b):=by
    rw [wCQ (fun k=>late (l.take k) b ++ l.drop k) (by simp [late]) (by omega) (fun i hi=>by
      have hm:=M.el _ (wBG hi)
      have hlen:(late (l.take i) b).length=i:=by unfold late;rw [nw,nI];omega
      have eg:gd (late (l.take i) b ++ l.drop i) i=gd l i:=by
        rw [wDn hi]
        have:=wEp (late (l.take i) b) (l.drop (i + 1)) (gd l i)
        rwa [hlen] at this
      rw [wBW (by omega) (by rw [nA,hlen,nN];omega),hH,eg,wAg (by omega) (by omega),ni _ _ (by omega),hlen,kK,wDn hi,List.set_cons_zero,wCR hi]
      unfold late
      rw [kM,nB]
      rfl)]
    rw [nc,List.drop_length,nq]
  rw [hlate,hH]
  have ll:(late l b).length=l.length:=by unfold late;simp
  have G2:wFp (late l b) ⟨u + 1,m⟩:=by
    refine ⟨by omega,fun x hx=>?_,fun x hx=>?_,G.unit,G.lim,?_⟩
    · obtain ⟨y,hy,rfl⟩:=kA.1 hx
      exact (M.el y hy).1
    · obtain ⟨y,hy,rfl⟩:=kA.1 hx
      have:=M.el y hy
      simp only
      omega
    · have:(late l b).map (·.Bib)=l.map (·.Bib):=by unfold late;rw [List.map_map];rfl
      rw [this];exact M.bibs
  have z2:=wDN.2 G2
  obtain ⟨q,hQ,hq⟩:=wGK (l:=late l b) (r:=⟨u + 1,m⟩) (by omega)
  have Q:=hQ z2
  rw [z2,if_pos rfl] at hq
  have hin:∀ x ∈ q,0 <= x/\x < l.length:=fun x hx=>by have:=wGG x (Q.perm.mem_iff.1 hx);omega
  have Q1:Plc l ⟨u + 1,m⟩ q:=by
    refine ⟨by rw [<- ll];exact Q.perm,Q.ord.imp_of_mem fun {x y} hx hy h=>?_⟩
    have k1:=(wGj M (r:=⟨u + 1,m⟩) (b:=b) b0 (by omega) (hin x hx)).1
    have k2:=(wGj M (r:=⟨u + 1,m⟩) (b:=b) b0 (by omega) (hin y hy)).1
    unfold Lr at h ⊢
    rw [k1,k2] at h
    omega
  have eq:=P.one Q1
  have es:q.map (stt (late l b) ⟨u + 1,m⟩)=p.map (stt l ⟨u + 1,m⟩):=by
    rw [eq]
    exact kh fun x hx=>(wGj M b0 (by omega) (hin x hx)).2
  rw [hq,hH]
  simp only
  have G3:=M.good (u:=1) (lim:=360000) (by omega) (by omega) (by omega) (by omega)
  have z3:=wDN.2 G3
  have hd3:=wDp (l:=l) (r:=⟨1,360000⟩) (by omega)
  rw [z3,if_pos rfl] at hd3
  rw [hd3,hH]
  simp only [if_true]
  rw [es]
  have ee:wAT (p.map (stt l ⟨u + 1,m⟩)) (p.map (stt l ⟨u + 1,m⟩))=some true:=by
    unfold wAT
    exact wJc (by simp;omega)
  rw [ee,hH,if_pos rfl,if_pos (show ((dfs l ⟨1,360000⟩).length:Int)=l.length by unfold dfs;simp)]
  rw [wFe (by omega) (fun i hi=>by
    have hm:=wBG hi
    have t:=M.el _ hm
    have bi:=wGJ G3
    have b2:=bi.2.2 _ hm
    have hd:gd (dfs l ⟨1,360000⟩) i=(gd l i).Time - bst l:=by
      unfold dfs
      rw [wBb _ hi]
      unfold dfc
      simp only [Int.emod_one]
      omega
    rw [wCK hi,hH,wBW (by omega) (by unfold dfs;simp;omega),hH,hd,wAg (by omega) (by omega),if_pos rfl]),wDX]
  rfl
end Go.Proofs.YtghaibkggdecnaaGreat
