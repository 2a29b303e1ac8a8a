import Derived.Test.YthbficbpebiekaaGreatZ1
import Derived.Test.YthbficbpebiekaaGreatZ0
set_option linter.all false
open Option renaming bind_some->hH
open Bool renaming and_eq_true->nA,false_eq_true->nD,true_and->nk
open Option.some renaming inj->nB
open Nat renaming le_refl->nE,eq_of_beq_eq_true->nL,le_trans->nZ,lt_irrefl->nj,lt_or_ge->no,zero_add->np,mod_lt->nt
open List renaming append_of_mem->nG,getElem?_eq_getElem->nH,append_assoc->nI,mem_append->nJ,length_map->nK,getElem?_eq_some_iff->nM,mem_cons->nN,drop_eq_getElem_cons->nO,pairwise_iff_getElem->nP,all_eq_true->nQ,getElem_map->nR,mem_append_right->nS,pairwise_append->nT,drop_eq_nil_of_le->nV,mem_singleton->nW,nodup_iff_pairwise_ne->nX,cons_append->nY,getElem_mem->na,append_nil->nb,take_of_length_le->nc,getElem?_eq_none->nf,mem_append_left->ng,mem_of_mem_take->nh,set->ni,pairwise_cons->nl,length_append->nq,nodup_append->nr
open Int renaming tmod_eq_emod_of_nonneg->nU
namespace Go.KX
open Go.RowKit Go.KL
section
variable {tb:Tr AF} {ex exY:Run} {P:Program} {N:Nat} {l:List Oper} {os s t:List AO} {a:AO} {σ0 σA σf:Tr AV} {h0 h hf:AH} {μ μS:Mu} {σ σ':Env} {w:World} {o:Oper}
theorem wBw:∀ (l1 l2:List AO) (x:Tr AV) (y:AH) (x1:Tr AV) (y1:AH),wAL tb ex exY l1 x y=some (x1,y1)->wAL tb ex exY (l1 ++ l2) x y=wAL tb ex exY l2 x1 y1
 | [],l2,x,y,x1,y1,h=>by rw [wAS] at h;cases h;rfl
 | b :: l1,l2,x,y,x1,y1,h=>by
  rw [nY,wAT]
  rw [wAT] at h
  cases hb:wBR x b.grd with
  | true =>
   rw [hb] at h
   simp only at h ⊢
   cases hq:opK b.kd b.op tb ex exY x y with
   | none=>rw [hq] at h;cases h
   | some r=>rw [hq] at h;exact wBw l1 l2 _ _ _ _ h
  | false =>
   rw [hb] at h
   exact wBw l1 l2 _ _ _ _ h
theorem wNS (HE:FrX ex) (HY:FrX exY) (Z:ZOK P N l os) (e:os=s ++ t) (hs:wAL tb ex exY s σ0 h0=some (σA,h)) {b:AO} (hb:b ∈ t) {s1 t1:List AO} {σ1:Tr AV} {h1:AH} (e1:os=s1 ++ b :: t1) (hr:wAL tb ex exY s1 σ0 h0=some (σ1,h1)):h.nx.nat <= h1.nx.nat:=by
 obtain ⟨r,r',rfl⟩:=nG hb
 have es:s1=s ++ r:=(wBa (e1 ▸ Z.one) (e1.symm.trans (e.trans (nI _ _ _).symm))).1
 subst es
 rw [wBw s r _ _ _ _ hs] at hr
 exact (wFY HE HY _ _ _ _ _ hr).nx
theorem wEL (Z:ZOK P N l os) {S:Nat->Bool} (hdc:∀ k,k < l.length->S k=true->∀ j ∈ prI l k,S j=true) (ha:a ∈ os) (hS:S a.ix=false) {b:AO} (hb:b ∈ os) (hbS:S b.ix=true) (A:AOK P N l a o) {ob:Oper} (hob:l[b.ix]?=some ob) (v:Value):Agr l ob σ (put' σ o v):=by
 obtain ⟨ob',B⟩:=wBe (Z.ao b hb)
 have eo:ob'=ob:=by have:=B.get;rw [hob] at this;exact (nB this).symm
 subst eo
 intro d hd
 obtain ⟨p,hp,rfl⟩:=wCk B (Z.sub b hb _ B.get) d hd
 symm
 refine wEP fun dd hdd e=>?_
 rcases A.dst with ⟨_,h2⟩ | ⟨q,d',h1,h2,h3,_⟩
 ·rw [h2] at hdd;cases hdd
 ·rw [h2] at hdd
  have hdd:=nB hdd
  have eq:q=p:=Pos.nat_inj (by have:=q.nat_pos;have:=p.nat_pos;have:q.nat - 1=p.nat - 1:=h3.symm.trans (hdd.trans e);omega)
  subst eq
  have:=Z.rdS b hb q hp a ha h1
  have hlt:b.ix < l.length:=(nM.1 hob).1
  have:=wCN hdc (hdc _ hlt hbS) this
  rw [hS] at this
  cases this
theorem JS.fixed (HC:wDy (CC P) P tb ex) (HY':wDE (CC P) P exY) (HE:FrX ex) (HY:FrX exY) (Z:ZOK P N l os) {μ0:Mu} {w0:World} {S:Nat->Bool} (J:JS tb ex exY P l os σ0 h0 σf hf μ0 w0 S σ w s (a :: t) σA h σ' μ μS) (hfix:wAy a.kd=true) (hS:S a.ix=false)
  (hdc:∀ k,k < l.length->S k=true->∀ j ∈ prI l k,S j=true) (A:AOK P N l a o) :
  Step1 P l o σ w fun v w'=>∃ σB hB σ'' μB μT,JS tb ex exY P l os σ0 h0 σf hf μ0 w0 (fun k=>k == a.ix || S k) (put' σ o v) w' (s ++ [a]) t σB hB σ'' μB μT:=by
 have ha:a ∈ os:=by rw [J.e];simp
 have hsel:=Z.sel a ha _ A.get
 have hag:∀ q ∈ wBB a,σ (q.nat - 1)=σ' (q.nat - 1):=fun q hq=>J.ag q fun b hb _=>Z.rd s a t J.e q hq b hb
 have hagr:Agr l o σ σ':=fun d hd=>by
  obtain ⟨q,h1,rfl⟩:=wCk A (Z.sub a ha _ A.get) d hd
  exact hag q h1
 have hw:=wFr A J.env
 have main:∀ (v:AV) (cv:Value) (hB:AH) (w':World) (μB:Mu),wAL tb ex exY (s ++ [a]) σ0 h0=some (wED a.dst σA v,hB)->wAL tb ex exY t (wED a.dst σA v) hB=some (σf,hf) ->
   Ext μ h.fl.nat w μB w'->Sim (CC P) P μB hB w'->EnvR μB (wED a.dst σA v) (put' σ' o cv)->hB.fl=h.fl ->
   ∃ σB hB σ'' μB μT,JS tb ex exY P l os σ0 h0 σf hf μ0 w0 (fun k=>k == a.ix || S k) (put' σ o cv) w' (s ++ [a]) t σB hB σ'' μB μT:=by
  intro v cv hB w' μB r1 r2 E' S' hE' hfl
  have hne:∀ b ∈ t,b.ix ≠ a.ix:=fun b hb e=>by
   have:=Z.one
   rw [J.e] at this
   exact (nl.1 (nT.1 this).2.1).1 b hb e.symm
  have hSb:∀ b ∈ t,(b.ix == a.ix || S b.ix)=true->S b.ix=true:=fun b hb h=>by
   have:=hne b hb
   simpa [this] using h
  have hbo:∀ b ∈ t,b ∈ os:=fun b hb=>by rw [J.e];simp [hb]
  have eB:os=(s ++ [a]) ++ t:=by rw [J.e];simp
  have hnm:∀ b ∈ t,∀ s1 t1 σ1 h1,os=s1 ++ b :: t1->wAL tb ex exY s1 σ0 h0=some (σ1,h1)->μB h1.nx=none/\μ h1.nx=none:=fun b hb s1 t1 σ1 h1 e1 hr=>by
   have g1:=wNS HE HY Z eB r1 hb e1 hr
   have g2:=wNS HE HY Z J.e J.hs (b:=b) (by simp [hb]) e1 hr
   exact ⟨S'.nx _ g1,J.sim.nx _ g2⟩
  let μT:Mu:=fun q=>match μB q with | some c=>some c | none=>μS q
  have hT:μB.Le μT:=fun q c hq=>by show (match μB q with | some c=>some c | none=>μS q)=_;rw [hq]
  have hST:μS.Le μT:=fun q c hq=>by
   show (match μB q with | some c=>some c | none=>μS q)=_
   cases hB:μB q with
   | none=>exact hq
   | some c' =>
    rcases J.nm q c hq with h1 | ⟨b,ob,s1,t1,σ1,h1,k1,k2,k3,k4,k5,k6,k7,k8⟩
    ·rw [E'.mono _ _ h1] at hB
     exact hB.symm ▸ rfl
    ·rcases nN.1 k1 with rfl | k1
     ·rw [hS] at k2;cases k2
     ·have:=(hnm b k1 s1 t1 σ1 h1 k6 k7).1
      rw [<- k8,hB] at this
      cases this
  refine ⟨_,hB,_,μB,μT,eB,r1,r2,fun b hb=>?_,fun b hb hh=>J.free b (by simp [hb]) (hSb b hb hh),?_,S',hfl.trans J.fl,hE',fun q hq=>?_,hT,fun q c hq=>?_,fun b hb hh=>?_⟩
  ·rcases nJ.1 hb with hb | hb
   ·simp [J.inS b hb]
   ·rw [nW.1 hb];simp
  ·have:=J.E
   refine this.trans ?_
   rw [<- J.fl]
   exact E'
  ·have old:σ (q.nat - 1)=σ' (q.nat - 1) \/ a.dst=some q:=by
    by_cases hq':a.dst=some q
    ·exact .inr hq'
    ·exact .inl (J.ag q fun b hb h=>by
      rcases nN.1 hb with rfl | hb
      ·exact hq'
      ·exact hq b hb (by simp [h]))
   rcases A.dst with ⟨h1,h2⟩ | ⟨p,d,h1,h2,h3,_⟩
   ·unfold put'
    rw [h2]
    rcases old with old | old
    ·exact old
    ·rw [h1] at old;cases old
   ·unfold put'
    rw [h2]
    by_cases e:q.nat - 1=d
    ·simp only [e,wBc]
    ·simp only
     rw [wCB _ _ e,wCB _ _ e]
     rcases old with old | old
     ·exact old
     ·rw [h1] at old
      cases old
      exact absurd h3.symm e
  ·have hq:(match μB q with | some c=>some c | none=>μS q)=some c:=hq
   cases hB':μB q with
   | some c' =>
    rw [hB'] at hq
    exact .inl hq
   | none =>
    rw [hB'] at hq
    rcases J.nm q c hq with h1 | ⟨b,ob,s1,t1,σ1,h1,k1,k2,k3,k4,k5,k6,k7,k8⟩
    ·rw [E'.mono _ _ h1] at hB'
     cases hB'
    ·rcases nN.1 k1 with rfl | k1
     ·rw [hS] at k2;cases k2
     ·exact .inr ⟨b,ob,s1,t1,σ1,h1,k1,by simp [k2],k3,(wBA (wEL Z hdc ha hS (hbo b k1) k2 A k3 cv)).symm.trans k4,k5,k6,k7,k8⟩
  ·have hbS:=hSb b hb hh
   obtain ⟨ob,p,Pd⟩:=J.pd b (by simp [hb]) hbS
   have hA:=wEL (σ:=σ) Z hdc ha hS (hbo b hb) hbS A Pd.get cv
   have hp:put' σ o cv (p.nat - 1)=σ (p.nat - 1):=wEP fun d hd e=>by
    rcases A.dst with ⟨_,h2⟩ | ⟨q,d',h1,h2,h3,_⟩
    ·rw [h2] at hd;cases hd
    ·rw [h2] at hd
     have hd:=nB hd
     have eq:q=p:=Pos.nat_inj (by have:=q.nat_pos;have:=p.nat_pos;have:q.nat - 1=p.nat - 1:=h3.symm.trans (hd.trans e);omega)
     subst eq
     exact Z.wr s a t J.e q h1 b (nS _ hb) Pd.dst
   have hsb:=Z.sel b (hbo b hb) _ Pd.get
   refine ⟨ob,p,Pd.get,Pd.dst,?_⟩
   rw [hp,<- wBA hA]
   rcases Pd.fact with f | ⟨f,⟨f1,f2⟩ | ⟨f1,f2,w1,w2,f3⟩ | ⟨f1,f2,w1,o1,s1,t1,σ1,h1,f3,f4,f5,f6,f7,f8,f9⟩⟩
   ·exact .inl f
   ·exact .inr ⟨f,.inl ⟨f1,f2.mono E'.mono⟩⟩
   ·exact .inr ⟨f,.inr (.inl ⟨f1,f2.mono hST,w1,w2,(Runs.agr hsb hA).1 f3⟩)⟩
   ·obtain ⟨n1,n2⟩:=hnm b hb s1 t1 σ1 h1 f6 f7
    have nimg:¬ img μ h.fl.nat w1.heap.size:=by
     rintro ⟨q,d,g1,g2,_⟩
     have:=f9 q d (J.le _ _ g1) g2
     rw [this,n2] at g1
     cases g1
    refine .inr ⟨f,.inr (.inr ⟨f1,f2.mono hST,w1,o1,s1,t1,σ1,h1,(Runs.agr hsb hA).1 f3,(E'.keep.block _ (wAK f4) nimg).trans f4,f5,f6,f7,hST _ _ f8,fun q c hq hc=>?_⟩)⟩
    have hq:(match μB q with | some c=>some c | none=>μS q)=some c:=hq
    cases hB':μB q with
    | none=>rw [hB'] at hq;exact f9 q c hq hc
    | some c' =>
     rw [hB'] at hq
     cases hq
     rcases E'.new q c hB' with g | g | g
     ·exact f9 q c (J.le _ _ g) hc
     ·rw [hc] at g;exact absurd g nimg
     ·have:=wAK f4;omega
 obtain ⟨σx,hx,q1,q2⟩:=wIJ (s:=[]) (a:=a) (t:=t) (σ0:=σA) (h0:=h) (by rw [List.nil_append];exact J.hr)
 rw [wAS] at q1
 cases q1
 refine Step1.agr hsel (fun d hd=>(hagr d hd).symm) ?_
 rcases q2 with ⟨g1,v,h2,g2,g3⟩ | ⟨g1,g3⟩
 ·refine (wOU HC HY' A (hw.trans g1) g2 J.env J.sim).mono ?_
  rintro cv w' ⟨_,μB,e1,e2,e3,e4⟩
  refine main v cv h2 w' μB ?_ g3 e1 e2 e3 e4
  rw [wBw s [a] _ _ _ _ J.hs,wAT,g1]
  simp only
  rw [g2]
  exact wAS _ _ _ _ _
 ·refine .inr ⟨hw.trans g1,?_⟩
  refine main u undef h w μ ?_ g3 (Ext.refl μ _ w) J.sim (wCQ A J.env (wJp μ)) rfl
  rw [wBw s [a] _ _ _ _ J.hs,wAT,g1]
  exact wAS _ _ _ _ _
theorem JS.opnd (Z:ZOK P N l os) {μ0:Mu} {w0:World} {S:Nat->Bool} (J:JS tb ex exY P l os σ0 h0 σf hf μ0 w0 S σ w s t σA h σ' μ μS) (ha:a ∈ os) (hl:a.ix < l.length) (hp:∀ j ∈ prI l a.ix,S j=true)
  (hdc:∀ k,k < l.length->S k=true->∀ j ∈ prI l k,S j=true) {p:Pos} (hr:p ∈ wBB a):Rv μS (evA σf (.t p)) (σ (p.nat - 1))/\(a.kd=1 \/ a.kd=3 \/ 8 <= a.kd->Rv μ (evA σf (.t p)) (σ (p.nat - 1))):=by
 have base:(∀ b ∈ t,b.dst ≠ some p)->Rv μ (evA σf (.t p)) (σ (p.nat - 1)):=fun hn=>by
  rw [wBZ t _ _ _ _ J.hr p hn,J.ag p fun b hb _=>hn b hb]
  exact J.env p
 by_cases hw:∃ b ∈ t,b.dst=some p
 ·obtain ⟨b,hb,hd⟩:=hw
  have hbo:b ∈ os:=by rw [J.e];simp [hb]
  have hanc:=Z.rdS a ha p hr b hbo hd
  have hS:=wCN hdc hp hanc
  obtain ⟨ob,p',Pd⟩:=J.pd b hb hS
  have ep:p'=p:=by have:=Pd.dst;rw [hd] at this;exact (nB this).symm
  subst ep
  rcases Pd.fact with ⟨_,f1,f2⟩ | ⟨_,⟨_,f1⟩ | ⟨f0,f1,_⟩ | ⟨f0,f1,_⟩⟩
  ·rw [f1,f2]
   exact ⟨wJp _,fun _=>wJp _⟩
  ·exact ⟨f1.mono J.le,fun _=>f1⟩
  ·exact ⟨f1,fun hk=>absurd f0 (Z.cl a ha hk p' hr b hbo hd).2⟩
  ·exact ⟨f1,fun hk=>absurd f0 (Z.cl a ha hk p' hr b hbo hd).1⟩
 ·have:=base fun b hb hd=>hw ⟨b,hb,hd⟩
  exact ⟨this.mono J.le,fun _=>this⟩
end
end Go.KX
namespace Go.KX
open Go.RowKit Go.KL
section
variable {tb:Tr AF} {ex exY:Run} {P:Program} {N:Nat} {l:List Oper} {os s t:List AO} {a:AO} {σ0 σA σf:Tr AV} {h0 h h1 h' hf:AH} {μ μS:Mu} {σ σ':Env} {w:World} {o:Oper} {v:AV}
theorem wLj {a:AOp} {op:Op} (hk:kdA a=1) (hc:wEo P a op=true) (hE:EnvR μ σA σ) (hm:∀ b c,μ b=some c->h.m.get b=h1.m.get b) (hr:opY a tb ex exY σA h1=some (v,h')):opY a tb ex exY σA h=some (v,h):=by
 have cel:∀ b c,μ b=some c->wBo h b=wBo h1 b:=fun b c hb=>by unfold wBo;rw [hm b c hb]
 cases a <;> first | (simp [kdA] at hk;done) | skip
 case ld x =>
  have hr:wLQ x σA h1=some (v,h'):=hr
  show wLQ x σA h=some (v,h)
  have hc:wOJ P x op=true:=hc
  unfold wOJ at hc
  split at hc
  ·simp only [nA] at hc
   have g:=wAD hc.2 hE
   unfold wLQ at hr ⊢
   split at hr
   ·rename_i b off hb
    rw [hb] at g
    obtain ⟨c,g1,_⟩:=g
    simp only [hb,cel b c g1]
    split at hr
    ·exact wKX hr h
    ·cases hr
   ·cases hr
  ·cases hc
 case ldA n x =>
  have hr:wFH n x σA h1=some (v,h'):=hr
  show wFH n x σA h=some (v,h)
  have hc:wKE P n x op=true:=hc
  unfold wKE at hc
  split at hc
  ·simp only [nA] at hc
   have g:=wAD hc.2 hE
   unfold wFH at hr ⊢
   split at hr
   ·rename_i b off hb
    rw [hb] at g
    obtain ⟨c,g1,_⟩:=g
    simp only [hb,cel b c g1]
    split at hr
    ·exact wKX hr h
    ·cases hr
   ·cases hr
  ·cases hc
 case lk two k ok z x y =>
  have hr:wLR two k ok z x y σA h1=some (v,h'):=hr
  show wLR two k ok z x y σA h=some (v,h)
  have hc:wON P two k ok z x y op=true:=hc
  unfold wON at hc
  split at hc
  ·simp only [nA] at hc
   have g:=wAD hc.2.2.1 hE
   unfold wLR at hr ⊢
   split at hr
   ·rename_i b hb
    rw [hb] at g
    obtain ⟨c,g1,_⟩:=g
    simp only [hb,hm b c g1]
    repeat' (split at hr)
    all_goals first | (cases hr;done) | (cases hr;rfl)
   ·cases hr
  ·cases hc
 case lenM x =>
  have hr:wCp x σA h1=some (v,h'):=hr
  show wCp x σA h=some (v,h)
  have hc:wGg P x op=true:=hc
  unfold wGg at hc
  split at hc
  ·split at hc
   ·simp only [nA] at hc
    obtain ⟨_,hc⟩:=hc
    split at hc
    ·simp only [nA] at hc
     have g:=wAD hc.2 hE
     unfold wCp at hr ⊢
     split at hr
     ·rename_i hb
      cases hr
      simp_all
     ·rename_i b hb
      rw [hb] at g
      obtain ⟨c,g1,_⟩:=g
      simp only [hb,hm b c g1]
      repeat' (split at hr)
      all_goals first | (cases hr;done) | (cases hr;rfl)
     ·cases hr
    ·cases hc
   ·cases hc
  ·cases hc
theorem wFv (HE:FrX ex) (HY:FrX exY):∀ (r:List AO) (σ1:Tr AV) (h1:AH) (σ2:Tr AV) (h2:AH),wAL tb ex exY r σ1 h1=some (σ2,h2)->(∀ b ∈ r,wEp P N l b=true) ->
  (∀ b ∈ r,b.kd=2 \/ (b.kd=1 \/ b.kd=3 \/ (b.kd=6/\kdA b.op=3) \/ (b.kd=4/\wIz b.op=true) \/ (8 <= b.kd/\kdA b.op=1)))->h1.nx.nat <= h2.nx.nat/\∀ p:Pos,p.nat < h1.nx.nat->h2.m.get p=h1.m.get p
 | [],σ1,h1,σ2,h2,hr,_,_=>by
  rw [wAS] at hr
  cases hr
  exact ⟨nE _,fun _ _=>rfl⟩
 | b :: r,σ1,h1,σ2,h2,hr,hc,hk=>by
  rw [wAT] at hr
  cases hw:wBR σ1 b.grd with
  | false =>
   rw [hw] at hr
   exact wFv HE HY r _ _ _ _ hr (fun c hcc=>hc c (by simp [hcc])) (fun c hcc=>hk c (by simp [hcc]))
  | true =>
   rw [hw] at hr
   simp only at hr
   cases hq:opK b.kd b.op tb ex exY σ1 h1 with
   | none=>rw [hq] at hr;cases hr
   | some q =>
    rw [hq] at hr
    obtain ⟨v,h3⟩:=q
    obtain ⟨g1,g2⟩:=wFv HE HY r _ _ _ _ hr (fun c hcc=>hc c (by simp [hcc])) (fun c hcc=>hk c (by simp [hcc]))
    obtain ⟨o,A⟩:=wBe (hc b (by simp))
    have one:h1.nx.nat <= h3.nx.nat/\∀ p:Pos,p.nat < h1.nx.nat->h3.m.get p=h1.m.get p:=by
     have same:h3=h1->h1.nx.nat <= h3.nx.nat/\∀ p:Pos,p.nat < h1.nx.nat->h3.m.get p=h1.m.get p:=fun e=>by subst e;exact ⟨nE _,fun _ _=>rfl⟩
     rcases hk b (by simp) with k | k | k | ⟨k,k'⟩ | ⟨k,k'⟩ | ⟨k,k'⟩
     ·exact ⟨(wMR HE HY _ _ hq).nx,wOY HE HY b.op (by rw [k] at hq;exact hq)⟩
     ·rw [k] at hq
      exact same (wFV (C:=CC P) (A.k1 k) A.op _ _ _ _ hq).1
     ·rw [k] at hq
      exact same (wFU (A.k3 k) A.op _ _ _ _ hq).1
     ·rw [k] at hq
      exact same (wFU k' A.op _ _ _ _ hq).1
     ·rw [k] at hq
      obtain ⟨B,vf,e1,_⟩:=wII (C:=CC P) k' A.op _ _ _ _ hq
      subst e1
      refine ⟨(Fr.push h1 B).nx,fun p hp=>?_⟩
      show (h1.m.set h1.nx B).get p=_
      rw [Tr.get_set,if_neg (fun e=>by subst e;omega)]
     ·exact same (wFV (C:=CC P) (.inl k') A.op _ _ _ _ (wKa (by omega) hq)).1
    exact ⟨nZ one.1 g1,fun p hp=>(g2 p (Nat.lt_of_lt_of_le hp one.1)).trans (one.2 p hp)⟩
theorem JS.full {μ0:Mu} {w0:World} {S:Nat->Bool} (J:JS tb ex exY P l os σ0 h0 σf hf μ0 w0 S σ w s t σA h σ' μ μS):wAL tb ex exY os σ0 h0=some (σf,hf):=by
 rw [J.e,wBw s t _ _ _ _ J.hs]
 exact J.hr
theorem JS.frm (Z:ZOK P N l os) {μ0:Mu} {w0:World} {S:Nat->Bool} (J:JS tb ex exY P l os σ0 h0 σf hf μ0 w0 S σ w s t σA h σ' μ μS) (ha:a ∈ os) (hl:a.ix < l.length) (hp:∀ j ∈ prI l a.ix,S j=true)
  (hdc:∀ k,k < l.length->S k=true->∀ j ∈ prI l k,S j=true) (A:AOK P N l a o) {s1 t1:List AO} {σ1:Tr AV} (e1:os=s1 ++ a :: t1) (hr1:wAL tb ex exY s1 σ0 h0=some (σ1,h1)) :
  wanted l σ o=wBR σ1 a.grd/\∀ p ∈ wBB a,evA σf (.t p)=evA σ1 (.t p):=by
 have hf:=J.full
 have hrd:∀ p ∈ wBB a,evA σf (.t p)=evA σ1 (.t p):=fun p hp=>by
  rw [e1,wBw s1 _ _ _ _ _ hr1] at hf
  exact wOa Z e1 hf hp
 refine ⟨?_,hrd⟩
 have hE:EnvR μS (rst σf (wBB a)) (rsl σ (wBB a)):=wEu fun p hpr=>(J.opnd Z ha hl hp hdc hpr).1
 have hw:=wFr A hE
 have hag:Agr l o (rsl σ (wBB a)) σ:=fun d hd=>by
  obtain ⟨p,h1,h2⟩:=wCk A (Z.sub a ha _ A.get) d hd
  unfold rsl
  rw [if_pos ⟨p,h1,h2⟩]
 rw [<- wBA hag,hw]
 cases hg:a.grd with
 | none=>rfl
 | some q =>
  obtain ⟨p,b⟩:=q
  show isB b (evA _ (.t p))=isB b (evA _ (.t p))
  have hpr:p ∈ wBB a:=nS _ (by rw [hg];simp)
  rw [wEt,if_pos hpr,hrd p hpr]
theorem wOc (HE:FrX ex) (HY:FrX exY) (Z:ZOK P N l os) {a b:AO} {s1 t1 s2 t2:List AO} {σ1 σ2:Tr AV} {h1 h2:AH} (e1:os=s1 ++ a :: t1) (e2:os=s2 ++ b :: t2) (r1:wAL tb ex exY s1 σ0 h0=some (σ1,h1)) (r2:wAL tb ex exY s2 σ0 h0=some (σ2,h2))
  (w1:wBR σ1 a.grd=true) (ka:a.kd=4) (la:wIz a.op=true) (hin:a ∈ s2):h1.nx.nat < h2.nx.nat:=by
 obtain ⟨o,A⟩:=wBe (Z.ao a (by rw [e1];simp))
 obtain ⟨r,r',rfl⟩:=nG hin
 have es:s1=r:=(wBa (e1 ▸ Z.one) (e1.symm.trans (e2.trans (by rw [nI,nY])))).1
 subst es
 rw [wBw s1 _ _ _ _ _ r1,wAT,w1] at r2
 simp only at r2
 cases hq:opK a.kd a.op tb ex exY σ1 h1 with
 | none=>rw [hq] at r2;cases r2
 | some q =>
  rw [hq] at r2
  obtain ⟨v,h3⟩:=q
  rw [ka] at hq
  obtain ⟨B,vf,q1,_⟩:=wII (C:=CC P) la A.op _ _ _ _ hq
  subst q1
  have:=(wFY HE HY _ _ _ _ _ r2).nx
  have h3:(h1.push B).nx.nat=h1.nx.nat + 1:=Pos.nat_succ _
  simp only at this
  omega
theorem nm_ne (HE:FrX ex) (HY:FrX exY) (Z:ZOK P N l os) {a b:AO} {s1 t1 s2 t2:List AO} {σ1 σ2:Tr AV} {h1 h2:AH} (e1:os=s1 ++ a :: t1) (e2:os=s2 ++ b :: t2) (r1:wAL tb ex exY s1 σ0 h0=some (σ1,h1)) (r2:wAL tb ex exY s2 σ0 h0=some (σ2,h2))
  (w1:wBR σ1 a.grd=true) (w2:wBR σ2 b.grd=true) (ka:a.kd=4) (la:wIz a.op=true) (kb:b.kd=4) (lb:wIz b.op=true) (hne:a ≠ b):h1.nx ≠ h2.nx:=by
 have ha:a ∈ s2 ++ b :: t2:=by rw [<- e2,e1];simp
 rcases nJ.1 ha with h | h
 ·intro e
  have:=wOc HE HY Z e1 e2 r1 r2 w1 ka la h
  rw [e] at this
  exact absurd this (nj _)
 ·rcases nN.1 h with h | h
  ·exact absurd h hne
  ·obtain ⟨r,r',rfl⟩:=nG h
   have es:s1=s2 ++ b :: r:=(wBa (e1 ▸ Z.one) (e1.symm.trans (e2.trans (by rw [nI,nY])))).1
   intro e
   have:=wOc HE HY Z e2 e1 r2 r1 w2 kb lb (by rw [es];simp)
   rw [e] at this
   exact absurd this (nj _)
end
end Go.KX
namespace Go.KX
open Go.RowKit Go.KL
section
variable {tb:Tr AF} {ex exY:Run} {P:Program} {N:Nat} {l:List Oper} {os s t:List AO} {a:AO} {σ0 σA σf:Tr AV} {h0 h h1 h' hf:AH} {μ μS:Mu} {σ σ':Env} {w:World} {o:Oper} {v:AV}
theorem wKc (Z:ZOK P N l os) {a b:AO} (ha:a ∈ os) (hb:b ∈ os) (e:b.ix=a.ix):b=a:=by
 obtain ⟨s,t,hs⟩:=nG ha
 have one:=Z.one
 rw [hs] at hb one
 rcases nJ.1 hb with h | h
 ·exact absurd e ((nT.1 one).2.2 b h a (by simp))
 ·rcases nN.1 h with h | h
  ·exact h
  ·exact absurd e.symm ((nl.1 (nT.1 one).2.1).1 b h)
theorem wEM (A:AOK P N l a o) {q:Pos} (hn:a.dst ≠ some q) (cv:Value):put' σ o cv (q.nat - 1)=σ (q.nat - 1):=by
 refine wEP fun d hd e=>?_
 rcases A.dst with ⟨_,h2⟩ | ⟨p,d',h1,h2,h3,_⟩
 ·rw [h2] at hd;cases hd
 ·rw [h2] at hd
  have hd:=nB hd
  have:p=q:=Pos.nat_inj (by have:=q.nat_pos;have:=p.nat_pos;have:p.nat - 1=q.nat - 1:=h3.symm.trans (hd.trans e);omega)
  subst this
  exact hn h1
theorem JS.add (Z:ZOK P N l os) {μ0:Mu} {w0:World} {S:Nat->Bool} (J:JS tb ex exY P l os σ0 h0 σf hf μ0 w0 S σ w s t σA h σ' μ μS) (ha:a ∈ t) (hS:S a.ix=false) (hfree:wAy a.kd=false)
  (hdc:∀ k,k < l.length->S k=true->∀ j ∈ prI l k,S j=true) (A:AOK P N l a o) {cv:Value} {w':World} {μT:Mu} (K:Keep w w' Non) (hle:μS.Le μT)
  (hnew:∀ q c,μT q=some c->μS q=some c \/ (c.1=w.heap.size/\wanted l σ o=true/\a.kd=4/\∃ s1 t1 σ1 h1,os=s1 ++ a :: t1/\wAL tb ex exY s1 σ0 h0=some (σ1,h1)/\q=h1.nx))
  (hpa:∃ p,Pend tb ex exY P l os σ0 h0 σf w0 μ μT (put' σ o cv) w' a o p) :
  JS tb ex exY P l os σ0 h0 σf hf μ0 w0 (fun k=>k == a.ix || S k) (put' σ o cv) w' s t σA h σ' μ μT:=by
 have hao:a ∈ os:=by rw [J.e];simp [ha]
 have hbo:∀ b ∈ t,b ∈ os:=fun b hb=>by rw [J.e];simp [hb]
 obtain ⟨sa,ta,ea⟩:=nG hao
 have hself:Agr l o σ (put' σ o cv):=by
  intro d hd
  obtain ⟨p,hp,rfl⟩:=wCk A (Z.sub a hao _ A.get) d hd
  exact (wEM A (Z.rd sa a ta ea p hp a (by simp)) cv).symm
 refine ⟨J.e,J.hs,J.hr,fun b hb=>by simp [J.inS b hb],fun b hb hh=>?_,⟨J.E.mono,J.E.new,J.E.keep.step K fun _ _ hn=>hn.elim⟩,J.sim.keep K,J.fl,J.env,fun q hq=>?_,J.le.trans hle,fun q c hq=>?_,fun b hb hh=>?_⟩
 ·by_cases e:b.ix=a.ix
  ·rw [wKc Z hao (hbo b hb) e];exact hfree
  ·exact J.free b hb (by simpa [e] using hh)
 ·rw [wEM A (hq a ha (by simp))]
  exact J.ag q fun b hb hs=>hq b hb (by simp [hs])
 ·rcases hnew q c hq with h1 | ⟨_,h2,h3,s1,t1,σ1,h1,e1,e2,e3⟩
  ·rcases J.nm q c h1 with g | ⟨b,ob,s1,t1,σ1,h1,k1,k2,k3,k4,k5,k6,k7,k8⟩
   ·exact .inl g
   ·exact .inr ⟨b,ob,s1,t1,σ1,h1,k1,by simp [k2],k3,(wBA (wEL Z hdc hao hS (hbo b k1) k2 A k3 cv)).symm.trans k4,k5,k6,k7,k8⟩
  ·exact .inr ⟨a,o,s1,t1,σ1,h1,ha,by simp,A.get,(wBA hself).symm.trans h2,h3,e1,e2,e3⟩
 ·by_cases e:b.ix=a.ix
  ·have:=wKc Z hao (hbo b hb) e
   subst this
   exact ⟨o,hpa⟩
  ·have hbS:S b.ix=true:=by simpa [e] using hh
   obtain ⟨ob,p,Pd⟩:=J.pd b hb hbS
   have hA:=wEL (σ:=σ) Z hdc hao hS (hbo b hb) hbS A Pd.get cv
   have hp:put' σ o cv (p.nat - 1)=σ (p.nat - 1):=by
    refine wEM A (fun hd=>?_) cv
    have hb':=hbo b hb
    rw [ea] at hb'
    have hb'':b ∈ sa ++ ta:=by
     rcases nJ.1 hb' with h | h
     ·exact ng _ h
     ·rcases nN.1 h with h | h
      ·exact absurd (by rw [h]) e
      ·exact nS _ h
    exact Z.wr sa a ta ea p hd b hb'' Pd.dst
   have hsb:=Z.sel b (hbo b hb) _ Pd.get
   refine ⟨ob,p,Pd.get,Pd.dst,?_⟩
   rw [hp,<- wBA hA]
   rcases Pd.fact with f | ⟨f,⟨f1,f2⟩ | ⟨f1,f2,w1,w2,f3⟩ | ⟨f1,f2,w1,o1,s1,t1,σ1,h1,f3,f4,f5,f6,f7,f8,f9⟩⟩
   ·exact .inl f
   ·exact .inr ⟨f,.inl ⟨f1,f2⟩⟩
   ·exact .inr ⟨f,.inr (.inl ⟨f1,f2.mono hle,w1,w2,(Runs.agr hsb hA).1 f3⟩)⟩
   ·refine .inr ⟨f,.inr (.inr ⟨f1,f2.mono hle,w1,o1,s1,t1,σ1,h1,(Runs.agr hsb hA).1 f3,(K.block _ (wAK f4) id).trans f4,f5,f6,f7,hle _ _ f8,fun q c hq hc=>?_⟩)⟩
    rcases hnew q c hq with h1 | ⟨h1,_⟩
    ·exact f9 q c h1 hc
    ·have:=wAK f4
     omega
theorem wFZ:∀ (r:List AO),(∀ b ∈ r,b.kd ≠ 0) \/ ∃ x b y,r=x ++ b :: y/\b.kd=0/\∀ c ∈ x,c.kd ≠ 0
 | []=>.inl fun b hb=>by simp at hb
 | a :: r=>by
  by_cases h0:a.kd=0
  ·exact .inr ⟨[],a,r,rfl,h0,fun c hc=>by simp at hc⟩
  ·rcases wFZ r with h | ⟨x,b,y,h1,h2,h3⟩
   ·refine .inl fun b hb=>?_
    rcases nN.1 hb with rfl | hb
    ·exact h0
    ·exact h b hb
   ·refine .inr ⟨a :: x,b,y,by rw [h1];rfl,h2,fun c hc=>?_⟩
    rcases nN.1 hc with rfl | hc
    ·exact h0
    ·exact h3 c hc
theorem JS.freeOp {σg:Tr AV} (HE:FrX ex) (HY:FrX exY) (Z:ZOK P N l os) (HL:LCK tb ex exY os σ0 h0 σg) (Hg:∀ a ∈ os,8 <= a.kd->∀ p,p ∈ wBB a \/ a.dst=some p->evA σf (.t p)=evA σg (.t p)) {μ0:Mu} {w0:World} {S:Nat->Bool} (J:JS tb ex exY P l os σ0 h0 σf hf μ0 w0 S σ w s t σA h σ' μ μS) (ha:a ∈ t) (hS:S a.ix=false) (hfree:wAy a.kd=false)
  (hp:∀ j ∈ prI l a.ix,S j=true) (hdc:∀ k,k < l.length->S k=true->∀ j ∈ prI l k,S j=true) (A:AOK P N l a o) :
  Step1 P l o σ w fun cv w'=>∃ μT,JS tb ex exY P l os σ0 h0 σf hf μ0 w0 (fun k=>k == a.ix || S k) (put' σ o cv) w' s t σA h σ' μ μT:=by
 have hao:a ∈ os:=by rw [J.e];simp [ha]
 have hl:a.ix < l.length:=(nM.1 A.get).1
 obtain ⟨r,r',et⟩:=nG ha
 have e1:os=(s ++ r) ++ a :: r':=by rw [J.e,et,nI]
 have hsel:=Z.sel a hao _ A.get
 have hsub:=Z.sub a hao _ A.get
 have hfull:=J.full
 rw [e1] at hfull
 obtain ⟨σ1,h1,r1,r2⟩:=wIJ hfull
 obtain ⟨hw,hrd⟩:=J.frm Z hao hl hp hdc A e1 r1
 have hrr:wAL tb ex exY r σA h=some (σ1,h1):=by rw [<- wBw s r _ _ _ _ J.hs];exact r1
 have hself:∀ cv,Agr l o σ (put' σ o cv):=by
  intro cv d hd
  obtain ⟨p,hp,rfl⟩:=wCk A hsub d hd
  exact (wEM A (Z.rd _ a _ e1 p hp a (by simp)) cv).symm
 obtain ⟨hdn,hkd⟩:a.dst ≠ none/\(a.kd=1 \/ a.kd=3 \/ (a.kd=6/\kdA a.op=3) \/ (a.kd=4/\wIz a.op=true) \/ (8 <= a.kd/\kdA a.op=1)):=by
  rcases Z.kd a hao with h | h
  ·rw [hfree] at h;cases h
  ·exact h
 obtain ⟨p,d,d1,d2,d3,_⟩:∃ p d,a.dst=some p/\o.dst=some d/\d=p.nat - 1/\d < N:=by
  rcases A.dst with ⟨h1,_⟩ | h
  ·exact absurd h1 hdn
  ·exact h
 have eput:∀ cv,put' σ o cv (p.nat - 1)=cv:=fun cv=>by unfold put';rw [d2,d3];exact wBc _ _ _
 have hslot:∀ q ∈ wBP (wAe a.op),q ∈ wBB a:=fun q hq=>ng _ hq
 rcases r2 with ⟨g1,v,h2,g2,g3⟩ | ⟨g1,g3⟩
 ·have hv:evA σf (.t p)=v:=wHc Z e1 g3 d1
  have hw':wanted l σ o=true:=hw.trans g1
  have hwn:∀ cv,wanted l (put' σ o cv) o=true:=fun cv=>(wBA (hself cv)).symm.trans hw'
  have hvS:∀ q ∈ wBP (wAe a.op),Rv μS (evA σ1 (.t q)) (σ (q.nat - 1)):=fun q hq=>by
   rw [<- hrd q (hslot q hq)]
   exact (J.opnd Z hao hl hp hdc (hslot q hq)).1
  have clean:(a.kd=1 \/ a.kd=3 \/ 8 <= a.kd)->(∃ cv,Rv μ v cv/\Runs P σ w o cv w)->Step1 P l o σ w fun cv w'=>∃ μT,JS tb ex exY P l os σ0 h0 σf hf μ0 w0 (fun k=>k == a.ix || S k) (put' σ o cv) w' s t σA h σ' μ μT:=by
   rintro hk ⟨cv,c1,c2⟩
   refine .inl ⟨hw',.inr (.inl ⟨cv,w,c2,μS,J.add Z ha hS hfree hdc A (Keep.refl w _) (Mu.Le.refl _) (fun q c hq=>.inl hq) ⟨p,A.get,d1,.inr ⟨hwn cv,.inl ⟨hk,?_⟩⟩⟩⟩)⟩
   rw [hv,eput]
   exact c1
  have hvC:(a.kd=1 \/ a.kd=3 \/ 8 <= a.kd)->∀ q ∈ wBP (wAe a.op),Rv μ (evA σ1 (.t q)) (σ (q.nat - 1)):=fun hk q hq=>by
   rw [<- hrd q (hslot q hq)]
   exact (J.opnd Z hao hl hp hdc (hslot q hq)).2 hk
  have loadC:(a.kd=1 \/ a.kd=3 \/ 8 <= a.kd)->kdA a.op=1->∀ (x:List AO),(∀ b ∈ x,b ∈ t)->∀ {σ2:Tr AV} {h3 h4:AH} {σ3:Tr AV},wAL tb ex exY x σA h=some (σ2,h3)->opY a.op tb ex exY σ3 h3=some (v,h4)->(∀ b ∈ x,b.kd=0->False)->(∀ q ∈ wBB a,evA σf (.t q)=evA σ3 (.t q))->∃ cv,Rv μ v cv/\Runs P σ w o cv w:=by
   intro hk k x hx σ2 h3 h4 σ3 hrx gY hx0 hrd3
   have hv3:∀ q ∈ wBP (wAe a.op),Rv μ (evA σ3 (.t q)) (σ (q.nat - 1)):=fun q hq=>by
    rw [<- hrd3 q (hslot q hq)]
    exact (J.opnd Z hao hl hp hdc (hslot q hq)).2 hk
   have hrs:=wIH gY
   have henv:=wEu hv3
   obtain ⟨_,hold⟩:=wFv HE HY x _ _ _ _ hrx (fun b hb=>Z.ao b (by rw [J.e];simp [hx b hb])) (fun b hb=>by
    rcases Z.kd b (by rw [J.e];simp [hx b hb]) with h | h
    ·unfold wAy at h
     simp only [Bool.or_eq_true] at h
     rcases h with h | h
     ·exact absurd (nL h) (hx0 b hb)
     ·exact .inl (nL h)
    ·exact .inr h.2)
   have hm:∀ b c,μ b=some c->h.m.get b=h3.m.get b:=fun b c hb=>by
    refine (hold b ?_).symm
    rcases no b.nat h.nx.nat with hlt | hge
    ·exact hlt
    ·rw [J.sim.nx b hge] at hb;cases hb
   have hld:=wLj k A.op henv hm hrs
   obtain ⟨cv,c1,c2⟩:=wKZ (C:=CC P) hsel hsub (.inl k) A.op hld J.sim (fun q hq=>by rw [wEt,if_pos hq];exact hv3 q hq)
   exact ⟨cv,c1,c2⟩
  rcases hkd with hk | hk | ⟨hk,hk2⟩ | ⟨hk,hk2⟩ | ⟨hk,hk2⟩
  ·have gY:opY a.op tb ex exY σ1 h1=some (v,h2):=by rw [hk] at g2;exact g2
   refine clean (.inl hk) ?_
   rcases A.k1 hk with k | k
   ·exact loadC (.inl hk) k r (fun b hb=>by rw [et];simp [hb]) hrr gY (fun b hb h0=>by
     have:=wCN hdc hp (Z.ld _ a _ e1 hk b (by simp [hb]) h0)
     have:=J.free b (by rw [et];simp [hb]) this
     rw [h0] at this
     cases this) hrd
   ·obtain ⟨cv,c1,c2⟩:=wEv hsel hsub k A.op gY (hvC (.inl hk))
    exact ⟨cv,c1,c2 w⟩
  ·have gY:opY a.op tb ex exY σ1 h1=some (v,h2):=by rw [hk] at g2;exact g2
   obtain ⟨cv,c1,c2⟩:=wEv hsel hsub (A.k3 hk) A.op gY (hvC (.inr (.inl hk)))
   exact clean (.inr (.inl hk)) ⟨cv,c1,c2 w⟩
  ·have gY:opY a.op tb ex exY σ1 h1=some (v,h2):=by rw [hk] at g2;exact g2
   obtain ⟨cv,c1,c2⟩:=wEv hsel hsub hk2 A.op gY hvS
   refine .inl ⟨hw',.inr (.inl ⟨cv,w,c2 w,μS,J.add Z ha hS hfree hdc A (Keep.refl w _) (Mu.Le.refl _) (fun q c hq=>.inl hq) ⟨p,A.get,d1,.inr ⟨hwn cv,.inr (.inl ⟨hk,?_,w,w,?_⟩)⟩⟩⟩)⟩
   ·rw [hv,eput]
    exact c1
   ·rw [eput]
    exact (Runs.agr hsel (hself cv)).1 (c2 w)
  ·have gY:opY a.op tb ex exY σ1 h1=some (v,h2):=by rw [hk] at g2;exact g2
   obtain ⟨B,vf,ob,val,_,ev',_,c1,c2,c3⟩:=wIn (C:=CC P) hsel hsub hk2 A.op gY hvS
   have hno:μS h1.nx=none:=by
    cases hq:μS h1.nx with
    | none=>rfl
    | some c =>
     rcases J.nm _ c hq with g | ⟨b,ob',s2,t2,σ2,h3,k1,k2,k3,k4,k5,k6,k7,k8⟩
     ·have:=wNS HE HY Z J.e J.hs ha e1 r1
      rw [J.sim.nx _ this] at g
      cases g
     ·have hbo:b ∈ os:=by rw [J.e];simp [k1]
      have hne:a ≠ b:=fun e=>by subst e;rw [hS] at k2;cases k2
      obtain ⟨ob2,B2⟩:=wBe (Z.ao b hbo)
      have hb2:wIz b.op=true:=by
       rcases Z.kd b hbo with hh | ⟨_,hh | hh | hh | hh | hh⟩
       ·rw [k5] at hh;exact absurd hh (by decide)
       ·omega
       ·omega
       ·omega
       ·exact hh.2
       ·omega
      have hwb:wBR σ2 b.grd=true:=by
       have hlb:b.ix < l.length:=(nM.1 k3).1
       have eo:ob2=ob':=by have:=B2.get;rw [k3] at this;exact (nB this).symm
       subst eo
       have:=(J.frm Z hbo hlb (hdc _ hlb k2) hdc B2 k6 k7).1
       rw [<- this]
       exact k4
      exact absurd k8 (nm_ne HE HY Z e1 k6 r1 k7 g1 hwb hk hk2 k5 hb2 hne)
   have hadd:=Mu.add_le (c:=(⟨w.heap.size,0,g0⟩:Cl)) hno
   have hsz:∀ q c,μS q=some c->c.1 < w.heap.size:=fun q c hq=>by
    rcases J.nm q c hq with g | ⟨b,ob',s2,t2,σ2,h3,k1,k2,k3,k4,k5,k6,k7,k8⟩
    ·exact J.sim.lt q c g
    ·obtain ⟨ob2,p2,Pd⟩:=J.pd b k1 k2
     have eo:ob2=ob':=by have:=Pd.get;rw [k3] at this;exact (nB this).symm
     subst eo
     rcases Pd.fact with ⟨f,_⟩ | ⟨_,⟨f,_⟩ | ⟨f,_⟩ | ⟨_,_,w1,o1,s3,t3,σ3,h4,_,f4,_,f6,f7,f8,_⟩⟩
     ·rw [k4] at f;cases f
     ·omega
     ·omega
     ·have es:s3=s2:=(wBa (f6 ▸ Z.one) (f6.symm.trans k6)).1
      subst es
      rw [k7] at f7
      cases f7
      subst k8
      rw [hq] at f8
      cases f8
      exact wAK f4
   refine .inl ⟨hw',.inr (.inl ⟨val w.heap.size,w.alloc ob,c1 w,μS.add h1.nx ⟨w.heap.size,0,g0⟩,J.add Z ha hS hfree hdc A (wAW w ob) hadd (fun q c hq=>?_) ⟨p,A.get,d1,.inr ⟨hwn _,.inr (.inr ⟨hk,?_,w,ob,s ++ r,r',σ1,h1,?_,heap_alloc_new w ob,J.E.keep.size,e1,r1,Mu.add_same _ _ _,fun q c hq hc=>?_⟩)⟩⟩⟩)⟩
   ·unfold Mu.add at hq
    split at hq
    ·rename_i eq
     cases hq
     exact .inr ⟨rfl,hw',hk,s ++ r,r',σ1,h1,e1,r1,eq⟩
    ·exact .inl hq
   ·rw [hv,eput,ev']
    exact c3 _ _ _ (Mu.add_same _ _ _)
   ·rw [eput]
    exact (Runs.agr hsel (hself _)).1 (c1 w)
   ·unfold Mu.add at hq
    split at hq
    ·rename_i eq
     exact eq
    ·have:=hsz q c hq
     omega
  ·have gY:opY a.op tb ex exY σ1 h1=some (v,h2):=wKa (by omega) g2
   refine clean (.inr (.inr hk)) ?_
   rcases wFZ r with hz | ⟨x,b,y,er,hb0,hx0⟩
   ·exact loadC (.inr (.inr hk)) hk2 r (fun b hb=>by rw [et];simp [hb]) hrr gY (fun b hb h0=>hz b hb h0) hrd
   ·have e2:os=(s ++ x) ++ b :: (y ++ a :: r'):=by rw [J.e,et,er];simp
    have hfull2:=J.full
    rw [e2] at hfull2
    obtain ⟨σ2,h3,r3,_⟩:=wIJ hfull2
    have hbt:b ∈ t:=by rw [et,er];simp
    have hanc:wLT y + 8 < a.kd:=by
     rcases Z.ld8 _ a _ e1 hk (s ++ x) b y (by rw [er];simp) hb0 with g | g
     ·have:=J.free b hbt (wCN hdc hp g)
      rw [hb0] at this
      cases this
     ·exact g
    have hlk:=HL _ b _ e2 hb0 _ _ r3
    have hsame:=wHY y a r' 0 hlk hfree (by omega)
    have hgf:wBR σg a.grd=true:=by
     rw [<- g1]
     cases hg:a.grd with
     | none=>rfl
     | some q =>
      obtain ⟨q,c⟩:=q
      show isB c (evA _ (.t q))=isB c (evA _ (.t q))
      have hqr:q ∈ wBB a:=nS _ (by rw [hg];simp)
      rw [<- Hg a hao hk q (.inl hqr),hrd q hqr]
    unfold wFR at hsame
    rw [d1] at hsame
    simp only [hgf] at hsame
    split at hsame
    ·rename_i v' h5 hq
     have hvv:=wKW hsame
     rw [<- Hg a hao hk p (.inr d1),hv] at hvv
     subst hvv
     have hrx:wAL tb ex exY x σA h=some (σ2,h3):=by rw [<- wBw s x _ _ _ _ J.hs];exact r3
     exact loadC (.inr (.inr hk)) hk2 x (fun b hb=>by rw [et,er];simp [hb]) hrx hq (fun b hb h0=>hx0 b hb h0) (fun q hq=>Hg a hao hk q (.inl hq))
    ·cases hsame
 ·refine .inr ⟨hw.trans g1,μS,J.add Z ha hS hfree hdc A (Keep.refl w _) (Mu.Le.refl _) (fun q c hq=>.inl hq) ⟨p,A.get,d1,.inl ⟨(wBA (hself _)).symm.trans (hw.trans g1),eput _,?_⟩⟩⟩
  exact wHc Z e1 (v:=u) g3 d1
theorem JS.catch (Z:ZOK P N l os) {μ0:Mu} {w0:World} {S:Nat->Bool}:∀ (r:List AO) {s t:List AO} {σA:Tr AV} {h:AH} {σ':Env} {μ:Mu},JS tb ex exY P l os σ0 h0 σf hf μ0 w0 S σ w s (r ++ t) σA h σ' μ μS->(∀ a ∈ r,S a.ix=true) ->
  ∃ σB hB σ'' μB,JS tb ex exY P l os σ0 h0 σf hf μ0 w0 S σ w (s ++ r) t σB hB σ'' μB μS
 | [],s,t,σA,h,σ',μ,J,_=>⟨σA,h,σ',μ,by rw [nb];exact J⟩
 | a :: r,s,t,σA,h,σ',μ,J,hS=>by
  obtain ⟨σB,hB,σ'',μB,J1⟩:=JS.catch1 (t:=r ++ t) Z J (hS a (by simp))
  obtain ⟨σC,hC,σ3,μC,J2⟩:=JS.catch Z r J1 fun b hb=>hS b (by simp [hb])
  exact ⟨σC,hC,σ3,μC,by rw [show s ++ a :: r=s ++ [a] ++ r by simp];exact J2⟩
theorem JS.anew {A B:List AO} {σm:Tr AV} {h2:AH} {μ0:Mu} {w0:World} {S:Nat->Bool} (J:JS tb ex exY P l A σ0 h0 σm h2 μ0 w0 S σ w s [] σA h σ' μ μS) (hr:wAL tb ex exY B σm h2=some (σf,hf)) (hB:∀ b ∈ B,S b.ix=false) :
  Ext μ0 h0.fl.nat w0 μ w/\h2.fl=h0.fl/\JS tb ex exY P l B σm h2 σf hf μ w S σ w [] B σm h2 σ' μ μ:=by
 have hr1:=J.hr
 rw [wAS] at hr1
 cases hr1
 exact ⟨J.E,J.fl,rfl,wAS _ _ _ _ _,hr,fun b hb=>(by simp at hb),fun b hb hS=>(by rw [hB b hb] at hS;cases hS),Ext.refl μ _ w,J.sim,rfl,J.env,fun q _=>J.ag q fun b hb=>(by simp at hb),Mu.Le.refl _,fun q c hq=>.inl hq,fun b hb hS=>(by rw [hB b hb] at hS;cases hS)⟩
theorem CK.lazy {rr:Option Nat} {Q:wBq} {D:List Deferred} {id:Nat} (hm:P.follows .mixedOrders=true) (HC:wDy (CC P) P tb ex) (HY':wDE (CC P) P exY) (HE:FrX ex) (HY:FrX exY) (ZZ:∃ A B,ZAll P N l os A B) (HL0:LCK tb ex exY os σ0 h0 σf)
  (hr:wAL tb ex exY os σ0 h0=some (σf,hf)) (S:Sim (CC P) P μ h0 w) (hE:EnvR μ σ0 σ)
  (hQ:∀ μ' w' σ',Ext μ h0.fl.nat w μ' w'->Sim (CC P) P μ' hf w'->EnvR μ' σf σ'->hf.fl=h0.fl->Q D .normal σ' w'):CK rr N P (.region id l.toArray true) Q D σ w:=by
 obtain ⟨A,B,ZZ⟩:=ZZ
 obtain ⟨σm,h2,hrA,hrB⟩:=wBt A B σ0 h0 _ (ZZ.eq ▸ hr)
 have HL:LCK tb ex exY A σ0 h0 σf/\LCK tb ex exY B σm h2 σf:=by
  refine ⟨fun s b t e k0 σ1 h1 hs=>?_,wIE ZZ.low⟩
  have:=HL0 s b (t ++ B) (by rw [ZZ.eq,e];simp) k0 σ1 h1 hs
  exact wFs t B 0 this
 have Hg:∀ a ∈ A,8 <= a.kd->∀ p,p ∈ wBB a \/ a.dst=some p->evA σm (.t p)=evA σf (.t p):=fun a ha h8 p hp=>(wBZ B _ _ _ _ hrB p fun b hb=>ZZ.far a ha h8 p hp b hb).symm
 have lt:∀ b ∈ os,b.ix < l.length:=fun b hb=>by
  rw [ZZ.eq] at hb
  rcases nJ.1 hb with hb | hb
  ·obtain ⟨o,A⟩:=wBe (ZZ.za.ao b hb)
   exact (nM.1 A.get).1
  ·obtain ⟨o,A⟩:=wBe (ZZ.zb.ao b hb)
   exact (nM.1 A.get).1
 have stepB:∀ (S1:Nat->Bool) (a:AO) (σ1:Env) (w1:World) (μm:Mu) (wm:World) (s t:List AO) (σA:Tr AV) (h:AH) (σ':Env) (μ1 μS:Mu) (o:Oper),a ∈ B->S1 a.ix=false->(∀ j ∈ prI l a.ix,S1 j=true)->(∀ k,k < l.length->S1 k=true->∀ j ∈ prI l k,S1 j=true)->AOK P N l a o ->
   JS tb ex exY P l B σm h2 σf hf μm wm S1 σ1 w1 s t σA h σ' μ1 μS->Step1 P l o σ1 w1 fun v w'=>∃ s t σA h σ' μ1 μS,JS tb ex exY P l B σm h2 σf hf μm wm (fun k=>k == a.ix || S1 k) (put' σ1 o v) w' s t σA h σ' μ1 μS:=by
  intro S1 a σ1 w1 μm wm s t σA h σ' μ1 μS o ha hSi hpi hdc A J
  have hat:a ∈ t:=by
   have:=ha
   rw [J.e] at this
   rcases nJ.1 this with h | h
   ·rw [J.inS a h] at hSi;cases hSi
   ·exact h
  cases hf:wAy a.kd with
  | true =>
   obtain ⟨r,r',et⟩:=nG hat
   rw [et] at J
   obtain ⟨σB,hB,σ'',μB,J1⟩:=JS.catch ZZ.zb r J fun b hb=>wCN hdc hpi (ZZ.zb.anc (s ++ r) a r' (by rw [J.e,nI]) hf b (by simp [hb]))
   refine (J1.fixed HC HY' HE HY ZZ.zb hf hSi hdc A).mono ?_
   rintro v w' ⟨σC,hC,σ3,μC,μT,J2⟩
   exact ⟨_,_,_,_,_,_,_,J2⟩
  | false =>
   refine (J.freeOp HE HY ZZ.zb HL.2 (fun _ _ _ _ _=>rfl) hat hSi hf hpi hdc A).mono ?_
   rintro v w' ⟨μT,J2⟩
   exact ⟨_,_,_,_,_,_,_,J2⟩
 have toB:∀ (S1:Nat->Bool) (σ1:Env) (w1:World) (s t:List AO) (σA:Tr AV) (h:AH) (σ':Env) (μ1 μS:Mu),(∀ a ∈ A,S1 a.ix=true)->(∀ b ∈ B,S1 b.ix=false)->JS tb ex exY P l A σ0 h0 σm h2 μ w S1 σ1 w1 s t σA h σ' μ1 μS ->
   ∃ μm σ',Ext μ h0.fl.nat w μm w1/\h2.fl=h0.fl/\JS tb ex exY P l B σm h2 σf hf μm w1 S1 σ1 w1 [] B σm h2 σ' μm μm:=by
  intro S1 σ1 w1 s t σA h σ' μ1 μS hA hB J
  have J0:JS tb ex exY P l A σ0 h0 σm h2 μ w S1 σ1 w1 s (t ++ []) σA h σ' μ1 μS:=by rw [nb];exact J
  obtain ⟨σB,hB',σ'',μB,J1⟩:=JS.catch ZZ.za t J0 fun b hb=>hA b (by rw [J.e];simp [hb])
  obtain ⟨g1,g2,g3⟩:=J1.anew hrB hB
  exact ⟨μB,σ'',g1,g2,g3⟩
 refine CK.anyRel hm ZZ.za.pr (fun S σ w1=>((∀ b ∈ B,S b.ix=false)/\∃ s t σA h σ' μ1 μS,JS tb ex exY P l A σ0 h0 σm h2 μ w S σ w1 s t σA h σ' μ1 μS) \/
  ((∀ a ∈ A,S a.ix=true)/\∃ μm wm,Ext μ h0.fl.nat w μm wm/\h2.fl=h0.fl/\∃ s t σA h σ' μ1 μS,JS tb ex exY P l B σm h2 σf hf μm wm S σ w1 s t σA h σ' μ1 μS)) ?_ ?_ ?_
 ·exact .inl ⟨fun b _=>rfl,[],A,σ0,h0,σ,μ,μ,rfl,wAS _ _ _ _ _,hrA,fun b hb=>(by simp at hb),fun b _ hb=>(by cases hb),Ext.drew μ _ w,S.keep (Keep.drew w),rfl,hE,fun _ _=>rfl,Mu.Le.refl _,fun q c hq=>.inl hq,fun b _ hb=>(by cases hb)⟩
 ·rintro S1 i σ1 w1 hi hSi hpi hdc hlt hI
  obtain ⟨a,ha,rfl⟩:=ZZ.all i hi
  rw [ZZ.eq] at ha
  rcases nJ.1 ha with ha | ha
  ·obtain ⟨o,AK⟩:=wBe (ZZ.za.ao a ha)
   refine ⟨o,AK.get,wFW AK,?_⟩
   rcases hI with ⟨hB,s,t,σA,h,σ',μ1,μS,J⟩ | ⟨hA,_⟩
   ·have hB':∀ b ∈ B,(fun k=>k == a.ix || S1 k) b.ix=false:=fun b hb=>by
     have:=(ZZ.cross b hb a ha).1
     simp [hB b hb,Ne.symm this]
    have hat:a ∈ t:=by
     have:=ha
     rw [J.e] at this
     rcases nJ.1 this with h | h
     ·rw [J.inS a h] at hSi;cases hSi
     ·exact h
    cases hf:wAy a.kd with
    | true =>
     obtain ⟨r,r',et⟩:=nG hat
     rw [et] at J
     obtain ⟨σB,hB2,σ'',μB,J1⟩:=JS.catch ZZ.za r J fun b hb=>wCN hdc hpi (ZZ.za.anc (s ++ r) a r' (by rw [J.e,nI]) hf b (by simp [hb]))
     refine (J1.fixed HC HY' HE HY ZZ.za hf hSi hdc AK).mono ?_
     rintro v w' ⟨σC,hC,σ3,μC,μT,J2⟩
     exact .inl ⟨hB',_,_,_,_,_,_,_,J2⟩
    | false =>
     refine (J.freeOp HE HY ZZ.za HL.1 Hg hat hSi hf hpi hdc AK).mono ?_
     rintro v w' ⟨μT,J2⟩
     exact .inl ⟨hB',_,_,_,_,_,_,_,J2⟩
   ·rw [hA a ha] at hSi
    cases hSi
  ·obtain ⟨o,AK⟩:=wBe (ZZ.zb.ao a ha)
   refine ⟨o,AK.get,wFW AK,?_⟩
   have hA:∀ c ∈ A,S1 c.ix=true:=fun c hc=>wCN hdc hpi (ZZ.cross a ha c hc).2
   rcases hI with ⟨hB,s,t,σA,h,σ',μ1,μS,J⟩ | ⟨_,μm,wm,g1,g2,s,t,σA,h,σ',μ1,μS,J⟩
   ·obtain ⟨μm,σ2,g1,g2,J1⟩:=toB S1 σ1 w1 s t σA h σ' μ1 μS hA hB J
    refine (stepB S1 a σ1 w1 _ _ _ _ _ _ _ _ _ o ha hSi hpi hdc AK J1).mono ?_
    rintro v w' ⟨s,t,σA,h,σ',μ1,μS,J2⟩
    exact .inr ⟨fun c hc=>by simp [hA c hc],_,_,g1,g2,_,_,_,_,_,_,_,J2⟩
   ·refine (stepB S1 a σ1 w1 _ _ _ _ _ _ _ _ _ o ha hSi hpi hdc AK J).mono ?_
    rintro v w' ⟨s,t,σA,h,σ',μ1,μS,J2⟩
    exact .inr ⟨fun c hc=>by simp [hA c hc],_,_,g1,g2,_,_,_,_,_,_,_,J2⟩
 ·rintro S1 σ1 w1 hall hI
  have hI2:∃ μm wm,Ext μ h0.fl.nat w μm wm/\h2.fl=h0.fl/\∃ s t σA h σ' μ1 μS,JS tb ex exY P l B σm h2 σf hf μm wm S1 σ1 w1 s t σA h σ' μ1 μS:=by
   rcases hI with ⟨hB,s,t,σA,h,σ',μ1,μS,J⟩ | ⟨_,hI⟩
   ·obtain ⟨μm,σ2,g1,g2,J1⟩:=toB S1 σ1 w1 s t σA h σ' μ1 μS (fun a ha=>hall _ (lt a (by rw [ZZ.eq];simp [ha]))) hB J
    exact ⟨_,_,g1,g2,_,_,_,_,_,_,_,J1⟩
   ·exact hI
  obtain ⟨μm,wm,g1,g2,s,t,σA,h,σ',μ1,μS,J⟩:=hI2
  have J0:JS tb ex exY P l B σm h2 σf hf μm wm S1 σ1 w1 s (t ++ []) σA h σ' μ1 μS:=by rw [nb];exact J
  obtain ⟨σB,hB,σ'',μB,J1⟩:=JS.catch ZZ.zb t J0 fun b hb=>hall _ (lt b (by rw [ZZ.eq,J.e];simp [hb]))
  have hr1:=J1.hr
  rw [wAS] at hr1
  cases hr1
  refine hQ μB w1 σ1 (g1.trans (g2 ▸ J1.E)) J1.sim (fun q=>?_) (J1.fl.trans g2)
  rw [J1.ag q fun b hb=>by simp at hb]
  exact J1.env q
end
end Go.KX
namespace Go.KX
open Go.RowKit Go.KL
section
variable {P:Program} {tb:Tr AF}
theorem wKd (hm:P.follows .mixedOrders=true) {ex exY:Run} (HC:wDy (CC P) P tb ex) (HY:wDE (CC P) P exY) (FE:FrX ex) (FY:FrX exY) {os:List AO} {σA σA':Tr AV} {h h':AH} (hr:wAL tb ex exY os σA h=some (σA',h')) {id N:Nat} {ops:Array Oper} {draw:Bool} (hc:chkR P N os ops.toList draw=true)
  {rr:Option Nat} {μ:Mu} {σ:Env} {w:World} {D:List Deferred} {n0:Nat} (S:Sim (CC P) P μ h w) (hE:EnvR μ σA σ) (M:Mk μ w n0 D):CK rr N P (.region id ops draw) (PostX P μ h.fl w n0 rr D .nrm σA' h') D σ w:=by
 unfold chkR at hc
 simp only [nA,nQ] at hc
 obtain ⟨c1,c2⟩:=hc
 have hop:ops=ops.toList.toArray:=by simp
 have hcs:∀ a ∈ os,wEp P N ops.toList a=true/\kOf ((List.range ops.toList.length).map fun i=>kdAt i os) a.ix=a.kd:=fun a ha=>⟨(c1 a ha).1,nL (c1 a ha).2⟩
 have post:∀ {w0:World},Ext μ h.fl.nat w μ w0->Sim (CC P) P μ h w0->OKS N P ops.toList (PostX P μ h.fl w n0 rr D .nrm σA' h') D ((List.range ops.toList.length).map fun i=>kdAt i os) (wGh os) σ w0:=by
  intro w0 E0 S0
  refine wGi HC HY os σA h σA' h' hr hcs μ σ w0 S0 hE fun μ' w' σ' q1 q2 q3 q4=>?_
  have E:=E0.trans q1
  exact ⟨rfl,μ',E,q2,q3,M.ext E,q4,fun _=>rfl⟩
 rw [hop]
 cases draw with
 | true =>
  simp only at c2
  split at c2
  ·simp only [nA,nQ,Nat.blt_eq] at c2
   exact CK.lazy hm HC HY FE FY (wKQ (fun a ha=>(c1 a ha).1) c2.2) (wIE c2.1) hr S hE fun μ' w' σ' q1 q2 q3 q4=>⟨rfl,μ',q1,q2,q3,M.ext q1,q4,fun _=>rfl⟩
  ·exact CK.anyOrd hm _ _ c2 (post (Ext.drew μ _ w) (S.keep (Keep.drew w)))
 | false=>exact CK.reg _ c2 (post (Ext.refl μ _ w) S)
theorem wLk {ex:Run} (HC:wDy (CC P) P tb ex) {g:AOd} {t:List Pos} {asg body:AC} {g':Operand} {ps:Array Tmp} {asg' body':Code} {N:Nat} (hc:wDV P N (.rf g t asg body) (.rangeFunc g' ps asg' body')=true)
  {σA σA':Tr AV} {h h':AH} {e:Ex} (hr:sRf true g t asg body tb ex σA h=some (e,σA',h')) {μ:Mu} {σ:Env} {w:World} {D:List Deferred} {n0:Nat} (S:Sim (CC P) P μ h w) (hE:EnvR μ σA σ) (M:Mk μ w n0 D) (hn:n0 <= w.heap.size) :
  CK none N P (.rangeFunc g' ps asg' body') (PostX P μ h.fl w n0 none D e σA' h') D σ w:=by
 simp only [wDV,nA] at hc
 obtain ⟨c1,c2,c3,c4⟩:=hc
 obtain ⟨p,rfl⟩:∃ p:List Nat,ps=p.toArray:=⟨ps.toList,by simp⟩
 ·obtain ⟨ht,c6⟩:=wIF (by simpa using c2)
  unfold sRf at hr
  split at hr
  ·rename_i f fi ca hg
   have hx:=wAD c1 hE
   rw [hg] at hx
   obtain ⟨fv,cv,g1,g2,g3⟩:=hx
   split at hr <;> first | (cases hr;done) | skip
   rename_i rv h2 hcall
   obtain ⟨hcf,hgv⟩:=HC _ _ _ _ _ hcall
   refine CK.rangeFunc (t:=p) g3 hcf fun fn l rb w1 e1 e2 hl hd K hs=>?_
   subst e1 e2
   have hle:=Mu.add_le (c:=(⟨w.heap.size + 1,0,⟨N,σ,p,asg',body',w.heap.size,fn⟩⟩:Cl)) (S.nx h.nx (nE _))
   obtain ⟨s1,s2,s3,s4⟩:=S.push (w':=w1) (c:=⟨w.heap.size + 1,0,⟨N,σ,p,asg',body',w.heap.size,fn⟩⟩) (B:=.loop σA t asg body .ready) K (Nat.le_succ _) (by show w.heap.size + 1 < _;omega) ⟨hl,hE.mono hle,ht,c6,c3,c4⟩
   generalize hμ1:μ.add h.nx (⟨w.heap.size + 1,0,⟨N,σ,p,asg',body',w.heap.size,fn⟩⟩:Cl)=μ1 at *
   have M1:Mk μ1 w1 n0 (wHt w.heap.size :: D):=by
    have M':=M.ext s2
    obtain ⟨rbs,m1,m2,m3⟩:=M'
    have hold:∀ rb ∈ rbs,rb < w.heap.size:=by
     obtain ⟨rbs0,k1,k2,k3⟩:=M
     intro rb hrb
     have hmm:rbs.map wHt=rbs0.map wHt:=by rw [<- m1,<- k1]
     have hinj:rbs=rbs0:=by
      have:∀ (a b:List Nat),a.map wHt=b.map wHt->a=b:=by
       intro a
       induction a with
       | nil=>intro b hb;cases b with
        | nil=>rfl
        | cons _ _=>simp at hb
       | cons x a ih=>intro b hb;cases b with
        | nil=>simp at hb
        | cons y b =>
         simp only [List.map_cons,List.cons.injEq] at hb
         have hxy:x=y:=by have:=hb.1;simp [wHt] at this;exact this
         rw [hxy,ih b hb.2]
      exact this _ _ hmm
     exact (k3 rb (hinj ▸ hrb)).1.lt
    refine ⟨w.heap.size :: rbs,by rw [List.map_cons,<- m1],List.nodup_cons.2 ⟨fun hm=>absurd (hold _ hm) (nj _),m2⟩,fun rb hrb=>?_⟩
    rcases nN.1 hrb with rfl | hrb
    ·refine ⟨hd,hn,fun q c hq=>?_⟩
     rw [<- hμ1] at hq
     unfold Mu.add at hq
     split at hq
     ·cases hq;show w.heap.size + 1 ≠ _;omega
     ·have:=S.lt q c hq;omega
    ·exact m3 rb hrb
   have G:=hgv μ1 w1 (fv ++ (.func (.yield (w.heap.size + 1)) #[] #[] :: cv)) s1 (wCK (g1.mono s2.mono) (wAb ⟨_,s4,rfl⟩ (g2.mono s2.mono)))
   rw [nI]
   refine G.mono ?_
   rintro v3 w3 ⟨μ3,q1,q2,q3,q4⟩
   rw [s3] at q1 q4
   have E13:=s2.trans q1
   have hc3:=q1.mono _ _ s4
   have fin:∀ {B:AB} {h3:AH} (w4:World),h2.m.get h.nx=some B->wIf B->h2.put h.nx .dead=some h3->Keep w3 w4 (·=w.heap.size + 1)->w4.heap.size=w3.heap.size->∃ μ',Ext μ h.fl.nat w μ' w4/\Sim (CC P) P μ' h3 w4/\EnvR μ' σA σ/\Mk μ' w4 n0 (wHt w.heap.size :: D)/\h3.fl=h.fl:=by
    intro B h3 w4 hB hlv hput K4 _
    obtain ⟨v1,v2,v3⟩:=q2.put hput hB hlv hc3 K4 (B':=.dead) trivial
    rw [q4] at v2 v3
    exact ⟨μ3,E13.trans v2,v1,hE.mono E13.mono,(M1.ext q1).ext v2,v3⟩
   split at hr
   ·rename_i sx tx ax bx hB
    split at hr <;> first | (cases hr;done) | skip
    rename_i h3 hput
    cases hr
    obtain ⟨c',u1,u2⟩:=q2.at_ _ _ hB
    rw [hc3] at u1;cases u1
    have L3:wIe (CC P) μ3 w3 ⟨w.heap.size + 1,0,⟨N,σ,p,asg',body',w.heap.size,fn⟩⟩ sx tx ax bx .ready:=u2
    refine .inl ⟨L3.at_,fun w4 K4 hs4=>?_⟩
    obtain ⟨μ',a1,a2,a3,a4,a5⟩:=fin w4 hB trivial hput K4 hs4
    exact ⟨rfl,μ',a1,a2,a3,a4,a5,fun hq=>by cases hq⟩
   ·rename_i sx tx ax bx ee hB
    split at hr <;> first | (cases hr;done) | skip
    rename_i h3 hput
    cases hr
    obtain ⟨c',u1,u2⟩:=q2.at_ _ _ hB
    rw [hc3] at u1;cases u1
    have L3:wIe (CC P) μ3 w3 ⟨w.heap.size + 1,0,⟨N,σ,p,asg',body',w.heap.size,fn⟩⟩ sx tx ax bx (.done e):=u2
    cases e with
    | nrm =>
     refine .inl ⟨L3.at_,fun w4 K4 hs4=>?_⟩
     obtain ⟨μ',a1,a2,a3,a4,a5⟩:=fin w4 hB trivial hput K4 hs4
     exact ⟨rfl,μ',a1,a2,a3,a4,a5,fun hq=>by cases hq⟩
    | ret =>
     refine .inr ⟨.ret,.inl rfl,L3.at_,fun w4 K4 hs4=>?_⟩
     obtain ⟨μ',a1,a2,a3,a4,a5⟩:=fin w4 hB trivial hput K4 hs4
     exact ⟨rfl,μ',a1,a2,a3,a4,a5,fun hq=>by cases hq⟩
    | exit i =>
     refine .inr ⟨.exit i,.inr ⟨i,rfl⟩,L3.at_,fun w4 K4 hs4=>?_⟩
     obtain ⟨μ',a1,a2,a3,a4,a5⟩:=fin w4 hB trivial hput K4 hs4
     exact ⟨rfl,μ',a1,a2,a3,a4,a5,fun hq=>by cases hq⟩
   ·cases hr
  ·cases hr
theorem CK.ofRounds {rr:Option Nat} {N:Nat} {c:Code} {Q:wBq} {D:List Deferred} {σ:Env} {w:World} (m:Nat) (hh:∀ a,Rep N D a σ->Code.roundsIn (WF rr) 0 P c (wFa N Q) m a w):CK rr N P (.loop c) Q D σ w :=
 fun a ha=>wpIn_loop_rounds m (hh a ha)
theorem wOd {exR:Run} {r:Bool} (HE:wGj P exR r) {a b:AC} {σA σA':Tr AV} {h h':AH} {e:Ex} (hr:wNz a b exR σA h=some (e,σA',h')) {c d:Code} {N:Nat} (hc1:wDV P N a c=true) (hc2:wDV P N b d=true)
  {rr:Option Nat} {μ:Mu} {σ:Env} {w:World} {D:List Deferred} {n0:Nat} (hrr:rr.isSome=r) (S:Sim (CC P) P μ h w) (hE:EnvR μ σA σ) (M:Mk μ w n0 D) (hn:n0 <= w.heap.size):CK rr N P (.seq c d) (PostX P μ h.fl w n0 rr D e σA' h') D σ w:=by
 obtain ⟨⟨e1,σ1,h1⟩,ha,hb⟩:=wNk hr
 rw [wHb] at hb
 refine CK.seq ((HE _ _ _ _ _ _ ha c N hc1 rr μ σ w D n0 hrr S hE M hn).mono ?_)
 intro D' e' σ' w' hp
 obtain ⟨rfl,μ1,q1,q2,q3,q4,q5,q6⟩:=hp
 cases e1 with
 | nrm =>
  refine (HE _ _ _ _ _ _ hb d N hc2 rr μ1 σ' w' D' n0 hrr q2 q3 q4 (nZ hn q1.keep.size)).mono ?_
  intro D'' e'' σ'' w'' hp
  rw [q5] at hp
  exact PostX.trans q1 q6 hp
 | ret=>cases hb;exact ⟨rfl,μ1,q1,q2,q3,q4,q5,q6⟩
 | exit i=>cases hb;exact ⟨rfl,μ1,q1,q2,q3,q4,q5,q6⟩
theorem wNT {exR:Run} {r:Bool} {m:Nat} (HE:wGj P exR r) (HL:wKR P exR r m) {a:AC} {σA σA':Tr AV} {h h':AH} {e:Ex} (hr:wJm a exR σA h=some (e,σA',h')) {c:Code} {N:Nat} (hc:wDV P N a c=true)
  {rr:Option Nat} {μ:Mu} {σ:Env} {w:World} {D:List Deferred} {n0:Nat} (hrr:rr.isSome=r) (S:Sim (CC P) P μ h w) (hE:EnvR μ σA σ) (M:Mk μ w n0 D) (hn:n0 <= w.heap.size):∀ act,Rep N D act σ->Code.roundsIn (WF rr) 0 P c (wFa N (PostX P μ h.fl w n0 rr D e σA' h')) (m + 1) act w:=by
 obtain ⟨⟨e1,σ1,h1⟩,ha,hb⟩:=wNk hr
 rw [wHb] at hb
 intro act hact
 rw [roundsIn_succ]
 refine wpIn_mono (HE _ _ _ _ _ _ ha c N hc rr μ σ w D n0 hrr S hE M hn act hact) ?_
 rintro e' act' w' ⟨σ',D',hrep,hp⟩
 obtain ⟨rfl,μ1,q1,q2,q3,q4,q5,q6⟩:=hp
 cases e1 with
 | nrm =>
  refine wEs ?_ m act' w' (HL _ _ _ _ _ _ hb c N hc rr μ1 σ' w' D' n0 hrr q2 q3 q4 (nZ hn q1.keep.size) act' hrep)
  rintro e'' act'' w'' ⟨σ'',D'',hrep',hp⟩
  rw [q5] at hp
  exact ⟨σ'',D'',hrep',PostX.trans q1 q6 hp⟩
 | ret=>cases hb;exact ⟨σ',D',hrep,rfl,μ1,q1,q2,q3,q4,q5,q6⟩
 | exit i=>cases hb;exact ⟨σ',D',hrep,rfl,μ1,q1,q2,q3,q4,q5,q6⟩
theorem wNU (hm:P.follows .mixedOrders=true) (T:wIm P tb):∀ (n:Nat) (r:Bool),wGj P (exec tb n r) r/\wKR P (exec tb n r) r n:=by
 intro n
 induction n with
 | zero=>intro r;exact ⟨fun c σA h e σA' h' hr=>(by cases hr),fun c σA h e σA' h' hr=>(by cases hr)⟩
 | succ n ih =>
  intro r
  have HC:=wKS T (ih false).1
  have HY:=wLh (P:=P) (ih true).1
  obtain ⟨HE,HL⟩:=ih r
  have loop:wKR P (exec tb (n + 1) r) r (n + 1):=by
   intro c σA h e σA' h' hr code N hc rr μ σ w D n0 hrr S hE M hn
   have hr:wJm c (exec tb n r) σA h=some (e,σA',h'):=hr
   exact wNT HE HL hr hc hrr S hE M hn
  refine ⟨?_,loop⟩
  intro c σA h e σA' h' hr code N hc rr μ σ w D n0 hrr S hE M hn
  rw [wGa] at hr
  cases c with
  | skip =>
   have hr:sNrm σA h=some (e,σA',h'):=hr
   cases hr
   have fin:PostX P μ h.fl w n0 rr D .nrm σA h D .normal σ w:=⟨rfl,μ,Ext.refl μ _ w,S,hE,M,rfl,fun _=>rfl⟩
   cases code <;> simp only [wDV,nD] at hc
   ·exact CK.skip fin
   ·exact CK.label fin
  | rg os =>
   have hr:sRg os tb (exec tb n false) (exec tb n true) (exec tb n r) σA h=some (e,σA',h'):=hr
   unfold sRg at hr
   have:∃ y,wAL tb (exec tb n false) (exec tb n true) os σA h=some y/\some (Ex.nrm,y.1,y.2)=some (e,σA',h'):=by
    cases hq:wAL tb (exec tb n false) (exec tb n true) os σA h with
    | none=>rw [hq] at hr;cases hr
    | some y=>rw [hq] at hr;exact ⟨y,rfl,hr⟩
   obtain ⟨y,h1,h2⟩:=this
   cases h2
   cases code <;> simp only [wDV,nD] at hc
   exact wKd hm HC HY (wDG tb n false) (wDG tb n true) h1 hc S hE M
  | seq a b =>
   have hr:wNz a b (exec tb n r) σA h=some (e,σA',h'):=hr
   cases code <;> simp only [wDV,nD,nA] at hc
   exact wOd HE hr hc.1 hc.2 hrr S hE M hn
  | cond x a b =>
   have hr:wJl x a b (exec tb n r) σA h=some (e,σA',h'):=hr
   cases code <;> simp only [wDV,nD,nA] at hc
   have hx:=wAD hc.1 hE
   unfold wJl at hr
   split at hr
   ·rename_i hb;rw [hb] at hx
    exact CK.condT hx (HE _ _ _ _ _ _ hr _ N hc.2.1 rr μ σ w D n0 hrr S hE M hn)
   ·rename_i hb;rw [hb] at hx
    exact CK.condF hx (HE _ _ _ _ _ _ hr _ N hc.2.2 rr μ σ w D n0 hrr S hE M hn)
   ·cases hr
  | block i a =>
   have hr:wHs i a (exec tb n r) σA h=some (e,σA',h'):=hr
   cases code <;> simp only [wDV,nD,nA] at hc
   rename_i j code
   have hij:=nL hc.1
   subst hij
   obtain ⟨⟨e1,σ1,h1⟩,ha,hb⟩:=wNk hr
   refine CK.block ((HE _ _ _ _ _ _ ha code N hc.2 rr μ σ w D n0 hrr S hE M hn).mono ?_)
   rintro D' e' σ' w' ⟨rfl,μ1,q1,q2,q3,q4,q5,q6⟩
   cases e1 with
   | nrm=>cases hb;exact ⟨rfl,μ1,q1,q2,q3,q4,q5,q6⟩
   | ret=>cases hb;exact ⟨rfl,μ1,q1,q2,q3,q4,q5,q6⟩
   | exit k =>
    have hb:Bool.rec (motive:=fun _=>R) (some (.exit k,σ1,h1)) (some (.nrm,σ1,h1)) (Nat.beq k i)=some (e,σA',h'):=hb
    cases hk:Nat.beq k i with
    | true =>
     rw [hk] at hb;cases hb
     have:=nL hk
     subst this
     exact wFc ⟨rfl,μ1,q1,q2,q3,q4,q5,q6⟩
    | false =>
     rw [hk] at hb;cases hb
     exact wLU ⟨rfl,μ1,q1,q2,q3,q4,q5,q6⟩ hk
  | loop a =>
   have hr':exec tb (n + 1) r (.loop a) σA h=some (e,σA',h'):=hr
   cases code <;> simp only [wDV,nD] at hc
   exact CK.ofRounds (n + 1) (loop _ _ _ _ _ _ hr' _ N hc rr μ σ w D n0 hrr S hE M hn)
  | rf g t asg body =>
   have hr:sRf (!r) g t asg body tb (exec tb n false) σA h=some (e,σA',h'):=hr
   cases r with
   | true=>unfold sRf at hr;simp at hr
   | false =>
    have hnone:rr=none:=by cases rr <;> first | rfl | cases hrr
    subst hnone
    cases code <;> first | (simp only [wDV,nD] at hc;done) | skip
    exact wLk HC hc hr S hE M hn
  | exit i =>
   have hr:some (Ex.exit i,σA,h)=some (e,σA',h'):=hr
   cases hr
   cases code <;> simp only [wDV,nD] at hc
   have:=nL hc
   subst this
   exact CK.exit ⟨rfl,μ,Ext.refl μ _ w,S,hE,M,rfl,fun _=>rfl⟩
  | scope a =>
   have hr:exec tb n r a σA h=some (e,σA',h'):=hr
   cases code <;> simp only [wDV,nD] at hc
   refine CK.scope ((HE _ _ _ _ _ _ hr _ N hc rr μ σ w D n0 hrr S hE M hn).mono ?_)
   rintro D' e' σ' w' ⟨rfl,q⟩
   cases e with
   | nrm=>exact ⟨rfl,q⟩
   | ret=>exact ⟨rfl,q⟩
   | exit k=>exact ⟨rfl,q⟩
  | ret =>
   have hr:some (Ex.ret,σA,h)=some (e,σA',h'):=hr
   cases hr
   cases code <;> simp only [wDV,nD] at hc
   exact CK.ret ⟨rfl,μ,Ext.refl μ _ w,S,hE,M,rfl,fun _=>rfl⟩
  | rl os =>
   have hr:sRl os tb (exec tb n false) (exec tb n true) σA h=some (e,σA',h'):=hr
   rw [wMH] at hr
   split at hr
   ·rename_i y hq
    cases hr
    obtain ⟨g1,g2⟩:=wHZ _ _ _ _ hq
    cases code <;> simp only [wDV,nD,nA,nQ] at hc
    rename_i id ops draw
    obtain ⟨rfl,c1,c2⟩:=hc
    have hop:ops=ops.toList.toArray:=by simp
    rw [hop]
    exact CK.lazy hm HC HY (wDG tb n false) (wDG tb n true) (wKQ c1 c2) g2 g1 S hE fun μ' w' σ' q1 q2 q3 q4=>⟨rfl,μ',q1,q2,q3,M.ext q1,q4,fun _=>rfl⟩
   ·cases hr
theorem Sim.empty (C:Chk) (P:Program) (w:World):Sim C P (fun _=>none) ⟨.e,.H,.H⟩ w :=
 ⟨fun _ _=>rfl,fun _ _ h=>(by cases h),fun _ _ _ _ _ _ h=>(by rw [Tr.get_e] at h;cases h),fun _ _ h=>(by rw [Tr.get_e] at h;cases h)⟩
theorem wIp (hm:P.follows .mixedOrders=true) (T:wIm P tb) (n:Nat) (f:Pos) (args:List AV) (vs:List Value) (v:AV) (h:AH) (hv:∀ μ,RvL μ args vs) (hr:wGX tb (exec tb n false) f args ⟨.e,.H,.H⟩=some (v,h)) (w:World) :
  Gv P (f.nat - 1) vs w fun cv w'=>∃ μ,Rv μ v cv/\Keep w w' Non:=by
 obtain ⟨_,hg⟩:=wKS T (wNU hm T n false).1 f args _ v h hr
 refine (hg _ w vs (Sim.empty _ _ w) (hv _)).mono ?_
 rintro cv w' ⟨μ',h1,h2,h3,_⟩
 exact ⟨μ',h3,h1.keep.weak fun i _ ⟨p,d,hp,_⟩=>by cases hp⟩
noncomputable def okB (tb:Tr AF) (n:Nat) (f:Pos) (b:Bool):Bool:=match wGX tb (exec tb n false) f [] ⟨.e,.H,.H⟩ with
 | some (.bool b',_)=>b' == b
 | _=>false
theorem wLl (hm:P.follows .mixedOrders=true) (T:wIm P tb) (n:Nat) (f:Pos) (k:Nat) (hk:f.nat=k + 1) (b:Bool) (hr:okB tb n f b=true) (w:World):Gv P k [] w fun cv w'=>cv=.bool b/\Keep w w' Non:=by
 unfold okB at hr
 split at hr
 ·rename_i b' h hq
  have hb:=eq_of_beq hr
  subst hb
  have:=wIp hm T n f [] [] _ h (fun _=>rfl) hq w
  rw [hk] at this
  refine this.mono ?_
  rintro cv w' ⟨μ,h1,h2⟩
  exact ⟨h1,h2⟩
 ·cases hr
def wKe (f:Nat->AF->Prop):Tr AF->(Nat->Nat)->Prop
 | .e,_=>True
 | .n l v r,g=>(match v with | none=>True | some a=>f (g 1) a)/\wKe f l (fun n=>g (2 * n))/\wKe f r (fun n=>g (2 * n + 1))
theorem wEw {f:Nat->AF->Prop}:∀ {t:Tr AF} {g:Nat->Nat},wKe f t g->∀ p a,t.get p=some a->f (g p.nat) a
 | .e,g,_,p,a,hq=>by rw [Tr.get_e] at hq;cases hq
 | .n l v r,g,⟨h1,h2,h3⟩,.H,a,hq=>by
  rw [Tr.get_H] at hq;subst hq;exact h1
 | .n l v r,g,⟨h1,h2,h3⟩,.O p,a,hq=>wEw h2 p a hq
 | .n l v r,g,⟨h1,h2,h3⟩,.I p,a,hq=>wEw h3 p a hq
theorem wOe (h:wKe (fun n a=>chkF P (n - 1) a=true) tb fun n=>n):wIm P tb:=fun p af hq=>wEw h p af hq
end
end Go.KX
namespace Go.KL
variable {S S' B B' α:Type}
theorem wIK {body:Nat->S->Option (S ⊕ B)} (I:Nat->S->Prop) (Z:B->Prop):∀ (m k:Nat) (s:S),I k s ->
  (∀ i s,k <= i->i < k + m->I i s->(∃ s',body i s=some (.inl s')/\I (i + 1) s') \/ ∃ b,body i s=some (.inr b)/\Z b) ->
  (∃ s',forN body m k s=some (.inl s')/\I (k + m) s') \/ ∃ b,forN body m k s=some (.inr b)/\Z b
 | 0,k,s,h,_=>.inl ⟨s,rfl,h⟩
 | m + 1,k,s,h,hb=>by
  simp only [forN]
  rcases hb k s (nE _) (by omega) h with ⟨s',h1,h2⟩ | ⟨b,h1,h2⟩
  ·rw [h1]
   have:=wIK I Z m (k + 1) s' h2 fun i s h2 h3 h4=>hb i s (by omega) (by omega) h4
   rwa [show k + 1 + m=k + (m + 1) from by omega] at this
  ·rw [h1];exact .inr ⟨b,rfl,h2⟩
theorem wGk {body:Nat->S->Option S} (I:Nat->S->Prop):∀ (m k:Nat) (s:S),I k s ->
  (∀ i s,k <= i->i < k + m->I i s->∃ s',body i s=some s'/\I (i + 1) s')->∃ s',forN' body m k s=some s'/\I (k + m) s'
 | 0,k,s,h,_=>⟨s,rfl,h⟩
 | m + 1,k,s,h,hb=>by
  simp only [forN']
  obtain ⟨s',h1,h2⟩:=hb k s (nE _) (by omega) h
  rw [h1]
  have:=wGk I m (k + 1) s' h2 fun i s h2 h3 h4=>hb i s (by omega) (by omega) h4
  rwa [show k + 1 + m=k + (m + 1) from by omega] at this
theorem wCF {body:Nat->S->Option (S ⊕ B)} {n:Nat} {s:S} (hn:n <= 9223372036854775807):wEG 0 (n:Int) body s=forN body n 0 s:=by
 unfold wEG
 rw [if_pos (by omega),show ((n:Int) - 0).toNat=n from by omega]
theorem wDo {body:Nat->S->Option S} {n:Nat} {s:S} (hn:n <= 9223372036854775807):wCm 0 (n:Int) body s=forN' body n 0 s:=by
 unfold wCm
 rw [if_pos (by omega),show ((n:Int) - 0).toNat=n from by omega]
def first (p:α->Bool):List α->Nat->Int
 | [],_=>-1
 | a :: l,k=>if p a then (k:Int) else first p l (k + 1)
theorem wIs {R:Type} {l:List α} {f:α->Option Bool} {p:α->Bool} (hf:∀ a ∈ l,f a=some (p a)) (hn:l.length <= 9223372036854775807) (z:Int->R) :
  (jn (wEG 0 (↑l.length:Int) (fun k2 (_:Unit)=>(idx l (↑k2:Int)).bind fun x=>(f x).bind fun y=>if y=true then esc (some (z (↑k2:Int))) else some (.inl ())) ()) fun _=>some (z (-1)))=some (z (first p l 0)):=by
 rw [wCF hn]
 have key:∀ (m k:Nat),k + m=l.length->(jn (forN (fun k2 (_:Unit)=>(idx l (↑k2:Int)).bind fun x=>(f x).bind fun y=>if y=true then esc (some (z (↑k2:Int))) else some (.inl ())) m k ()) fun _=>some (z (-1)))=some (z (first p (l.drop k) k)):=by
  intro m
  induction m with
  | zero=>intro k hk;rw [nV (by omega)];rfl
  | succ m ih =>
   intro k hk
   have hlt:k < l.length:=by omega
   rw [nO hlt,first,forN,wFf,nH hlt]
   simp only [hH,hf _ (na hlt)]
   by_cases h:p l[k]=true
   ·simp [h]
   ·simp only [h,if_false,nD]
    exact ih (k + 1) (by omega)
 exact key l.length 0 (by omega)
theorem wLm {R:Type} {l:List α} {g:α->Option (Unit ⊕ R)} {p:α->Bool} {z:R} {K:Unit->Option R} (hg:∀ a ∈ l,g a=if p a=true then some (.inl ()) else some (.inr z)) (hn:l.length <= 9223372036854775807) :
  jn (wEG 0 (↑l.length:Int) (fun k (_:Unit)=>(idx l (↑k:Int)).bind g) ()) K=if l.all p=true then K () else some z:=by
 rw [wCF hn]
 have key:∀ (m k:Nat),k + m=l.length->jn (forN (fun k (_:Unit)=>(idx l (↑k:Int)).bind g) m k ()) K=if (l.drop k).all p=true then K () else some z:=by
  intro m
  induction m with
  | zero=>intro k hk;rw [nV (by omega)];rfl
  | succ m ih =>
   intro k hk
   have hlt:k < l.length:=by omega
   have e:l.drop k=l[k] :: l.drop (k + 1):=nO hlt
   rw [e,List.all_cons,forN,wFf,nH hlt]
   simp only [hH,hg _ (na hlt)]
   by_cases h:p l[k]=true
   ·rw [h]
    simp only [if_true,nk]
    exact ih (k + 1) (by omega)
   ·rw [if_neg h]
    have:p l[k]=false:=by simpa using h
    simp only [this,Bool.false_and,wGx,nD,if_false]
 exact key l.length 0 (by omega)
theorem wLn {β:Type} {l:List α} {f:α->β} {bytes:Nat} {g:α->List β->Option (List β)} (hg:∀ a ∈ l,∀ r,g a r=app bytes r [f a]) (hn:l.length <= 9223372036854775807) (hb:l.length * bytes <= 140737488355328) :
  wCm 0 (↑l.length:Int) (fun k r=>(idx l (↑k:Int)).bind fun x=>g x r) []=some (l.map f):=by
 rw [wDo hn]
 have key:∀ (m k:Nat) (r:List β),k + m=l.length->r.length=k->forN' (fun k r=>(idx l (↑k:Int)).bind fun x=>g x r) m k r=some (r ++ (l.drop k).map f):=by
  intro m
  induction m with
  | zero=>intro k r hk _;rw [nV (by omega)];simp [forN']
  | succ m ih =>
   intro k r hk hr
   have hlt:k < l.length:=by omega
   have e:l.drop k=l[k] :: l.drop (k + 1):=nO hlt
   rw [e,forN',wFf,nH hlt]
   have ha:app bytes r [f l[k]]=some (r ++ [f l[k]]):=by
    refine if_pos ?_
    simp only [List.length_cons,List.length_nil]
    exact nZ (Nat.mul_le_mul_right _ (by omega)) hb
   simp only [hH,hg _ (na hlt),ha]
   rw [ih (k + 1) _ (by omega) (by simp [hr]),nI]
   rfl
 exact key l.length 0 [] (by omega) rfl
theorem wEz {bytes:Nat} {l m:List α} (h:(l.length + m.length) * bytes <= 140737488355328):app bytes l m=some (l ++ m):=if_pos h
end Go.KL
namespace Go.KL
variable {S B R α β:Type}
theorem wIL {body:Nat->S->Option (S ⊕ B)} (s:Nat->S):∀ (m k:Nat),(∀ i,k <= i->i < k + m->body i (s i)=some (.inl (s (i + 1))))->forN body m k (s k)=some (.inl (s (k + m)))
 | 0,_,_=>rfl
 | m + 1,k,h=>by
  rw [forN,h k (nE _) (by omega)]
  have:=wIL s m (k + 1) fun i h1 h2=>h i (by omega) (by omega)
  rw [show k + 1 + m=k + (m + 1) by omega] at this
  exact this
theorem wGl {body:Nat->S->Option S} (s:Nat->S):∀ (m k:Nat),(∀ i,k <= i->i < k + m->body i (s i)=some (s (i + 1)))->forN' body m k (s k)=some (s (k + m))
 | 0,_,_=>rfl
 | m + 1,k,h=>by
  rw [forN',h k (nE _) (by omega)]
  have:=wGl s m (k + 1) fun i h1 h2=>h i (by omega) (by omega)
  rw [show k + 1 + m=k + (m + 1) by omega] at this
  exact this
theorem wKh {body:Nat->S->Option S} {n:Nat} {s0:S} (s:Nat->S) (h0:s 0=s0) (hn:n <= 9223372036854775807) (h:∀ i,i < n->body i (s i)=some (s (i + 1))):wCm 0 (n:Int) body s0=some (s n):=by
 rw [wDo hn,<- h0]
 have:=wGl s n 0 fun i _ hi=>h i (by omega)
 rwa [np] at this
theorem wLo {body:Nat->S->Option (S ⊕ B)} {n:Nat} {s0:S} (s:Nat->S) (h0:s 0=s0) (hn:n <= 9223372036854775807) (h:∀ i,i < n->body i (s i)=some (.inl (s (i + 1)))):wEG 0 (n:Int) body s0=some (.inl (s n)):=by
 rw [wCF hn,<- h0]
 have:=wIL s n 0 fun i _ hi=>h i (by omega)
 rwa [np] at this
theorem wKi {body:Nat->Unit->Option (Unit ⊕ B)} {n:Nat} (hn:n <= 9223372036854775807) (h:∀ i,i < n->body i ()=some (.inl ())):wEG 0 (n:Int) body ()=some (.inl ()):=wLo (fun _=>()) rfl hn h
theorem wBz [Inhabited α] {l:List α} {k:Nat} (h:k < l.length):idx l (k:Int)=some (gd l k):=by
 rw [wFf]
 exact wBh h
theorem wFA [Inhabited α] {l:List α} {k:Nat} (h:k < l.length):gd l k ∈ l:=List.mem_of_getElem? (wBh h)
theorem wGA [Inhabited α] {l:List α} {k:Nat} (h:k < l.length):l.take (k + 1)=l.take k ++ [gd l k]:=by
 rw [List.take_add_one,wBh h]
 rfl
theorem wNV [Inhabited α] {l:List α} {k:Nat} (h:k < l.length):l.drop k=gd l k :: l.drop (k + 1):=by
 have:=wBh h
 rw [nH h] at this
 rw [nO h,nB this]
theorem wEN [Inhabited α] {l m:List α} {k:Nat} (h:k < l.length):gd (l ++ m) k=gd l k:=by
 have h1:=wBh (xs:=l ++ m) (k:=k) (by rw [nq];omega)
 rw [List.getElem?_append_left h,wBh h] at h1
 exact (nB h1).symm
theorem wIM [Inhabited α] (l m:List α) (x:α):gd (l ++ x :: m) l.length=x:=by
 have h1:=wBh (xs:=l ++ x :: m) (k:=l.length) (by simp)
 rw [List.getElem?_append_right (nE _),Nat.sub_self] at h1
 exact (nB h1).symm
theorem wCA [Inhabited α] [Inhabited β] (f:α->β) {l:List α} {k:Nat} (h:k < l.length):gd (l.map f) k=f (gd l k):=by
 have h1:=wBh (xs:=l.map f) (k:=k) (by simpa using h)
 rw [List.getElem?_map,wBh h] at h1
 exact (nB h1).symm
theorem wKj (o:Option α):(o.bind fun x=>some x)=o:=by cases o <;> rfl
theorem wMT [Inhabited α] {l m:List α} (h:l.length=m.length) (hk:∀ k,k < l.length->gd l k=gd m k):l=m:=by
 apply List.ext_getElem?
 intro k
 rcases no k l.length with h1 | h1
 ·rw [wBh h1,wBh (by omega),hk k h1]
 ·rw [nf h1,nf (by omega)]
end Go.KL
namespace Go.KL
variable {S B α:Type}
theorem wMU [Inhabited α] {l:List α} {i k:Nat} {x:α} (hi:i < l.length) (hk:k < l.length):gd (l.set i x) k=if k=i then x else gd l k:=by
 have h1:=wBh (xs:=l.set i x) (k:=k) (by rw [List.length_set];exact hk)
 rw [List.getElem?_set] at h1
 by_cases e:i=k
 ·subst e
  rw [if_pos rfl,if_pos hi] at h1
  rw [if_pos rfl]
  exact (nB h1).symm
 ·rw [if_neg e,wBh hk] at h1
  rw [if_neg (fun h=>e h.symm)]
  exact (nB h1).symm
theorem wGB [Inhabited α] {l:List α} {k:Nat} (h:k < l.length):gd l k=l[k]:=by
 have:=wBh h
 rw [nH h] at this
 exact (nB this).symm
end Go.KL
namespace Go.KL
def wFD (q:Nat->Bool):Nat->Nat->Bool
 | 0,_=>true
 | m + 1,k=>q k && wFD q m (k + 1)
def fnd {B:Type} (f:Nat->Option B):Nat->Nat->Option B
 | 0,_=>none
 | m + 1,k=>match f k with
  | some c=>some c
  | none=>fnd f m (k + 1)
theorem wBU (q:Nat->Bool):∀ m k,wFD q m k=true ↔ ∀ i,k <= i->i < k + m->q i=true
 | 0,k=>⟨fun _ i h1 h2=>by omega,fun _=>rfl⟩
 | m + 1,k=>by
  rw [wFD,nA,wBU q m (k + 1)]
  constructor
  ·rintro ⟨h1,h2⟩ i h3 h4
   by_cases e:i=k
   ·exact e ▸ h1
   ·exact h2 i (by omega) (by omega)
  ·exact fun h=>⟨h k (by omega) (by omega),fun i h1 h2=>h i (by omega) (by omega)⟩
theorem wMV {B:Type} (q:Nat->Bool) (c:B):∀ m k,fnd (fun i=>if q i=true then none else some c) m k=if wFD q m k=true then none else some c
 | 0,_=>rfl
 | m + 1,k=>by
  rw [fnd,wMV q c m (k + 1),wFD]
  cases q k <;> simp
def out {S B:Type} (s:S):Option B->S ⊕ B
 | none=>.inl s
 | some c=>.inr c
theorem wIN {B:Type} {body:Nat->Unit->Option (Unit ⊕ B)} {f:Nat->Option B}:∀ (m k:Nat),(∀ i,k <= i->i < k + m->body i ()=some (out () (f i)))->forN body m k ()=some (out () (fnd f m k))
 | 0,_,_=>rfl
 | m + 1,k,h=>by
  rw [forN,h k (by omega) (by omega),fnd]
  cases f k with
  | none=>exact wIN m (k + 1) fun i h1 h2=>h i (by omega) (by omega)
  | some c=>rfl
theorem wLp {B:Type} {body:Nat->Unit->Option (Unit ⊕ B)} {n:Nat} (f:Nat->Option B) (hn:n <= 1000) (h:∀ i,i < n->body i ()=some (out () (f i))):wEG 0 (n:Int) body ()=some (out () (fnd f n 0)):=by
 rw [wCF (by omega)]
 exact wIN n 0 fun i _ hi=>h i (by omega)
theorem wGC {B:Type} {body:Nat->Unit->Option (Unit ⊕ B)} {n:Nat} (q:Nat->Bool) (c:B) (hn:n <= 1000) (h:∀ i,i < n->body i ()=some (if q i=true then .inl () else .inr c)):wEG 0 (n:Int) body ()=some (if wFD q n 0=true then .inl () else .inr c):=by
 rw [wLp (fun i=>if q i=true then none else some c) hn fun i hi=>by rw [h i hi];split <;> rfl,wMV]
 split <;> rfl
end Go.KL
namespace Go.Proofs.YthbficbpebiekaaGreat
open Go.KL
theorem wOm (x a b:Int):wBO x a b=some (decide (a <= x) && decide (x <= b)):=by
 unfold wBO
 by_cases h:a <= x <;> simp [h]
def okS (s:wAA):Bool:=(decide (1 <= s.Bib) && decide (s.Bib <= 999)) && ((decide (0 <= s.Time) && decide (s.Time <= 360000)) && (decide (0 <= s.Gate) && decide (s.Gate <= 60)))
theorem wKk (s:wAA):okS s=true ↔ (1 <= s.Bib/\s.Bib <= 999)/\(0 <= s.Time/\s.Time <= 360000)/\0 <= s.Gate/\s.Gate <= 60:=by
 unfold okS
 simp
theorem wKl (s:wAA):wAV s=some (okS s):=by
 unfold wAV okS
 simp only [wOm,hH]
 by_cases h:(decide (1 <= s.Bib) && decide (s.Bib <= 999))=true
 ·rw [h]
  by_cases h2:(decide (0 <= s.Time) && decide (s.Time <= 360000))=true
  ·rw [h2];simp
  ·have:(decide (0 <= s.Time) && decide (s.Time <= 360000))=false:=by simpa using h2
   rw [this];simp
 ·have:(decide (1 <= s.Bib) && decide (s.Bib <= 999))=false:=by simpa using h
  rw [this];simp
theorem wKm {l:List wAA} {f:wAA->Option Bool} {p:wAA->Bool} (hf:∀ a,f a=some (p a)) (hn:l.length <= 1000):wAR l f=some (l.all p):=by
 unfold wAR
 rw [wLm (p:=p) (z:=false) (fun a _=>by rw [hf,hH];split <;> rfl) (by omega)]
 cases l.all p <;> rfl
theorem wLq {K V:Type} [DecidableEq K] {m:List (K × V)} {x y:K} {v:V}:wFF (mput m x v) y=if y=x then some v else wFF m y:=by
 induction m with
 | nil=>simp only [mput,wFF]
 | cons p m ih =>
  obtain ⟨a,u⟩:=p
  rw [mput]
  by_cases h:x=a
  ·subst h
   rw [if_pos rfl,wFF,wFF]
   split <;> rfl
  ·rw [if_neg h,wFF,wFF,ih]
   by_cases h2:y=a
   ·rw [if_pos h2,if_neg (fun e:y=x=>h (e.symm.trans h2)),if_pos h2]
   ·rw [if_neg h2,if_neg h2]
theorem wLr {l:List Int} (hl:l.length <= 1000):wBQ l=some (!decide l.Nodup):=by
 unfold wBQ
 rw [wCF (by omega)]
 have key:∀ (m k:Nat) (t:List (Int × Bool)),k + m=l.length->(∀ n,wCu t n false=decide (n ∈ l.take k))->(l.take k).Nodup ->
   jn (forN (fun k20 l17 =>
  (idx l (↑k20:Int)).bind fun x41 =>
  if (wCu l17 x41 false)=true then
   esc (some true)
  else
   some (.inl (mput l17 x41 true))) m k t) (fun _=>some false)=some (!decide l.Nodup):=by
  intro m
  induction m with
  | zero =>
   intro k t hk _ hn
   rw [nc (by omega)] at hn
   simp [forN,hn]
  | succ m ih =>
   intro k t hk ht hn
   have hlt:k < l.length:=by omega
   rw [forN,wBz hlt,hH,ht]
   by_cases c:gd l k ∈ l.take k
   ·have:¬ l.Nodup:=fun h=>by
     rw [<- List.take_append_drop k l,wNV hlt] at h
     exact (nr.1 h).2.2 _ c _ (by simp) rfl
    simp [c,this]
   ·rw [if_neg (by simpa using c)]
    simp only
    refine ih (k + 1) _ (by omega) (fun n=>?_) ?_
    ·unfold wCu at ht ⊢
     rw [wLq,wGA hlt]
     by_cases e:n=gd l k
     ·rw [if_pos e];simp [e]
     ·rw [if_neg e,ht];simp [e]
    ·rw [wGA hlt,nr]
     exact ⟨hn,by simp,fun a ha b hb e=>by simp at hb;subst hb;subst e;exact c ha⟩
 exact key l.length 0 [] (by omega) (fun n=>by simp [wCu,wFF]) (by simp)
theorem wNW (a b:Int):wAz a b=some (decide (a < b)):=by
 unfold wAz wBC
 simp
instance ascInt (l:List Int):Decidable (∀ k,k + 1 < l.length->gd l k <= gd l (k + 1)) :=
 decidable_of_iff (∀ k,k < l.length - 1->gd l k <= gd l (k + 1)) ⟨fun h k hk=>h k (by omega),fun h k hk=>h k (by omega)⟩
theorem wKn {l:List Int} (hl:l.length <= 1000):wAU l=some (decide (∀ k,k + 1 < l.length->gd l k <= gd l (k + 1))):=by
 unfold wAU
 rw [wAa (by omega) (by omega)]
 have key:∀ (m F:Nat) (x:Int),x=(m:Int) - 1->m <= l.length->(∀ k,m <= k + 1->k + 1 < l.length->gd l k <= gd l (k + 1))->m < F->iter (fun x4 =>
  if 0 < x4 then
   (idx l x4).bind fun x21 =>
   (idx l (w64 (x4 - 1))).bind fun x29 =>
   (wAz x21 x29).bind fun x36 =>
   if x36=true then
    esc (some false)
   else
    some (.inl (w64 (x4 - 1)))
  else
   esc (some true)) F x=some (decide (∀ k,k + 1 < l.length->gd l k <= gd l (k + 1))):=by
  intro m
  induction m with
  | zero =>
   intro F x hx _ h hF
   obtain ⟨F,rfl⟩:∃ G,F=G + 1:=⟨F - 1,by omega⟩
   rw [iter,if_neg (by omega)]
   have:(∀ k,k + 1 < l.length->gd l k <= gd l (k + 1)):=fun k hk=>h k (by omega) hk
   simp only [wFg,decide_eq_true this]
  | succ m ih =>
   intro F x hx hm h hF
   obtain ⟨F,rfl⟩:∃ G,F=G + 1:=⟨F - 1,by omega⟩
   rw [iter]
   by_cases c:0 < x
   ·obtain ⟨j,rfl⟩:∃ j,m=j + 1:=⟨m - 1,by omega⟩
    have ex:x=((j + 1:Nat):Int):=by omega
    rw [if_pos c,wAa (x:=x - 1) (by omega) (by omega),show x - 1=(j:Int) by omega,ex,wBz (by omega),hH,wBz (by omega),hH,wNW,hH]
    by_cases c2:gd l (j + 1) < gd l j
    ·have:¬ (∀ k,k + 1 < l.length->gd l k <= gd l (k + 1)):=fun hh=>by have:=hh j (by omega);omega
     rw [if_pos (by simpa using c2)]
     simp only [wFg,decide_eq_false this]
    ·rw [if_neg (by simpa using c2)]
     simp only
     refine ih F _ (by omega) (by omega) (fun k h1 h2=>?_) (by omega)
     by_cases e:k=j
     ·subst e;omega
     ·exact h k (by omega) h2
   ·rw [if_neg c]
    have:(∀ k,k + 1 < l.length->gd l k <= gd l (k + 1)):=fun k hk=>h k (by omega) hk
    simp only [wFg,decide_eq_true this]
 exact key l.length big _ rfl (nE _) (fun k h1 h2=>by omega) (by unfold big;omega)
def Asc (l:List wAA):Prop:=∀ k,k + 1 < l.length->(gd l k).Time <= (gd l (k + 1)).Time
instance (l:List wAA):Decidable (Asc l) :=
 decidable_of_iff (∀ k,k < l.length - 1->(gd l k).Time <= (gd l (k + 1)).Time) ⟨fun h k hk=>h k (by omega),fun h k hk=>h k (by omega)⟩
def wNl (l:List wAA):Int:=if 60 < l.length then 2 else if l.all okS then (if (l.map (·.Bib)).Nodup then (if Asc l then 0 else 4) else 5) else 3
theorem wGm {l:List wAA} (hl:l.length <= 1000):wAs l=some (wNl l):=by
 unfold wAs
 have e:(wCm 0 (↑l.length:Int) (fun k33 (l25,l29) =>
  ((idx l (↑k33:Int)).bind fun x70 =>
  (app 8 l25 [x70.Bib]).bind fun x90 =>
  (app 8 l29 [x70.Time]).bind fun x103 =>
  some (x90,x103)).bind fun (l61,l64) =>
  some (l61,l64)) (([]:List Int),([]:List Int)))=some (l.map (·.Bib),l.map (·.Time)):=by
  have:=wKh (body:=fun (k33:Nat) ((l25,l29):List Int × List Int) =>
   ((idx l (↑k33:Int)).bind fun x70 =>
   (app 8 l25 [x70.Bib]).bind fun x90 =>
   (app 8 l29 [x70.Time]).bind fun x103 =>
   some (x90,x103)).bind fun (l61,l64) =>
   some (l61,l64)) (n:=l.length) (s0:=(([]:List Int),([]:List Int))) (fun k=>((l.take k).map (·.Bib),(l.take k).map (·.Time))) rfl (by omega) (by
    intro i hi
    simp only
    rw [wBz hi,hH,wEz (by simp;omega),hH,wEz (by simp;omega),hH,hH,wGA hi]
    simp)
  rw [List.take_length] at this
  exact this
 rw [e,hH]
 simp only
 unfold wNl
 by_cases h60:60 < l.length
 ·rw [if_pos (by omega),if_pos h60]
 rw [if_neg (by omega),if_neg h60,wKm wKl hl,hH]
 by_cases ha:l.all okS=true
 ·rw [if_pos ha,if_pos ha,wLr (by simpa using hl),hH]
  by_cases hd:(l.map (·.Bib)).Nodup
  ·rw [if_neg (by simpa using hd),if_pos hd,wKn (by simpa using hl),hH]
   have:(∀ k,k + 1 < (l.map (·.Time)).length->gd (l.map (·.Time)) k <= gd (l.map (·.Time)) (k + 1)) ↔ Asc l:=by
    unfold Asc
    rw [nK]
    constructor
    ·intro h k hk
     have:=h k hk
     rwa [wCA _ (by omega),wCA _ hk] at this
    ·intro h k hk
     rw [wCA _ (by omega),wCA _ hk]
     exact h k hk
   simp only [this]
   by_cases hs:Asc l <;> simp [hs]
  ·rw [if_pos (by simpa using hd),if_neg hd]
 ·rw [if_neg ha,if_neg ha]
def errC (l:List wAA) (c:Int):Int:=if wNl l=0 then (if 1 <= c/\c <= 6000 then 0 else 3) else wNl l
theorem wDa {l:List wAA} (hl:l.length <= 1000) (c:Int):wAg l c=some (errC l c):=by
 unfold wAg errC
 rw [wGm hl,hH]
 by_cases h:wNl l=0
 ·rw [if_pos h,if_pos h,wOm,hH,h]
  by_cases h1:1 <= c <;> by_cases h2:c <= 6000 <;> simp [h1,h2]
 ·rw [if_neg h,if_neg h]
structure wBi (l:List wAA) (c:Int):Prop where
 len:l.length <= 60
 ok:∀ s ∈ l,(1 <= s.Bib/\s.Bib <= 999)/\(0 <= s.Time/\s.Time <= 360000)/\0 <= s.Gate/\s.Gate <= 60
 one:(l.map (·.Bib)).Nodup
 asc:Asc l
 c1:1 <= c
 c2:c <= 6000
theorem wDb {l:List wAA} {c:Int}:errC l c=0 ↔ wBi l c:=by
 unfold errC wNl
 constructor
 ·intro h
  by_cases h60:60 < l.length
  ·simp [h60] at h
  by_cases ha:l.all okS=true
  ·by_cases hd:(l.map (·.Bib)).Nodup
   ·by_cases hs:Asc l
    ·simp only [h60,ha,hd,hs,if_true,if_false] at h
     by_cases hc:1 <= c/\c <= 6000
     ·exact ⟨by omega,fun s hs=>(wKk s).1 (nQ.1 ha s hs),hd,hs,hc.1,hc.2⟩
     ·simp [hc] at h
    ·simp [h60,ha,hd,hs] at h
   ·simp [h60,ha,hd] at h
  ·simp [h60,ha] at h
 ·intro G
  have ha:l.all okS=true:=nQ.2 fun s hs=>(wKk s).2 (G.ok s hs)
  have:=G.len
  rw [if_neg (show ¬ 60 < l.length by omega),if_pos ha,if_pos G.one,if_pos G.asc,if_pos rfl,if_pos ⟨G.c1,G.c2⟩]
theorem wFB {l:List wAA} (h:Asc l):∀ {j i:Nat},i <= j->j < l.length->(gd l i).Time <= (gd l j).Time
 | 0,i,h1,_=>by
  have:i=0:=by omega
  subst this;exact Int.le_refl _
 | j + 1,i,h1,h2=>by
  by_cases e:i=j + 1
  ·subst e;exact Int.le_refl _
  ·exact Int.le_trans (wFB h (show i <= j by omega) (by omega)) (h j h2)
def cl (c:Int) (a b:wAA):Prop:=a.Time - b.Time < c/\b.Time - a.Time < c
instance (c:Int) (a b:wAA):Decidable (cl c a b):=by unfold cl;exact inferInstance
theorem wGD {l:List wAA} {c:Int} (G:wBi l c) {a b:wAA} (ha:a ∈ l) (hb:b ∈ l):wAJ c a b=some (decide (cl c a b)):=by
 have h1:=G.ok a ha
 have h2:=G.ok b hb
 unfold wAJ cl
 rw [wAa (by omega) (by omega),wAa (by omega) (by omega)]
 congr 1
 exact decide_eq_decide.2 (by omega)
theorem wKo {l:List wAA} {k:Nat} (h:k < l.length):gd l k ∈ l:=wFA h
def wMW (l:List wAA) (c:Int) (k:Nat):Nat->Nat->Nat
 | 0,j=>j
 | m + 1,j=>if cl c (gd l j) (gd l k) then j else wMW l c k m (j + 1)
theorem wFC {l:List wAA} {c:Int} {k:Nat} (hk:cl c (gd l k) (gd l k)):∀ (m j:Nat),j + m=k->j <= wMW l c k m j/\wMW l c k m j <= k/\cl c (gd l (wMW l c k m j)) (gd l k)/\∀ i,j <= i->i < wMW l c k m j->¬ cl c (gd l i) (gd l k)
 | 0,j,h=>by
  obtain rfl:j=k:=by omega
  rw [wMW]
  exact ⟨nE _,nE _,hk,fun i h1 h2=>by omega⟩
 | m + 1,j,h=>by
  rw [wMW]
  by_cases c1:cl c (gd l j) (gd l k)
  ·rw [if_pos c1]
   exact ⟨nE _,by omega,c1,fun i h1 h2=>by omega⟩
  ·rw [if_neg c1]
   obtain ⟨a,b,d,e⟩:=wFC hk m (j + 1) (by omega)
   refine ⟨by omega,b,d,fun i h1 h2=>?_⟩
   by_cases e1:i=j
   ·subst e1;exact c1
   ·exact e i (by omega) h2
def fs (l:List wAA) (c:Int) (k:Nat):Nat:=wMW l c k k 0
theorem wKp {c:Int} (h:1 <= c) (a:wAA):cl c a a:=by unfold cl;omega
theorem wHe {l:List wAA} {c:Int} (G:wBi l c) {k:Nat}:fs l c k <= k:=(wFC (wKp G.c1 _) k 0 (by omega)).2.1
theorem wDz {l:List wAA} {c:Int} (G:wBi l c) {k i:Nat} (hk:k < l.length) (hi:i <= k):cl c (gd l i) (gd l k) ↔ fs l c k <= i:=by
 obtain ⟨a,b,d,e⟩:=wFC (l:=l) (wKp G.c1 (gd l k)) k 0 (by omega)
 constructor
 ·intro h
  rcases no i (fs l c k) with h1 | h1
  ·exact absurd h (e i (by omega) h1)
  ·exact h1
 ·intro h
  have h1:=wFB G.asc h (by omega)
  have h2:=wFB G.asc hi hk
  have hc:=G.c1
  have d':cl c (gd l (fs l c k)) (gd l k):=d
  unfold cl at d' ⊢
  omega
def mx (l:List wAA) (c:Int):Nat->Nat
 | 0=>0
 | k + 1=>max (mx l c k) (k + 1 - fs l c k)
theorem wLs {l:List wAA} {c:Int}:∀ {n k:Nat},k < n->k + 1 - fs l c k <= mx l c n
 | n + 1,k,h=>by
  rw [mx]
  by_cases e:k=n
  ·subst e;omega
  ·have:=wLs (l:=l) (c:=c) (n:=n) (k:=k) (by omega)
   omega
theorem wLt {l:List wAA} {c:Int} (G:wBi l c):∀ {n:Nat},n ≠ 0->∃ k,k < n/\mx l c n=k + 1 - fs l c k
 | 0,h=>absurd rfl h
 | n + 1,_=>by
  rw [mx]
  have hf:=wHe G (k:=n)
  by_cases e:mx l c n <= n + 1 - fs l c n
  ·exact ⟨n,by omega,by omega⟩
  ·have h0:n ≠ 0:=fun h=>by subst h;simp [mx] at e
   obtain ⟨k,h1,h2⟩:=wLt G h0
   exact ⟨k,by omega,by omega⟩
theorem wHf {l:List wAA} {c:Int}:∀ {n:Nat},mx l c n <= n
 | 0=>nE _
 | n + 1=>by
  rw [mx]
  have:=wHf (l:=l) (c:=c) (n:=n)
  omega
theorem wGn {l:List wAA} {c:Int} (G:wBi l c) {n:Nat} (h:n ≠ 0):0 < mx l c n:=by
 obtain ⟨k,h1,h2⟩:=wLt G h
 have:=wHe G (k:=k)
 omega
end Go.Proofs.YthbficbpebiekaaGreat
namespace Go.Proofs.YthbficbpebiekaaGreat
open Go.KL
theorem wDc {S:Type} {body:Nat->S->Option S} {n:Nat} {s0:S} (I:Nat->S->Prop) (hn:n <= 1000) (h0:I 0 s0) (h:∀ i s,i < n->I i s->∃ s',body i s=some s'/\I (i + 1) s'):∃ s,wCm 0 (n:Int) body s0=some s/\I n s:=by
 rw [wDo (by omega)]
 have:=wGk (body:=body) I n 0 s0 h0 fun i s _ h2 h3=>h i s (by omega) h3
 rwa [np] at this
theorem wGE {α:Type} [Inhabited α] {p:α->Bool}:∀ {l:List α} {j k:Nat},j < l.length->p (gd l j)=true->(∀ i,i < j->p (gd l i)=false)->first p l k=(k:Int) + j
 | [],j,k,h,_,_=>by simp at h
 | a :: l,0,k,h,h1,_=>by
  rw [first,if_pos (show p a=true from h1)];omega
 | a :: l,j + 1,k,h,h1,h2=>by
  have:=h2 0 (by omega)
  rw [first,if_neg (by rw [show p a=false from this];decide),wGE (j:=j) (by simpa using h) h1 fun i hi=>h2 (i + 1) (by omega)]
  omega
theorem wKq {α:Type} [Inhabited α] {l:List α} {n i:Nat} (h:i < n) (h2:i < l.length):gd (l.take n) i=gd l i:=by
 have h1:=wBh (xs:=l.take n) (k:=i) (by simp;omega)
 rw [List.getElem?_take_of_lt h,wBh h2] at h1
 exact (nB h1).symm
theorem gd_dr {α:Type} [Inhabited α] {l:List α} {n i:Nat} (h2:n + i < l.length):gd (l.drop n) i=gd l (n + i):=by
 have h1:=wBh (xs:=l.drop n) (k:=i) (by simp;omega)
 rw [List.getElem?_drop,wBh h2] at h1
 exact (nB h1).symm
theorem wKr {α:Type} {l:List α} {a b:Nat} (h1:a <= b) (h2:b <= l.length):cut l (a:Int) (b:Int)=some ((l.drop a).take (b - a)):=by
 unfold cut
 rw [if_pos (by omega)]
 rfl
theorem wKs {l:List wAA} {f:wAA->Option Bool} {p:wAA->Bool} (hf:∀ a ∈ l,f a=some (p a)) (hn:l.length <= 1000):wAE l f=some (first p l 0):=by
 unfold wAE
 exact wIs (p:=p) hf (by omega) id
def sg (l:List wAA) (a b:Nat):List wAA:=(l.drop a).take (b - a)
theorem wKt {l:List wAA} {a b:Nat} (h1:a <= b) (h2:b <= l.length):(sg l a b).length=b - a:=by
 unfold sg;simp;omega
theorem wNX {l:List wAA} {a b i:Nat} (h1:a + i < b) (h2:b <= l.length):gd (sg l a b) i=gd l (a + i):=by
 unfold sg
 rw [wKq (by omega) (by simp;omega),gd_dr (by omega)]
theorem wLu {l:List wAA} {c:Int} (G:wBi l c) {k:Nat} (hk:k < l.length):wAE (l.take (k + 1)) (fun x=>wAm x (fun x=>wAJ c x.1 x.2) (gd l k))=some (fs l c k:Int):=by
 have hl:=G.len
 have hf:=wHe G (k:=k)
 rw [wKs (p:=fun a=>decide (cl c a (gd l k))) (fun a ha=>by
  unfold wAm
  dsimp only
  rw [wGD G (nh ha) (wKo hk)]
  rfl) (by simp;omega)]
 congr 1
 have:=wGE (p:=fun a=>decide (cl c a (gd l k))) (l:=l.take (k + 1)) (j:=fs l c k) (k:=0) (by simp;omega) (by
  rw [wKq (by omega) (by omega)]
  simpa using (wDz G hk hf).2 (nE _)) (fun i hi=>by
  rw [wKq (by omega) (by omega)]
  have:=mt (wDz G hk (show i <= k by omega)).1 (by omega)
  simpa using this)
 rw [this];omega
theorem wGF {l:List wAA} {c:Int} (G:wBi l c):∃ s,wAx l c=some s/\s.length=mx l c l.length/\(l.length=0 \/ ∃ k,k < l.length/\s=sg l (fs l c k) (k + 1)):=by
 have hl:=G.len
 unfold wAx
 simp only [wKj]
 refine wDc (n:=l.length) (s0:=([]:List wAA)) (fun n s=>s.length=mx l c n/\(n=0 \/ ∃ k,k < n/\s=sg l (fs l c k) (k + 1))) (by omega) ⟨rfl,.inl rfl⟩ ?_
 rintro k s hk ⟨h1,h2⟩
 have hf:=wHe G (k:=k)
 have hm:=wHf (l:=l) (c:=c) (n:=k)
 rw [wBz hk,hH]
 have e0:cut l 0 (↑(k + 1):Int)=some (l.take (k + 1)):=by
  have:=wKr (l:=l) (a:=0) (b:=k + 1) (by omega) (by omega)
  simpa using this
 rw [e0,hH,wLu G hk,hH,wAa (by omega) (by omega)]
 by_cases hc:(s.length:Int) < (↑(k + 1):Int) - (fs l c k:Int)
 ·rw [if_pos hc,wKr (by omega) (by omega)]
  refine ⟨_,rfl,?_,.inr ⟨k,by omega,rfl⟩⟩
  have:=wKt (l:=l) (a:=fs l c k) (b:=k + 1) (by omega) (by omega)
  unfold sg at this
  rw [this,mx]
  omega
 ·rw [if_neg hc]
  refine ⟨s,rfl,by rw [mx,<- h1];omega,.inr ?_⟩
  rcases h2 with h2 | ⟨j,h2,h3⟩
  ·subst h2
   rw [mx] at h1
   omega
  ·exact ⟨j,by omega,h3⟩
theorem wIO {l:List wAA} {c:Int} (G:wBi l c):wAp l c=some ((mx l c l.length:Int),0):=by
 unfold wAp
 have hl:=G.len
 obtain ⟨s,e,h,_⟩:=wGF G
 rw [wDa (by omega),wDb.2 G,hH,if_pos rfl,e,hH,h]
theorem wHg {l:List wAA} (hl:l.length <= 1000):wAH l=some l:=by
 unfold wAH
 rw [wEz (by simp;omega)];rfl
def gts (l:List wAA) (m:Nat):List wAA:=l.mapIdx fun i s=>⟨s.Bib,s.Time,((i % m:Nat):Int) + 1⟩
theorem wCP {l:List wAA} {m:Nat}:(gts l m).length=l.length:=by unfold gts;simp
theorem wEA {l:List wAA} {m k:Nat} (h:k < l.length):gd (gts l m) k=⟨(gd l k).Bib,(gd l k).Time,((k % m:Nat):Int) + 1⟩:=by
 have h1:=wBh (xs:=gts l m) (k:=k) (by rw [wCP];exact h)
 unfold gts at h1
 rw [List.getElem?_mapIdx,wBh h] at h1
 exact (nB h1).symm
theorem wLv {l:List wAA} {c:Int} (G:wBi l c):wBD l c=some (gts l (mx l c l.length),0):=by
 unfold wBD
 have hl:=G.len
 obtain ⟨s,e,h,_⟩:=wGF G
 rw [wDa (by omega),wDb.2 G,hH,if_pos rfl,e,hH,wHg (by omega),hH,h]
 generalize hm:mx l c l.length=m
 obtain ⟨s',e',hs⟩:=wDc (body:=fun (k47:Nat) (l46:List wAA) =>
   (rem (↑k47:Int) (↑m:Int)).bind fun x69 =>
   (chk (↑k47:Int) l46.length).bind fun _ =>
   some (ni l46 k47 (⟨(gd l46 k47).Bib,(gd l46 k47).Time,w64 (x69 + 1)⟩:wAA))) (n:=l.length) (s0:=l)
   (fun n s=>s.length=l.length/\∀ i,i < l.length->gd s i=if i < n then gd (gts l m) i else gd l i) (by omega) ⟨rfl,fun i _=>by rw [if_neg (by omega)]⟩ (by
    rintro i s hi ⟨h1,h2⟩
    have m0:0 < m:=hm ▸ wGn G (by omega)
    have hmod:=nt i m0
    have hml:m <= l.length:=hm ▸ wHf
    rw [rem,if_neg (by omega),hH,wHq (by omega) (by omega),hH]
    have et:(i:Int).tmod (m:Int)=((i % m:Nat):Int):=by
     rw [nU (by omega)];simp
    refine ⟨_,rfl,by simpa using h1,fun j hj=>?_⟩
    rw [wMU (by omega) (by omega),et,wAa (by omega) (by omega)]
    by_cases ej:j=i
    ·subst ej
     rw [if_pos rfl,if_pos (by omega),wEA hj,h2 j hj,if_neg (by omega)]
    ·rw [if_neg ej,h2 j hj]
     by_cases c1:j < i
     ·rw [if_pos c1,if_pos (by omega)]
     ·rw [if_neg c1,if_neg (by omega)])
 rw [e',hH]
 congr 2
 refine wMT (by rw [hs.1,wCP]) fun k hk=>?_
 rw [hs.2 k (by omega),if_pos (by omega)]
theorem wKu {l:List wAA} {c:Int} (G:wBi l c):∃ s,wBE l c=some (s.map (·.Bib),0)/\s.length=mx l c l.length/\(l.length=0 \/ ∃ k,k < l.length/\s=sg l (fs l c k) (k + 1)):=by
 unfold wBE
 have hl:=G.len
 obtain ⟨s,e,h,h2⟩:=wGF G
 have:=wHf (l:=l) (c:=c) (n:=l.length)
 refine ⟨s,?_,h,h2⟩
 rw [wDa (by omega),wDb.2 G,hH,if_pos rfl,e,hH]
 rw [wLn (bytes:=8) (f:=fun x:wAA=>x.Bib) (fun a _ r=>by rw [wKj]) (by omega) (by omega),hH]
def clrP (l:List wAA) (c:Int):Prop:=(∀ i,i < l.length->∀ j,j < i->¬ ((gd l i).Gate=(gd l j).Gate/\cl c (gd l i) (gd l j)))/\∀ s ∈ l,0 < s.Gate
def wEB (l:List wAA) (c:Int) (i j:Nat):Bool:=!(decide ((gd l i).Gate=(gd l j).Gate) && decide (cl c (gd l i) (gd l j)))
def wNY (l:List wAA) (c:Int):Bool:=wFD (fun i=>wFD (wEB l c i) i 0) l.length 0 && l.all fun s=>decide (0 < s.Gate)
theorem wIP {l:List wAA} {c:Int}:wNY l c=true ↔ clrP l c:=by
 unfold wNY clrP
 rw [nA,wBU,nQ]
 constructor
 ·rintro ⟨h1,h2⟩
  refine ⟨fun i hi j hj hh=>?_,fun s hs=>by simpa using h2 s hs⟩
  have:=(wBU _ _ _).1 (h1 i (by omega) (by omega)) j (by omega) (by omega)
  unfold wEB at this
  simp [hh] at this
 ·rintro ⟨h1,h2⟩
  refine ⟨fun i _ hi=>(wBU _ _ _).2 fun j _ hj=>?_,fun s hs=>by simpa using h2 s hs⟩
  have:=h1 i (by omega) j (by omega)
  unfold wEB
  by_cases a:(gd l i).Gate=(gd l j).Gate <;> by_cases b:cl c (gd l i) (gd l j) <;> simp_all
theorem wIQ {l:List wAA} {c:Int} (G:wBi l c):wAq l c=some (wNY l c,0):=by
 unfold wAq
 have hl:=G.len
 rw [wDa (by omega),wDb.2 G,hH,if_pos rfl]
 rw [wGC (fun i=>wFD (wEB l c i) i 0) (false,0) (by omega) (fun i hi=>by
  rw [wBz hi,hH]
  have e0:cut l 0 (i:Int)=some (l.take i):=by
   have:=wKr (l:=l) (a:=0) (b:=i) (by omega) (by omega)
   simpa using this
  rw [e0,hH]
  rw [wGC (wEB l c i) (.inr (false,0)) (by simp;omega) (fun j hj=>by
   have hj':j < i:=by simp at hj;omega
   rw [wBz hj,hH,wKq hj' (by omega)]
   unfold wEB
   by_cases a:(gd l i).Gate=(gd l j).Gate
   ·rw [if_pos a,wGD G (wKo hi) (wKo (by omega)),hH]
    by_cases b:cl c (gd l i) (gd l j) <;> simp [a,b]
   ·rw [if_neg a];simp [a])]
  rw [show (l.take i).length=i by simp;omega]
  cases wFD (wEB l c i) i 0 <;> rfl)]
 rw [wKm (f:=wAt) (p:=fun s=>decide (0 < s.Gate)) (fun a=>rfl) (by omega)]
 unfold wNY
 cases wFD (fun i=>wFD (wEB l c i) i 0) l.length 0 <;> rfl
end Go.Proofs.YthbficbpebiekaaGreat
namespace Go.Proofs.YthbficbpebiekaaGreat
open Go.KL
def fb (l:List wAA) (b:Int):Int:=first (fun s=>decide (s.Bib=b)) l 0
def at_ (l:List wAA) (b:Int):wAA:=gd l (fb l b).toNat
theorem wIR {α:Type} {p:α->Bool}:∀ {l:List α} {k:Nat},first p l k=-1 \/ ((k:Int) <= first p l k/\first p l k < k + l.length)
 | [],k=>.inl rfl
 | a :: l,k=>by
  rw [first]
  split
  ·right;simp;omega
  ·rcases wIR (p:=p) (l:=l) (k:=k + 1) with h | h
   ·exact .inl h
   ·right;simp at h ⊢;omega
theorem wOn {l:List wAA} {b:Int}:fb l b=-1 \/ (0 <= fb l b/\fb l b < l.length):=by
 have:=wIR (p:=fun s:wAA=>decide (s.Bib=b)) (l:=l) (k:=0)
 unfold fb
 simpa using this
theorem wOo {l:List wAA} {b:Int} (h:0 <= fb l b):at_ l b ∈ l:=by
 have:=wOn (l:=l) (b:=b)
 exact wKo (by omega)
theorem wKv {l:List wAA} (h:(l.map (·.Bib)).Nodup) {i j:Nat} (hi:i < l.length) (hj:j < l.length) (e:(gd l i).Bib=(gd l j).Bib):i=j:=by
 have hi':i < (l.map (·.Bib)).length:=by simpa using hi
 have hj':j < (l.map (·.Bib)).length:=by simpa using hj
 have e':(l.map (·.Bib))[i]=(l.map (·.Bib))[j]:=by
  rw [nR,nR,<- wGB hi,<- wGB hj]
  exact e
 have pw:=nP.1 h
 rcases Nat.lt_trichotomy i j with c | c | c
 ·exact absurd e' (pw i j hi' hj' c)
 ·exact c
 ·exact absurd e'.symm (pw j i hj' hi' c)
theorem wOp {l:List wAA} (h:(l.map (·.Bib)).Nodup) {i:Nat} (hi:i < l.length):fb l (gd l i).Bib=i:=by
 unfold fb
 rw [wGE (j:=i) hi (by simp) (fun j hj=>by
  have:¬ (gd l j).Bib=(gd l i).Bib:=fun e=>by have:=wKv h (by omega) hi e;omega
  simpa using this)]
 omega
theorem wLw {l:List wAA} (h:(l.map (·.Bib)).Nodup) {i:Nat} (hi:i < l.length):at_ l (gd l i).Bib=gd l i:=by
 unfold at_
 rw [wOp h hi];rfl
def crQ (l:List wAA) (c:Int) (bibs:List Int) (i j:Nat):Bool:=!decide (at_ l (gd bibs j)=at_ l (gd bibs i)) && decide (cl c (at_ l (gd bibs j)) (at_ l (gd bibs i)))
def crI (l:List wAA) (c:Int) (bibs:List Int) (i:Nat):Bool:=decide (0 <= fb l (gd bibs i)) && wFD (crQ l c bibs i) i 0
def crB (l:List wAA) (c:Int) (bibs:List Int):Bool:=wFD (crI l c bibs) bibs.length 0
theorem wGo {l:List wAA} {c:Int} (G:wBi l c) (bibs:List Int) (hb:bibs.length <= 1000):wAi l c bibs=some (crB l c bibs,0):=by
 unfold wAi
 have hl:=G.len
 rw [wDa (by omega),wDb.2 G,hH,if_pos rfl]
 have key:∀ n,n <= bibs.length->wFD (crI l c bibs) n 0=true->∀ i,i < n->0 <= fb l (gd bibs i):=fun n _ h i hi=>by
  have:=(wBU _ _ _).1 h i (by omega) (by omega)
  unfold crI at this
  simp at this
  exact this.1
 have go:∀ (m k:Nat),k + m=bibs.length->wFD (crI l c bibs) k 0=true->forN (fun k30 l26 =>
   (idx bibs (↑k30:Int)).bind fun x54 =>
   (wAE l (fun x=>wAd x x54)).bind fun x79 =>
   if x79 < 0 then
    esc (some (false,(0:Int)))
   else
    jn (wEG 0 (↑l26.length:Int) (fun k97 _ =>
     (chk (↑k97:Int) l26.length).bind fun _ =>
     (idx l x79).bind fun x137 =>
     if (gd l26 k97)=x137 then
      esc (esc (some (false,0)))
     else
      (wAJ c (gd l26 k97) x137).bind fun x159 =>
      if x159=true then
       some (.inl ())
      else
       esc (esc (some (false,0)))) ()) fun _ =>
    (idx l x79).bind fun x196 =>
    (app 24 l26 [x196]).bind fun x210 =>
    some (.inl x210)) m k ((bibs.take k).map (at_ l))=some (if wFD (crI l c bibs) m k=true then .inl (bibs.map (at_ l)) else .inr (false,0)):=by
  intro m
  induction m with
  | zero =>
   intro k hk _
   rw [nc (by omega)];rfl
  | succ m ih =>
   intro k hk ha
   have hlt:k < bibs.length:=by omega
   have hfound:=key k (by omega) ha
   rw [forN,wBz hlt,hH,wKs (f:=fun x=>wAd x (gd bibs k)) (p:=fun s=>decide (s.Bib=gd bibs k)) (fun a _=>rfl) (by omega),hH,wFD]
   rw [show first (fun s:wAA=>decide (s.Bib=gd bibs k)) l 0=fb l (gd bibs k) from rfl]
   by_cases c1:fb l (gd bibs k) < 0
   ·rw [if_pos c1]
    have:crI l c bibs k=false:=by unfold crI;simp;omega
    rw [this];rfl
   ·rw [if_neg c1]
    have hfl:=wOn (l:=l) (b:=gd bibs k)
    have hix:idx l (fb l (gd bibs k))=some (at_ l (gd bibs k)):=by
     unfold idx at_
     rw [if_pos (by omega),wBh (by omega)]
    have hlen:((bibs.take k).map (at_ l)).length=k:=by simp;omega
    rw [hlen,wGC (crQ l c bibs k) (.inr (false,0)) (by omega) (fun j hj=>by
     have hg:gd ((bibs.take k).map (at_ l)) j=at_ l (gd bibs j):=by
      rw [wCA _ (by simp;omega),wKq hj (by omega)]
     rw [wHq (by omega) (by omega),hH,hix,hH,hg]
     unfold crQ
     by_cases a:at_ l (gd bibs j)=at_ l (gd bibs k)
     ·rw [if_pos a];simp [a]
     ·rw [if_neg a,wGD G (wOo (hfound j hj)) (wOo (by omega)),hH]
      by_cases b:cl c (at_ l (gd bibs j)) (at_ l (gd bibs k)) <;> simp [a,b])]
    have hI:crI l c bibs k=wFD (crQ l c bibs k) k 0:=by
     unfold crI
     rw [decide_eq_true (show 0 <= fb l (gd bibs k) by omega),nk]
    rw [hI]
    by_cases c2:wFD (crQ l c bibs k) k 0=true
    ·rw [if_pos c2,wCt,hix,hH,wEz (by simp;omega),hH,c2,nk]
     have e:(bibs.take k).map (at_ l) ++ [at_ l (gd bibs k)]=(bibs.take (k + 1)).map (at_ l):=by
      rw [wGA hlt];simp
     simp only
     rw [e]
     refine ih (k + 1) (by omega) ((wBU _ _ _).2 fun i h1 h2=>?_)
     by_cases ei:i=k
     ·subst ei;rw [hI,c2]
     ·exact (wBU _ _ _).1 ha i (by omega) (by omega)
    ·have:wFD (crQ l c bibs k) k 0=false:=by simpa using c2
     rw [this];rfl
 rw [wCF (by omega)]
 have:=go bibs.length 0 (by omega) rfl
 simp only [List.take_zero,List.map_nil] at this
 rw [this]
 unfold crB
 cases wFD (crI l c bibs) bibs.length 0 <;> rfl
theorem pig:∀ (m:Nat) (l:List Int),l.Nodup->(∀ x ∈ l,1 <= x/\x <= m)->l.length <= m
 | 0,l,_,h=>by
  cases l with
  | nil=>exact nE _
  | cons a l=>have:=h a (by simp);omega
 | m + 1,l,hn,h=>by
  have h1:=pig m (l.erase ((m:Int) + 1)) (hn.erase _) (fun x hx=>by
   have:=(List.Nodup.mem_erase_iff hn).1 hx
   have:=h x this.2
   omega)
  have:=List.length_erase (a:=(m:Int) + 1) (l:=l)
  split at this <;> omega
end Go.Proofs.YthbficbpebiekaaGreat
namespace Go.Proofs.YthbficbpebiekaaGreat
open Go.KL
theorem wGp {α:Type} [Inhabited α] {l:List α} {a:α} (h:a ∈ l):∃ i,i < l.length/\gd l i=a:=by
 obtain ⟨i,hi,e⟩:=List.getElem_of_mem h
 exact ⟨i,hi,by rw [wGB hi,e]⟩
structure wOq (l l':List wAA):Prop where
 len:l'.length=l.length
 bib:∀ i,i < l.length->(gd l' i).Bib=(gd l i).Bib
 time:∀ i,i < l.length->(gd l' i).Time=(gd l i).Time
theorem wGq {l l':List wAA} {c:Int} (G:wBi l c) (S:wOq l l') (hg:∀ s ∈ l',0 <= s.Gate/\s.Gate <= 60):wBi l' c:=by
 have e:l'.map (·.Bib)=l.map (·.Bib):=wMT (by simp [S.len]) fun k hk=>by
  have hk':k < l.length:=by simp [S.len] at hk;exact hk
  rw [wCA _ (by rw [S.len];exact hk'),wCA _ hk',S.bib k hk']
 refine ⟨by rw [S.len];exact G.len,fun s hs=>?_,by rw [e];exact G.one,fun k hk=>?_,G.c1,G.c2⟩
 ·obtain ⟨i,hi,e⟩:=wGp hs
  have hi':i < l.length:=by rw [<- S.len];exact hi
  have:=G.ok _ (wKo hi')
  have e1:=S.bib i hi'
  have e2:=S.time i hi'
  rw [e] at e1 e2
  exact ⟨by rw [e1];exact this.1,by rw [e2];exact this.2.1,hg s hs⟩
 ·rw [S.len] at hk
  rw [S.time k (by omega),S.time (k + 1) hk]
  exact G.asc k hk
theorem wKw {l l':List wAA} (S:wOq l l') {c:Int} {i j:Nat} (hi:i < l.length) (hj:j < l.length):cl c (gd l' i) (gd l' j) ↔ cl c (gd l i) (gd l j):=by
 unfold cl
 rw [S.time i hi,S.time j hj]
theorem wIS {l:List wAA} {m:Nat}:wOq l (gts l m):=⟨wCP,fun i hi=>by rw [wEA hi],fun i hi=>by rw [wEA hi]⟩
theorem wLx {l:List wAA} {c:Int} (G:wBi l c):wBi (gts l (mx l c l.length)) c:=by
 refine wGq G wIS fun s hs=>?_
 obtain ⟨i,hi,e⟩:=wGp hs
 rw [wCP] at hi
 rw [wEA hi] at e
 have hm:=wGn G (n:=l.length) (by omega)
 have:=nt i hm
 have:=wHf (l:=l) (c:=c) (n:=l.length)
 have:=G.len
 subst e
 simp only
 omega
theorem wNZ {i j m:Nat} (h:j < i) (e:i % m=j % m):m <= i - j:=by
 have h1:=Nat.div_add_mod i m
 have h2:=Nat.div_add_mod j m
 have h3:m * (j / m) < m * (i / m):=by omega
 have h4:=Nat.lt_of_mul_lt_mul_left h3
 have h5:m * (j / m + 1) <= m * (i / m):=Nat.mul_le_mul_left m h4
 rw [Nat.mul_add] at h5
 omega
theorem wKx {l:List wAA} {c:Int} (G:wBi l c):wNY (gts l (mx l c l.length)) c=true:=by
 rw [wIP]
 refine ⟨fun i hi j hj hh=>?_,fun s hs=>?_⟩
 ·rw [wCP] at hi
  obtain ⟨h1,h2⟩:=hh
  rw [wEA hi,wEA (by omega)] at h1
  simp only at h1
  have e:i % mx l c l.length=j % mx l c l.length:=by omega
  have h3:=wNZ hj e
  rw [wKw wIS hi (by omega)] at h2
  have h4:cl c (gd l j) (gd l i):=⟨h2.2,h2.1⟩
  have h5:=(wDz G hi (by omega)).1 h4
  have h6:=wLs (l:=l) (c:=c) hi
  omega
 ·obtain ⟨i,hi,e⟩:=wGp hs
  rw [wCP] at hi
  rw [wEA hi] at e
  subst e
  simp only
  omega
theorem wIt {l:List wAA} {c:Int} (G:wBi l c) {k:Nat} (hk:k < l.length):crB l c ((sg l (fs l c k) (k + 1)).map (·.Bib))=true:=by
 have hf:=wHe G (k:=k)
 have hsl:=wKt (l:=l) (a:=fs l c k) (b:=k + 1) (by omega) (by omega)
 have hg:∀ i,i < k + 1 - fs l c k->gd ((sg l (fs l c k) (k + 1)).map (·.Bib)) i=(gd l (fs l c k + i)).Bib:=fun i hi=>by
  rw [wCA _ (by omega),wNX (by omega) (by omega)]
 unfold crB
 refine (wBU _ _ _).2 fun i _ hi=>?_
 rw [nK,hsl] at hi
 unfold crI
 rw [hg i (by omega),wOp G.one (by omega)]
 rw [nA]
 refine ⟨by simp;omega,(wBU _ _ _).2 fun j _ hj=>?_⟩
 unfold crQ
 rw [hg i (by omega),hg j (by omega),wLw G.one (by omega),wLw G.one (by omega)]
 have ne:gd l (fs l c k + j) ≠ gd l (fs l c k + i):=fun e=>by
  have:=wKv G.one (by omega) (by omega) (congrArg (·.Bib) e)
  omega
 have h1:=(wDz G hk (show fs l c k + j <= k by omega)).2 (by omega)
 have h2:=wFB G.asc (show fs l c k + j <= fs l c k + i by omega) (by omega)
 have h3:=wFB G.asc (show fs l c k + i <= k by omega) hk
 have hc:=G.c1
 have:cl c (gd l (fs l c k + j)) (gd l (fs l c k + i)):=by unfold cl at h1 ⊢;omega
 simp [ne,this]
theorem wKy {l l':List wAA} {c:Int} (G:wBi l c) (S:wOq l l') (hc:clrP l' c) {m:Nat} (hg:∀ s ∈ l',s.Gate <= m):mx l c l.length <= m:=by
 by_cases h0:l.length=0
 ·rw [h0];exact Nat.zero_le _
 obtain ⟨k,hk,e⟩:=wLt G h0
 have hf:=wHe G (k:=k)
 have hl':=S.len
 have hsl:=wKt (l:=l') (a:=fs l c k) (b:=k + 1) (by omega) (by omega)
 have:=pig m ((sg l' (fs l c k) (k + 1)).map (·.Gate)) (by
  rw [nX,nP]
  intro i j hi hj hij he
  rw [nK,hsl] at hi hj
  rw [nR,nR,<- wGB (by omega),<- wGB (by omega),wNX (by omega) (by omega),wNX (by omega) (by omega)] at he
  have h1:=(wDz G hk (show fs l c k + i <= k by omega)).2 (by omega)
  have h2:=wFB G.asc (show fs l c k + i <= fs l c k + j by omega) (by omega)
  have h3:=wFB G.asc (show fs l c k + j <= k by omega) hk
  refine hc.1 (fs l c k + j) (by omega) (fs l c k + i) (by omega) ⟨he.symm,?_⟩
  rw [wKw S (by omega) (by omega)]
  unfold cl at h1 ⊢
  have:=G.c1
  omega) (fun x hx=>by
  obtain ⟨s,hs,e⟩:=List.mem_map.1 hx
  subst e
  have hs':s ∈ l':=List.mem_of_mem_drop (nh hs)
  exact ⟨hc.2 s hs',hg s hs'⟩)
 rw [nK,hsl] at this
 omega
theorem wNa {l:List wAA} {c c':Int} (G:wBi l c) (G':wBi l c') (h:c' <= c):mx l c' l.length <= mx l c l.length:=by
 by_cases h0:l.length=0
 ·rw [h0];exact nE _
 obtain ⟨k,hk,e⟩:=wLt G' h0
 have hf:=wHe G' (k:=k)
 have h1:=(wDz G' hk hf).2 (nE _)
 have h2:cl c (gd l (fs l c' k)) (gd l k):=by unfold cl at h1 ⊢;omega
 have h3:=(wDz G hk hf).1 h2
 have:=wLs (l:=l) (c:=c) hk
 omega
end Go.Proofs.YthbficbpebiekaaGreat
namespace Go.Proofs.YthbficbpebiekaaGreat
open Go.KL
theorem wIT {a b:Int} (h0:0 <= a) (hb:0 < b):∃ x,rem a b=some x/\0 <= x/\x < b:=by
 refine ⟨a.tmod b,if_neg (by omega),?_,?_⟩
 ·rw [nU h0];exact Int.emod_nonneg _ (by omega)
 ·rw [nU h0];exact Int.emod_lt_of_pos _ hb
theorem wHh (x:Int):0 <= wCT x:=by unfold wCT;omega
theorem wNb (x:Int):wCT x < 4294967296:=by unfold wCT;omega
theorem w64u (x:Int):w64 (wCT x)=wCT x:=by
 have:=wHh x
 have:=wNb x
 exact wAa (by omega) (by omega)
theorem wLy (a:Int) {b:Int} (hb:b ≠ 0):∃ x,quo a b=some x:=⟨_,if_neg hb⟩
theorem wDI (d:wAC) (n:Int) (h0:0 <= d.next) (h1:d.next <= 1000000):∃ x d',wAF d n=some (x,d')/\0 <= d'.next/\d'.next <= d.next + 1/\0 <= x/\(x < n \/ (n <= 1/\x=0)):=by
 unfold wAF
 by_cases hn:n <= 1
 ·exact ⟨0,d,by rw [if_pos hn],h0,by omega,by omega,.inr ⟨hn,rfl⟩⟩
 rw [if_neg hn]
 by_cases hl:(d.bytes.length:Int)=0
 ·exact ⟨0,d,by rw [if_pos hl],h0,by omega,by omega,.inl (by omega)⟩
 rw [if_neg hl]
 obtain ⟨r,e1,r0,r1⟩:=wIT h0 (show (0:Int) < d.bytes.length by omega)
 obtain ⟨b,e2⟩:∃ b,idx d.bytes r=some b:=by
  unfold idx
  rw [if_pos r0,nH (by omega)]
  exact ⟨_,rfl⟩
 obtain ⟨q,e3⟩:=wLy d.next (b:=d.bytes.length) hl
 obtain ⟨st,e4,_,_⟩:=wIT (wHh ((wCT ((wCT ((wCT (d.state * 45)) + (wCT b))) + (wCT (77 * (wCT q))))) + 1)) (b:=65519) (by decide)
 rw [e1,hH,e2,hH,e3,hH,e4,hH,wAa (x:=d.next + 1) (by omega) (by omega)]
 have fin:∀ z:Int,∃ x d',((rem (w64 (wCT z)) n).bind fun x=>some (x,(⟨d.bytes,d.next + 1,st⟩:wAC)))=some (x,d')/\0 <= d'.next/\d'.next <= d.next + 1/\0 <= x/\(x < n \/ (n <= 1/\x=0)):=by
  intro z
  obtain ⟨x,e5,x0,x1⟩:=wIT (a:=w64 (wCT z)) (b:=n) (by rw [w64u];exact wHh z) (by omega)
  exact ⟨x,_,by rw [e5];rfl,by show 0 <= d.next + 1;omega,by show d.next + 1 <= _;omega,x0,.inl x1⟩
 by_cases c1:wCT q=0
 ·rw [if_pos c1]
  by_cases c2:n <= 256
  ·rw [if_pos c2];exact fin _
  ·rw [if_neg c2];exact fin _
 ·rw [if_neg c1];exact fin _
theorem wKz (d:wAC) (a b:Int) (h0:0 <= d.next) (h1:d.next <= 1000000) (ha:-1000000 <= a) (hab:a <= b) (hb:b <= 1000000):∃ x d',wAI d a b=some (x,d')/\0 <= d'.next/\d'.next <= d.next + 1/\a <= x/\x <= b:=by
 unfold wAI
 rw [wAa (x:=b - a) (by omega) (by omega),wAa (x:=b - a + 1) (by omega) (by omega)]
 obtain ⟨x,d',e,n0,n1,x0,x1⟩:=wDI d (b - a + 1) h0 h1
 refine ⟨a + x,d',?_,n0,n1,by omega,by omega⟩
 rw [e,hH]
 simp only
 rw [wAa (by omega) (by omega)]
end Go.Proofs.YthbficbpebiekaaGreat
namespace Go.Proofs.YthbficbpebiekaaGreat
open Go.KL
theorem wGG {x:List Nat} (h:x.Pairwise (· < ·)):∀ {j i:Nat},i <= j->j < x.length->gd x i + (j - i) <= gd x j
 | 0,i,h1,_=>by
  have:i=0:=by omega
  subst this;omega
 | j + 1,i,h1,h2=>by
  by_cases e:i=j + 1
  ·subst e;omega
  ·have h3:=wGG h (j:=j) (i:=i) (by omega) (by omega)
   have h4:=nP.1 h j (j + 1) (by omega) h2 (by omega)
   rw [<- wGB (by omega),<- wGB h2] at h4
   omega
theorem wOr {l:List wAA} {c:Int} (G:wBi l c) {x:List Nat} (hx:x.Pairwise (· < ·)) (hl:∀ i ∈ x,i < l.length) (h:crB l c (x.map fun i=>(gd l i).Bib)=true):x.length <= mx l c l.length:=by
 by_cases h0:x.length=0
 ·omega
 by_cases h1:x.length=1
 ·obtain ⟨i,hi⟩:∃ i,i ∈ x:=List.exists_mem_of_length_pos (by omega)
  have:=wGn G (n:=l.length) (by have:=hl i hi;omega)
  omega
 have e:=(wBU _ _ _).1 h (x.length - 1) (by omega) (by simp;omega)
 unfold crI at e
 rw [nA] at e
 have e2:=(wBU _ _ _).1 e.2 0 (by omega) (by omega)
 unfold crQ at e2
 have a0:=hl _ (wFA (l:=x) (k:=0) (by omega))
 have a1:=hl _ (wFA (l:=x) (k:=x.length - 1) (by omega))
 rw [wCA _ (by omega),wCA _ (by omega),wLw G.one a0,wLw G.one a1,nA] at e2
 have hcl:cl c (gd l (gd x 0)) (gd l (gd x (x.length - 1))):=by simpa using e2.2
 have hin:=wGG hx (i:=0) (j:=x.length - 1) (by omega) (by omega)
 have h2:=(wDz G a1 (by omega)).1 hcl
 have:=wLs (l:=l) (c:=c) a1
 omega
theorem wNc (v:Int) {n:Int} (h1:1 <= n) (h2:n <= 1000):∃ x,wAj v n=some x/\0 <= x/\x < n:=by
 unfold wAj
 rw [if_neg (by omega),rem,if_neg (by omega),hH]
 have a1:=Int.lt_tmod_of_pos v (show 0 < n by omega)
 have a2:=Int.tmod_lt_of_pos v (show 0 < n by omega)
 rw [wAa (by omega) (by omega)]
 obtain ⟨x,e,x0,x1⟩:=wIT (a:=v.tmod n + n) (b:=n) (by omega) (by omega)
 rw [e,hH]
 exact ⟨x,rfl,x0,x1⟩
theorem wLA (d:wAC) (n:Int) (h0:0 <= d.next) (h1:d.next <= 1000000):∃ b d',wAM d n=some (b,d')/\0 <= d'.next/\d'.next <= d.next + 1:=by
 unfold wAM
 obtain ⟨x,d',e,a,b,_,_⟩:=wDI d n h0 h1
 rw [e,hH]
 exact ⟨_,d',rfl,a,b⟩
def lRd (k71:Nat):List Int × Int × Int × List wAA × Int->Option (List Int × Int × Int × List wAA × Int)
 | (l61,x64,x65,l66,x70) =>
  (wAI (⟨l61,x64,x65⟩:wAC) 1 5).bind fun (x100,x101) =>
  (wAF x101 5).bind fun (x114,x115) =>
  (app 24 l66 [(⟨w64 ((w64 (5 * (↑k71:Int))) + x100),x70,x114⟩:wAA)]).bind fun x133 =>
  (wAM x115 4).bind fun (x141,x142) =>
  if x141=true then
   some (x142.bytes,x142.next,x142.state,x133,x70)
  else
   (wAF x142 40).bind fun (x168,x169) =>
   some (x169.bytes,x169.next,x169.state,x133,w64 (x70 + x168))
theorem wGH (p0:wAC) (p1:Int):wAX p0 p1=(wAF p0 100).bind fun (x2,x3) =>
 (wAF x3 (w64 (p1 + 1))).bind fun (x16,x17) =>
 (wCm 0 x16 lRd (x17.bytes,x17.next,x17.state,[],x2)).bind fun (y76,y77,y78,y79,y80) =>
 some (y79,(⟨y76,y77,y78⟩:wAC)):=rfl
structure LInv (k:Nat) (s:List Int × Int × Int × List wAA × Int):Prop where
 n0:0 <= s.2.1
 n1:s.2.1 <= 2 + 4 * (k:Int)
 len:s.2.2.2.1.length=k
 t0:0 <= s.2.2.2.2
 t1:s.2.2.2.2 <= 99 + 39 * (k:Int)
 el:∀ i,i < k->5 * (i:Int) + 1 <= (gd s.2.2.2.1 i).Bib/\(gd s.2.2.2.1 i).Bib <= 5 * (i:Int) + 5/\0 <= (gd s.2.2.2.1 i).Time/\(gd s.2.2.2.1 i).Time <= s.2.2.2.2/\0 <= (gd s.2.2.2.1 i).Gate/\(gd s.2.2.2.1 i).Gate <= 4
 asc:Asc s.2.2.2.1
theorem wHi {k:Nat} {s:List Int × Int × Int × List wAA × Int} (hk:k < 24) (I:LInv k s):∃ s',lRd k s=some s'/\LInv (k + 1) s':=by
 obtain ⟨b,nx,st,l,t⟩:=s
 obtain ⟨n0,n1,hl,t0,t1,el,asc⟩:=I
 simp only at n0 n1 hl t0 t1 el asc
 unfold lRd
 simp only
 obtain ⟨a,d2,e2,p0,p1,a0,a1⟩:=wKz ⟨b,nx,st⟩ 1 5 n0 (by simp only;omega) (by omega) (by omega) (by omega)
 simp only at p1
 obtain ⟨g,d3,e3,q0,q1,g0,g1⟩:=wDI d2 5 p0 (by omega)
 obtain ⟨cb,d4,e4,r0,r1⟩:=wLA d3 4 q0 (by omega)
 rw [e2,hH]
 simp only
 rw [e3,hH]
 simp only
 rw [wAa (x:=5 * (k:Int)) (by omega) (by omega),wAa (x:=5 * (k:Int) + a) (by omega) (by omega),wEz (by simp;omega),hH,e4,hH]
 simp only
 have hel:∀ t',t <= t'->∀ i,i < k + 1->5 * (i:Int) + 1 <= (gd (l ++ [(⟨5 * (k:Int) + a,t,g⟩:wAA)]) i).Bib/\(gd (l ++ [(⟨5 * (k:Int) + a,t,g⟩:wAA)]) i).Bib <= 5 * (i:Int) + 5/\0 <= (gd (l ++ [(⟨5 * (k:Int) + a,t,g⟩:wAA)]) i).Time/\(gd (l ++ [(⟨5 * (k:Int) + a,t,g⟩:wAA)]) i).Time <= t'/\0 <= (gd (l ++ [(⟨5 * (k:Int) + a,t,g⟩:wAA)]) i).Gate/\(gd (l ++ [(⟨5 * (k:Int) + a,t,g⟩:wAA)]) i).Gate <= 4:=by
  intro t' ht i hi
  by_cases e:i=k
  ·rw [e,<- hl,wIM]
   simp only
   omega
  ·rw [wEN (by omega)]
   have:=el i (by omega)
   omega
 have hasc:Asc (l ++ [(⟨5 * (k:Int) + a,t,g⟩:wAA)]):=by
  intro i hi
  rw [nq,List.length_singleton] at hi
  by_cases e:i + 1=k
  ·rw [wEN (by omega),e,<- hl,wIM]
   simp only
   exact (el i (by omega)).2.2.2.1
  ·rw [wEN (by omega),wEN (by omega)]
   exact asc i (by omega)
 have hlen:(l ++ [(⟨5 * (k:Int) + a,t,g⟩:wAA)]).length=k + 1:=by simp [hl]
 cases cb with
 | true =>
  refine ⟨_,if_pos rfl,r0,by simp only;omega,hlen,t0,by simp only;omega,hel t (by omega),hasc⟩
 | false =>
  simp only [nD,if_false]
  obtain ⟨y,d5,e5,u0,u1,y0,y1⟩:=wDI d4 40 r0 (by omega)
  rw [e5,hH]
  simp only
  rw [wAa (by omega) (by omega)]
  exact ⟨_,rfl,u0,by simp only;omega,hlen,by simp only;omega,by simp only;omega,hel (t + y) (by omega),hasc⟩
theorem wLB (d:wAC) (h0:d.next=0):∃ l d',wAX d 24=some (l,d')/\l.length <= 24/\∀ c,1 <= c->c <= 6000->wBi l c:=by
 rw [wGH]
 obtain ⟨t,d1,e1,m0,m1,t0,t1⟩:=wDI d 100 (by omega) (by omega)
 rw [e1,hH]
 simp only
 rw [wAa (by omega) (by omega)]
 obtain ⟨n,d2,e2,p0,p1,n0,n1⟩:=wDI d1 (24 + 1) m0 (by omega)
 rw [e2,hH]
 simp only
 obtain ⟨m,rfl⟩:∃ m:Nat,n=m:=⟨n.toNat,by omega⟩
 obtain ⟨⟨b,nx,st,l,t'⟩,hs,I⟩:=wDc (body:=lRd) (n:=m) (s0:=(d2.bytes,d2.next,d2.state,[],t)) LInv (by omega) ⟨p0,by simp only;omega,rfl,t0,by simp only;omega,fun i hi=>by omega,fun i hi=>by simp at hi⟩ (fun i s hi I=>wHi (by omega) I)
 rw [hs,hH]
 obtain ⟨i0,i1,hl,u0,u1,el,asc⟩:=I
 simp only at i0 i1 hl u0 u1 el asc ⊢
 refine ⟨l,_,rfl,by omega,fun c c1 c2=>⟨by omega,fun s hs=>?_,?_,asc,c1,c2⟩⟩
 ·obtain ⟨i,hi,e⟩:=wGp hs
  have:=el i (by omega)
  rw [e] at this
  omega
 ·rw [nX,nP]
  intro i j hi hj hij he
  rw [nK] at hi hj
  rw [nR,nR,<- wGB hi,<- wGB hj] at he
  have:=el i (by omega)
  have:=el j (by omega)
  omega
def tRd (x65:Int) (k394:Nat):List Int × Int × Int × List wAA × List Int->Option (List Int × Int × Int × List wAA × List Int)
  | (l384,x387,x388,l389,l390) =>
                            (wAI (⟨l384,x387,x388⟩:wAC) 1 (max 1 (w64 (x65 - 1)))).bind fun (x429,x430) =>
                            (chk (↑k394:Int) l389.length).bind fun _ =>
                            (wAM x430 2).bind fun (x451,x452) =>
                            if x451=true then
                              (chk (↑k394:Int) (ni l389 k394 (⟨(gd l389 k394).Bib,(gd l389 k394).Time,x429⟩:wAA)).length).bind fun _ =>
                              (app 8 l390 [(gd (ni l389 k394 (⟨(gd l389 k394).Bib,(gd l389 k394).Time,x429⟩:wAA)) k394).Bib]).bind fun x475 =>
                              some (x452.bytes,x452.next,x452.state,(ni l389 k394 (⟨(gd l389 k394).Bib,(gd l389 k394).Time,x429⟩:wAA)),x475)
                            else
                              some (x452.bytes,x452.next,x452.state,(ni l389 k394 (⟨(gd l389 k394).Bib,(gd l389 k394).Time,x429⟩:wAA)),l390)
def gRd (x16:List wAA) (x50 x65:Int) (k305:Nat):List Int × Int × Int->Option ((List Int × Int × Int) ⊕ Bool)
  | (l300,x303,x304) =>
                          (wAN x16).bind fun x340 =>
                          (wCm 0 (↑x340.length:Int) (tRd x65) (l300,x303,x304,x340,[])).bind fun (y399,y400,y401,y402,y403) =>
                          (wAq y402 (w64 (x50 + 1))).bind fun (x538,x539) =>
                          (wAi x16 (w64 (x50 + 1)) y403).bind fun (x559,x560) =>
                          (if x539=0 then
                            if x560=0 then
                              if x538=true then
                                if 1 < x65 then
                                  some true
                                else
                                  if x559=true then
                                    some (decide (x65 < (↑y403.length:Int)))
                                  else
                                    some false
                              else
                                if x559=true then
                                  some (decide (x65 < (↑y403.length:Int)))
                                else
                                  some false
                            else
                              some true
                          else
                            some true).bind fun b570 =>
                          if b570=true then
                            esc (some false)
                          else
                            some (.inl (y399,y400,y401))
theorem wGr (p0 p1:List Int) (p2:Int):wAZ p0 p1 p2 =
 (wAl p0).bind fun x1 =>
 (wAX x1 24).bind fun (x16,x17) =>
 (wAl p1).bind fun x35 =>
 (wAj p2 120).bind fun x50 =>
 (wAp x16 (w64 (x50 + 1))).bind fun (x65,x66) =>
 (wBD x16 (w64 (x50 + 1))).bind fun (x77,x78) =>
 (wBE x16 (w64 (x50 + 1))).bind fun (x92,x93) =>
 if x66=0 then
  if x78=0 then
   if x93=0 then
    if (↑x92.length:Int)=x65 then
     if (↑x77.length:Int)=(↑x16.length:Int) then
      if (↑x16.length:Int) < x65 then
       some false
      else
       if ((decide (x65=0)) == (decide ((↑x16.length:Int)=0)))=true then
        (wAq x77 (w64 (x50 + 1))).bind fun (x137,x138) =>
        (wAi x16 (w64 (x50 + 1)) x92).bind fun (x168,x169) =>
        if x138=0 then
         if x169=0 then
          if x137=true then
           if x168=true then
            jn (wEG 0 (↑x77.length:Int) (fun k188 _ =>
             (idx x77 (↑k188:Int)).bind fun x211 =>
             (idx x16 (↑k188:Int)).bind fun x231 =>
             if x211.Bib=x231.Bib then
              if x211.Time=x231.Time then
               if x211.Gate < 1 then
                esc (some false)
               else
                if x65 < x211.Gate then
                 esc (some false)
                else
                 some (.inl ())
              else
               esc (some false)
             else
              esc (some false)) ()) fun _ =>
            jn (wEG 0 5 (gRd x16 x50 x65) (x35.bytes,x35.next,x35.state)) fun (y630,y631,y632) =>
            (wAF (⟨y630,y631,y632⟩:wAC) 40).bind fun (x645,x646) =>
            (wAp x16 (max 1 (w64 ((w64 (x50 + 1)) - x645)))).bind fun (x663,x664) =>
            if x664=0 then
             if x663 <= x65 then
              (wBH).bind fun x678 =>
              some x678
             else
              some false
            else
             some false
           else
            some false
          else
           some false
         else
          some false
        else
         some false
       else
        some false
     else
      some false
    else
     some false
   else
    some false
  else
   some false
 else
  some false:=rfl
structure TInv (l:List wAA) (m:Int) (n:Int) (k:Nat) (s:List Int × Int × Int × List wAA × List Int):Prop where
 n0:0 <= s.2.1
 n1:s.2.1 <= n + 2 * (k:Int)
 len:s.2.2.2.1.length=l.length
 el:∀ i,i < l.length->gd s.2.2.2.1 i=if i < k then ⟨(gd l i).Bib,(gd l i).Time,(gd s.2.2.2.1 i).Gate⟩ else gd l i
 gt:∀ i,i < k->i < l.length->1 <= (gd s.2.2.2.1 i).Gate/\(gd s.2.2.2.1 i).Gate <= m
 bib:∃ x:List Nat,x.Pairwise (· < ·)/\(∀ i ∈ x,i < k/\i < l.length)/\s.2.2.2.2=x.map fun i=>(gd l i).Bib
theorem wIu {l:List wAA} {w m n:Int} (hm:max 1 (w64 (w - 1))=m) (m1:1 <= m) (m2:m <= 100) (hn0:0 <= n) (hn:n <= 100000) (hl:l.length <= 1000) {k:Nat} {s:List Int × Int × Int × List wAA × List Int} (hk:k < l.length) (I:TInv l m n k s):∃ s',tRd w k s=some s'/\TInv l m n (k + 1) s':=by
 obtain ⟨b,nx,st,o,bs⟩:=s
 obtain ⟨n0,n1,ho,el,gt,x,xp,xl,xe⟩:=I
 simp only at n0 n1 ho el gt xe
 unfold tRd
 simp only
 rw [hm]
 obtain ⟨a,d2,e2,p0,p1,a0,a1⟩:=wKz ⟨b,nx,st⟩ 1 m n0 (by simp only;omega) (by omega) (by omega) (by omega)
 simp only at p1
 obtain ⟨cb,d3,e3,q0,q1⟩:=wLA d2 2 p0 (by omega)
 rw [e2,hH]
 simp only
 rw [wHq (by omega) (by omega),hH,e3,hH]
 simp only
 have ek:gd o k=gd l k:=by rw [el k hk,if_neg (by omega)]
 have hg:∀ i,i < l.length->gd (o.set k ⟨(gd o k).Bib,(gd o k).Time,a⟩) i=if i=k then ⟨(gd l k).Bib,(gd l k).Time,a⟩ else gd o i:=fun i hi=>by
  rw [wMU (by omega) (by omega),ek]
 have hel:∀ i,i < l.length->gd (o.set k ⟨(gd o k).Bib,(gd o k).Time,a⟩) i=if i < k + 1 then ⟨(gd l i).Bib,(gd l i).Time,(gd (o.set k ⟨(gd o k).Bib,(gd o k).Time,a⟩) i).Gate⟩ else gd l i:=fun i hi=>by
  rw [hg i hi]
  by_cases e:i=k
  ·subst e
   rw [if_pos rfl,if_pos (by omega)]
  ·rw [if_neg e]
   have:=el i hi
   by_cases c:i < k
   ·rw [if_pos (by omega)]
    rw [if_pos c] at this
    exact this
   ·rw [if_neg (by omega)]
    rw [if_neg c] at this
    exact this
 have hgt:∀ i,i < k + 1->i < l.length->1 <= (gd (o.set k ⟨(gd o k).Bib,(gd o k).Time,a⟩) i).Gate/\(gd (o.set k ⟨(gd o k).Bib,(gd o k).Time,a⟩) i).Gate <= m:=fun i h1 h2=>by
  rw [hg i h2]
  by_cases e:i=k
  ·rw [if_pos e];exact ⟨a0,a1⟩
  ·rw [if_neg e];exact gt i (by omega) h2
 have hlen:(o.set k ⟨(gd o k).Bib,(gd o k).Time,a⟩).length=l.length:=by rw [List.length_set,ho]
 cases cb with
 | false =>
  rw [if_neg (by decide)]
  exact ⟨_,rfl,q0,by simp only;omega,hlen,hel,hgt,x,xp,fun i hi=>by have:=xl i hi;omega,xe⟩
 | true =>
  rw [if_pos rfl,wHq (by omega) (by rw [hlen];omega),hH]
  have hx:x.length <= k:=by
   by_cases h0:x.length=0
   ·omega
   ·have h1:=wGG xp (i:=0) (j:=x.length - 1) (by omega) (by omega)
    have h2:=xl _ (wFA (l:=x) (k:=x.length - 1) (by omega))
    omega
  rw [wEz (by rw [xe];simp;omega),hH]
  refine ⟨_,rfl,q0,by simp only;omega,hlen,hel,hgt,x ++ [k],?_,?_,?_⟩
  ·rw [nT]
   exact ⟨xp,List.pairwise_singleton _ _,fun i hi j hj=>by
    have:=xl i hi
    have:=nW.1 hj
    omega⟩
  ·intro i hi
   rcases nJ.1 hi with h | h
   ·have:=xl i h;omega
   ·have:=nW.1 h;omega
  ·simp only
   rw [hg k hk,if_pos rfl,xe,List.map_append]
   rfl
theorem wHj {l:List wAA} {t:Int} (G:wBi l (w64 (t + 1))) {k:Nat} {s:List Int × Int × Int} (hl:l.length <= 24) (hk:k < 5) (h0:0 <= s.2.1) (h1:s.2.1 <= 48 * (k:Int)) :
  ∃ s',gRd l t (mx l (w64 (t + 1)) l.length:Int) k s=some (.inl s')/\0 <= s'.2.1/\s'.2.1 <= 48 * ((k + 1:Nat):Int):=by
 obtain ⟨b,nx,st⟩:=s
 simp only at h0 h1
 generalize hc:w64 (t + 1)=c at G ⊢
 have hm:=wHf (l:=l) (c:=c) (n:=l.length)
 unfold gRd
 simp only
 unfold wAN
 rw [wEz (by simp;omega),List.nil_append,hH,hH,hc]
 obtain ⟨m,hmm⟩:∃ m,max 1 (w64 ((mx l c l.length:Int) - 1))=m:=⟨_,rfl⟩
 have hmv:m=max 1 ((mx l c l.length:Int) - 1):=by rw [<- hmm,wAa (by omega) (by omega)]
 obtain ⟨⟨b2,nx2,st2,o,bs⟩,hs,I⟩:=wDc (body:=tRd (mx l c l.length:Int)) (n:=l.length) (s0:=(b,nx,st,l,[])) (TInv l m nx) (by omega) ⟨h0,by simp only;omega,rfl,fun i _=>by rw [if_neg (by omega)],fun i hi=>by omega,[],List.Pairwise.nil,by simp,rfl⟩ (fun i s hi I=>wIu hmm (by omega) (by omega) h0 (by omega) (by omega) hi I)
 rw [hs,hH]
 obtain ⟨n0,n1,ho,el,gt,x,xp,xl,xe⟩:=I
 simp only at n0 n1 ho el gt xe ⊢
 have S:wOq l o:=⟨ho,fun i hi=>by rw [el i hi,if_pos hi],fun i hi=>by rw [el i hi,if_pos hi]⟩
 have hgate:∀ s ∈ o,1 <= s.Gate/\s.Gate <= m:=fun s hs=>by
  obtain ⟨i,hi,e⟩:=wGp hs
  have:=gt i (by omega) (by omega)
  rwa [e] at this
 have Go:=wGq G S fun s hs=>by have:=hgate s hs;omega
 have hbl:bs.length <= 1000:=by
  rw [xe,nK]
  by_cases h0:x.length=0
  ·omega
  ·have h1:=wGG xp (i:=0) (j:=x.length - 1) (by omega) (by omega)
   have h2:=xl _ (wFA (l:=x) (k:=x.length - 1) (by omega))
   omega
 rw [wIQ Go,hH,wGo G bs hbl,hH]
 simp only [if_true]
 have c1:wNY o c=true->(mx l c l.length:Int) <= 1:=fun h=>by
  obtain ⟨m',e⟩:∃ m':Nat,m=m':=⟨m.toNat,by omega⟩
  have:=wKy G S (wIP.1 h) (m:=m') (fun s hs=>by have:=hgate s hs;omega)
  omega
 have c2:crB l c bs=true->(bs.length:Int) <= mx l c l.length:=fun h=>by
  rw [xe] at h
  have:=wOr G xp (fun i hi=>(xl i hi).2) h
  rw [xe,nK]
  omega
 refine ⟨(b2,nx2,st2),?_,n0,by simp only;omega⟩
 cases h1:wNY o c with
 | true =>
  have:=c1 h1
  rw [if_pos rfl,if_neg (by omega)]
  cases h2:crB l c bs with
  | true =>
   have:=c2 h2
   rw [if_pos rfl,decide_eq_false (by omega)];rfl
  | false=>rfl
 | false =>
  rw [if_neg (by decide)]
  cases h2:crB l c bs with
  | true =>
   have:=c2 h2
   rw [if_pos rfl,decide_eq_false (by omega)];rfl
  | false=>rfl
theorem wLC (p0 p1:List Int) (p2:Int) (_:-9223372036854775808 <= p2) (_:p2 <= 9223372036854775807):wAZ p0 p1 p2=some true:=by
 rw [wGr]
 unfold wAl
 rw [hH]
 obtain ⟨l,d1,e1,hl,hG⟩:=wLB (⟨p0,0,17⟩:wAC) rfl
 rw [e1,hH]
 simp only
 rw [hH]
 obtain ⟨t,e2,t0,t1⟩:=wNc p2 (n:=120) (by omega) (by omega)
 rw [e2,hH]
 have ew:w64 (t + 1)=t + 1:=wAa (by omega) (by omega)
 have G:=hG (w64 (t + 1)) (by omega) (by omega)
 generalize hc:w64 (t + 1)=c at G
 have hm:=wHf (l:=l) (c:=c) (n:=l.length)
 obtain ⟨s,eC,sl,sk⟩:=wKu G
 rw [wIO G,hH]
 simp only
 rw [wLv G,hH]
 simp only
 rw [eC,hH]
 simp only [if_true]
 rw [if_pos (by rw [nK,sl]),if_pos (by rw [wCP]),if_neg (by omega)]
 have z:((decide ((mx l c l.length:Int)=0)) == (decide ((l.length:Int)=0)))=true:=by
  by_cases h0:l.length=0
  ·rw [h0];rfl
  ·have:=wGn G h0
   rw [decide_eq_false (by omega),decide_eq_false (by omega)];rfl
 rw [if_pos z,wIQ (wLx G),hH]
 simp only
 rw [wGo G _ (by rw [nK,sl];omega),hH]
 have hcr:crB l c (s.map (·.Bib))=true:=by
  rcases sk with h0 | ⟨k,hk,e⟩
  ·have:s=[]:=List.eq_nil_of_length_eq_zero (by rw [sl];omega)
   subst this;rfl
  ·rw [e];exact wIt G hk
 simp only [if_true,wKx G,hcr]
 rw [wCP,wKi (by omega) (fun i hi=>by
  have hp:=wGn G (n:=l.length) (by omega)
  have hmod:=nt i hp
  rw [wBz (by rw [wCP];exact hi),hH,wBz hi,hH,wEA hi]
  simp only [if_true]
  rw [if_neg (by omega),if_neg (by omega)]),wCt]
 obtain ⟨⟨b5,nx5,st5⟩,e5,h5⟩:∃ s',wEG 0 5 (gRd l t (mx l c l.length:Int)) (p1,0,17)=some (.inl s')/\0 <= s'.2.1/\s'.2.1 <= 240:=by
  unfold wEG
  rw [if_pos (by decide)]
  rcases wIK (body:=gRd l t (mx l c l.length:Int)) (fun k s=>0 <= s.2.1/\s.2.1 <= 48 * (k:Int)) (fun _=>False) 5 0 (p1,0,17) ⟨by simp,by simp⟩ (fun i s _ hi h=>.inl (by
   have:=wHj (l:=l) (t:=t) (hc ▸ G) (s:=s) hl (show i < 5 by omega) h.1 h.2
   rw [hc] at this
   exact this)) with ⟨s',h1,h2⟩ | ⟨b,_,h⟩
  ·exact ⟨s',h1,h2.1,by have:=h2.2;omega⟩
  ·exact h.elim
 rw [e5,wCt]
 simp only at h5 ⊢
 obtain ⟨y,d6,e6,_,_,y0,y1⟩:=wDI ⟨b5,nx5,st5⟩ 40 h5.1 (by simp only;omega)
 rw [e6,hH]
 simp only
 have hc1:=G.c1
 have hc2:=G.c2
 have e7:max 1 (w64 (c - y))=max 1 (c - y):=by rw [wAa (by omega) (by omega)]
 have G':=hG (max 1 (c - y)) (by omega) (by omega)
 rw [e7,wIO G',hH]
 simp only [if_true]
 have:=wNa G G' (by omega)
 rw [if_pos (by omega)]
 rfl
end Go.Proofs.YthbficbpebiekaaGreat
