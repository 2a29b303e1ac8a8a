import Derived.Test.YthbficbpebiekaaGreatZ1
import Derived.Test.YthbficbpebiekaaGreatZ0
set_option linter.all false
open Option renaming bind_some->hH
open Bool renaming and_eq_true->nA,false_eq_true->nB,true_and->nU,eq_iff_iff->nX
open Option.some renaming inj->nD
open List renaming getElem?_eq_getElem->nE,length_map->nG,getElem_map->nH,drop_eq_getElem_cons->nJ,append_of_mem->nK,append_assoc->nL,all_eq_true->nM,getElem?_eq_some_iff->nO,mem_append->nP,mem_cons->nQ,drop_eq_nil_of_le->nR,pairwise_iff_getElem->nS,mem_append_right->nT,nodup_iff_pairwise_ne->nV,pairwise_append->nW,getElem_of_mem->nY,cons_append->nZ,getElem_mem->nb,append_nil->nc,take_of_length_le->nf,getElem?_eq_none->ng,mem_append_left->nh,mem_of_mem_take->ni,getElem?_mapIdx->nj,map_cons->nl,pairwise_cons->no,getElem_range->nr,nodup_append->nt,range->nu
open Nat renaming le_refl->nI,eq_of_beq_eq_true->nN,le_trans->na,lt_irrefl->nk,lt_or_ge->np,zero_add->nq,mod_lt->nv
open List.cons renaming inj->nw
namespace Go.KX
open Go.RowKit Go.KL
section
variable {tb:Tr AF} {ex exY:Run} {P:Program} {N:Nat} {l:List Oper} {os s t:List AO} {a:AO} {σ0 σA σf:Tr AV} {h0 h hf:AH} {μ μS:Mu} {σ σ':Env} {w:World} {o:Oper}
theorem wCU:∀ (l1 l2:List AO) (x:Tr AV) (y:AH) (x1:Tr AV) (y1:AH),wAM tb ex exY l1 x y=some (x1,y1)->wAM tb ex exY (l1 ++ l2) x y=wAM tb ex exY l2 x1 y1
 | [],l2,x,y,x1,y1,h=>by rw [wAX] at h;cases h;rfl
 | b :: l1,l2,x,y,x1,y1,h=>by
  rw [nZ,wAZ]
  rw [wAZ] at h
  cases hb:wBj x b.grd with
  | true =>
   rw [hb] at h
   simp only at h ⊢
   cases hq:opK b.kd b.op tb ex exY x y with
   | none=>rw [hq] at h;cases h
   | some r=>rw [hq] at h;exact wCU l1 l2 _ _ _ _ h
  | false =>
   rw [hb] at h
   exact wCU l1 l2 _ _ _ _ h
theorem wNx (HE:FrX ex) (HY:FrX exY) (Z:ZOK P N l os) (e:os=s ++ t) (hs:wAM tb ex exY s σ0 h0=some (σA,h)) {b:AO} (hb:b ∈ t) {s1 t1:List AO} {σ1:Tr AV} {h1:AH} (e1:os=s1 ++ b :: t1) (hr:wAM tb ex exY s1 σ0 h0=some (σ1,h1)):h.nx.nat <= h1.nx.nat:=by
 obtain ⟨r,r',rfl⟩:=nK hb
 have es:s1=s ++ r:=(wBs (e1 ▸ Z.one) (e1.symm.trans (e.trans (nL _ _ _).symm))).1
 subst es
 rw [wCU s r _ _ _ _ hs] at hr
 exact (wFp HE HY _ _ _ _ _ hr).nx
theorem wEd (Z:ZOK P N l os) {S:Nat->Bool} (hdc:∀ k,k < l.length->S k=true->∀ j ∈ prI l k,S j=true) (ha:a ∈ os) (hS:S a.ix=false) {b:AO} (hb:b ∈ os) (hbS:S b.ix=true) (A:AOK P N l a o) {ob:Oper} (hob:l[b.ix]?=some ob) (v:Value):Agr l ob σ (put' σ o v):=by
 obtain ⟨ob',B⟩:=wBy (Z.ao b hb)
 have eo:ob'=ob:=by have:=B.get;rw [hob] at this;exact (nD this).symm
 subst eo
 intro d hd
 obtain ⟨p,hp,rfl⟩:=wDH B (Z.sub b hb _ B.get) d hd
 symm
 refine wEg fun dd hdd e=>?_
 rcases A.dst with ⟨_,h2⟩ | ⟨q,d',h1,h2,h3,_⟩
 ·rw [h2] at hdd;cases hdd
 ·rw [h2] at hdd
  have hdd:=nD hdd
  have eq:q=p:=Pos.nat_inj (by have:=q.nat_pos;have:=p.nat_pos;have:q.nat - 1=p.nat - 1:=h3.symm.trans (hdd.trans e);omega)
  subst eq
  have:=Z.rdS b hb q hp a ha h1
  have hlt:b.ix < l.length:=(nO.1 hob).1
  have:=wCj hdc (hdc _ hlt hbS) this
  rw [hS] at this
  cases this
theorem JS.fixed (HC:wEQ (CC P) P tb ex) (HY':wDc (CC P) P exY) (HE:FrX ex) (HY:FrX exY) (Z:ZOK P N l os) {μ0:Mu} {w0:World} {S:Nat->Bool} (J:JS tb ex exY P l os σ0 h0 σf hf μ0 w0 S σ w s (a :: t) σA h σ' μ μS) (hfix:wBQ a.kd=true) (hS:S a.ix=false)
  (hdc:∀ k,k < l.length->S k=true->∀ j ∈ prI l k,S j=true) (A:AOK P N l a o) :
  Step1 P l o σ w fun v w'=>∃ σB hB σ'' μB μT,JS tb ex exY P l os σ0 h0 σf hf μ0 w0 (fun k=>k == a.ix || S k) (put' σ o v) w' (s ++ [a]) t σB hB σ'' μB μT:=by
 have ha:a ∈ os:=by rw [J.e];simp
 have hsel:=Z.sel a ha _ A.get
 have hag:∀ q ∈ wBU a,σ (q.nat - 1)=σ' (q.nat - 1):=fun q hq=>J.ag q fun b hb _=>Z.rd s a t J.e q hq b hb
 have hagr:Agr l o σ σ':=fun d hd=>by
  obtain ⟨q,h1,rfl⟩:=wDH A (Z.sub a ha _ A.get) d hd
  exact hag q h1
 have hw:=wGJ A J.env
 have main:∀ (v:AV) (cv:Value) (hB:AH) (w':World) (μB:Mu),wAM tb ex exY (s ++ [a]) σ0 h0=some (wEV a.dst σA v,hB)->wAM tb ex exY t (wEV a.dst σA v) hB=some (σf,hf) ->
   Ext μ h.fl.nat w μB w'->Sim (CC P) P μB hB w'->EnvR μB (wEV a.dst σA v) (put' σ' o cv)->hB.fl=h.fl ->
   ∃ σB hB σ'' μB μT,JS tb ex exY P l os σ0 h0 σf hf μ0 w0 (fun k=>k == a.ix || S k) (put' σ o cv) w' (s ++ [a]) t σB hB σ'' μB μT:=by
  intro v cv hB w' μB r1 r2 E' S' hE' hfl
  have hne:∀ b ∈ t,b.ix ≠ a.ix:=fun b hb e=>by
   have:=Z.one
   rw [J.e] at this
   exact (no.1 (nW.1 this).2.1).1 b hb e.symm
  have hSb:∀ b ∈ t,(b.ix == a.ix || S b.ix)=true->S b.ix=true:=fun b hb h=>by
   have:=hne b hb
   simpa [this] using h
  have hbo:∀ b ∈ t,b ∈ os:=fun b hb=>by rw [J.e];simp [hb]
  have eB:os=(s ++ [a]) ++ t:=by rw [J.e];simp
  have hnm:∀ b ∈ t,∀ s1 t1 σ1 h1,os=s1 ++ b :: t1->wAM tb ex exY s1 σ0 h0=some (σ1,h1)->μB h1.nx=none/\μ h1.nx=none:=fun b hb s1 t1 σ1 h1 e1 hr=>by
   have g1:=wNx HE HY Z eB r1 hb e1 hr
   have g2:=wNx HE HY Z J.e J.hs (b:=b) (by simp [hb]) e1 hr
   exact ⟨S'.nx _ g1,J.sim.nx _ g2⟩
  let μT:Mu:=fun q=>match μB q with | some c=>some c | none=>μS q
  have hT:μB.Le μT:=fun q c hq=>by show (match μB q with | some c=>some c | none=>μS q)=_;rw [hq]
  have hST:μS.Le μT:=fun q c hq=>by
   show (match μB q with | some c=>some c | none=>μS q)=_
   cases hB:μB q with
   | none=>exact hq
   | some c' =>
    rcases J.nm q c hq with h1 | ⟨b,ob,s1,t1,σ1,h1,k1,k2,k3,k4,k5,k6,k7,k8⟩
    ·rw [E'.mono _ _ h1] at hB
     exact hB.symm ▸ rfl
    ·rcases nQ.1 k1 with rfl | k1
     ·rw [hS] at k2;cases k2
     ·have:=(hnm b k1 s1 t1 σ1 h1 k6 k7).1
      rw [<- k8,hB] at this
      cases this
  refine ⟨_,hB,_,μB,μT,eB,r1,r2,fun b hb=>?_,fun b hb hh=>J.free b (by simp [hb]) (hSb b hb hh),?_,S',hfl.trans J.fl,hE',fun q hq=>?_,hT,fun q c hq=>?_,fun b hb hh=>?_⟩
  ·rcases nP.1 hb with hb | hb
   ·simp [J.inS b hb]
   ·rw [List.mem_singleton.1 hb];simp
  ·have:=J.E
   refine this.trans ?_
   rw [<- J.fl]
   exact E'
  ·have old:σ (q.nat - 1)=σ' (q.nat - 1) \/ a.dst=some q:=by
    by_cases hq':a.dst=some q
    ·exact .inr hq'
    ·exact .inl (J.ag q fun b hb h=>by
      rcases nQ.1 hb with rfl | hb
      ·exact hq'
      ·exact hq b hb (by simp [h]))
   rcases A.dst with ⟨h1,h2⟩ | ⟨p,d,h1,h2,h3,_⟩
   ·unfold put'
    rw [h2]
    rcases old with old | old
    ·exact old
    ·rw [h1] at old;cases old
   ·unfold put'
    rw [h2]
    by_cases e:q.nat - 1=d
    ·simp only [e,wBw]
    ·simp only
     rw [wCY _ _ e,wCY _ _ e]
     rcases old with old | old
     ·exact old
     ·rw [h1] at old
      cases old
      exact absurd h3.symm e
  ·have hq:(match μB q with | some c=>some c | none=>μS q)=some c:=hq
   cases hB':μB q with
   | some c' =>
    rw [hB'] at hq
    exact .inl hq
   | none =>
    rw [hB'] at hq
    rcases J.nm q c hq with h1 | ⟨b,ob,s1,t1,σ1,h1,k1,k2,k3,k4,k5,k6,k7,k8⟩
    ·rw [E'.mono _ _ h1] at hB'
     cases hB'
    ·rcases nQ.1 k1 with rfl | k1
     ·rw [hS] at k2;cases k2
     ·exact .inr ⟨b,ob,s1,t1,σ1,h1,k1,by simp [k2],k3,(wBS (wEd Z hdc ha hS (hbo b k1) k2 A k3 cv)).symm.trans k4,k5,k6,k7,k8⟩
  ·have hbS:=hSb b hb hh
   obtain ⟨ob,p,Pd⟩:=J.pd b (by simp [hb]) hbS
   have hA:=wEd (σ:=σ) Z hdc ha hS (hbo b hb) hbS A Pd.get cv
   have hp:put' σ o cv (p.nat - 1)=σ (p.nat - 1):=wEg fun d hd e=>by
    rcases A.dst with ⟨_,h2⟩ | ⟨q,d',h1,h2,h3,_⟩
    ·rw [h2] at hd;cases hd
    ·rw [h2] at hd
     have hd:=nD hd
     have eq:q=p:=Pos.nat_inj (by have:=q.nat_pos;have:=p.nat_pos;have:q.nat - 1=p.nat - 1:=h3.symm.trans (hd.trans e);omega)
     subst eq
     exact Z.wr s a t J.e q h1 b (nT _ hb) Pd.dst
   have hsb:=Z.sel b (hbo b hb) _ Pd.get
   refine ⟨ob,p,Pd.get,Pd.dst,?_⟩
   rw [hp,<- wBS hA]
   rcases Pd.fact with f | ⟨f,⟨f1,f2⟩ | ⟨f1,f2,w1,w2,f3⟩ | ⟨f1,f2,w1,o1,s1,t1,σ1,h1,f3,f4,f5,f6,f7,f8,f9⟩⟩
   ·exact .inl f
   ·exact .inr ⟨f,.inl ⟨f1,f2.mono E'.mono⟩⟩
   ·exact .inr ⟨f,.inr (.inl ⟨f1,f2.mono hST,w1,w2,(Runs.agr hsb hA).1 f3⟩)⟩
   ·obtain ⟨n1,n2⟩:=hnm b hb s1 t1 σ1 h1 f6 f7
    have nimg:¬ img μ h.fl.nat w1.heap.size:=by
     rintro ⟨q,d,g1,g2,_⟩
     have:=f9 q d (J.le _ _ g1) g2
     rw [this,n2] at g1
     cases g1
    refine .inr ⟨f,.inr (.inr ⟨f1,f2.mono hST,w1,o1,s1,t1,σ1,h1,(Runs.agr hsb hA).1 f3,(E'.keep.block _ (wAJ f4) nimg).trans f4,f5,f6,f7,hST _ _ f8,fun q c hq hc=>?_⟩)⟩
    have hq:(match μB q with | some c=>some c | none=>μS q)=some c:=hq
    cases hB':μB q with
    | none=>rw [hB'] at hq;exact f9 q c hq hc
    | some c' =>
     rw [hB'] at hq
     cases hq
     rcases E'.new q c hB' with g | g | g
     ·exact f9 q c (J.le _ _ g) hc
     ·rw [hc] at g;exact absurd g nimg
     ·have:=wAJ f4;omega
 obtain ⟨σx,hx,q1,q2⟩:=wIX (s:=[]) (a:=a) (t:=t) (σ0:=σA) (h0:=h) (by rw [List.nil_append];exact J.hr)
 rw [wAX] at q1
 cases q1
 refine Step1.agr hsel (fun d hd=>(hagr d hd).symm) ?_
 rcases q2 with ⟨g1,v,h2,g2,g3⟩ | ⟨g1,g3⟩
 ·refine (wPA HC HY' A (hw.trans g1) g2 J.env J.sim).mono ?_
  rintro cv w' ⟨_,μB,e1,e2,e3,e4⟩
  refine main v cv h2 w' μB ?_ g3 e1 e2 e3 e4
  rw [wCU s [a] _ _ _ _ J.hs,wAZ,g1]
  simp only
  rw [g2]
  exact wAX _ _ _ _ _
 ·refine .inr ⟨hw.trans g1,?_⟩
  refine main u undef h w μ ?_ g3 (Ext.refl μ _ w) J.sim (wCn A J.env (wKA μ)) rfl
  rw [wCU s [a] _ _ _ _ J.hs,wAZ,g1]
  exact wAX _ _ _ _ _
theorem JS.opnd (Z:ZOK P N l os) {μ0:Mu} {w0:World} {S:Nat->Bool} (J:JS tb ex exY P l os σ0 h0 σf hf μ0 w0 S σ w s t σA h σ' μ μS) (ha:a ∈ os) (hl:a.ix < l.length) (hp:∀ j ∈ prI l a.ix,S j=true)
  (hdc:∀ k,k < l.length->S k=true->∀ j ∈ prI l k,S j=true) {p:Pos} (hr:p ∈ wBU a):Rv μS (evA σf (.t p)) (σ (p.nat - 1))/\(a.kd=1 \/ a.kd=3 \/ 8 <= a.kd->Rv μ (evA σf (.t p)) (σ (p.nat - 1))):=by
 have base:(∀ b ∈ t,b.dst ≠ some p)->Rv μ (evA σf (.t p)) (σ (p.nat - 1)):=fun hn=>by
  rw [wBr t _ _ _ _ J.hr p hn,J.ag p fun b hb _=>hn b hb]
  exact J.env p
 by_cases hw:∃ b ∈ t,b.dst=some p
 ·obtain ⟨b,hb,hd⟩:=hw
  have hbo:b ∈ os:=by rw [J.e];simp [hb]
  have hanc:=Z.rdS a ha p hr b hbo hd
  have hS:=wCj hdc hp hanc
  obtain ⟨ob,p',Pd⟩:=J.pd b hb hS
  have ep:p'=p:=by have:=Pd.dst;rw [hd] at this;exact (nD this).symm
  subst ep
  rcases Pd.fact with ⟨_,f1,f2⟩ | ⟨_,⟨_,f1⟩ | ⟨f0,f1,_⟩ | ⟨f0,f1,_⟩⟩
  ·rw [f1,f2]
   exact ⟨wKA _,fun _=>wKA _⟩
  ·exact ⟨f1.mono J.le,fun _=>f1⟩
  ·exact ⟨f1,fun hk=>absurd f0 (Z.cl a ha hk p' hr b hbo hd).2⟩
  ·exact ⟨f1,fun hk=>absurd f0 (Z.cl a ha hk p' hr b hbo hd).1⟩
 ·have:=base fun b hb hd=>hw ⟨b,hb,hd⟩
  exact ⟨this.mono J.le,fun _=>this⟩
end
end Go.KX
namespace Go.KX
open Go.RowKit Go.KL
section
variable {tb:Tr AF} {ex exY:Run} {P:Program} {N:Nat} {l:List Oper} {os s t:List AO} {a:AO} {σ0 σA σf:Tr AV} {h0 h h1 h' hf:AH} {μ μS:Mu} {σ σ':Env} {w:World} {o:Oper} {v:AV}
theorem wLx {a:AOp} {op:Op} (hk:kdA a=1) (hc:wFF P a op=true) (hE:EnvR μ σA σ) (hm:∀ b c,μ b=some c->h.m.get b=h1.m.get b) (hr:opY a tb ex exY σA h1=some (v,h')):opY a tb ex exY σA h=some (v,h):=by
 have cel:∀ b c,μ b=some c->wCL h b=wCL h1 b:=fun b c hb=>by unfold wCL;rw [hm b c hb]
 cases a <;> first | (simp [kdA] at hk;done) | skip
 case ld x =>
  have hr:wLe x σA h1=some (v,h'):=hr
  show wLe x σA h=some (v,h)
  have hc:wOp P x op=true:=hc
  unfold wOp at hc
  split at hc
  ·simp only [nA] at hc
   have g:=wAD hc.2 hE
   unfold wLe at hr ⊢
   split at hr
   ·rename_i b off hb
    rw [hb] at g
    obtain ⟨c,g1,_⟩:=g
    simp only [hb,cel b c g1]
    split at hr
    ·exact wKi hr h
    ·cases hr
   ·cases hr
  ·cases hc
 case ldA n x =>
  have hr:wFY n x σA h1=some (v,h'):=hr
  show wFY n x σA h=some (v,h)
  have hc:wKP P n x op=true:=hc
  unfold wKP at hc
  split at hc
  ·simp only [nA] at hc
   have g:=wAD hc.2 hE
   unfold wFY at hr ⊢
   split at hr
   ·rename_i b off hb
    rw [hb] at g
    obtain ⟨c,g1,_⟩:=g
    simp only [hb,cel b c g1]
    split at hr
    ·exact wKi hr h
    ·cases hr
   ·cases hr
  ·cases hc
 case lk two k ok z x y =>
  have hr:wLf two k ok z x y σA h1=some (v,h'):=hr
  show wLf two k ok z x y σA h=some (v,h)
  have hc:wOt P two k ok z x y op=true:=hc
  unfold wOt at hc
  split at hc
  ·simp only [nA] at hc
   have g:=wAD hc.2.2.1 hE
   unfold wLf at hr ⊢
   split at hr
   ·rename_i b hb
    rw [hb] at g
    obtain ⟨c,g1,_⟩:=g
    simp only [hb,hm b c g1]
    repeat' (split at hr)
    all_goals first | (cases hr;done) | (cases hr;rfl)
   ·cases hr
  ·cases hc
 case lenM x =>
  have hr:wDO x σA h1=some (v,h'):=hr
  show wDO x σA h=some (v,h)
  have hc:wGy P x op=true:=hc
  unfold wGy at hc
  split at hc
  ·split at hc
   ·simp only [nA] at hc
    obtain ⟨_,hc⟩:=hc
    split at hc
    ·simp only [nA] at hc
     have g:=wAD hc.2 hE
     unfold wDO at hr ⊢
     split at hr
     ·rename_i hb
      cases hr
      simp_all
     ·rename_i b hb
      rw [hb] at g
      obtain ⟨c,g1,_⟩:=g
      simp only [hb,hm b c g1]
      repeat' (split at hr)
      all_goals first | (cases hr;done) | (cases hr;rfl)
     ·cases hr
    ·cases hc
   ·cases hc
  ·cases hc
theorem wGN (HE:FrX ex) (HY:FrX exY):∀ (r:List AO) (σ1:Tr AV) (h1:AH) (σ2:Tr AV) (h2:AH),wAM tb ex exY r σ1 h1=some (σ2,h2)->(∀ b ∈ r,wFG P N l b=true) ->
  (∀ b ∈ r,b.kd=2 \/ (b.kd=1 \/ b.kd=3 \/ (b.kd=6/\kdA b.op=3) \/ (b.kd=4/\wJK b.op=true) \/ (8 <= b.kd/\kdA b.op=1)))->h1.nx.nat <= h2.nx.nat/\∀ p:Pos,p.nat < h1.nx.nat->h2.m.get p=h1.m.get p
 | [],σ1,h1,σ2,h2,hr,_,_=>by
  rw [wAX] at hr
  cases hr
  exact ⟨nI _,fun _ _=>rfl⟩
 | b :: r,σ1,h1,σ2,h2,hr,hc,hk=>by
  rw [wAZ] at hr
  cases hw:wBj σ1 b.grd with
  | false =>
   rw [hw] at hr
   exact wGN HE HY r _ _ _ _ hr (fun c hcc=>hc c (by simp [hcc])) (fun c hcc=>hk c (by simp [hcc]))
  | true =>
   rw [hw] at hr
   simp only at hr
   cases hq:opK b.kd b.op tb ex exY σ1 h1 with
   | none=>rw [hq] at hr;cases hr
   | some q =>
    rw [hq] at hr
    obtain ⟨v,h3⟩:=q
    obtain ⟨g1,g2⟩:=wGN HE HY r _ _ _ _ hr (fun c hcc=>hc c (by simp [hcc])) (fun c hcc=>hk c (by simp [hcc]))
    obtain ⟨o,A⟩:=wBy (hc b (by simp))
    have one:h1.nx.nat <= h3.nx.nat/\∀ p:Pos,p.nat < h1.nx.nat->h3.m.get p=h1.m.get p:=by
     have same:h3=h1->h1.nx.nat <= h3.nx.nat/\∀ p:Pos,p.nat < h1.nx.nat->h3.m.get p=h1.m.get p:=fun e=>by subst e;exact ⟨nI _,fun _ _=>rfl⟩
     rcases hk b (by simp) with k | k | k | ⟨k,k'⟩ | ⟨k,k'⟩ | ⟨k,k'⟩
     ·exact ⟨(wMo HE HY _ _ hq).nx,wPE HE HY b.op (by rw [k] at hq;exact hq)⟩
     ·rw [k] at hq
      exact same (wFm (C:=CC P) (A.k1 k) A.op _ _ _ _ hq).1
     ·rw [k] at hq
      exact same (wFl (A.k3 k) A.op _ _ _ _ hq).1
     ·rw [k] at hq
      exact same (wFl k' A.op _ _ _ _ hq).1
     ·rw [k] at hq
      obtain ⟨B,vf,e1,_⟩:=wIW (C:=CC P) k' A.op _ _ _ _ hq
      subst e1
      refine ⟨(Fr.push h1 B).nx,fun p hp=>?_⟩
      show (h1.m.set h1.nx B).get p=_
      rw [Tr.get_set,if_neg (fun e=>by subst e;omega)]
     ·exact same (wFm (C:=CC P) (.inl k') A.op _ _ _ _ (wKl (by omega) hq)).1
    exact ⟨na one.1 g1,fun p hp=>(g2 p (Nat.lt_of_lt_of_le hp one.1)).trans (one.2 p hp)⟩
theorem JS.full {μ0:Mu} {w0:World} {S:Nat->Bool} (J:JS tb ex exY P l os σ0 h0 σf hf μ0 w0 S σ w s t σA h σ' μ μS):wAM tb ex exY os σ0 h0=some (σf,hf):=by
 rw [J.e,wCU s t _ _ _ _ J.hs]
 exact J.hr
theorem JS.frm (Z:ZOK P N l os) {μ0:Mu} {w0:World} {S:Nat->Bool} (J:JS tb ex exY P l os σ0 h0 σf hf μ0 w0 S σ w s t σA h σ' μ μS) (ha:a ∈ os) (hl:a.ix < l.length) (hp:∀ j ∈ prI l a.ix,S j=true)
  (hdc:∀ k,k < l.length->S k=true->∀ j ∈ prI l k,S j=true) (A:AOK P N l a o) {s1 t1:List AO} {σ1:Tr AV} (e1:os=s1 ++ a :: t1) (hr1:wAM tb ex exY s1 σ0 h0=some (σ1,h1)) :
  wanted l σ o=wBj σ1 a.grd/\∀ p ∈ wBU a,evA σf (.t p)=evA σ1 (.t p):=by
 have hf:=J.full
 have hrd:∀ p ∈ wBU a,evA σf (.t p)=evA σ1 (.t p):=fun p hp=>by
  rw [e1,wCU s1 _ _ _ _ _ hr1] at hf
  exact wPG Z e1 hf hp
 refine ⟨?_,hrd⟩
 have hE:EnvR μS (rst σf (wBU a)) (rsl σ (wBU a)):=wFL fun p hpr=>(J.opnd Z ha hl hp hdc hpr).1
 have hw:=wGJ A hE
 have hag:Agr l o (rsl σ (wBU a)) σ:=fun d hd=>by
  obtain ⟨p,h1,h2⟩:=wDH A (Z.sub a ha _ A.get) d hd
  unfold rsl
  rw [if_pos ⟨p,h1,h2⟩]
 rw [<- wBS hag,hw]
 cases hg:a.grd with
 | none=>rfl
 | some q =>
  obtain ⟨p,b⟩:=q
  show isB b (evA _ (.t p))=isB b (evA _ (.t p))
  have hpr:p ∈ wBU a:=nT _ (by rw [hg];simp)
  rw [wFK,if_pos hpr,hrd p hpr]
theorem wPI (HE:FrX ex) (HY:FrX exY) (Z:ZOK P N l os) {a b:AO} {s1 t1 s2 t2:List AO} {σ1 σ2:Tr AV} {h1 h2:AH} (e1:os=s1 ++ a :: t1) (e2:os=s2 ++ b :: t2) (r1:wAM tb ex exY s1 σ0 h0=some (σ1,h1)) (r2:wAM tb ex exY s2 σ0 h0=some (σ2,h2))
  (w1:wBj σ1 a.grd=true) (ka:a.kd=4) (la:wJK a.op=true) (hin:a ∈ s2):h1.nx.nat < h2.nx.nat:=by
 obtain ⟨o,A⟩:=wBy (Z.ao a (by rw [e1];simp))
 obtain ⟨r,r',rfl⟩:=nK hin
 have es:s1=r:=(wBs (e1 ▸ Z.one) (e1.symm.trans (e2.trans (by rw [nL,nZ])))).1
 subst es
 rw [wCU s1 _ _ _ _ _ r1,wAZ,w1] at r2
 simp only at r2
 cases hq:opK a.kd a.op tb ex exY σ1 h1 with
 | none=>rw [hq] at r2;cases r2
 | some q =>
  rw [hq] at r2
  obtain ⟨v,h3⟩:=q
  rw [ka] at hq
  obtain ⟨B,vf,q1,_⟩:=wIW (C:=CC P) la A.op _ _ _ _ hq
  subst q1
  have:=(wFp HE HY _ _ _ _ _ r2).nx
  have h3:(h1.push B).nx.nat=h1.nx.nat + 1:=Pos.nat_succ _
  simp only at this
  omega
theorem nm_ne (HE:FrX ex) (HY:FrX exY) (Z:ZOK P N l os) {a b:AO} {s1 t1 s2 t2:List AO} {σ1 σ2:Tr AV} {h1 h2:AH} (e1:os=s1 ++ a :: t1) (e2:os=s2 ++ b :: t2) (r1:wAM tb ex exY s1 σ0 h0=some (σ1,h1)) (r2:wAM tb ex exY s2 σ0 h0=some (σ2,h2))
  (w1:wBj σ1 a.grd=true) (w2:wBj σ2 b.grd=true) (ka:a.kd=4) (la:wJK a.op=true) (kb:b.kd=4) (lb:wJK b.op=true) (hne:a ≠ b):h1.nx ≠ h2.nx:=by
 have ha:a ∈ s2 ++ b :: t2:=by rw [<- e2,e1];simp
 rcases nP.1 ha with h | h
 ·intro e
  have:=wPI HE HY Z e1 e2 r1 r2 w1 ka la h
  rw [e] at this
  exact absurd this (nk _)
 ·rcases nQ.1 h with h | h
  ·exact absurd h hne
  ·obtain ⟨r,r',rfl⟩:=nK h
   have es:s1=s2 ++ b :: r:=(wBs (e1 ▸ Z.one) (e1.symm.trans (e2.trans (by rw [nL,nZ])))).1
   intro e
   have:=wPI HE HY Z e2 e1 r2 r1 w2 kb lb (by rw [es];simp)
   rw [e] at this
   exact absurd this (nk _)
end
end Go.KX
namespace Go.KX
open Go.RowKit Go.KL
section
variable {tb:Tr AF} {ex exY:Run} {P:Program} {N:Nat} {l:List Oper} {os s t:List AO} {a:AO} {σ0 σA σf:Tr AV} {h0 h h1 h' hf:AH} {μ μS:Mu} {σ σ':Env} {w:World} {o:Oper} {v:AV}
theorem wKn (Z:ZOK P N l os) {a b:AO} (ha:a ∈ os) (hb:b ∈ os) (e:b.ix=a.ix):b=a:=by
 obtain ⟨s,t,hs⟩:=nK ha
 have one:=Z.one
 rw [hs] at hb one
 rcases nP.1 hb with h | h
 ·exact absurd e ((nW.1 one).2.2 b h a (by simp))
 ·rcases nQ.1 h with h | h
  ·exact h
  ·exact absurd e.symm ((no.1 (nW.1 one).2.1).1 b h)
theorem wEe (A:AOK P N l a o) {q:Pos} (hn:a.dst ≠ some q) (cv:Value):put' σ o cv (q.nat - 1)=σ (q.nat - 1):=by
 refine wEg fun d hd e=>?_
 rcases A.dst with ⟨_,h2⟩ | ⟨p,d',h1,h2,h3,_⟩
 ·rw [h2] at hd;cases hd
 ·rw [h2] at hd
  have hd:=nD hd
  have:p=q:=Pos.nat_inj (by have:=q.nat_pos;have:=p.nat_pos;have:p.nat - 1=q.nat - 1:=h3.symm.trans (hd.trans e);omega)
  subst this
  exact hn h1
theorem JS.add (Z:ZOK P N l os) {μ0:Mu} {w0:World} {S:Nat->Bool} (J:JS tb ex exY P l os σ0 h0 σf hf μ0 w0 S σ w s t σA h σ' μ μS) (ha:a ∈ t) (hS:S a.ix=false) (hfree:wBQ a.kd=false)
  (hdc:∀ k,k < l.length->S k=true->∀ j ∈ prI l k,S j=true) (A:AOK P N l a o) {cv:Value} {w':World} {μT:Mu} (K:Keep w w' Non) (hle:μS.Le μT)
  (hnew:∀ q c,μT q=some c->μS q=some c \/ (c.1=w.heap.size/\wanted l σ o=true/\a.kd=4/\∃ s1 t1 σ1 h1,os=s1 ++ a :: t1/\wAM tb ex exY s1 σ0 h0=some (σ1,h1)/\q=h1.nx))
  (hpa:∃ p,Pend tb ex exY P l os σ0 h0 σf w0 μ μT (put' σ o cv) w' a o p) :
  JS tb ex exY P l os σ0 h0 σf hf μ0 w0 (fun k=>k == a.ix || S k) (put' σ o cv) w' s t σA h σ' μ μT:=by
 have hao:a ∈ os:=by rw [J.e];simp [ha]
 have hbo:∀ b ∈ t,b ∈ os:=fun b hb=>by rw [J.e];simp [hb]
 obtain ⟨sa,ta,ea⟩:=nK hao
 have hself:Agr l o σ (put' σ o cv):=by
  intro d hd
  obtain ⟨p,hp,rfl⟩:=wDH A (Z.sub a hao _ A.get) d hd
  exact (wEe A (Z.rd sa a ta ea p hp a (by simp)) cv).symm
 refine ⟨J.e,J.hs,J.hr,fun b hb=>by simp [J.inS b hb],fun b hb hh=>?_,⟨J.E.mono,J.E.new,J.E.keep.step K fun _ _ hn=>hn.elim⟩,J.sim.keep K,J.fl,J.env,fun q hq=>?_,J.le.trans hle,fun q c hq=>?_,fun b hb hh=>?_⟩
 ·by_cases e:b.ix=a.ix
  ·rw [wKn Z hao (hbo b hb) e];exact hfree
  ·exact J.free b hb (by simpa [e] using hh)
 ·rw [wEe A (hq a ha (by simp))]
  exact J.ag q fun b hb hs=>hq b hb (by simp [hs])
 ·rcases hnew q c hq with h1 | ⟨_,h2,h3,s1,t1,σ1,h1,e1,e2,e3⟩
  ·rcases J.nm q c h1 with g | ⟨b,ob,s1,t1,σ1,h1,k1,k2,k3,k4,k5,k6,k7,k8⟩
   ·exact .inl g
   ·exact .inr ⟨b,ob,s1,t1,σ1,h1,k1,by simp [k2],k3,(wBS (wEd Z hdc hao hS (hbo b k1) k2 A k3 cv)).symm.trans k4,k5,k6,k7,k8⟩
  ·exact .inr ⟨a,o,s1,t1,σ1,h1,ha,by simp,A.get,(wBS hself).symm.trans h2,h3,e1,e2,e3⟩
 ·by_cases e:b.ix=a.ix
  ·have:=wKn Z hao (hbo b hb) e
   subst this
   exact ⟨o,hpa⟩
  ·have hbS:S b.ix=true:=by simpa [e] using hh
   obtain ⟨ob,p,Pd⟩:=J.pd b hb hbS
   have hA:=wEd (σ:=σ) Z hdc hao hS (hbo b hb) hbS A Pd.get cv
   have hp:put' σ o cv (p.nat - 1)=σ (p.nat - 1):=by
    refine wEe A (fun hd=>?_) cv
    have hb':=hbo b hb
    rw [ea] at hb'
    have hb'':b ∈ sa ++ ta:=by
     rcases nP.1 hb' with h | h
     ·exact nh _ h
     ·rcases nQ.1 h with h | h
      ·exact absurd (by rw [h]) e
      ·exact nT _ h
    exact Z.wr sa a ta ea p hd b hb'' Pd.dst
   have hsb:=Z.sel b (hbo b hb) _ Pd.get
   refine ⟨ob,p,Pd.get,Pd.dst,?_⟩
   rw [hp,<- wBS hA]
   rcases Pd.fact with f | ⟨f,⟨f1,f2⟩ | ⟨f1,f2,w1,w2,f3⟩ | ⟨f1,f2,w1,o1,s1,t1,σ1,h1,f3,f4,f5,f6,f7,f8,f9⟩⟩
   ·exact .inl f
   ·exact .inr ⟨f,.inl ⟨f1,f2⟩⟩
   ·exact .inr ⟨f,.inr (.inl ⟨f1,f2.mono hle,w1,w2,(Runs.agr hsb hA).1 f3⟩)⟩
   ·refine .inr ⟨f,.inr (.inr ⟨f1,f2.mono hle,w1,o1,s1,t1,σ1,h1,(Runs.agr hsb hA).1 f3,(K.block _ (wAJ f4) id).trans f4,f5,f6,f7,hle _ _ f8,fun q c hq hc=>?_⟩)⟩
    rcases hnew q c hq with h1 | ⟨h1,_⟩
    ·exact f9 q c h1 hc
    ·have:=wAJ f4
     omega
theorem wFq:∀ (r:List AO),(∀ b ∈ r,b.kd ≠ 0) \/ ∃ x b y,r=x ++ b :: y/\b.kd=0/\∀ c ∈ x,c.kd ≠ 0
 | []=>.inl fun b hb=>by simp at hb
 | a :: r=>by
  by_cases h0:a.kd=0
  ·exact .inr ⟨[],a,r,rfl,h0,fun c hc=>by simp at hc⟩
  ·rcases wFq r with h | ⟨x,b,y,h1,h2,h3⟩
   ·refine .inl fun b hb=>?_
    rcases nQ.1 hb with rfl | hb
    ·exact h0
    ·exact h b hb
   ·refine .inr ⟨a :: x,b,y,by rw [h1];rfl,h2,fun c hc=>?_⟩
    rcases nQ.1 hc with rfl | hc
    ·exact h0
    ·exact h3 c hc
theorem JS.freeOp {σg:Tr AV} (HE:FrX ex) (HY:FrX exY) (Z:ZOK P N l os) (HL:LCK tb ex exY os σ0 h0 σg) (Hg:∀ a ∈ os,8 <= a.kd->∀ p,p ∈ wBU a \/ a.dst=some p->evA σf (.t p)=evA σg (.t p)) {μ0:Mu} {w0:World} {S:Nat->Bool} (J:JS tb ex exY P l os σ0 h0 σf hf μ0 w0 S σ w s t σA h σ' μ μS) (ha:a ∈ t) (hS:S a.ix=false) (hfree:wBQ a.kd=false)
  (hp:∀ j ∈ prI l a.ix,S j=true) (hdc:∀ k,k < l.length->S k=true->∀ j ∈ prI l k,S j=true) (A:AOK P N l a o) :
  Step1 P l o σ w fun cv w'=>∃ μT,JS tb ex exY P l os σ0 h0 σf hf μ0 w0 (fun k=>k == a.ix || S k) (put' σ o cv) w' s t σA h σ' μ μT:=by
 have hao:a ∈ os:=by rw [J.e];simp [ha]
 have hl:a.ix < l.length:=(nO.1 A.get).1
 obtain ⟨r,r',et⟩:=nK ha
 have e1:os=(s ++ r) ++ a :: r':=by rw [J.e,et,nL]
 have hsel:=Z.sel a hao _ A.get
 have hsub:=Z.sub a hao _ A.get
 have hfull:=J.full
 rw [e1] at hfull
 obtain ⟨σ1,h1,r1,r2⟩:=wIX hfull
 obtain ⟨hw,hrd⟩:=J.frm Z hao hl hp hdc A e1 r1
 have hrr:wAM tb ex exY r σA h=some (σ1,h1):=by rw [<- wCU s r _ _ _ _ J.hs];exact r1
 have hself:∀ cv,Agr l o σ (put' σ o cv):=by
  intro cv d hd
  obtain ⟨p,hp,rfl⟩:=wDH A hsub d hd
  exact (wEe A (Z.rd _ a _ e1 p hp a (by simp)) cv).symm
 obtain ⟨hdn,hkd⟩:a.dst ≠ none/\(a.kd=1 \/ a.kd=3 \/ (a.kd=6/\kdA a.op=3) \/ (a.kd=4/\wJK a.op=true) \/ (8 <= a.kd/\kdA a.op=1)):=by
  rcases Z.kd a hao with h | h
  ·rw [hfree] at h;cases h
  ·exact h
 obtain ⟨p,d,d1,d2,d3,_⟩:∃ p d,a.dst=some p/\o.dst=some d/\d=p.nat - 1/\d < N:=by
  rcases A.dst with ⟨h1,_⟩ | h
  ·exact absurd h1 hdn
  ·exact h
 have eput:∀ cv,put' σ o cv (p.nat - 1)=cv:=fun cv=>by unfold put';rw [d2,d3];exact wBw _ _ _
 have hslot:∀ q ∈ wBf (wAq a.op),q ∈ wBU a:=fun q hq=>nh _ hq
 rcases r2 with ⟨g1,v,h2,g2,g3⟩ | ⟨g1,g3⟩
 ·have hv:evA σf (.t p)=v:=wHp Z e1 g3 d1
  have hw':wanted l σ o=true:=hw.trans g1
  have hwn:∀ cv,wanted l (put' σ o cv) o=true:=fun cv=>(wBS (hself cv)).symm.trans hw'
  have hvS:∀ q ∈ wBf (wAq a.op),Rv μS (evA σ1 (.t q)) (σ (q.nat - 1)):=fun q hq=>by
   rw [<- hrd q (hslot q hq)]
   exact (J.opnd Z hao hl hp hdc (hslot q hq)).1
  have clean:(a.kd=1 \/ a.kd=3 \/ 8 <= a.kd)->(∃ cv,Rv μ v cv/\Runs P σ w o cv w)->Step1 P l o σ w fun cv w'=>∃ μT,JS tb ex exY P l os σ0 h0 σf hf μ0 w0 (fun k=>k == a.ix || S k) (put' σ o cv) w' s t σA h σ' μ μT:=by
   rintro hk ⟨cv,c1,c2⟩
   refine .inl ⟨hw',.inr (.inl ⟨cv,w,c2,μS,J.add Z ha hS hfree hdc A (Keep.refl w _) (Mu.Le.refl _) (fun q c hq=>.inl hq) ⟨p,A.get,d1,.inr ⟨hwn cv,.inl ⟨hk,?_⟩⟩⟩⟩)⟩
   rw [hv,eput]
   exact c1
  have hvC:(a.kd=1 \/ a.kd=3 \/ 8 <= a.kd)->∀ q ∈ wBf (wAq a.op),Rv μ (evA σ1 (.t q)) (σ (q.nat - 1)):=fun hk q hq=>by
   rw [<- hrd q (hslot q hq)]
   exact (J.opnd Z hao hl hp hdc (hslot q hq)).2 hk
  have loadC:(a.kd=1 \/ a.kd=3 \/ 8 <= a.kd)->kdA a.op=1->∀ (x:List AO),(∀ b ∈ x,b ∈ t)->∀ {σ2:Tr AV} {h3 h4:AH} {σ3:Tr AV},wAM tb ex exY x σA h=some (σ2,h3)->opY a.op tb ex exY σ3 h3=some (v,h4)->(∀ b ∈ x,b.kd=0->False)->(∀ q ∈ wBU a,evA σf (.t q)=evA σ3 (.t q))->∃ cv,Rv μ v cv/\Runs P σ w o cv w:=by
   intro hk k x hx σ2 h3 h4 σ3 hrx gY hx0 hrd3
   have hv3:∀ q ∈ wBf (wAq a.op),Rv μ (evA σ3 (.t q)) (σ (q.nat - 1)):=fun q hq=>by
    rw [<- hrd3 q (hslot q hq)]
    exact (J.opnd Z hao hl hp hdc (hslot q hq)).2 hk
   have hrs:=wIV gY
   have henv:=wFL hv3
   obtain ⟨_,hold⟩:=wGN HE HY x _ _ _ _ hrx (fun b hb=>Z.ao b (by rw [J.e];simp [hx b hb])) (fun b hb=>by
    rcases Z.kd b (by rw [J.e];simp [hx b hb]) with h | h
    ·unfold wBQ at h
     simp only [Bool.or_eq_true] at h
     rcases h with h | h
     ·exact absurd (nN h) (hx0 b hb)
     ·exact .inl (nN h)
    ·exact .inr h.2)
   have hm:∀ b c,μ b=some c->h.m.get b=h3.m.get b:=fun b c hb=>by
    refine (hold b ?_).symm
    rcases np b.nat h.nx.nat with hlt | hge
    ·exact hlt
    ·rw [J.sim.nx b hge] at hb;cases hb
   have hld:=wLx k A.op henv hm hrs
   obtain ⟨cv,c1,c2⟩:=wKk (C:=CC P) hsel hsub (.inl k) A.op hld J.sim (fun q hq=>by rw [wFK,if_pos hq];exact hv3 q hq)
   exact ⟨cv,c1,c2⟩
  rcases hkd with hk | hk | ⟨hk,hk2⟩ | ⟨hk,hk2⟩ | ⟨hk,hk2⟩
  ·have gY:opY a.op tb ex exY σ1 h1=some (v,h2):=by rw [hk] at g2;exact g2
   refine clean (.inl hk) ?_
   rcases A.k1 hk with k | k
   ·exact loadC (.inl hk) k r (fun b hb=>by rw [et];simp [hb]) hrr gY (fun b hb h0=>by
     have:=wCj hdc hp (Z.ld _ a _ e1 hk b (by simp [hb]) h0)
     have:=J.free b (by rw [et];simp [hb]) this
     rw [h0] at this
     cases this) hrd
   ·obtain ⟨cv,c1,c2⟩:=wFM hsel hsub k A.op gY (hvC (.inl hk))
    exact ⟨cv,c1,c2 w⟩
  ·have gY:opY a.op tb ex exY σ1 h1=some (v,h2):=by rw [hk] at g2;exact g2
   obtain ⟨cv,c1,c2⟩:=wFM hsel hsub (A.k3 hk) A.op gY (hvC (.inr (.inl hk)))
   exact clean (.inr (.inl hk)) ⟨cv,c1,c2 w⟩
  ·have gY:opY a.op tb ex exY σ1 h1=some (v,h2):=by rw [hk] at g2;exact g2
   obtain ⟨cv,c1,c2⟩:=wFM hsel hsub hk2 A.op gY hvS
   refine .inl ⟨hw',.inr (.inl ⟨cv,w,c2 w,μS,J.add Z ha hS hfree hdc A (Keep.refl w _) (Mu.Le.refl _) (fun q c hq=>.inl hq) ⟨p,A.get,d1,.inr ⟨hwn cv,.inr (.inl ⟨hk,?_,w,w,?_⟩)⟩⟩⟩)⟩
   ·rw [hv,eput]
    exact c1
   ·rw [eput]
    exact (Runs.agr hsel (hself cv)).1 (c2 w)
  ·have gY:opY a.op tb ex exY σ1 h1=some (v,h2):=by rw [hk] at g2;exact g2
   obtain ⟨B,vf,ob,val,_,ev',_,c1,c2,c3⟩:=wIx (C:=CC P) hsel hsub hk2 A.op gY hvS
   have hno:μS h1.nx=none:=by
    cases hq:μS h1.nx with
    | none=>rfl
    | some c =>
     rcases J.nm _ c hq with g | ⟨b,ob',s2,t2,σ2,h3,k1,k2,k3,k4,k5,k6,k7,k8⟩
     ·have:=wNx HE HY Z J.e J.hs ha e1 r1
      rw [J.sim.nx _ this] at g
      cases g
     ·have hbo:b ∈ os:=by rw [J.e];simp [k1]
      have hne:a ≠ b:=fun e=>by subst e;rw [hS] at k2;cases k2
      obtain ⟨ob2,B2⟩:=wBy (Z.ao b hbo)
      have hb2:wJK b.op=true:=by
       rcases Z.kd b hbo with hh | ⟨_,hh | hh | hh | hh | hh⟩
       ·rw [k5] at hh;exact absurd hh (by decide)
       ·omega
       ·omega
       ·omega
       ·exact hh.2
       ·omega
      have hwb:wBj σ2 b.grd=true:=by
       have hlb:b.ix < l.length:=(nO.1 k3).1
       have eo:ob2=ob':=by have:=B2.get;rw [k3] at this;exact (nD this).symm
       subst eo
       have:=(J.frm Z hbo hlb (hdc _ hlb k2) hdc B2 k6 k7).1
       rw [<- this]
       exact k4
      exact absurd k8 (nm_ne HE HY Z e1 k6 r1 k7 g1 hwb hk hk2 k5 hb2 hne)
   have hadd:=Mu.add_le (c:=(⟨w.heap.size,0,g0⟩:Cl)) hno
   have hsz:∀ q c,μS q=some c->c.1 < w.heap.size:=fun q c hq=>by
    rcases J.nm q c hq with g | ⟨b,ob',s2,t2,σ2,h3,k1,k2,k3,k4,k5,k6,k7,k8⟩
    ·exact J.sim.lt q c g
    ·obtain ⟨ob2,p2,Pd⟩:=J.pd b k1 k2
     have eo:ob2=ob':=by have:=Pd.get;rw [k3] at this;exact (nD this).symm
     subst eo
     rcases Pd.fact with ⟨f,_⟩ | ⟨_,⟨f,_⟩ | ⟨f,_⟩ | ⟨_,_,w1,o1,s3,t3,σ3,h4,_,f4,_,f6,f7,f8,_⟩⟩
     ·rw [k4] at f;cases f
     ·omega
     ·omega
     ·have es:s3=s2:=(wBs (f6 ▸ Z.one) (f6.symm.trans k6)).1
      subst es
      rw [k7] at f7
      cases f7
      subst k8
      rw [hq] at f8
      cases f8
      exact wAJ f4
   refine .inl ⟨hw',.inr (.inl ⟨val w.heap.size,w.alloc ob,c1 w,μS.add h1.nx ⟨w.heap.size,0,g0⟩,J.add Z ha hS hfree hdc A (wAf w ob) hadd (fun q c hq=>?_) ⟨p,A.get,d1,.inr ⟨hwn _,.inr (.inr ⟨hk,?_,w,ob,s ++ r,r',σ1,h1,?_,heap_alloc_new w ob,J.E.keep.size,e1,r1,Mu.add_same _ _ _,fun q c hq hc=>?_⟩)⟩⟩⟩)⟩
   ·unfold Mu.add at hq
    split at hq
    ·rename_i eq
     cases hq
     exact .inr ⟨rfl,hw',hk,s ++ r,r',σ1,h1,e1,r1,eq⟩
    ·exact .inl hq
   ·rw [hv,eput,ev']
    exact c3 _ _ _ (Mu.add_same _ _ _)
   ·rw [eput]
    exact (Runs.agr hsel (hself _)).1 (c1 w)
   ·unfold Mu.add at hq
    split at hq
    ·rename_i eq
     exact eq
    ·have:=hsz q c hq
     omega
  ·have gY:opY a.op tb ex exY σ1 h1=some (v,h2):=wKl (by omega) g2
   refine clean (.inr (.inr hk)) ?_
   rcases wFq r with hz | ⟨x,b,y,er,hb0,hx0⟩
   ·exact loadC (.inr (.inr hk)) hk2 r (fun b hb=>by rw [et];simp [hb]) hrr gY (fun b hb h0=>hz b hb h0) hrd
   ·have e2:os=(s ++ x) ++ b :: (y ++ a :: r'):=by rw [J.e,et,er];simp
    have hfull2:=J.full
    rw [e2] at hfull2
    obtain ⟨σ2,h3,r3,_⟩:=wIX hfull2
    have hbt:b ∈ t:=by rw [et,er];simp
    have hanc:wLh y + 8 < a.kd:=by
     rcases Z.ld8 _ a _ e1 hk (s ++ x) b y (by rw [er];simp) hb0 with g | g
     ·have:=J.free b hbt (wCj hdc hp g)
      rw [hb0] at this
      cases this
     ·exact g
    have hlk:=HL _ b _ e2 hb0 _ _ r3
    have hsame:=wHl y a r' 0 hlk hfree (by omega)
    have hgf:wBj σg a.grd=true:=by
     rw [<- g1]
     cases hg:a.grd with
     | none=>rfl
     | some q =>
      obtain ⟨q,c⟩:=q
      show isB c (evA _ (.t q))=isB c (evA _ (.t q))
      have hqr:q ∈ wBU a:=nT _ (by rw [hg];simp)
      rw [<- Hg a hao hk q (.inl hqr),hrd q hqr]
    unfold wFi at hsame
    rw [d1] at hsame
    simp only [hgf] at hsame
    split at hsame
    ·rename_i v' h5 hq
     have hvv:=wKh hsame
     rw [<- Hg a hao hk p (.inr d1),hv] at hvv
     subst hvv
     have hrx:wAM tb ex exY x σA h=some (σ2,h3):=by rw [<- wCU s x _ _ _ _ J.hs];exact r3
     exact loadC (.inr (.inr hk)) hk2 x (fun b hb=>by rw [et,er];simp [hb]) hrx hq (fun b hb h0=>hx0 b hb h0) (fun q hq=>Hg a hao hk q (.inl hq))
    ·cases hsame
 ·refine .inr ⟨hw.trans g1,μS,J.add Z ha hS hfree hdc A (Keep.refl w _) (Mu.Le.refl _) (fun q c hq=>.inl hq) ⟨p,A.get,d1,.inl ⟨(wBS (hself _)).symm.trans (hw.trans g1),eput _,?_⟩⟩⟩
  exact wHp Z e1 (v:=u) g3 d1
theorem JS.catch (Z:ZOK P N l os) {μ0:Mu} {w0:World} {S:Nat->Bool}:∀ (r:List AO) {s t:List AO} {σA:Tr AV} {h:AH} {σ':Env} {μ:Mu},JS tb ex exY P l os σ0 h0 σf hf μ0 w0 S σ w s (r ++ t) σA h σ' μ μS->(∀ a ∈ r,S a.ix=true) ->
  ∃ σB hB σ'' μB,JS tb ex exY P l os σ0 h0 σf hf μ0 w0 S σ w (s ++ r) t σB hB σ'' μB μS
 | [],s,t,σA,h,σ',μ,J,_=>⟨σA,h,σ',μ,by rw [nc];exact J⟩
 | a :: r,s,t,σA,h,σ',μ,J,hS=>by
  obtain ⟨σB,hB,σ'',μB,J1⟩:=JS.catch1 (t:=r ++ t) Z J (hS a (by simp))
  obtain ⟨σC,hC,σ3,μC,J2⟩:=JS.catch Z r J1 fun b hb=>hS b (by simp [hb])
  exact ⟨σC,hC,σ3,μC,by rw [show s ++ a :: r=s ++ [a] ++ r by simp];exact J2⟩
theorem JS.anew {A B:List AO} {σm:Tr AV} {h2:AH} {μ0:Mu} {w0:World} {S:Nat->Bool} (J:JS tb ex exY P l A σ0 h0 σm h2 μ0 w0 S σ w s [] σA h σ' μ μS) (hr:wAM tb ex exY B σm h2=some (σf,hf)) (hB:∀ b ∈ B,S b.ix=false) :
  Ext μ0 h0.fl.nat w0 μ w/\h2.fl=h0.fl/\JS tb ex exY P l B σm h2 σf hf μ w S σ w [] B σm h2 σ' μ μ:=by
 have hr1:=J.hr
 rw [wAX] at hr1
 cases hr1
 exact ⟨J.E,J.fl,rfl,wAX _ _ _ _ _,hr,fun b hb=>(by simp at hb),fun b hb hS=>(by rw [hB b hb] at hS;cases hS),Ext.refl μ _ w,J.sim,rfl,J.env,fun q _=>J.ag q fun b hb=>(by simp at hb),Mu.Le.refl _,fun q c hq=>.inl hq,fun b hb hS=>(by rw [hB b hb] at hS;cases hS)⟩
theorem CK.lazy {rr:Option Nat} {Q:wCO} {D:List Deferred} {id:Nat} (hm:P.follows .mixedOrders=true) (HC:wEQ (CC P) P tb ex) (HY':wDc (CC P) P exY) (HE:FrX ex) (HY:FrX exY) (ZZ:∃ A B,ZAll P N l os A B) (HL0:LCK tb ex exY os σ0 h0 σf)
  (hr:wAM tb ex exY os σ0 h0=some (σf,hf)) (S:Sim (CC P) P μ h0 w) (hE:EnvR μ σ0 σ)
  (hQ:∀ μ' w' σ',Ext μ h0.fl.nat w μ' w'->Sim (CC P) P μ' hf w'->EnvR μ' σf σ'->hf.fl=h0.fl->Q D .normal σ' w'):CK rr N P (.region id l.toArray true) Q D σ w:=by
 obtain ⟨A,B,ZZ⟩:=ZZ
 obtain ⟨σm,h2,hrA,hrB⟩:=wCR A B σ0 h0 _ (ZZ.eq ▸ hr)
 have HL:LCK tb ex exY A σ0 h0 σf/\LCK tb ex exY B σm h2 σf:=by
  refine ⟨fun s b t e k0 σ1 h1 hs=>?_,wIS ZZ.low⟩
  have:=HL0 s b (t ++ B) (by rw [ZZ.eq,e];simp) k0 σ1 h1 hs
  exact wGK t B 0 this
 have Hg:∀ a ∈ A,8 <= a.kd->∀ p,p ∈ wBU a \/ a.dst=some p->evA σm (.t p)=evA σf (.t p):=fun a ha h8 p hp=>(wBr B _ _ _ _ hrB p fun b hb=>ZZ.far a ha h8 p hp b hb).symm
 have lt:∀ b ∈ os,b.ix < l.length:=fun b hb=>by
  rw [ZZ.eq] at hb
  rcases nP.1 hb with hb | hb
  ·obtain ⟨o,A⟩:=wBy (ZZ.za.ao b hb)
   exact (nO.1 A.get).1
  ·obtain ⟨o,A⟩:=wBy (ZZ.zb.ao b hb)
   exact (nO.1 A.get).1
 have stepB:∀ (S1:Nat->Bool) (a:AO) (σ1:Env) (w1:World) (μm:Mu) (wm:World) (s t:List AO) (σA:Tr AV) (h:AH) (σ':Env) (μ1 μS:Mu) (o:Oper),a ∈ B->S1 a.ix=false->(∀ j ∈ prI l a.ix,S1 j=true)->(∀ k,k < l.length->S1 k=true->∀ j ∈ prI l k,S1 j=true)->AOK P N l a o ->
   JS tb ex exY P l B σm h2 σf hf μm wm S1 σ1 w1 s t σA h σ' μ1 μS->Step1 P l o σ1 w1 fun v w'=>∃ s t σA h σ' μ1 μS,JS tb ex exY P l B σm h2 σf hf μm wm (fun k=>k == a.ix || S1 k) (put' σ1 o v) w' s t σA h σ' μ1 μS:=by
  intro S1 a σ1 w1 μm wm s t σA h σ' μ1 μS o ha hSi hpi hdc A J
  have hat:a ∈ t:=by
   have:=ha
   rw [J.e] at this
   rcases nP.1 this with h | h
   ·rw [J.inS a h] at hSi;cases hSi
   ·exact h
  cases hf:wBQ a.kd with
  | true =>
   obtain ⟨r,r',et⟩:=nK hat
   rw [et] at J
   obtain ⟨σB,hB,σ'',μB,J1⟩:=JS.catch ZZ.zb r J fun b hb=>wCj hdc hpi (ZZ.zb.anc (s ++ r) a r' (by rw [J.e,nL]) hf b (by simp [hb]))
   refine (J1.fixed HC HY' HE HY ZZ.zb hf hSi hdc A).mono ?_
   rintro v w' ⟨σC,hC,σ3,μC,μT,J2⟩
   exact ⟨_,_,_,_,_,_,_,J2⟩
  | false =>
   refine (J.freeOp HE HY ZZ.zb HL.2 (fun _ _ _ _ _=>rfl) hat hSi hf hpi hdc A).mono ?_
   rintro v w' ⟨μT,J2⟩
   exact ⟨_,_,_,_,_,_,_,J2⟩
 have toB:∀ (S1:Nat->Bool) (σ1:Env) (w1:World) (s t:List AO) (σA:Tr AV) (h:AH) (σ':Env) (μ1 μS:Mu),(∀ a ∈ A,S1 a.ix=true)->(∀ b ∈ B,S1 b.ix=false)->JS tb ex exY P l A σ0 h0 σm h2 μ w S1 σ1 w1 s t σA h σ' μ1 μS ->
   ∃ μm σ',Ext μ h0.fl.nat w μm w1/\h2.fl=h0.fl/\JS tb ex exY P l B σm h2 σf hf μm w1 S1 σ1 w1 [] B σm h2 σ' μm μm:=by
  intro S1 σ1 w1 s t σA h σ' μ1 μS hA hB J
  have J0:JS tb ex exY P l A σ0 h0 σm h2 μ w S1 σ1 w1 s (t ++ []) σA h σ' μ1 μS:=by rw [nc];exact J
  obtain ⟨σB,hB',σ'',μB,J1⟩:=JS.catch ZZ.za t J0 fun b hb=>hA b (by rw [J.e];simp [hb])
  obtain ⟨g1,g2,g3⟩:=J1.anew hrB hB
  exact ⟨μB,σ'',g1,g2,g3⟩
 refine CK.anyRel hm ZZ.za.pr (fun S σ w1=>((∀ b ∈ B,S b.ix=false)/\∃ s t σA h σ' μ1 μS,JS tb ex exY P l A σ0 h0 σm h2 μ w S σ w1 s t σA h σ' μ1 μS) \/
  ((∀ a ∈ A,S a.ix=true)/\∃ μm wm,Ext μ h0.fl.nat w μm wm/\h2.fl=h0.fl/\∃ s t σA h σ' μ1 μS,JS tb ex exY P l B σm h2 σf hf μm wm S σ w1 s t σA h σ' μ1 μS)) ?_ ?_ ?_
 ·exact .inl ⟨fun b _=>rfl,[],A,σ0,h0,σ,μ,μ,rfl,wAX _ _ _ _ _,hrA,fun b hb=>(by simp at hb),fun b _ hb=>(by cases hb),Ext.drew μ _ w,S.keep (Keep.drew w),rfl,hE,fun _ _=>rfl,Mu.Le.refl _,fun q c hq=>.inl hq,fun b _ hb=>(by cases hb)⟩
 ·rintro S1 i σ1 w1 hi hSi hpi hdc hlt hI
  obtain ⟨a,ha,rfl⟩:=ZZ.all i hi
  rw [ZZ.eq] at ha
  rcases nP.1 ha with ha | ha
  ·obtain ⟨o,AK⟩:=wBy (ZZ.za.ao a ha)
   refine ⟨o,AK.get,wFn AK,?_⟩
   rcases hI with ⟨hB,s,t,σA,h,σ',μ1,μS,J⟩ | ⟨hA,_⟩
   ·have hB':∀ b ∈ B,(fun k=>k == a.ix || S1 k) b.ix=false:=fun b hb=>by
     have:=(ZZ.cross b hb a ha).1
     simp [hB b hb,Ne.symm this]
    have hat:a ∈ t:=by
     have:=ha
     rw [J.e] at this
     rcases nP.1 this with h | h
     ·rw [J.inS a h] at hSi;cases hSi
     ·exact h
    cases hf:wBQ a.kd with
    | true =>
     obtain ⟨r,r',et⟩:=nK hat
     rw [et] at J
     obtain ⟨σB,hB2,σ'',μB,J1⟩:=JS.catch ZZ.za r J fun b hb=>wCj hdc hpi (ZZ.za.anc (s ++ r) a r' (by rw [J.e,nL]) hf b (by simp [hb]))
     refine (J1.fixed HC HY' HE HY ZZ.za hf hSi hdc AK).mono ?_
     rintro v w' ⟨σC,hC,σ3,μC,μT,J2⟩
     exact .inl ⟨hB',_,_,_,_,_,_,_,J2⟩
    | false =>
     refine (J.freeOp HE HY ZZ.za HL.1 Hg hat hSi hf hpi hdc AK).mono ?_
     rintro v w' ⟨μT,J2⟩
     exact .inl ⟨hB',_,_,_,_,_,_,_,J2⟩
   ·rw [hA a ha] at hSi
    cases hSi
  ·obtain ⟨o,AK⟩:=wBy (ZZ.zb.ao a ha)
   refine ⟨o,AK.get,wFn AK,?_⟩
   have hA:∀ c ∈ A,S1 c.ix=true:=fun c hc=>wCj hdc hpi (ZZ.cross a ha c hc).2
   rcases hI with ⟨hB,s,t,σA,h,σ',μ1,μS,J⟩ | ⟨_,μm,wm,g1,g2,s,t,σA,h,σ',μ1,μS,J⟩
   ·obtain ⟨μm,σ2,g1,g2,J1⟩:=toB S1 σ1 w1 s t σA h σ' μ1 μS hA hB J
    refine (stepB S1 a σ1 w1 _ _ _ _ _ _ _ _ _ o ha hSi hpi hdc AK J1).mono ?_
    rintro v w' ⟨s,t,σA,h,σ',μ1,μS,J2⟩
    exact .inr ⟨fun c hc=>by simp [hA c hc],_,_,g1,g2,_,_,_,_,_,_,_,J2⟩
   ·refine (stepB S1 a σ1 w1 _ _ _ _ _ _ _ _ _ o ha hSi hpi hdc AK J).mono ?_
    rintro v w' ⟨s,t,σA,h,σ',μ1,μS,J2⟩
    exact .inr ⟨fun c hc=>by simp [hA c hc],_,_,g1,g2,_,_,_,_,_,_,_,J2⟩
 ·rintro S1 σ1 w1 hall hI
  have hI2:∃ μm wm,Ext μ h0.fl.nat w μm wm/\h2.fl=h0.fl/\∃ s t σA h σ' μ1 μS,JS tb ex exY P l B σm h2 σf hf μm wm S1 σ1 w1 s t σA h σ' μ1 μS:=by
   rcases hI with ⟨hB,s,t,σA,h,σ',μ1,μS,J⟩ | ⟨_,hI⟩
   ·obtain ⟨μm,σ2,g1,g2,J1⟩:=toB S1 σ1 w1 s t σA h σ' μ1 μS (fun a ha=>hall _ (lt a (by rw [ZZ.eq];simp [ha]))) hB J
    exact ⟨_,_,g1,g2,_,_,_,_,_,_,_,J1⟩
   ·exact hI
  obtain ⟨μm,wm,g1,g2,s,t,σA,h,σ',μ1,μS,J⟩:=hI2
  have J0:JS tb ex exY P l B σm h2 σf hf μm wm S1 σ1 w1 s (t ++ []) σA h σ' μ1 μS:=by rw [nc];exact J
  obtain ⟨σB,hB,σ'',μB,J1⟩:=JS.catch ZZ.zb t J0 fun b hb=>hall _ (lt b (by rw [ZZ.eq,J.e];simp [hb]))
  have hr1:=J1.hr
  rw [wAX] at hr1
  cases hr1
  refine hQ μB w1 σ1 (g1.trans (g2 ▸ J1.E)) J1.sim (fun q=>?_) (J1.fl.trans g2)
  rw [J1.ag q fun b hb=>by simp at hb]
  exact J1.env q
end
end Go.KX
namespace Go.KX
open Go.RowKit Go.KL
section
variable {P:Program} {tb:Tr AF}
theorem wKo (hm:P.follows .mixedOrders=true) {ex exY:Run} (HC:wEQ (CC P) P tb ex) (HY:wDc (CC P) P exY) (FE:FrX ex) (FY:FrX exY) {os:List AO} {σA σA':Tr AV} {h h':AH} (hr:wAM tb ex exY os σA h=some (σA',h')) {id N:Nat} {ops:Array Oper} {draw:Bool} (hc:chkR P N os ops.toList draw=true)
  {rr:Option Nat} {μ:Mu} {σ:Env} {w:World} {D:List Deferred} {n0:Nat} (S:Sim (CC P) P μ h w) (hE:EnvR μ σA σ) (M:Mk μ w n0 D):CK rr N P (.region id ops draw) (PostX P μ h.fl w n0 rr D .nrm σA' h') D σ w:=by
 unfold chkR at hc
 simp only [nA,nM] at hc
 obtain ⟨c1,c2⟩:=hc
 have hop:ops=ops.toList.toArray:=by simp
 have hcs:∀ a ∈ os,wFG P N ops.toList a=true/\kOf ((nu ops.toList.length).map fun i=>kdAt i os) a.ix=a.kd:=fun a ha=>⟨(c1 a ha).1,nN (c1 a ha).2⟩
 have post:∀ {w0:World},Ext μ h.fl.nat w μ w0->Sim (CC P) P μ h w0->OKS N P ops.toList (PostX P μ h.fl w n0 rr D .nrm σA' h') D ((nu ops.toList.length).map fun i=>kdAt i os) (wGz os) σ w0:=by
  intro w0 E0 S0
  refine wHA HC HY os σA h σA' h' hr hcs μ σ w0 S0 hE fun μ' w' σ' q1 q2 q3 q4=>?_
  have E:=E0.trans q1
  exact ⟨rfl,μ',E,q2,q3,M.ext E,q4,fun _=>rfl⟩
 rw [hop]
 cases draw with
 | true =>
  simp only at c2
  split at c2
  ·simp only [nA,nM,Nat.blt_eq] at c2
   exact CK.lazy hm HC HY FE FY (wKb (fun a ha=>(c1 a ha).1) c2.2) (wIS c2.1) hr S hE fun μ' w' σ' q1 q2 q3 q4=>⟨rfl,μ',q1,q2,q3,M.ext q1,q4,fun _=>rfl⟩
  ·exact CK.anyOrd hm _ _ c2 (post (Ext.drew μ _ w) (S.keep (Keep.drew w)))
 | false=>exact CK.reg _ c2 (post (Ext.refl μ _ w) S)
theorem wLy {ex:Run} (HC:wEQ (CC P) P tb ex) {g:AOd} {t:List Pos} {asg body:AC} {g':Operand} {ps:Array Tmp} {asg' body':Code} {N:Nat} (hc:wDu P N (.rf g t asg body) (.rangeFunc g' ps asg' body')=true)
  {σA σA':Tr AV} {h h':AH} {e:Ex} (hr:sRf true g t asg body tb ex σA h=some (e,σA',h')) {μ:Mu} {σ:Env} {w:World} {D:List Deferred} {n0:Nat} (S:Sim (CC P) P μ h w) (hE:EnvR μ σA σ) (M:Mk μ w n0 D) (hn:n0 <= w.heap.size) :
  CK none N P (.rangeFunc g' ps asg' body') (PostX P μ h.fl w n0 none D e σA' h') D σ w:=by
 simp only [wDu,nA] at hc
 obtain ⟨c1,c2,c3,c4⟩:=hc
 obtain ⟨p,rfl⟩:∃ p:List Nat,ps=p.toArray:=⟨ps.toList,by simp⟩
 ·obtain ⟨ht,c6⟩:=wIT (by simpa using c2)
  unfold sRf at hr
  split at hr
  ·rename_i f fi ca hg
   have hx:=wAD c1 hE
   rw [hg] at hx
   obtain ⟨fv,cv,g1,g2,g3⟩:=hx
   split at hr <;> first | (cases hr;done) | skip
   rename_i rv h2 hcall
   obtain ⟨hcf,hgv⟩:=HC _ _ _ _ _ hcall
   refine CK.rangeFunc (t:=p) g3 hcf fun fn l rb w1 e1 e2 hl hd K hs=>?_
   subst e1 e2
   have hle:=Mu.add_le (c:=(⟨w.heap.size + 1,0,⟨N,σ,p,asg',body',w.heap.size,fn⟩⟩:Cl)) (S.nx h.nx (nI _))
   obtain ⟨s1,s2,s3,s4⟩:=S.push (w':=w1) (c:=⟨w.heap.size + 1,0,⟨N,σ,p,asg',body',w.heap.size,fn⟩⟩) (B:=.loop σA t asg body .ready) K (Nat.le_succ _) (by show w.heap.size + 1 < _;omega) ⟨hl,hE.mono hle,ht,c6,c3,c4⟩
   generalize hμ1:μ.add h.nx (⟨w.heap.size + 1,0,⟨N,σ,p,asg',body',w.heap.size,fn⟩⟩:Cl)=μ1 at *
   have M1:Mk μ1 w1 n0 (wIH w.heap.size :: D):=by
    have M':=M.ext s2
    obtain ⟨rbs,m1,m2,m3⟩:=M'
    have hold:∀ rb ∈ rbs,rb < w.heap.size:=by
     obtain ⟨rbs0,k1,k2,k3⟩:=M
     intro rb hrb
     have hmm:rbs.map wIH=rbs0.map wIH:=by rw [<- m1,<- k1]
     have hinj:rbs=rbs0:=by
      have:∀ (a b:List Nat),a.map wIH=b.map wIH->a=b:=by
       intro a
       induction a with
       | nil=>intro b hb;cases b with
        | nil=>rfl
        | cons _ _=>simp at hb
       | cons x a ih=>intro b hb;cases b with
        | nil=>simp at hb
        | cons y b =>
         simp only [nl,List.cons.injEq] at hb
         have hxy:x=y:=by have:=hb.1;simp [wIH] at this;exact this
         rw [hxy,ih b hb.2]
      exact this _ _ hmm
     exact (k3 rb (hinj ▸ hrb)).1.lt
    refine ⟨w.heap.size :: rbs,by rw [nl,<- m1],List.nodup_cons.2 ⟨fun hm=>absurd (hold _ hm) (nk _),m2⟩,fun rb hrb=>?_⟩
    rcases nQ.1 hrb with rfl | hrb
    ·refine ⟨hd,hn,fun q c hq=>?_⟩
     rw [<- hμ1] at hq
     unfold Mu.add at hq
     split at hq
     ·cases hq;show w.heap.size + 1 ≠ _;omega
     ·have:=S.lt q c hq;omega
    ·exact m3 rb hrb
   have G:=hgv μ1 w1 (fv ++ (.func (.yield (w.heap.size + 1)) #[] #[] :: cv)) s1 (wCg (g1.mono s2.mono) (wAm ⟨_,s4,rfl⟩ (g2.mono s2.mono)))
   rw [nL]
   refine G.mono ?_
   rintro v3 w3 ⟨μ3,q1,q2,q3,q4⟩
   rw [s3] at q1 q4
   have E13:=s2.trans q1
   have hc3:=q1.mono _ _ s4
   have fin:∀ {B:AB} {h3:AH} (w4:World),h2.m.get h.nx=some B->wIp B->h2.put h.nx .dead=some h3->Keep w3 w4 (·=w.heap.size + 1)->w4.heap.size=w3.heap.size->∃ μ',Ext μ h.fl.nat w μ' w4/\Sim (CC P) P μ' h3 w4/\EnvR μ' σA σ/\Mk μ' w4 n0 (wIH w.heap.size :: D)/\h3.fl=h.fl:=by
    intro B h3 w4 hB hlv hput K4 _
    obtain ⟨v1,v2,v3⟩:=q2.put hput hB hlv hc3 K4 (B':=.dead) trivial
    rw [q4] at v2 v3
    exact ⟨μ3,E13.trans v2,v1,hE.mono E13.mono,(M1.ext q1).ext v2,v3⟩
   split at hr
   ·rename_i sx tx ax bx hB
    split at hr <;> first | (cases hr;done) | skip
    rename_i h3 hput
    cases hr
    obtain ⟨c',u1,u2⟩:=q2.at_ _ _ hB
    rw [hc3] at u1;cases u1
    have L3:wIo (CC P) μ3 w3 ⟨w.heap.size + 1,0,⟨N,σ,p,asg',body',w.heap.size,fn⟩⟩ sx tx ax bx .ready:=u2
    refine .inl ⟨L3.at_,fun w4 K4 hs4=>?_⟩
    obtain ⟨μ',a1,a2,a3,a4,a5⟩:=fin w4 hB trivial hput K4 hs4
    exact ⟨rfl,μ',a1,a2,a3,a4,a5,fun hq=>by cases hq⟩
   ·rename_i sx tx ax bx ee hB
    split at hr <;> first | (cases hr;done) | skip
    rename_i h3 hput
    cases hr
    obtain ⟨c',u1,u2⟩:=q2.at_ _ _ hB
    rw [hc3] at u1;cases u1
    have L3:wIo (CC P) μ3 w3 ⟨w.heap.size + 1,0,⟨N,σ,p,asg',body',w.heap.size,fn⟩⟩ sx tx ax bx (.done e):=u2
    cases e with
    | nrm =>
     refine .inl ⟨L3.at_,fun w4 K4 hs4=>?_⟩
     obtain ⟨μ',a1,a2,a3,a4,a5⟩:=fin w4 hB trivial hput K4 hs4
     exact ⟨rfl,μ',a1,a2,a3,a4,a5,fun hq=>by cases hq⟩
    | ret =>
     refine .inr ⟨.ret,.inl rfl,L3.at_,fun w4 K4 hs4=>?_⟩
     obtain ⟨μ',a1,a2,a3,a4,a5⟩:=fin w4 hB trivial hput K4 hs4
     exact ⟨rfl,μ',a1,a2,a3,a4,a5,fun hq=>by cases hq⟩
    | exit i =>
     refine .inr ⟨.exit i,.inr ⟨i,rfl⟩,L3.at_,fun w4 K4 hs4=>?_⟩
     obtain ⟨μ',a1,a2,a3,a4,a5⟩:=fin w4 hB trivial hput K4 hs4
     exact ⟨rfl,μ',a1,a2,a3,a4,a5,fun hq=>by cases hq⟩
   ·cases hr
  ·cases hr
theorem CK.ofRounds {rr:Option Nat} {N:Nat} {c:Code} {Q:wCO} {D:List Deferred} {σ:Env} {w:World} (m:Nat) (hh:∀ a,Rep N D a σ->Code.roundsIn (WF rr) 0 P c (wFu N Q) m a w):CK rr N P (.loop c) Q D σ w :=
 fun a ha=>wpIn_loop_rounds m (hh a ha)
theorem wPJ {exR:Run} {r:Bool} (HE:wHB P exR r) {a b:AC} {σA σA':Tr AV} {h h':AH} {e:Ex} (hr:wOf a b exR σA h=some (e,σA',h')) {c d:Code} {N:Nat} (hc1:wDu P N a c=true) (hc2:wDu P N b d=true)
  {rr:Option Nat} {μ:Mu} {σ:Env} {w:World} {D:List Deferred} {n0:Nat} (hrr:rr.isSome=r) (S:Sim (CC P) P μ h w) (hE:EnvR μ σA σ) (M:Mk μ w n0 D) (hn:n0 <= w.heap.size):CK rr N P (.seq c d) (PostX P μ h.fl w n0 rr D e σA' h') D σ w:=by
 obtain ⟨⟨e1,σ1,h1⟩,ha,hb⟩:=wOQ hr
 rw [wHo] at hb
 refine CK.seq ((HE _ _ _ _ _ _ ha c N hc1 rr μ σ w D n0 hrr S hE M hn).mono ?_)
 intro D' e' σ' w' hp
 obtain ⟨rfl,μ1,q1,q2,q3,q4,q5,q6⟩:=hp
 cases e1 with
 | nrm =>
  refine (HE _ _ _ _ _ _ hb d N hc2 rr μ1 σ' w' D' n0 hrr q2 q3 q4 (na hn q1.keep.size)).mono ?_
  intro D'' e'' σ'' w'' hp
  rw [q5] at hp
  exact PostX.trans q1 q6 hp
 | ret=>cases hb;exact ⟨rfl,μ1,q1,q2,q3,q4,q5,q6⟩
 | exit i=>cases hb;exact ⟨rfl,μ1,q1,q2,q3,q4,q5,q6⟩
theorem wNy {exR:Run} {r:Bool} {m:Nat} (HE:wHB P exR r) (HL:wKc P exR r m) {a:AC} {σA σA':Tr AV} {h h':AH} {e:Ex} (hr:wJx a exR σA h=some (e,σA',h')) {c:Code} {N:Nat} (hc:wDu P N a c=true)
  {rr:Option Nat} {μ:Mu} {σ:Env} {w:World} {D:List Deferred} {n0:Nat} (hrr:rr.isSome=r) (S:Sim (CC P) P μ h w) (hE:EnvR μ σA σ) (M:Mk μ w n0 D) (hn:n0 <= w.heap.size):∀ act,Rep N D act σ->Code.roundsIn (WF rr) 0 P c (wFu N (PostX P μ h.fl w n0 rr D e σA' h')) (m + 1) act w:=by
 obtain ⟨⟨e1,σ1,h1⟩,ha,hb⟩:=wOQ hr
 rw [wHo] at hb
 intro act hact
 rw [roundsIn_succ]
 refine wpIn_mono (HE _ _ _ _ _ _ ha c N hc rr μ σ w D n0 hrr S hE M hn act hact) ?_
 rintro e' act' w' ⟨σ',D',hrep,hp⟩
 obtain ⟨rfl,μ1,q1,q2,q3,q4,q5,q6⟩:=hp
 cases e1 with
 | nrm =>
  refine wFJ ?_ m act' w' (HL _ _ _ _ _ _ hb c N hc rr μ1 σ' w' D' n0 hrr q2 q3 q4 (na hn q1.keep.size) act' hrep)
  rintro e'' act'' w'' ⟨σ'',D'',hrep',hp⟩
  rw [q5] at hp
  exact ⟨σ'',D'',hrep',PostX.trans q1 q6 hp⟩
 | ret=>cases hb;exact ⟨σ',D',hrep,rfl,μ1,q1,q2,q3,q4,q5,q6⟩
 | exit i=>cases hb;exact ⟨σ',D',hrep,rfl,μ1,q1,q2,q3,q4,q5,q6⟩
theorem wNz (hm:P.follows .mixedOrders=true) (T:wIw P tb):∀ (n:Nat) (r:Bool),wHB P (exec tb n r) r/\wKc P (exec tb n r) r n:=by
 intro n
 induction n with
 | zero=>intro r;exact ⟨fun c σA h e σA' h' hr=>(by cases hr),fun c σA h e σA' h' hr=>(by cases hr)⟩
 | succ n ih =>
  intro r
  have HC:=wKd T (ih false).1
  have HY:=wLv (P:=P) (ih true).1
  obtain ⟨HE,HL⟩:=ih r
  have loop:wKc P (exec tb (n + 1) r) r (n + 1):=by
   intro c σA h e σA' h' hr code N hc rr μ σ w D n0 hrr S hE M hn
   have hr:wJx c (exec tb n r) σA h=some (e,σA',h'):=hr
   exact wNy HE HL hr hc hrr S hE M hn
  refine ⟨?_,loop⟩
  intro c σA h e σA' h' hr code N hc rr μ σ w D n0 hrr S hE M hn
  rw [wGs] at hr
  cases c with
  | skip =>
   have hr:sNrm σA h=some (e,σA',h'):=hr
   cases hr
   have fin:PostX P μ h.fl w n0 rr D .nrm σA h D .normal σ w:=⟨rfl,μ,Ext.refl μ _ w,S,hE,M,rfl,fun _=>rfl⟩
   cases code <;> simp only [wDu,nB] at hc
   ·exact CK.skip fin
   ·exact CK.label fin
  | rg os =>
   have hr:sRg os tb (exec tb n false) (exec tb n true) (exec tb n r) σA h=some (e,σA',h'):=hr
   unfold sRg at hr
   have:∃ y,wAM tb (exec tb n false) (exec tb n true) os σA h=some y/\some (Ex.nrm,y.1,y.2)=some (e,σA',h'):=by
    cases hq:wAM tb (exec tb n false) (exec tb n true) os σA h with
    | none=>rw [hq] at hr;cases hr
    | some y=>rw [hq] at hr;exact ⟨y,rfl,hr⟩
   obtain ⟨y,h1,h2⟩:=this
   cases h2
   cases code <;> simp only [wDu,nB] at hc
   exact wKo hm HC HY (wDe tb n false) (wDe tb n true) h1 hc S hE M
  | seq a b =>
   have hr:wOf a b (exec tb n r) σA h=some (e,σA',h'):=hr
   cases code <;> simp only [wDu,nB,nA] at hc
   exact wPJ HE hr hc.1 hc.2 hrr S hE M hn
  | cond x a b =>
   have hr:wJw x a b (exec tb n r) σA h=some (e,σA',h'):=hr
   cases code <;> simp only [wDu,nB,nA] at hc
   have hx:=wAD hc.1 hE
   unfold wJw at hr
   split at hr
   ·rename_i hb;rw [hb] at hx
    exact CK.condT hx (HE _ _ _ _ _ _ hr _ N hc.2.1 rr μ σ w D n0 hrr S hE M hn)
   ·rename_i hb;rw [hb] at hx
    exact CK.condF hx (HE _ _ _ _ _ _ hr _ N hc.2.2 rr μ σ w D n0 hrr S hE M hn)
   ·cases hr
  | block i a =>
   have hr:wIG i a (exec tb n r) σA h=some (e,σA',h'):=hr
   cases code <;> simp only [wDu,nB,nA] at hc
   rename_i j code
   have hij:=nN hc.1
   subst hij
   obtain ⟨⟨e1,σ1,h1⟩,ha,hb⟩:=wOQ hr
   refine CK.block ((HE _ _ _ _ _ _ ha code N hc.2 rr μ σ w D n0 hrr S hE M hn).mono ?_)
   rintro D' e' σ' w' ⟨rfl,μ1,q1,q2,q3,q4,q5,q6⟩
   cases e1 with
   | nrm=>cases hb;exact ⟨rfl,μ1,q1,q2,q3,q4,q5,q6⟩
   | ret=>cases hb;exact ⟨rfl,μ1,q1,q2,q3,q4,q5,q6⟩
   | exit k =>
    have hb:Bool.rec (motive:=fun _=>R) (some (.exit k,σ1,h1)) (some (.nrm,σ1,h1)) (Nat.beq k i)=some (e,σA',h'):=hb
    cases hk:Nat.beq k i with
    | true =>
     rw [hk] at hb;cases hb
     have:=nN hk
     subst this
     exact wFw ⟨rfl,μ1,q1,q2,q3,q4,q5,q6⟩
    | false =>
     rw [hk] at hb;cases hb
     exact wLi ⟨rfl,μ1,q1,q2,q3,q4,q5,q6⟩ hk
  | loop a =>
   have hr':exec tb (n + 1) r (.loop a) σA h=some (e,σA',h'):=hr
   cases code <;> simp only [wDu,nB] at hc
   exact CK.ofRounds (n + 1) (loop _ _ _ _ _ _ hr' _ N hc rr μ σ w D n0 hrr S hE M hn)
  | rf g t asg body =>
   have hr:sRf (!r) g t asg body tb (exec tb n false) σA h=some (e,σA',h'):=hr
   cases r with
   | true=>unfold sRf at hr;simp at hr
   | false =>
    have hnone:rr=none:=by cases rr <;> first | rfl | cases hrr
    subst hnone
    cases code <;> first | (simp only [wDu,nB] at hc;done) | skip
    exact wLy HC hc hr S hE M hn
  | exit i =>
   have hr:some (Ex.exit i,σA,h)=some (e,σA',h'):=hr
   cases hr
   cases code <;> simp only [wDu,nB] at hc
   have:=nN hc
   subst this
   exact CK.exit ⟨rfl,μ,Ext.refl μ _ w,S,hE,M,rfl,fun _=>rfl⟩
  | scope a =>
   have hr:exec tb n r a σA h=some (e,σA',h'):=hr
   cases code <;> simp only [wDu,nB] at hc
   refine CK.scope ((HE _ _ _ _ _ _ hr _ N hc rr μ σ w D n0 hrr S hE M hn).mono ?_)
   rintro D' e' σ' w' ⟨rfl,q⟩
   cases e with
   | nrm=>exact ⟨rfl,q⟩
   | ret=>exact ⟨rfl,q⟩
   | exit k=>exact ⟨rfl,q⟩
  | ret =>
   have hr:some (Ex.ret,σA,h)=some (e,σA',h'):=hr
   cases hr
   cases code <;> simp only [wDu,nB] at hc
   exact CK.ret ⟨rfl,μ,Ext.refl μ _ w,S,hE,M,rfl,fun _=>rfl⟩
  | rl os =>
   have hr:sRl os tb (exec tb n false) (exec tb n true) σA h=some (e,σA',h'):=hr
   rw [wMe] at hr
   split at hr
   ·rename_i y hq
    cases hr
    obtain ⟨g1,g2⟩:=wHm _ _ _ _ hq
    cases code <;> simp only [wDu,nB,nA,nM] at hc
    rename_i id ops draw
    obtain ⟨rfl,c1,c2⟩:=hc
    have hop:ops=ops.toList.toArray:=by simp
    rw [hop]
    exact CK.lazy hm HC HY (wDe tb n false) (wDe tb n true) (wKb c1 c2) g2 g1 S hE fun μ' w' σ' q1 q2 q3 q4=>⟨rfl,μ',q1,q2,q3,M.ext q1,q4,fun _=>rfl⟩
   ·cases hr
theorem Sim.empty (C:Chk) (P:Program) (w:World):Sim C P (fun _=>none) ⟨.e,.H,.H⟩ w :=
 ⟨fun _ _=>rfl,fun _ _ h=>(by cases h),fun _ _ _ _ _ _ h=>(by rw [Tr.get_e] at h;cases h),fun _ _ h=>(by rw [Tr.get_e] at h;cases h)⟩
theorem wIz (hm:P.follows .mixedOrders=true) (T:wIw P tb) (n:Nat) (f:Pos) (args:List AV) (vs:List Value) (v:AV) (h:AH) (hv:∀ μ,RvL μ args vs) (hr:wGp tb (exec tb n false) f args ⟨.e,.H,.H⟩=some (v,h)) (w:World) :
  Gv P (f.nat - 1) vs w fun cv w'=>∃ μ,Rv μ v cv/\Keep w w' Non:=by
 obtain ⟨_,hg⟩:=wKd T (wNz hm T n false).1 f args _ v h hr
 refine (hg _ w vs (Sim.empty _ _ w) (hv _)).mono ?_
 rintro cv w' ⟨μ',h1,h2,h3,_⟩
 exact ⟨μ',h3,h1.keep.weak fun i _ ⟨p,d,hp,_⟩=>by cases hp⟩
noncomputable def okB (tb:Tr AF) (n:Nat) (f:Pos) (b:Bool):Bool:=match wGp tb (exec tb n false) f [] ⟨.e,.H,.H⟩ with
 | some (.bool b',_)=>b' == b
 | _=>false
theorem wLz (hm:P.follows .mixedOrders=true) (T:wIw P tb) (n:Nat) (f:Pos) (k:Nat) (hk:f.nat=k + 1) (b:Bool) (hr:okB tb n f b=true) (w:World):Gv P k [] w fun cv w'=>cv=.bool b/\Keep w w' Non:=by
 unfold okB at hr
 split at hr
 ·rename_i b' h hq
  have hb:=eq_of_beq hr
  subst hb
  have:=wIz hm T n f [] [] _ h (fun _=>rfl) hq w
  rw [hk] at this
  refine this.mono ?_
  rintro cv w' ⟨μ,h1,h2⟩
  exact ⟨h1,h2⟩
 ·cases hr
def wKp (f:Nat->AF->Prop):Tr AF->(Nat->Nat)->Prop
 | .e,_=>True
 | .n l v r,g=>(match v with | none=>True | some a=>f (g 1) a)/\wKp f l (fun n=>g (2 * n))/\wKp f r (fun n=>g (2 * n + 1))
theorem wFN {f:Nat->AF->Prop}:∀ {t:Tr AF} {g:Nat->Nat},wKp f t g->∀ p a,t.get p=some a->f (g p.nat) a
 | .e,g,_,p,a,hq=>by rw [Tr.get_e] at hq;cases hq
 | .n l v r,g,⟨h1,h2,h3⟩,.H,a,hq=>by
  rw [Tr.get_H] at hq;subst hq;exact h1
 | .n l v r,g,⟨h1,h2,h3⟩,.O p,a,hq=>wFN h2 p a hq
 | .n l v r,g,⟨h1,h2,h3⟩,.I p,a,hq=>wFN h3 p a hq
theorem wPK (h:wKp (fun n a=>chkF P (n - 1) a=true) tb fun n=>n):wIw P tb:=fun p af hq=>wFN h p af hq
end
end Go.KX
namespace Go.KL
variable {S S' B B' α:Type}
theorem wHC {body:Nat->S->Option S} (I:Nat->S->Prop):∀ (m k:Nat) (s:S),I k s ->
  (∀ i s,k <= i->i < k + m->I i s->∃ s',body i s=some s'/\I (i + 1) s')->∃ s',forN' body m k s=some s'/\I (k + m) s'
 | 0,k,s,h,_=>⟨s,rfl,h⟩
 | m + 1,k,s,h,hb=>by
  simp only [forN']
  obtain ⟨s',h1,h2⟩:=hb k s (nI _) (by omega) h
  rw [h1]
  have:=wHC I m (k + 1) s' h2 fun i s h2 h3 h4=>hb i s (by omega) (by omega) h4
  rwa [show k + 1 + m=k + (m + 1) from by omega] at this
theorem wCD {body:Nat->S->Option (S ⊕ B)} {n:Nat} {s:S} (hn:n <= 9223372036854775807):wDD 0 (n:Int) body s=forN body n 0 s:=by
 unfold wDD
 rw [if_pos (by omega),show ((n:Int) - 0).toNat=n from by omega]
theorem wEG {body:Nat->S->Option S} {n:Nat} {s:S} (hn:n <= 9223372036854775807):wCu 0 (n:Int) body s=forN' body n 0 s:=by
 unfold wCu
 rw [if_pos (by omega),show ((n:Int) - 0).toNat=n from by omega]
def first (p:α->Bool):List α->Nat->Int
 | [],_=>-1
 | a :: l,k=>if p a then (k:Int) else first p l (k + 1)
theorem wFr {R:Type} {l:List α} {f:α->Option Bool} {p:α->Bool} (hf:∀ a ∈ l,f a=some (p a)) (hn:l.length <= 9223372036854775807) (z:Int->R) :
  (jn (wDD 0 (↑l.length:Int) (fun k2 (_:Unit)=>(idx l (↑k2:Int)).bind fun x=>(f x).bind fun y=>if y=true then esc (some (z (↑k2:Int))) else some (.inl ())) ()) fun _=>some (z (-1)))=some (z (first p l 0)):=by
 rw [wCD hn]
 have key:∀ (m k:Nat),k + m=l.length->(jn (forN (fun k2 (_:Unit)=>(idx l (↑k2:Int)).bind fun x=>(f x).bind fun y=>if y=true then esc (some (z (↑k2:Int))) else some (.inl ())) m k ()) fun _=>some (z (-1)))=some (z (first p (l.drop k) k)):=by
  intro m
  induction m with
  | zero=>intro k hk;rw [nR (by omega)];rfl
  | succ m ih =>
   intro k hk
   have hlt:k < l.length:=by omega
   rw [nJ hlt,first,forN,wEA,nE hlt]
   simp only [hH,hf _ (nb hlt)]
   by_cases h:p l[k]=true
   ·simp [h]
   ·simp only [h,if_false,nB]
    exact ih (k + 1) (by omega)
 exact key l.length 0 (by omega)
theorem wFs [DecidableEq α] {l m:List α} (hn:l.length <= 9223372036854775807) :
  (if (↑l.length:Int)=(↑m.length:Int) then jn (wDD 0 (↑l.length:Int) (fun k4 (_:Unit)=>(idx l (↑k4:Int)).bind fun x26=>(idx m (↑k4:Int)).bind fun x34=>if x26=x34 then some (.inl ()) else esc (some false)) ()) fun _=>some true else some false)=some (decide (l=m)):=by
 by_cases hl:l.length=m.length
 ·rw [if_pos (by omega),wCD hn]
  have key:∀ (n k:Nat),k + n=l.length->(jn (forN (fun k4 (_:Unit)=>(idx l (↑k4:Int)).bind fun x26=>(idx m (↑k4:Int)).bind fun x34=>if x26=x34 then some (.inl ()) else esc (some false)) n k ()) fun _=>some true)=some (decide (l.drop k=m.drop k)):=by
   intro n
   induction n with
   | zero=>intro k hk;rw [nR (by omega),nR (by omega)];simp [forN]
   | succ n ih =>
    intro k hk
    have h1:k < l.length:=by omega
    have h2:k < m.length:=by omega
    rw [nJ h1,nJ h2,forN,wEA,wEA,nE h1,nE h2]
    simp only [hH]
    by_cases h:l[k]=m[k]
    ·rw [if_pos h]
     simp only
     rw [ih (k + 1) (by omega)]
     congr 1
     exact decide_eq_decide.2 ⟨fun e=>by rw [e,h],fun e=>(nw e).2⟩
    ·rw [if_neg h]
     have:¬ l[k] :: l.drop (k + 1)=m[k] :: m.drop (k + 1):=fun e=>h (nw e).1
     simp only [wEY,wEk,this,decide_false]
  have:=key l.length 0 (by omega)
  simpa using this
 ·rw [if_neg (by omega)]
  have:l ≠ m:=fun e=>hl (by rw [e])
  simp [this]
theorem wMA {R:Type} {l:List α} {g:α->Option (Unit ⊕ R)} {p:α->Bool} {z:R} {K:Unit->Option R} (hg:∀ a ∈ l,g a=if p a=true then some (.inl ()) else some (.inr z)) (hn:l.length <= 9223372036854775807) :
  jn (wDD 0 (↑l.length:Int) (fun k (_:Unit)=>(idx l (↑k:Int)).bind g) ()) K=if l.all p=true then K () else some z:=by
 rw [wCD hn]
 have key:∀ (m k:Nat),k + m=l.length->jn (forN (fun k (_:Unit)=>(idx l (↑k:Int)).bind g) m k ()) K=if (l.drop k).all p=true then K () else some z:=by
  intro m
  induction m with
  | zero=>intro k hk;rw [nR (by omega)];rfl
  | succ m ih =>
   intro k hk
   have hlt:k < l.length:=by omega
   have e:l.drop k=l[k] :: l.drop (k + 1):=nJ hlt
   rw [e,List.all_cons,forN,wEA,nE hlt]
   simp only [hH,hg _ (nb hlt)]
   by_cases h:p l[k]=true
   ·rw [h]
    simp only [if_true,nU]
    exact ih (k + 1) (by omega)
   ·rw [if_neg h]
    have:p l[k]=false:=by simpa using h
    simp only [this,Bool.false_and,wEk,nB,if_false]
 exact key l.length 0 (by omega)
theorem wIY {β:Type} {l:List α} {f:α->β} {bytes:Nat} {g:α->List β->Option (List β)} (hg:∀ a ∈ l,∀ r,g a r=app bytes r [f a]) (hn:l.length <= 9223372036854775807) (hb:l.length * bytes <= 140737488355328) :
  wCu 0 (↑l.length:Int) (fun k r=>(idx l (↑k:Int)).bind fun x=>g x r) []=some (l.map f):=by
 rw [wEG hn]
 have key:∀ (m k:Nat) (r:List β),k + m=l.length->r.length=k->forN' (fun k r=>(idx l (↑k:Int)).bind fun x=>g x r) m k r=some (r ++ (l.drop k).map f):=by
  intro m
  induction m with
  | zero=>intro k r hk _;rw [nR (by omega)];simp [forN']
  | succ m ih =>
   intro k r hk hr
   have hlt:k < l.length:=by omega
   have e:l.drop k=l[k] :: l.drop (k + 1):=nJ hlt
   rw [e,forN',wEA,nE hlt]
   have ha:app bytes r [f l[k]]=some (r ++ [f l[k]]):=by
    refine if_pos ?_
    simp only [List.length_cons,List.length_nil]
    exact na (Nat.mul_le_mul_right _ (by omega)) hb
   simp only [hH,hg _ (nb hlt),ha]
   rw [ih (k + 1) _ (by omega) (by simp [hr]),nL]
   rfl
 exact key l.length 0 [] (by omega) rfl
theorem wFQ {bytes:Nat} {l m:List α} (h:(l.length + m.length) * bytes <= 140737488355328):app bytes l m=some (l ++ m):=if_pos h
end Go.KL
namespace Go.KL
variable {S B R α β:Type}
theorem wIZ {body:Nat->S->Option (S ⊕ B)} (s:Nat->S):∀ (m k:Nat),(∀ i,k <= i->i < k + m->body i (s i)=some (.inl (s (i + 1))))->forN body m k (s k)=some (.inl (s (k + m)))
 | 0,_,_=>rfl
 | m + 1,k,h=>by
  rw [forN,h k (nI _) (by omega)]
  have:=wIZ s m (k + 1) fun i h1 h2=>h i (by omega) (by omega)
  rw [show k + 1 + m=k + (m + 1) by omega] at this
  exact this
theorem wHD {body:Nat->S->Option S} (s:Nat->S):∀ (m k:Nat),(∀ i,k <= i->i < k + m->body i (s i)=some (s (i + 1)))->forN' body m k (s k)=some (s (k + m))
 | 0,_,_=>rfl
 | m + 1,k,h=>by
  rw [forN',h k (nI _) (by omega)]
  have:=wHD s m (k + 1) fun i h1 h2=>h i (by omega) (by omega)
  rw [show k + 1 + m=k + (m + 1) by omega] at this
  exact this
theorem wKq {body:Nat->S->Option S} {n:Nat} {s0:S} (s:Nat->S) (h0:s 0=s0) (hn:n <= 9223372036854775807) (h:∀ i,i < n->body i (s i)=some (s (i + 1))):wCu 0 (n:Int) body s0=some (s n):=by
 rw [wEG hn,<- h0]
 have:=wHD s n 0 fun i _ hi=>h i (by omega)
 rwa [nq] at this
theorem wMB {body:Nat->S->Option (S ⊕ B)} {n:Nat} {s0:S} (s:Nat->S) (h0:s 0=s0) (hn:n <= 9223372036854775807) (h:∀ i,i < n->body i (s i)=some (.inl (s (i + 1)))):wDD 0 (n:Int) body s0=some (.inl (s n)):=by
 rw [wCD hn,<- h0]
 have:=wIZ s n 0 fun i _ hi=>h i (by omega)
 rwa [nq] at this
theorem wKr {body:Nat->Unit->Option (Unit ⊕ B)} {n:Nat} (hn:n <= 9223372036854775807) (h:∀ i,i < n->body i ()=some (.inl ())):wDD 0 (n:Int) body ()=some (.inl ()):=wMB (fun _=>()) rfl hn h
theorem wBu [Inhabited α] {l:List α} {k:Nat} (h:k < l.length):idx l (k:Int)=some (gd l k):=by
 rw [wEA]
 exact wCA h
theorem wKs [Inhabited α] {l:List α} {k:Nat} (h:k < l.length):gd l k ∈ l:=List.mem_of_getElem? (wCA h)
theorem wGT [Inhabited α] {l:List α} {k:Nat} (h:k < l.length):l.take (k + 1)=l.take k ++ [gd l k]:=by
 rw [List.take_add_one,wCA h]
 rfl
theorem wOB [Inhabited α] {l:List α} {k:Nat} (h:k < l.length):l.drop k=gd l k :: l.drop (k + 1):=by
 have:=wCA h
 rw [nE h] at this
 rw [nJ h,nD this]
theorem wMC [Inhabited α] {l m:List α} {k:Nat} (h:k < l.length):gd (l ++ m) k=gd l k:=by
 have h1:=wCA (xs:=l ++ m) (k:=k) (by rw [List.length_append];omega)
 rw [List.getElem?_append_left h,wCA h] at h1
 exact (nD h1).symm
theorem wMD [Inhabited α] (l m:List α) (x:α):gd (l ++ x :: m) l.length=x:=by
 have h1:=wCA (xs:=l ++ x :: m) (k:=l.length) (by simp)
 rw [List.getElem?_append_right (nI _),Nat.sub_self] at h1
 exact (nD h1).symm
theorem wCl [Inhabited α] [Inhabited β] (f:α->β) {l:List α} {k:Nat} (h:k < l.length):gd (l.map f) k=f (gd l k):=by
 have h1:=wCA (xs:=l.map f) (k:=k) (by simpa using h)
 rw [List.getElem?_map,wCA h] at h1
 exact (nD h1).symm
theorem wHs (o:Option α):(o.bind fun x=>some x)=o:=by cases o <;> rfl
theorem wMs [Inhabited α] {l m:List α} (h:l.length=m.length) (hk:∀ k,k < l.length->gd l k=gd m k):l=m:=by
 apply List.ext_getElem?
 intro k
 rcases np k l.length with h1 | h1
 ·rw [wCA h1,wCA (by omega),hk k h1]
 ·rw [ng h1,ng (by omega)]
end Go.KL
namespace Go.KL
variable {S B α:Type}
theorem wME {body:S->Option (S ⊕ B)} (I:Nat->S->Prop) (Z:B->Prop) (m:Nat) (step:∀ i s,i <= m->I i s->(i < m/\∃ s',body s=some (.inl s')/\I (i + 1) s') \/ ∃ b,body s=some (.inr b)/\Z b) {s0:S} (h0:I 0 s0) (hm:m < 1000000):∃ b,iter body big s0=some b/\Z b:=by
 have key:∀ (d i:Nat) (s:S),i + d=m->I i s->∀ F,d < F->∃ b,iter body F s=some b/\Z b:=by
  intro d
  induction d with
  | zero =>
   intro i s hi hI F hF
   obtain ⟨F,rfl⟩:∃ G,F=G + 1:=⟨F - 1,by omega⟩
   rcases step i s (by omega) hI with ⟨h,_⟩ | ⟨b,h1,h2⟩
   ·omega
   ·exact ⟨b,by rw [iter,h1],h2⟩
  | succ d ih =>
   intro i s hi hI F hF
   obtain ⟨F,rfl⟩:∃ G,F=G + 1:=⟨F - 1,by omega⟩
   rcases step i s (by omega) hI with ⟨_,s',h1,h2⟩ | ⟨b,h1,h2⟩
   ·obtain ⟨b,h3,h4⟩:=ih (i + 1) s' (by omega) h2 F (by omega)
    exact ⟨b,by rw [iter,h1];exact h3,h4⟩
   ·exact ⟨b,by rw [iter,h1],h2⟩
 exact key m 0 s0 (by omega) h0 big (by unfold big;omega)
theorem wPQ [Inhabited α] {l:List α} {i k:Nat} {x:α} (hi:i < l.length) (hk:k < l.length):gd (l.set i x) k=if k=i then x else gd l k:=by
 have h1:=wCA (xs:=l.set i x) (k:=k) (by rw [List.length_set];exact hk)
 rw [List.getElem?_set] at h1
 by_cases e:i=k
 ·subst e
  rw [if_pos rfl,if_pos hi] at h1
  rw [if_pos rfl]
  exact (nD h1).symm
 ·rw [if_neg e,wCA hk] at h1
  rw [if_neg (fun h=>e h.symm)]
  exact (nD h1).symm
theorem wFR [Inhabited α] {l:List α} {k:Nat} (h:k < l.length):gd l k=l[k]:=by
 have:=wCA h
 rw [nE h] at this
 exact (nD this).symm
end Go.KL
namespace Go.KL
def wCp (q:Nat->Bool):Nat->Nat->Bool
 | 0,_=>true
 | m + 1,k=>q k && wCp q m (k + 1)
def fnd {B:Type} (f:Nat->Option B):Nat->Nat->Option B
 | 0,_=>none
 | m + 1,k=>match f k with
  | some c=>some c
  | none=>fnd f m (k + 1)
theorem wBD (q:Nat->Bool):∀ m k,wCp q m k=true ↔ ∀ i,k <= i->i < k + m->q i=true
 | 0,k=>⟨fun _ i h1 h2=>by omega,fun _=>rfl⟩
 | m + 1,k=>by
  rw [wCp,nA,wBD q m (k + 1)]
  constructor
  ·rintro ⟨h1,h2⟩ i h3 h4
   by_cases e:i=k
   ·exact e ▸ h1
   ·exact h2 i (by omega) (by omega)
  ·exact fun h=>⟨h k (by omega) (by omega),fun i h1 h2=>h i (by omega) (by omega)⟩
theorem wMt {B:Type} (q:Nat->Bool) (c:B):∀ m k,fnd (fun i=>if q i=true then none else some c) m k=if wCp q m k=true then none else some c
 | 0,_=>rfl
 | m + 1,k=>by
  rw [fnd,wMt q c m (k + 1),wCp]
  cases q k <;> simp
def out {S B:Type} (s:S):Option B->S ⊕ B
 | none=>.inl s
 | some c=>.inr c
theorem wIa {B:Type} {body:Nat->Unit->Option (Unit ⊕ B)} {f:Nat->Option B}:∀ (m k:Nat),(∀ i,k <= i->i < k + m->body i ()=some (out () (f i)))->forN body m k ()=some (out () (fnd f m k))
 | 0,_,_=>rfl
 | m + 1,k,h=>by
  rw [forN,h k (by omega) (by omega),fnd]
  cases f k with
  | none=>exact wIa m (k + 1) fun i h1 h2=>h i (by omega) (by omega)
  | some c=>rfl
theorem wMF {B:Type} {body:Nat->Unit->Option (Unit ⊕ B)} {n:Nat} (f:Nat->Option B) (hn:n <= 1000) (h:∀ i,i < n->body i ()=some (out () (f i))):wDD 0 (n:Int) body ()=some (out () (fnd f n 0)):=by
 rw [wCD (by omega)]
 exact wIa n 0 fun i _ hi=>h i (by omega)
theorem wCG {B:Type} {body:Nat->Unit->Option (Unit ⊕ B)} {n:Nat} (q:Nat->Bool) (c:B) (hn:n <= 1000) (h:∀ i,i < n->body i ()=some (if q i=true then .inl () else .inr c)):wDD 0 (n:Int) body ()=some (if wCp q n 0=true then .inl () else .inr c):=by
 rw [wMF (fun i=>if q i=true then none else some c) hn fun i hi=>by rw [h i hi];split <;> rfl,wMt]
 split <;> rfl
theorem wMG {α:Type} [Inhabited α] (p:α->Bool) (l:List α):l.all p=wCp (fun k=>p (gd l k)) l.length 0:=by
 rw [nX,wBD,nM]
 constructor
 ·exact fun h i _ hi=>h _ (wKs (by omega))
 ·intro h a ha
  obtain ⟨k,hk,e⟩:=nY ha
  have:=h k (by omega) (by omega)
  rw [wFR hk,e] at this
  exact this
end Go.KL
namespace Go.Proofs.YthbficbpebiekaaGreat
open Go.KL
theorem wPR (x a b:Int):wBe x a b=some (decide (a <= x) && decide (x <= b)):=by
 unfold wBe
 by_cases h:a <= x <;> simp [h]
def okS (s:wAA):Bool:=(decide (1 <= s.Bib) && decide (s.Bib <= 999)) && ((decide (0 <= s.Time) && decide (s.Time <= 360000)) && (decide (0 <= s.Gate) && decide (s.Gate <= 60)))
theorem wHt (s:wAA):okS s=true ↔ (1 <= s.Bib/\s.Bib <= 999)/\(0 <= s.Time/\s.Time <= 360000)/\0 <= s.Gate/\s.Gate <= 60:=by
 unfold okS
 simp
theorem wKt (s:wAA):wAd s=some (okS s):=by
 unfold wAd okS
 simp only [wPR,hH]
 by_cases h:(decide (1 <= s.Bib) && decide (s.Bib <= 999))=true
 ·rw [h]
  by_cases h2:(decide (0 <= s.Time) && decide (s.Time <= 360000))=true
  ·rw [h2];simp
  ·have:(decide (0 <= s.Time) && decide (s.Time <= 360000))=false:=by simpa using h2
   rw [this];simp
 ·have:(decide (1 <= s.Bib) && decide (s.Bib <= 999))=false:=by simpa using h
  rw [this];simp
theorem wKu {l:List wAA} {f:wAA->Option Bool} {p:wAA->Bool} (hf:∀ a,f a=some (p a)) (hn:l.length <= 1000):wAW l f=some (l.all p):=by
 unfold wAW
 rw [wMA (p:=p) (z:=false) (fun a _=>by rw [hf,hH];split <;> rfl) (by omega)]
 cases l.all p <;> rfl
theorem wMH {K V:Type} [DecidableEq K] {m:List (K × V)} {x y:K} {v:V}:wFW (mput m x v) y=if y=x then some v else wFW m y:=by
 induction m with
 | nil=>simp only [mput,wFW]
 | cons p m ih =>
  obtain ⟨a,u⟩:=p
  rw [mput]
  by_cases h:x=a
  ·subst h
   rw [if_pos rfl,wFW,wFW]
   split <;> rfl
  ·rw [if_neg h,wFW,wFW,ih]
   by_cases h2:y=a
   ·rw [if_pos h2,if_neg (fun e:y=x=>h (e.symm.trans h2)),if_pos h2]
   ·rw [if_neg h2,if_neg h2]
theorem wMI {l:List Int} (hl:l.length <= 1000):wBi l=some (!decide l.Nodup):=by
 unfold wBi
 rw [wCD (by omega)]
 have key:∀ (m k:Nat) (t:List (Int × Bool)),k + m=l.length->(∀ n,wDS t n false=decide (n ∈ l.take k))->(l.take k).Nodup ->
   jn (forN (fun k20 l17 =>
  (idx l (↑k20:Int)).bind fun x41 =>
  if (wDS l17 x41 false)=true then
   esc (some true)
  else
   some (.inl (mput l17 x41 true))) m k t) (fun _=>some false)=some (!decide l.Nodup):=by
  intro m
  induction m with
  | zero =>
   intro k t hk _ hn
   rw [nf (by omega)] at hn
   simp [forN,hn]
  | succ m ih =>
   intro k t hk ht hn
   have hlt:k < l.length:=by omega
   rw [forN,wBu hlt,hH,ht]
   by_cases c:gd l k ∈ l.take k
   ·have:¬ l.Nodup:=fun h=>by
     rw [<- List.take_append_drop k l,wOB hlt] at h
     exact (nt.1 h).2.2 _ c _ (by simp) rfl
    simp [c,this]
   ·rw [if_neg (by simpa using c)]
    simp only
    refine ih (k + 1) _ (by omega) (fun n=>?_) ?_
    ·unfold wDS at ht ⊢
     rw [wMH,wGT hlt]
     by_cases e:n=gd l k
     ·rw [if_pos e];simp [e]
     ·rw [if_neg e,ht];simp [e]
    ·rw [wGT hlt,nt]
     exact ⟨hn,by simp,fun a ha b hb e=>by simp at hb;subst hb;subst e;exact c ha⟩
 exact key l.length 0 [] (by omega) (fun n=>by simp [wDS,wFW]) (by simp)
theorem wOC (a b:Int):wBR a b=some (decide (a < b)):=by
 unfold wBR wBW
 simp
instance ascInt (l:List Int):Decidable (∀ k,k + 1 < l.length->gd l k <= gd l (k + 1)) :=
 decidable_of_iff (∀ k,k < l.length - 1->gd l k <= gd l (k + 1)) ⟨fun h k hk=>h k (by omega),fun h k hk=>h k (by omega)⟩
theorem wKv {l:List Int} (hl:l.length <= 1000):wAc l=some (decide (∀ k,k + 1 < l.length->gd l k <= gd l (k + 1))):=by
 unfold wAc
 rw [wAj (by omega) (by omega)]
 have key:∀ (m F:Nat) (x:Int),x=(m:Int) - 1->m <= l.length->(∀ k,m <= k + 1->k + 1 < l.length->gd l k <= gd l (k + 1))->m < F->iter (fun x4 =>
  if 0 < x4 then
   (idx l x4).bind fun x21 =>
   (idx l (w64 (x4 - 1))).bind fun x29 =>
   (wBR x21 x29).bind fun x36 =>
   if x36=true then
    esc (some false)
   else
    some (.inl (w64 (x4 - 1)))
  else
   esc (some true)) F x=some (decide (∀ k,k + 1 < l.length->gd l k <= gd l (k + 1))):=by
  intro m
  induction m with
  | zero =>
   intro F x hx _ h hF
   obtain ⟨F,rfl⟩:∃ G,F=G + 1:=⟨F - 1,by omega⟩
   rw [iter,if_neg (by omega)]
   have:(∀ k,k + 1 < l.length->gd l k <= gd l (k + 1)):=fun k hk=>h k (by omega) hk
   simp only [wEY,decide_eq_true this]
  | succ m ih =>
   intro F x hx hm h hF
   obtain ⟨F,rfl⟩:∃ G,F=G + 1:=⟨F - 1,by omega⟩
   rw [iter]
   by_cases c:0 < x
   ·obtain ⟨j,rfl⟩:∃ j,m=j + 1:=⟨m - 1,by omega⟩
    have ex:x=((j + 1:Nat):Int):=by omega
    rw [if_pos c,wAj (x:=x - 1) (by omega) (by omega),show x - 1=(j:Int) by omega,ex,wBu (by omega),hH,wBu (by omega),hH,wOC,hH]
    by_cases c2:gd l (j + 1) < gd l j
    ·have:¬ (∀ k,k + 1 < l.length->gd l k <= gd l (k + 1)):=fun hh=>by have:=hh j (by omega);omega
     rw [if_pos (by simpa using c2)]
     simp only [wEY,decide_eq_false this]
    ·rw [if_neg (by simpa using c2)]
     simp only
     refine ih F _ (by omega) (by omega) (fun k h1 h2=>?_) (by omega)
     by_cases e:k=j
     ·subst e;omega
     ·exact h k (by omega) h2
   ·rw [if_neg c]
    have:(∀ k,k + 1 < l.length->gd l k <= gd l (k + 1)):=fun k hk=>h k (by omega) hk
    simp only [wEY,decide_eq_true this]
 exact key l.length big _ rfl (nI _) (fun k h1 h2=>by omega) (by unfold big;omega)
def Asc (l:List wAA):Prop:=∀ k,k + 1 < l.length->(gd l k).Time <= (gd l (k + 1)).Time
instance (l:List wAA):Decidable (Asc l) :=
 decidable_of_iff (∀ k,k < l.length - 1->(gd l k).Time <= (gd l (k + 1)).Time) ⟨fun h k hk=>h k (by omega),fun h k hk=>h k (by omega)⟩
def wMJ (l:List wAA):Int:=if 60 < l.length then 2 else if l.all okS then (if (l.map (·.Bib)).Nodup then (if Asc l then 0 else 4) else 5) else 3
theorem wER {l:List wAA} (hl:l.length <= 1000):wAw l=some (wMJ l):=by
 unfold wAw
 have e:(wCu 0 (↑l.length:Int) (fun k33 (l25,l29) =>
  ((idx l (↑k33:Int)).bind fun x70 =>
  (app 8 l25 [x70.Bib]).bind fun x90 =>
  (app 8 l29 [x70.Time]).bind fun x103 =>
  some (x90,x103)).bind fun (l61,l64) =>
  some (l61,l64)) (([]:List Int),([]:List Int)))=some (l.map (·.Bib),l.map (·.Time)):=by
  have:=wKq (body:=fun (k33:Nat) ((l25,l29):List Int × List Int) =>
   ((idx l (↑k33:Int)).bind fun x70 =>
   (app 8 l25 [x70.Bib]).bind fun x90 =>
   (app 8 l29 [x70.Time]).bind fun x103 =>
   some (x90,x103)).bind fun (l61,l64) =>
   some (l61,l64)) (n:=l.length) (s0:=(([]:List Int),([]:List Int))) (fun k=>((l.take k).map (·.Bib),(l.take k).map (·.Time))) rfl (by omega) (by
    intro i hi
    simp only
    rw [wBu hi,hH,wFQ (by simp;omega),hH,wFQ (by simp;omega),hH,hH,wGT hi]
    simp)
  rw [List.take_length] at this
  exact this
 rw [e,hH]
 simp only
 unfold wMJ
 by_cases h60:60 < l.length
 ·rw [if_pos (by omega),if_pos h60]
 rw [if_neg (by omega),if_neg h60,wKu wKt hl,hH]
 by_cases ha:l.all okS=true
 ·rw [if_pos ha,if_pos ha,wMI (by simpa using hl),hH]
  by_cases hd:(l.map (·.Bib)).Nodup
  ·rw [if_neg (by simpa using hd),if_pos hd,wKv (by simpa using hl),hH]
   have:(∀ k,k + 1 < (l.map (·.Time)).length->gd (l.map (·.Time)) k <= gd (l.map (·.Time)) (k + 1)) ↔ Asc l:=by
    unfold Asc
    rw [nG]
    constructor
    ·intro h k hk
     have:=h k hk
     rwa [wCl _ (by omega),wCl _ hk] at this
    ·intro h k hk
     rw [wCl _ (by omega),wCl _ hk]
     exact h k hk
   simp only [this]
   by_cases hs:Asc l <;> simp [hs]
  ·rw [if_pos (by simpa using hd),if_neg hd]
 ·rw [if_neg ha,if_neg ha]
def wHE (l:List wAA) (c:Int):Int:=if wMJ l=0 then (if 1 <= c/\c <= 6000 then 0 else 3) else wMJ l
theorem wDJ {l:List wAA} (hl:l.length <= 1000) (c:Int):wAu l c=some (wHE l c):=by
 unfold wAu wHE
 rw [wER hl,hH]
 by_cases h:wMJ l=0
 ·rw [if_pos h,if_pos h,wPR,hH,h]
  by_cases h1:1 <= c <;> by_cases h2:c <= 6000 <;> simp [h1,h2]
 ·rw [if_neg h,if_neg h]
structure wBv (l:List wAA) (c:Int):Prop where
 len:l.length <= 60
 ok:∀ s ∈ l,(1 <= s.Bib/\s.Bib <= 999)/\(0 <= s.Time/\s.Time <= 360000)/\0 <= s.Gate/\s.Gate <= 60
 one:(l.map (·.Bib)).Nodup
 asc:Asc l
 c1:1 <= c
 c2:c <= 6000
theorem wCH {l:List wAA} {c:Int}:wHE l c=0 ↔ wBv l c:=by
 unfold wHE wMJ
 constructor
 ·intro h
  by_cases h60:60 < l.length
  ·simp [h60] at h
  by_cases ha:l.all okS=true
  ·by_cases hd:(l.map (·.Bib)).Nodup
   ·by_cases hs:Asc l
    ·simp only [h60,ha,hd,hs,if_true,if_false] at h
     by_cases hc:1 <= c/\c <= 6000
     ·exact ⟨by omega,fun s hs=>(wHt s).1 (nM.1 ha s hs),hd,hs,hc.1,hc.2⟩
     ·simp [hc] at h
    ·simp [h60,ha,hd,hs] at h
   ·simp [h60,ha,hd] at h
  ·simp [h60,ha] at h
 ·intro G
  have ha:l.all okS=true:=nM.2 fun s hs=>(wHt s).2 (G.ok s hs)
  have:=G.len
  rw [if_neg (show ¬ 60 < l.length by omega),if_pos ha,if_pos G.one,if_pos G.asc,if_pos rfl,if_pos ⟨G.c1,G.c2⟩]
theorem wFS {l:List wAA} (h:Asc l):∀ {j i:Nat},i <= j->j < l.length->(gd l i).Time <= (gd l j).Time
 | 0,i,h1,_=>by
  have:i=0:=by omega
  subst this;exact Int.le_refl _
 | j + 1,i,h1,h2=>by
  by_cases e:i=j + 1
  ·subst e;exact Int.le_refl _
  ·exact Int.le_trans (wFS h (show i <= j by omega) (by omega)) (h j h2)
def cl (c:Int) (a b:wAA):Prop:=a.Time - b.Time < c/\b.Time - a.Time < c
instance (c:Int) (a b:wAA):Decidable (cl c a b):=by unfold cl;exact inferInstance
theorem wGU {l:List wAA} {c:Int} (G:wBv l c) {a b:wAA} (ha:a ∈ l) (hb:b ∈ l):wAI c a b=some (decide (cl c a b)):=by
 have h1:=G.ok a ha
 have h2:=G.ok b hb
 unfold wAI cl
 rw [wAj (by omega) (by omega),wAj (by omega) (by omega)]
 congr 1
 exact decide_eq_decide.2 (by omega)
theorem wFc {l:List wAA} {k:Nat} (h:k < l.length):gd l k ∈ l:=wKs h
def wMu (l:List wAA) (c:Int) (k:Nat):Nat->Nat->Nat
 | 0,j=>j
 | m + 1,j=>if cl c (gd l j) (gd l k) then j else wMu l c k m (j + 1)
theorem wFT {l:List wAA} {c:Int} {k:Nat} (hk:cl c (gd l k) (gd l k)):∀ (m j:Nat),j + m=k->j <= wMu l c k m j/\wMu l c k m j <= k/\cl c (gd l (wMu l c k m j)) (gd l k)/\∀ i,j <= i->i < wMu l c k m j->¬ cl c (gd l i) (gd l k)
 | 0,j,h=>by
  obtain rfl:j=k:=by omega
  rw [wMu]
  exact ⟨nI _,nI _,hk,fun i h1 h2=>by omega⟩
 | m + 1,j,h=>by
  rw [wMu]
  by_cases c1:cl c (gd l j) (gd l k)
  ·rw [if_pos c1]
   exact ⟨nI _,by omega,c1,fun i h1 h2=>by omega⟩
  ·rw [if_neg c1]
   obtain ⟨a,b,d,e⟩:=wFT hk m (j + 1) (by omega)
   refine ⟨by omega,b,d,fun i h1 h2=>?_⟩
   by_cases e1:i=j
   ·subst e1;exact c1
   ·exact e i (by omega) h2
def fs (l:List wAA) (c:Int) (k:Nat):Nat:=wMu l c k k 0
theorem wKw {c:Int} (h:1 <= c) (a:wAA):cl c a a:=by unfold cl;omega
theorem wHu {l:List wAA} {c:Int} (G:wBv l c) {k:Nat}:fs l c k <= k:=(wFT (wKw G.c1 _) k 0 (by omega)).2.1
theorem wFt {l:List wAA} {c:Int} (G:wBv l c) {k i:Nat} (hk:k < l.length) (hi:i <= k):cl c (gd l i) (gd l k) ↔ fs l c k <= i:=by
 obtain ⟨a,b,d,e⟩:=wFT (l:=l) (wKw G.c1 (gd l k)) k 0 (by omega)
 constructor
 ·intro h
  rcases np i (fs l c k) with h1 | h1
  ·exact absurd h (e i (by omega) h1)
  ·exact h1
 ·intro h
  have h1:=wFS G.asc h (by omega)
  have h2:=wFS G.asc hi hk
  have hc:=G.c1
  have d':cl c (gd l (fs l c k)) (gd l k):=d
  unfold cl at d' ⊢
  omega
def mx (l:List wAA) (c:Int):Nat->Nat
 | 0=>0
 | k + 1=>max (mx l c k) (k + 1 - fs l c k)
theorem wOD {l:List wAA} {c:Int}:∀ {n k:Nat},k < n->k + 1 - fs l c k <= mx l c n
 | n + 1,k,h=>by
  rw [mx]
  by_cases e:k=n
  ·subst e;omega
  ·have:=wOD (l:=l) (c:=c) (n:=n) (k:=k) (by omega)
   omega
theorem wOE {l:List wAA} {c:Int} (G:wBv l c):∀ {n:Nat},n ≠ 0->∃ k,k < n/\mx l c n=k + 1 - fs l c k
 | 0,h=>absurd rfl h
 | n + 1,_=>by
  rw [mx]
  have hf:=wHu G (k:=n)
  by_cases e:mx l c n <= n + 1 - fs l c n
  ·exact ⟨n,by omega,by omega⟩
  ·have h0:n ≠ 0:=fun h=>by subst h;simp [mx] at e
   obtain ⟨k,h1,h2⟩:=wOE G h0
   exact ⟨k,by omega,by omega⟩
theorem wJC {l:List wAA} {c:Int}:∀ {n:Nat},mx l c n <= n
 | 0=>nI _
 | n + 1=>by
  rw [mx]
  have:=wJC (l:=l) (c:=c) (n:=n)
  omega
theorem wKx {l:List wAA} {c:Int} (G:wBv l c) {n:Nat} (h:n ≠ 0):0 < mx l c n:=by
 obtain ⟨k,h1,h2⟩:=wOE G h
 have:=wHu G (k:=k)
 omega
end Go.Proofs.YthbficbpebiekaaGreat
namespace Go.Proofs.YthbficbpebiekaaGreat
open Go.KL
theorem wDw {S:Type} {body:Nat->S->Option S} {n:Nat} {s0:S} (I:Nat->S->Prop) (hn:n <= 1000) (h0:I 0 s0) (h:∀ i s,i < n->I i s->∃ s',body i s=some s'/\I (i + 1) s'):∃ s,wCu 0 (n:Int) body s0=some s/\I n s:=by
 rw [wEG (by omega)]
 have:=wHC (body:=body) I n 0 s0 h0 fun i s _ h2 h3=>h i s (by omega) h3
 rwa [nq] at this
theorem wGV {α:Type} [Inhabited α] {p:α->Bool}:∀ {l:List α} {j k:Nat},j < l.length->p (gd l j)=true->(∀ i,i < j->p (gd l i)=false)->first p l k=(k:Int) + j
 | [],j,k,h,_,_=>by simp at h
 | a :: l,0,k,h,h1,_=>by
  rw [first,if_pos (show p a=true from h1)];omega
 | a :: l,j + 1,k,h,h1,h2=>by
  have:=h2 0 (by omega)
  rw [first,if_neg (by rw [show p a=false from this];decide),wGV (j:=j) (by simpa using h) h1 fun i hi=>h2 (i + 1) (by omega)]
  omega
theorem wKy {α:Type} [Inhabited α] {l:List α} {n i:Nat} (h:i < n) (h2:i < l.length):gd (l.take n) i=gd l i:=by
 have h1:=wCA (xs:=l.take n) (k:=i) (by simp;omega)
 rw [List.getElem?_take_of_lt h,wCA h2] at h1
 exact (nD h1).symm
theorem gd_dr {α:Type} [Inhabited α] {l:List α} {n i:Nat} (h2:n + i < l.length):gd (l.drop n) i=gd l (n + i):=by
 have h1:=wCA (xs:=l.drop n) (k:=i) (by simp;omega)
 rw [List.getElem?_drop,wCA h2] at h1
 exact (nD h1).symm
theorem wKz {α:Type} {l:List α} {a b:Nat} (h1:a <= b) (h2:b <= l.length):cut l (a:Int) (b:Int)=some ((l.drop a).take (b - a)):=by
 unfold cut
 rw [if_pos (by omega)]
 rfl
theorem wLA {l:List wAA} {f:wAA->Option Bool} {p:wAA->Bool} (hf:∀ a ∈ l,f a=some (p a)) (hn:l.length <= 1000):wAF l f=some (first p l 0):=by
 unfold wAF
 exact wFr (p:=p) hf (by omega) id
def sg (l:List wAA) (a b:Nat):List wAA:=(l.drop a).take (b - a)
theorem wLB {l:List wAA} {a b:Nat} (h1:a <= b) (h2:b <= l.length):(sg l a b).length=b - a:=by
 unfold sg;simp;omega
theorem wOF {l:List wAA} {a b i:Nat} (h1:a + i < b) (h2:b <= l.length):gd (sg l a b) i=gd l (a + i):=by
 unfold sg
 rw [wKy (by omega) (by simp;omega),gd_dr (by omega)]
theorem wMK {l:List wAA} {c:Int} (G:wBv l c) {k:Nat} (hk:k < l.length):wAF (l.take (k + 1)) (fun x=>wAy x (fun x=>wAI c x.1 x.2) (gd l k))=some (fs l c k:Int):=by
 have hl:=G.len
 have hf:=wHu G (k:=k)
 rw [wLA (p:=fun a=>decide (cl c a (gd l k))) (fun a ha=>by
  unfold wAy
  dsimp only
  rw [wGU G (ni ha) (wFc hk)]
  rfl) (by simp;omega)]
 congr 1
 have:=wGV (p:=fun a=>decide (cl c a (gd l k))) (l:=l.take (k + 1)) (j:=fs l c k) (k:=0) (by simp;omega) (by
  rw [wKy (by omega) (by omega)]
  simpa using (wFt G hk hf).2 (nI _)) (fun i hi=>by
  rw [wKy (by omega) (by omega)]
  have:=mt (wFt G hk (show i <= k by omega)).1 (by omega)
  simpa using this)
 rw [this];omega
theorem wGW {l:List wAA} {c:Int} (G:wBv l c):∃ s,wBL l c=some s/\s.length=mx l c l.length/\(l.length=0 \/ ∃ k,k < l.length/\s=sg l (fs l c k) (k + 1)):=by
 have hl:=G.len
 unfold wBL
 simp only [wHs]
 refine wDw (n:=l.length) (s0:=([]:List wAA)) (fun n s=>s.length=mx l c n/\(n=0 \/ ∃ k,k < n/\s=sg l (fs l c k) (k + 1))) (by omega) ⟨rfl,.inl rfl⟩ ?_
 rintro k s hk ⟨h1,h2⟩
 have hf:=wHu G (k:=k)
 have hm:=wJC (l:=l) (c:=c) (n:=k)
 rw [wBu hk,hH]
 have e0:cut l 0 (↑(k + 1):Int)=some (l.take (k + 1)):=by
  have:=wKz (l:=l) (a:=0) (b:=k + 1) (by omega) (by omega)
  simpa using this
 rw [e0,hH,wMK G hk,hH,wAj (by omega) (by omega)]
 by_cases hc:(s.length:Int) < (↑(k + 1):Int) - (fs l c k:Int)
 ·rw [if_pos hc,wKz (by omega) (by omega)]
  refine ⟨_,rfl,?_,.inr ⟨k,by omega,rfl⟩⟩
  have:=wLB (l:=l) (a:=fs l c k) (b:=k + 1) (by omega) (by omega)
  unfold sg at this
  rw [this,mx]
  omega
 ·rw [if_neg hc]
  refine ⟨s,rfl,by rw [mx,<- h1];omega,.inr ?_⟩
  rcases h2 with h2 | ⟨j,h2,h3⟩
  ·subst h2
   rw [mx] at h1
   omega
  ·exact ⟨j,by omega,h3⟩
theorem wML {l:List wAA} {c:Int} (G:wBv l c):wBM l c=some ((mx l c l.length:Int),0):=by
 unfold wBM
 have hl:=G.len
 obtain ⟨s,e,h,_⟩:=wGW G
 rw [wDJ (by omega),wCH.2 G,hH,if_pos rfl,e,hH,h]
theorem wHv {l:List wAA} (hl:l.length <= 1000):wAH l=some l:=by
 unfold wAH
 rw [wFQ (by simp;omega)];rfl
def gts (l:List wAA) (m:Nat):List wAA:=l.mapIdx fun i s=>⟨s.Bib,s.Time,((i % m:Nat):Int) + 1⟩
theorem wCX {l:List wAA} {m:Nat}:(gts l m).length=l.length:=by unfold gts;simp
theorem wES {l:List wAA} {m k:Nat} (h:k < l.length):gd (gts l m) k=⟨(gd l k).Bib,(gd l k).Time,((k % m:Nat):Int) + 1⟩:=by
 have h1:=wCA (xs:=gts l m) (k:=k) (by rw [wCX];exact h)
 unfold gts at h1
 rw [nj,wCA h] at h1
 exact (nD h1).symm
theorem wMM {l:List wAA} {c:Int} (G:wBv l c):wBN l c=some (gts l (mx l c l.length),0):=by
 unfold wBN
 have hl:=G.len
 obtain ⟨s,e,h,_⟩:=wGW G
 rw [wDJ (by omega),wCH.2 G,hH,if_pos rfl,e,hH,wHv (by omega),hH,h]
 generalize hm:mx l c l.length=m
 obtain ⟨s',e',hs⟩:=wDw (body:=fun (k47:Nat) (l46:List wAA) =>
   (rem (↑k47:Int) (↑m:Int)).bind fun x69 =>
   (chk (↑k47:Int) l46.length).bind fun _ =>
   some (List.set l46 k47 (⟨(gd l46 k47).Bib,(gd l46 k47).Time,w64 (x69 + 1)⟩:wAA))) (n:=l.length) (s0:=l)
   (fun n s=>s.length=l.length/\∀ i,i < l.length->gd s i=if i < n then gd (gts l m) i else gd l i) (by omega) ⟨rfl,fun i _=>by rw [if_neg (by omega)]⟩ (by
    rintro i s hi ⟨h1,h2⟩
    have m0:0 < m:=hm ▸ wKx G (by omega)
    have hmod:=nv i m0
    have hml:m <= l.length:=hm ▸ wJC
    rw [rem,if_neg (by omega),hH,wJR (by omega) (by omega),hH]
    have et:(i:Int).tmod (m:Int)=((i % m:Nat):Int):=by
     rw [Int.tmod_eq_emod_of_nonneg (by omega)];simp
    refine ⟨_,rfl,by simpa using h1,fun j hj=>?_⟩
    rw [wPQ (by omega) (by omega),et,wAj (by omega) (by omega)]
    by_cases ej:j=i
    ·subst ej
     rw [if_pos rfl,if_pos (by omega),wES hj,h2 j hj,if_neg (by omega)]
    ·rw [if_neg ej,h2 j hj]
     by_cases c1:j < i
     ·rw [if_pos c1,if_pos (by omega)]
     ·rw [if_neg c1,if_neg (by omega)])
 rw [e',hH]
 congr 2
 refine wMs (by rw [hs.1,wCX]) fun k hk=>?_
 rw [hs.2 k (by omega),if_pos (by omega)]
theorem wLC {l:List wAA} {c:Int} (G:wBv l c):∃ s,wBO l c=some (s.map (·.Bib),0)/\s.length=mx l c l.length/\(l.length=0 \/ ∃ k,k < l.length/\s=sg l (fs l c k) (k + 1)):=by
 unfold wBO
 have hl:=G.len
 obtain ⟨s,e,h,h2⟩:=wGW G
 have:=wJC (l:=l) (c:=c) (n:=l.length)
 refine ⟨s,?_,h,h2⟩
 rw [wDJ (by omega),wCH.2 G,hH,if_pos rfl,e,hH]
 rw [wIY (bytes:=8) (f:=fun x:wAA=>x.Bib) (fun a _ r=>by rw [wHs]) (by omega) (by omega),hH]
def clrP (l:List wAA) (c:Int):Prop:=(∀ i,i < l.length->∀ j,j < i->¬ ((gd l i).Gate=(gd l j).Gate/\cl c (gd l i) (gd l j)))/\∀ s ∈ l,0 < s.Gate
def wCb (l:List wAA) (c:Int) (i j:Nat):Bool:=!(decide ((gd l i).Gate=(gd l j).Gate) && decide (cl c (gd l i) (gd l j)))
def wMN (l:List wAA) (c:Int):Bool:=wCp (fun i=>wCp (wCb l c i) i 0) l.length 0 && l.all fun s=>decide (0 < s.Gate)
theorem wMO {l:List wAA} {c:Int}:wMN l c=true ↔ clrP l c:=by
 unfold wMN clrP
 rw [nA,wBD,nM]
 constructor
 ·rintro ⟨h1,h2⟩
  refine ⟨fun i hi j hj hh=>?_,fun s hs=>by simpa using h2 s hs⟩
  have:=(wBD _ _ _).1 (h1 i (by omega) (by omega)) j (by omega) (by omega)
  unfold wCb at this
  simp [hh] at this
 ·rintro ⟨h1,h2⟩
  refine ⟨fun i _ hi=>(wBD _ _ _).2 fun j _ hj=>?_,fun s hs=>by simpa using h2 s hs⟩
  have:=h1 i (by omega) j (by omega)
  unfold wCb
  by_cases a:(gd l i).Gate=(gd l j).Gate <;> by_cases b:cl c (gd l i) (gd l j) <;> simp_all
theorem wMP {l:List wAA} {c:Int} (G:wBv l c):wBK l c=some (wMN l c,0):=by
 unfold wBK
 have hl:=G.len
 rw [wDJ (by omega),wCH.2 G,hH,if_pos rfl]
 rw [wCG (fun i=>wCp (wCb l c i) i 0) (false,0) (by omega) (fun i hi=>by
  rw [wBu hi,hH]
  have e0:cut l 0 (i:Int)=some (l.take i):=by
   have:=wKz (l:=l) (a:=0) (b:=i) (by omega) (by omega)
   simpa using this
  rw [e0,hH]
  rw [wCG (wCb l c i) (.inr (false,0)) (by simp;omega) (fun j hj=>by
   have hj':j < i:=by simp at hj;omega
   rw [wBu hj,hH,wKy hj' (by omega)]
   unfold wCb
   by_cases a:(gd l i).Gate=(gd l j).Gate
   ·rw [if_pos a,wGU G (wFc hi) (wFc (by omega)),hH]
    by_cases b:cl c (gd l i) (gd l j) <;> simp [a,b]
   ·rw [if_neg a];simp [a])]
  rw [show (l.take i).length=i by simp;omega]
  cases wCp (wCb l c i) i 0 <;> rfl)]
 rw [wKu (f:=wBE) (p:=fun s=>decide (0 < s.Gate)) (fun a=>rfl) (by omega)]
 unfold wMN
 cases wCp (fun i=>wCp (wCb l c i) i 0) l.length 0 <;> rfl
end Go.Proofs.YthbficbpebiekaaGreat
namespace Go.Proofs.YthbficbpebiekaaGreat
open Go.KL
def fb (l:List wAA) (b:Int):Int:=first (fun s=>decide (s.Bib=b)) l 0
def at_ (l:List wAA) (b:Int):wAA:=gd l (fb l b).toNat
theorem wGX {α:Type} {p:α->Bool}:∀ {l:List α} {k:Nat},first p l k=-1 \/ ((k:Int) <= first p l k/\first p l k < k + l.length)
 | [],k=>.inl rfl
 | a :: l,k=>by
  rw [first]
  split
  ·right;simp;omega
  ·rcases wGX (p:=p) (l:=l) (k:=k + 1) with h | h
   ·exact .inl h
   ·right;simp at h ⊢;omega
theorem wOG {l:List wAA} {b:Int}:fb l b=-1 \/ (0 <= fb l b/\fb l b < l.length):=by
 have:=wGX (p:=fun s:wAA=>decide (s.Bib=b)) (l:=l) (k:=0)
 unfold fb
 simpa using this
theorem wMQ {l:List wAA} {b:Int} (h:0 <= fb l b):at_ l b ∈ l:=by
 have:=wOG (l:=l) (b:=b)
 exact wFc (by omega)
theorem wLD {l:List wAA} (h:(l.map (·.Bib)).Nodup) {i j:Nat} (hi:i < l.length) (hj:j < l.length) (e:(gd l i).Bib=(gd l j).Bib):i=j:=by
 have hi':i < (l.map (·.Bib)).length:=by simpa using hi
 have hj':j < (l.map (·.Bib)).length:=by simpa using hj
 have e':(l.map (·.Bib))[i]=(l.map (·.Bib))[j]:=by
  rw [nH,nH,<- wFR hi,<- wFR hj]
  exact e
 have pw:=nS.1 h
 rcases Nat.lt_trichotomy i j with c | c | c
 ·exact absurd e' (pw i j hi' hj' c)
 ·exact c
 ·exact absurd e'.symm (pw j i hj' hi' c)
theorem wPS {l:List wAA} (h:(l.map (·.Bib)).Nodup) {i:Nat} (hi:i < l.length):fb l (gd l i).Bib=i:=by
 unfold fb
 rw [wGV (j:=i) hi (by simp) (fun j hj=>by
  have:¬ (gd l j).Bib=(gd l i).Bib:=fun e=>by have:=wLD h (by omega) hi e;omega
  simpa using this)]
 omega
theorem wPT {l:List wAA} (h:(l.map (·.Bib)).Nodup) {i:Nat} (hi:i < l.length):at_ l (gd l i).Bib=gd l i:=by
 unfold at_
 rw [wPS h hi];rfl
def crQ (l:List wAA) (c:Int) (bibs:List Int) (i j:Nat):Bool:=!decide (at_ l (gd bibs j)=at_ l (gd bibs i)) && decide (cl c (at_ l (gd bibs j)) (at_ l (gd bibs i)))
def crI (l:List wAA) (c:Int) (bibs:List Int) (i:Nat):Bool:=decide (0 <= fb l (gd bibs i)) && wCp (crQ l c bibs i) i 0
def crB (l:List wAA) (c:Int) (bibs:List Int):Bool:=wCp (crI l c bibs) bibs.length 0
theorem wLE {l:List wAA} {c:Int} (G:wBv l c) (bibs:List Int) (hb:bibs.length <= 1000):wBB l c bibs=some (crB l c bibs,0):=by
 unfold wBB
 have hl:=G.len
 rw [wDJ (by omega),wCH.2 G,hH,if_pos rfl]
 have key:∀ n,n <= bibs.length->wCp (crI l c bibs) n 0=true->∀ i,i < n->0 <= fb l (gd bibs i):=fun n _ h i hi=>by
  have:=(wBD _ _ _).1 h i (by omega) (by omega)
  unfold crI at this
  simp at this
  exact this.1
 have go:∀ (m k:Nat),k + m=bibs.length->wCp (crI l c bibs) k 0=true->forN (fun k30 l26 =>
   (idx bibs (↑k30:Int)).bind fun x54 =>
   (wAF l (fun x=>wAp x x54)).bind fun x79 =>
   if x79 < 0 then
    esc (some (false,(0:Int)))
   else
    jn (wDD 0 (↑l26.length:Int) (fun k97 _ =>
     (chk (↑k97:Int) l26.length).bind fun _ =>
     (idx l x79).bind fun x137 =>
     if (gd l26 k97)=x137 then
      esc (esc (some (false,0)))
     else
      (wAI c (gd l26 k97) x137).bind fun x159 =>
      if x159=true then
       some (.inl ())
      else
       esc (esc (some (false,0)))) ()) fun _ =>
    (idx l x79).bind fun x196 =>
    (app 24 l26 [x196]).bind fun x210 =>
    some (.inl x210)) m k ((bibs.take k).map (at_ l))=some (if wCp (crI l c bibs) m k=true then .inl (bibs.map (at_ l)) else .inr (false,0)):=by
  intro m
  induction m with
  | zero =>
   intro k hk _
   rw [nf (by omega)];rfl
  | succ m ih =>
   intro k hk ha
   have hlt:k < bibs.length:=by omega
   have hfound:=key k (by omega) ha
   rw [forN,wBu hlt,hH,wLA (f:=fun x=>wAp x (gd bibs k)) (p:=fun s=>decide (s.Bib=gd bibs k)) (fun a _=>rfl) (by omega),hH,wCp]
   rw [show first (fun s:wAA=>decide (s.Bib=gd bibs k)) l 0=fb l (gd bibs k) from rfl]
   by_cases c1:fb l (gd bibs k) < 0
   ·rw [if_pos c1]
    have:crI l c bibs k=false:=by unfold crI;simp;omega
    rw [this];rfl
   ·rw [if_neg c1]
    have hfl:=wOG (l:=l) (b:=gd bibs k)
    have hix:idx l (fb l (gd bibs k))=some (at_ l (gd bibs k)):=by
     unfold idx at_
     rw [if_pos (by omega),wCA (by omega)]
    have hlen:((bibs.take k).map (at_ l)).length=k:=by simp;omega
    rw [hlen,wCG (crQ l c bibs k) (.inr (false,0)) (by omega) (fun j hj=>by
     have hg:gd ((bibs.take k).map (at_ l)) j=at_ l (gd bibs j):=by
      rw [wCl _ (by simp;omega),wKy hj (by omega)]
     rw [wJR (by omega) (by omega),hH,hix,hH,hg]
     unfold crQ
     by_cases a:at_ l (gd bibs j)=at_ l (gd bibs k)
     ·rw [if_pos a];simp [a]
     ·rw [if_neg a,wGU G (wMQ (hfound j hj)) (wMQ (by omega)),hH]
      by_cases b:cl c (at_ l (gd bibs j)) (at_ l (gd bibs k)) <;> simp [a,b])]
    have hI:crI l c bibs k=wCp (crQ l c bibs k) k 0:=by
     unfold crI
     rw [decide_eq_true (show 0 <= fb l (gd bibs k) by omega),nU]
    rw [hI]
    by_cases c2:wCp (crQ l c bibs k) k 0=true
    ·rw [if_pos c2,wCe,hix,hH,wFQ (by simp;omega),hH,c2,nU]
     have e:(bibs.take k).map (at_ l) ++ [at_ l (gd bibs k)]=(bibs.take (k + 1)).map (at_ l):=by
      rw [wGT hlt];simp
     simp only
     rw [e]
     refine ih (k + 1) (by omega) ((wBD _ _ _).2 fun i h1 h2=>?_)
     by_cases ei:i=k
     ·subst ei;rw [hI,c2]
     ·exact (wBD _ _ _).1 ha i (by omega) (by omega)
    ·have:wCp (crQ l c bibs k) k 0=false:=by simpa using c2
     rw [this];rfl
 rw [wCD (by omega)]
 have:=go bibs.length 0 (by omega) rfl
 simp only [List.take_zero,List.map_nil] at this
 rw [this]
 unfold crB
 cases wCp (crI l c bibs) bibs.length 0 <;> rfl
theorem pig:∀ (m:Nat) (l:List Int),l.Nodup->(∀ x ∈ l,1 <= x/\x <= m)->l.length <= m
 | 0,l,_,h=>by
  cases l with
  | nil=>exact nI _
  | cons a l=>have:=h a (by simp);omega
 | m + 1,l,hn,h=>by
  have h1:=pig m (l.erase ((m:Int) + 1)) (hn.erase _) (fun x hx=>by
   have:=(List.Nodup.mem_erase_iff hn).1 hx
   have:=h x this.2
   omega)
  have:=List.length_erase (a:=(m:Int) + 1) (l:=l)
  split at this <;> omega
end Go.Proofs.YthbficbpebiekaaGreat
namespace Go.Proofs.YthbficbpebiekaaGreat
open Go.KL
theorem wFU {B:Type} {body:Nat->Unit->Option (Unit ⊕ B)} (q:Nat->Bool) (c:B):∀ (m k:Nat),(∀ i,k <= i->i < k + m->(∀ j,k <= j->j < i->q j=true)->body i ()=some (if q i=true then .inl () else .inr c))->forN body m k ()=some (if wCp q m k=true then .inl () else .inr c)
 | 0,_,_=>rfl
 | m + 1,k,h=>by
  rw [forN,h k (by omega) (by omega) (fun j h1 h2=>by omega),wCp]
  cases hq:q k with
  | false=>rfl
  | true =>
   simp only [if_true,nU]
   exact wFU q c m (k + 1) fun i h1 h2 h3=>h i (by omega) (by omega) fun j h4 h5=>by
    by_cases e:j=k
    ·exact e ▸ hq
    ·exact h3 j (by omega) h5
theorem wLF {B:Type} {body:Nat->Unit->Option (Unit ⊕ B)} {n:Nat} (q:Nat->Bool) (c:B) (hn:n <= 1000) (h:∀ i,i < n->(∀ j,j < i->q j=true)->body i ()=some (if q i=true then .inl () else .inr c)):wDD 0 (n:Int) body ()=some (if wCp q n 0=true then .inl () else .inr c):=by
 rw [wCD (by omega)]
 exact wFU q c n 0 fun i _ h2 h3=>h i (by omega) fun j hj=>h3 j (by omega) hj
def toR (s:wAA):wAC:=⟨s.Bib,s.Time,s.Gate⟩
theorem wLG {l:List wAA} (hl:l.length <= 1000):wAi l=some (l.map toR):=by
 unfold wAi
 rw [wIY (bytes:=24) (f:=toR) (fun a _ r=>by rw [wHs];rfl) (by omega) (by omega)]
 rfl
theorem wDP {l:List wAA} {k:Nat} (h:k < l.length):idx (l.map toR) (k:Int)=some (toR (gd l k)):=by
 rw [wBu (by simpa using h),wCl _ h]
theorem wLH (x a b:Int):wAa x a b=some (decide (x < a) || decide (b < x)):=by
 unfold wAa
 by_cases h:x < a <;> simp [h]
theorem wJD {l:List wAA}:wCp (fun i=>wCp (fun j=>!decide ((gd l i).Bib=(gd l j).Bib)) i 0) l.length 0=decide (l.map (·.Bib)).Nodup:=by
 rw [nX,wBD,decide_eq_true_iff,nV,nS]
 constructor
 ·intro h i j hi hj hij e
  rw [nG] at hi hj
  rw [nH,nH,<- wFR hi,<- wFR hj] at e
  have:=(wBD _ _ _).1 (h j (by omega) (by omega)) i (by omega) (by omega)
  simp [e] at this
 ·intro h i _ hi
  refine (wBD _ _ _).2 fun j _ hj=>?_
  have:=h j i (by simp;omega) (by simp;omega) (by omega)
  rw [nH,nH,<- wFR (by omega),<- wFR (by omega)] at this
  simp only [Bool.not_eq_true',decide_eq_false_iff_not]
  exact fun e=>this e.symm
theorem wMR {l:List wAA}:wCp (fun k=>!decide ((gd l (1 + k)).Time < (gd l k).Time)) (l.length - 1) 0=decide (Asc l):=by
 rw [nX,wBD,decide_eq_true_iff]
 unfold Asc
 constructor
 ·intro h k hk
  have:=h k (by omega) (by omega)
  rw [show k + 1=1 + k by omega]
  simpa using this
 ·intro h k _ hk
  have:=h k (by omega)
  rw [show k + 1=1 + k by omega] at this
  simpa using this
theorem wIb {l:List wAA} (hl:l.length <= 1000):wAV (l.map toR)=some (wMJ l):=by
 unfold wAV wMJ
 rw [nG]
 by_cases h60:60 < l.length
 ·rw [if_pos (by omega),if_pos h60]
 rw [if_neg (by omega),if_neg h60]
 rw [wCG (fun i=>okS (gd l i)) 3 (by omega) (fun i hi=>by
  rw [wDP hi,hH,wLH,hH]
  have h:=wHt (gd l i)
  simp only [wLH,hH,toR]
  generalize gd l i=s at h ⊢
  by_cases h1:(decide (s.Bib < 1) || decide (999 < s.Bib))=true
  ·refine (if_pos h1).trans ?_
   rw [if_neg (fun e=>by have:=h.1 e;simp at h1;omega)];rfl
  ·refine (if_neg h1).trans ?_
   by_cases h2:(decide (s.Time < 0) || decide (360000 < s.Time))=true
   ·refine (if_pos h2).trans ?_
    rw [if_neg (fun e=>by have:=h.1 e;simp at h2;omega)];rfl
   ·refine (if_neg h2).trans ?_
    by_cases h3:(decide (s.Gate < 0) || decide (60 < s.Gate))=true
    ·refine (if_pos h3).trans ?_
     rw [if_neg (fun e=>by have:=h.1 e;simp at h3;omega)];rfl
    ·refine (if_neg h3).trans ?_
     rw [if_pos (h.2 (by simp at h1 h2 h3;omega))])]
 rw [wMG]
 by_cases ha:wCp (fun k=>okS (gd l k)) l.length 0=true
 ·rw [if_pos ha,if_pos ha,wCe]
  rw [wCG (fun i=>wCp (fun j=>!decide ((gd l i).Bib=(gd l j).Bib)) i 0) 5 (by omega) (fun i hi=>by
   rw [wCG (fun j=>!decide ((gd l i).Bib=(gd l j).Bib)) (.inr 5) (by omega) (fun j hj=>by
    rw [wDP hi,hH,wDP (by omega),hH]
    by_cases e:(gd l i).Bib=(gd l j).Bib
    ·rw [if_pos (show (toR (gd l i)).Bib=(toR (gd l j)).Bib from e)];simp [e]
    ·rw [if_neg (show ¬ (toR (gd l i)).Bib=(toR (gd l j)).Bib from e)];simp [e])]
   split <;> rfl),wJD]
  by_cases hd:(l.map (·.Bib)).Nodup
  ·rw [if_pos (by simpa using hd),if_pos hd,wCe]
   have e3:wDD 1 (l.length:Int) (fun k188 (_:Unit) =>
   (idx (l.map toR) (1 + ↑k188:Int)).bind fun x208 =>
   (idx (l.map toR) (w64 ((1 + ↑k188:Int) - 1))).bind fun x218 =>
   if x208.Time < x218.Time then
    esc (some (4:Int))
   else
    some (.inl ())) ()=some (if Asc l then .inl () else .inr 4):=by
    unfold wDD
    rw [if_pos (by omega),show ((l.length:Int) - 1).toNat=l.length - 1 by omega,wFU (fun k=>!decide ((gd l (1 + k)).Time < (gd l k).Time)) 4 (l.length - 1) 0 (fun i _ hi _=>by
     rw [show (1 + (i:Int))=((1 + i:Nat):Int) by omega,wDP (by omega),hH,wAj (by omega) (by omega),show ((1 + i:Nat):Int) - 1=(i:Int) by omega,wDP (by omega),hH]
     by_cases e:(gd l (1 + i)).Time < (gd l i).Time
     ·rw [if_pos (show (toR (gd l (1 + i))).Time < (toR (gd l i)).Time from e)];simp [e]
     ·rw [if_neg (show ¬ (toR (gd l (1 + i))).Time < (toR (gd l i)).Time from e)];simp [e]),wMR]
    by_cases hs:Asc l <;> simp [hs]
   rw [e3]
   by_cases hs:Asc l
   ·rw [if_pos hs,if_pos hs];rfl
   ·rw [if_neg hs,if_neg hs];rfl
  ·rw [if_neg (by simpa using hd),if_neg hd];rfl
 ·rw [if_neg ha,if_neg ha];rfl
theorem wDK {l:List wAA} (hl:l.length <= 1000) (c:Int):wAT (l.map toR) c=some (wHE l c):=by
 unfold wAT wHE
 rw [wIb hl,hH]
 by_cases h:wMJ l=0
 ·rw [if_pos h,if_pos h,wLH,hH]
  by_cases h1:1 <= c/\c <= 6000
  ·rw [if_pos h1,if_neg (by simp;omega)]
  ·rw [if_neg h1,if_pos (by simp;omega)]
 ·rw [if_neg h,if_neg h]
theorem wHw {l:List wAA} {c:Int} (G:wBv l c) {a b:wAA} (ha:a ∈ l) (hb:b ∈ l):wAN (toR a) (toR b) c=some (decide (cl c a b)):=by
 have h1:=G.ok a ha
 have h2:=G.ok b hb
 unfold wAN toR cl
 simp only
 rw [wAj (by omega) (by omega),wAj (by omega) (by omega)]
 by_cases h:a.Time - b.Time < c <;> simp [h]
theorem wIc {l:List wAA} {c:Int} (G:wBv l c):wAS (l.map toR) c=some (wMN l c,0):=by
 unfold wAS
 have hl:=G.len
 rw [wDK (by omega),wCH.2 G,hH,if_pos rfl,nG]
 rw [wCG (fun i=>!decide ((gd l i).Gate=0) && wCp (wCb l c i) i 0) (false,0) (by omega) (fun i hi=>by
  rw [wDP hi,hH]
  by_cases g0:(gd l i).Gate=0
  ·rw [if_pos (show (toR (gd l i)).Gate=0 from g0)];simp [g0]
  rw [if_neg (show ¬ (toR (gd l i)).Gate=0 from g0)]
  rw [wCG (wCb l c i) (.inr (false,0)) (by omega) (fun j hj=>by
   rw [wDP (by omega),hH]
   unfold wCb
   by_cases a:(gd l i).Gate=(gd l j).Gate
   ·rw [if_pos (show (toR (gd l i)).Gate=(toR (gd l j)).Gate from a),wHw G (wFc hi) (wFc (by omega)),hH]
    by_cases b:cl c (gd l i) (gd l j) <;> simp [a,b]
   ·rw [if_neg (show ¬ (toR (gd l i)).Gate=(toR (gd l j)).Gate from a)];simp [a])]
  rw [show decide ((gd l i).Gate=0)=false by simpa using g0,Bool.not_false,nU]
  cases wCp (wCb l c i) i 0 <;> rfl)]
 have e:wCp (fun i=>!decide ((gd l i).Gate=0) && wCp (wCb l c i) i 0) l.length 0=wMN l c:=by
  unfold wMN
  rw [nX,nA,wBD,wBD,nM]
  constructor
  ·intro h
   refine ⟨fun i h1 h2=>by have:=h i h1 h2;rw [nA] at this;exact this.2,fun s hs=>?_⟩
   obtain ⟨i,hi,e⟩:=nY hs
   have h1:=h i (by omega) (by omega)
   rw [nA,wFR hi,e] at h1
   have:=G.ok s hs
   have h2:¬ s.Gate=0:=by simpa using h1.1
   simp;omega
  ·rintro ⟨h1,h2⟩ i h3 h4
   rw [nA]
   refine ⟨?_,h1 i h3 h4⟩
   have:=h2 _ (wFc (l:=l) (k:=i) (by omega))
   simp at this ⊢
   omega
 rw [e]
 cases wMN l c <;> rfl
theorem wLI {l:List wAA} (hl:l.length <= 1000) (b:Int):wAe (l.map toR) b=some (fb l b):=by
 unfold wAe
 have:=wFr (R:=Int) (l:=l.map toR) (f:=fun x=>some (decide (x.Bib=b))) (p:=fun x=>decide (x.Bib=b)) (fun a _=>rfl) (by simp;omega) id
 simp only [id,hH,decide_eq_true_iff] at this
 rw [this]
 congr 1
 unfold fb
 generalize 0=k
 clear this hl
 induction l generalizing k with
 | nil=>rfl
 | cons a l ih =>
  rw [nl,first,first,ih]
  rfl
theorem wMv {l:List wAA} {b:Int} (h:0 <= fb l b):(at_ l b).Bib=b:=by
 have key:∀ (l:List wAA) (k:Nat),0 <= first (fun s=>decide (s.Bib=b)) l k->(gd l (first (fun s=>decide (s.Bib=b)) l k - k).toNat).Bib=b:=by
  intro l
  induction l with
  | nil=>intro k h;simp [first] at h
  | cons a l ih =>
   intro k h
   rw [first] at h ⊢
   by_cases e:a.Bib=b
   ·rw [if_pos (by simpa using e)] at h ⊢
    have:((k:Int) - k).toNat=0:=by omega
    rw [this];exact e
   ·rw [if_neg (by simpa using e)] at h ⊢
    have h1:=ih (k + 1) h
    have h2:=wGX (p:=fun s:wAA=>decide (s.Bib=b)) (l:=l) (k:=k + 1)
    have:(first (fun s:wAA=>decide (s.Bib=b)) l (k + 1) - (k:Int)).toNat=(first (fun s:wAA=>decide (s.Bib=b)) l (k + 1) - ((k + 1:Nat):Int)).toNat + 1:=by omega
    rw [this]
    exact h1
 have:=key l 0 h
 unfold at_ fb
 simpa using this
theorem wHF {l:List wAA} {c:Int} (G:wBv l c) (bibs:List Int) (hb:bibs.length <= 1000):wAQ (l.map toR) c bibs=some (crB l c bibs,0):=by
 unfold wAQ
 have hl:=G.len
 rw [wDK (by omega),wCH.2 G,hH,if_pos rfl]
 have found:∀ i,crI l c bibs i=true->0 <= fb l (gd bibs i):=fun i h=>by
  unfold crI at h
  simp at h
  exact h.1
 have hix:∀ i,0 <= fb l (gd bibs i)->idx (l.map toR) (fb l (gd bibs i))=some (toR (at_ l (gd bibs i))):=fun i h=>by
  have:=wOG (l:=l) (b:=gd bibs i)
  have e:fb l (gd bibs i)=(((fb l (gd bibs i)).toNat:Nat):Int):=by omega
  rw [e,wDP (by omega)]
  rfl
 rw [wLF (crI l c bibs) (false,0) (by omega) (fun i hi hp=>by
  rw [wBu hi,hH,wLI (by omega),hH]
  by_cases c1:fb l (gd bibs i) < 0
  ·have:crI l c bibs i=false:=by unfold crI;simp;omega
   rw [if_pos c1,this];rfl
  rw [if_neg c1]
  rw [wCG (crQ l c bibs i) (.inr (false,0)) (by omega) (fun j hj=>by
   have fj:=found j (hp j hj)
   rw [wBu (by omega),hH]
   unfold crQ
   by_cases a:gd bibs i=gd bibs j
   ·rw [if_pos a];simp [a]
   ·rw [if_neg a,wLI (by omega),hH,hix i (by omega),hH,hH,hix j fj,hH,wHw G (wMQ (by omega)) (wMQ fj),hH]
    have ne:at_ l (gd bibs j) ≠ at_ l (gd bibs i):=fun e=>a (by
     have:(at_ l (gd bibs j)).Bib=(at_ l (gd bibs i)).Bib:=congrArg (·.Bib) e
     rw [wMv fj,wMv (by omega)] at this
     exact this.symm)
    have sy:cl c (at_ l (gd bibs i)) (at_ l (gd bibs j)) ↔ cl c (at_ l (gd bibs j)) (at_ l (gd bibs i)):=⟨fun h=>⟨h.2,h.1⟩,fun h=>⟨h.2,h.1⟩⟩
    by_cases b:cl c (at_ l (gd bibs i)) (at_ l (gd bibs j))
    ·simp [ne,b,sy.1 b]
    ·simp [ne,b,mt sy.2 b])]
  have hI:crI l c bibs i=wCp (crQ l c bibs i) i 0:=by
   unfold crI
   rw [decide_eq_true (show 0 <= fb l (gd bibs i) by omega),nU]
  rw [hI]
  cases wCp (crQ l c bibs i) i 0 <;> rfl)]
 unfold crB
 cases wCp (crI l c bibs) bibs.length 0 <;> rfl
end Go.Proofs.YthbficbpebiekaaGreat
namespace Go.Proofs.YthbficbpebiekaaGreat
open Go.KL
theorem wHG {α:Type} [Inhabited α] {l:List α} {a:α} (h:a ∈ l):∃ i,i < l.length/\gd l i=a:=by
 obtain ⟨i,hi,e⟩:=nY h
 exact ⟨i,hi,by rw [wFR hi,e]⟩
structure wPU (l l':List wAA):Prop where
 len:l'.length=l.length
 bib:∀ i,i < l.length->(gd l' i).Bib=(gd l i).Bib
 time:∀ i,i < l.length->(gd l' i).Time=(gd l i).Time
theorem wLJ {l l':List wAA} {c:Int} (G:wBv l c) (S:wPU l l') (hg:∀ s ∈ l',0 <= s.Gate/\s.Gate <= 60):wBv l' c:=by
 have e:l'.map (·.Bib)=l.map (·.Bib):=wMs (by simp [S.len]) fun k hk=>by
  have hk':k < l.length:=by simp [S.len] at hk;exact hk
  rw [wCl _ (by rw [S.len];exact hk'),wCl _ hk',S.bib k hk']
 refine ⟨by rw [S.len];exact G.len,fun s hs=>?_,by rw [e];exact G.one,fun k hk=>?_,G.c1,G.c2⟩
 ·obtain ⟨i,hi,e⟩:=wHG hs
  have hi':i < l.length:=by rw [<- S.len];exact hi
  have:=G.ok _ (wFc hi')
  have e1:=S.bib i hi'
  have e2:=S.time i hi'
  rw [e] at e1 e2
  exact ⟨by rw [e1];exact this.1,by rw [e2];exact this.2.1,hg s hs⟩
 ·rw [S.len] at hk
  rw [S.time k (by omega),S.time (k + 1) hk]
  exact G.asc k hk
theorem wHx {l l':List wAA} (S:wPU l l') {c:Int} {i j:Nat} (hi:i < l.length) (hj:j < l.length):cl c (gd l' i) (gd l' j) ↔ cl c (gd l i) (gd l j):=by
 unfold cl
 rw [S.time i hi,S.time j hj]
theorem wId {l:List wAA} {m:Nat}:wPU l (gts l m):=⟨wCX,fun i hi=>by rw [wES hi],fun i hi=>by rw [wES hi]⟩
theorem wMS {l:List wAA} {c:Int} (G:wBv l c):wBv (gts l (mx l c l.length)) c:=by
 refine wLJ G wId fun s hs=>?_
 obtain ⟨i,hi,e⟩:=wHG hs
 rw [wCX] at hi
 rw [wES hi] at e
 have hm:=wKx G (n:=l.length) (by omega)
 have:=nv i hm
 have:=wJC (l:=l) (c:=c) (n:=l.length)
 have:=G.len
 subst e
 simp only
 omega
theorem wOH {i j m:Nat} (h:j < i) (e:i % m=j % m):m <= i - j:=by
 have h1:=Nat.div_add_mod i m
 have h2:=Nat.div_add_mod j m
 have h3:m * (j / m) < m * (i / m):=by omega
 have h4:=Nat.lt_of_mul_lt_mul_left h3
 have h5:m * (j / m + 1) <= m * (i / m):=Nat.mul_le_mul_left m h4
 rw [Nat.mul_add] at h5
 omega
theorem wLK {l:List wAA} {c:Int} (G:wBv l c):wMN (gts l (mx l c l.length)) c=true:=by
 rw [wMO]
 refine ⟨fun i hi j hj hh=>?_,fun s hs=>?_⟩
 ·rw [wCX] at hi
  obtain ⟨h1,h2⟩:=hh
  rw [wES hi,wES (by omega)] at h1
  simp only at h1
  have e:i % mx l c l.length=j % mx l c l.length:=by omega
  have h3:=wOH hj e
  rw [wHx wId hi (by omega)] at h2
  have h4:cl c (gd l j) (gd l i):=⟨h2.2,h2.1⟩
  have h5:=(wFt G hi (by omega)).1 h4
  have h6:=wOD (l:=l) (c:=c) hi
  omega
 ·obtain ⟨i,hi,e⟩:=wHG hs
  rw [wCX] at hi
  rw [wES hi] at e
  subst e
  simp only
  omega
theorem wJE {l:List wAA} {c:Int} (G:wBv l c) {k:Nat} (hk:k < l.length):crB l c ((sg l (fs l c k) (k + 1)).map (·.Bib))=true:=by
 have hf:=wHu G (k:=k)
 have hsl:=wLB (l:=l) (a:=fs l c k) (b:=k + 1) (by omega) (by omega)
 have hg:∀ i,i < k + 1 - fs l c k->gd ((sg l (fs l c k) (k + 1)).map (·.Bib)) i=(gd l (fs l c k + i)).Bib:=fun i hi=>by
  rw [wCl _ (by omega),wOF (by omega) (by omega)]
 unfold crB
 refine (wBD _ _ _).2 fun i _ hi=>?_
 rw [nG,hsl] at hi
 unfold crI
 rw [hg i (by omega),wPS G.one (by omega)]
 rw [nA]
 refine ⟨by simp;omega,(wBD _ _ _).2 fun j _ hj=>?_⟩
 unfold crQ
 rw [hg i (by omega),hg j (by omega),wPT G.one (by omega),wPT G.one (by omega)]
 have ne:gd l (fs l c k + j) ≠ gd l (fs l c k + i):=fun e=>by
  have:=wLD G.one (by omega) (by omega) (congrArg (·.Bib) e)
  omega
 have h1:=(wFt G hk (show fs l c k + j <= k by omega)).2 (by omega)
 have h2:=wFS G.asc (show fs l c k + j <= fs l c k + i by omega) (by omega)
 have h3:=wFS G.asc (show fs l c k + i <= k by omega) hk
 have hc:=G.c1
 have:cl c (gd l (fs l c k + j)) (gd l (fs l c k + i)):=by unfold cl at h1 ⊢;omega
 simp [ne,this]
theorem wLL {l l':List wAA} {c:Int} (G:wBv l c) (S:wPU l l') (hc:clrP l' c) {m:Nat} (hg:∀ s ∈ l',s.Gate <= m):mx l c l.length <= m:=by
 by_cases h0:l.length=0
 ·rw [h0];exact Nat.zero_le _
 obtain ⟨k,hk,e⟩:=wOE G h0
 have hf:=wHu G (k:=k)
 have hl':=S.len
 have hsl:=wLB (l:=l') (a:=fs l c k) (b:=k + 1) (by omega) (by omega)
 have:=pig m ((sg l' (fs l c k) (k + 1)).map (·.Gate)) (by
  rw [nV,nS]
  intro i j hi hj hij he
  rw [nG,hsl] at hi hj
  rw [nH,nH,<- wFR (by omega),<- wFR (by omega),wOF (by omega) (by omega),wOF (by omega) (by omega)] at he
  have h1:=(wFt G hk (show fs l c k + i <= k by omega)).2 (by omega)
  have h2:=wFS G.asc (show fs l c k + i <= fs l c k + j by omega) (by omega)
  have h3:=wFS G.asc (show fs l c k + j <= k by omega) hk
  refine hc.1 (fs l c k + j) (by omega) (fs l c k + i) (by omega) ⟨he.symm,?_⟩
  rw [wHx S (by omega) (by omega)]
  unfold cl at h1 ⊢
  have:=G.c1
  omega) (fun x hx=>by
  obtain ⟨s,hs,e⟩:=List.mem_map.1 hx
  subst e
  have hs':s ∈ l':=List.mem_of_mem_drop (ni hs)
  exact ⟨hc.2 s hs',hg s hs'⟩)
 rw [nG,hsl] at this
 omega
end Go.Proofs.YthbficbpebiekaaGreat
namespace Go.Proofs.YthbficbpebiekaaGreat
open Go.KL
def tak (l:List wAA) (c:Int) (o:List Int) (k:Nat) (g:Int):Prop:=∃ j,j < k/\gd o j=g/\cl c (gd l k) (gd l j)
structure Gr (l:List wAA) (c:Int) (k:Nat) (m:Int) (o:List Int):Prop where
 len:o.length=k
 pos:∀ i,i < k->1 <= gd o i/\gd o i <= mx l c k/\gd o i <= m
 free:∀ i,i < k->∀ j,j < i->¬ (gd o j=gd o i/\cl c (gd l i) (gd l j))
 top:m <= mx l c k
 m0:0 <= m
theorem wMw {l:List wAA} {c:Int} (G:wBv l c) {o:List Int} {k i:Nat} (hk:k < l.length) (h:∀ g:Nat,1 <= g->g <= i->tak l c o k g):i <= k - fs l c k:=by
 have hf:∀ g:Nat,∃ j:Nat,1 <= g->g <= i->j < k/\gd o j=g/\cl c (gd l k) (gd l j):=fun g=>by
  by_cases c1:1 <= g/\g <= i
  ·obtain ⟨j,hj⟩:=h g c1.1 c1.2
   exact ⟨j,fun _ _=>hj⟩
  ·exact ⟨0,fun a b=>absurd ⟨a,b⟩ c1⟩
 obtain ⟨f,hf⟩:=Classical.axiomOfChoice hf
 have hfs:∀ g,1 <= g->g <= i->fs l c k <= f g:=fun g a b=>by
  obtain ⟨h1,h2,h3⟩:=hf g a b
  exact (wFt G hk (by omega)).1 ⟨h3.2,h3.1⟩
 have:=pig (k - fs l c k) ((nu i).map fun g=>((f (g + 1):Nat):Int) - (fs l c k:Int) + 1) (by
  rw [nV,nS]
  intro a b ha hb hab e
  rw [nG,List.length_range] at ha hb
  rw [nH,nH,nr,nr] at e
  have h1:=(hf (a + 1) (by omega) (by omega)).2.1
  have h2:=(hf (b + 1) (by omega) (by omega)).2.1
  have:f (a + 1)=f (b + 1):=by omega
  rw [this,h2] at h1
  omega) (fun x hx=>by
  obtain ⟨g,hg,e⟩:=List.mem_map.1 hx
  have hg:=List.mem_range.1 hg
  have h1:=hfs (g + 1) (by omega) (by omega)
  have h2:=(hf (g + 1) (by omega) (by omega)).1
  omega)
 simpa using this
theorem wLM {l:List wAA} {c:Int} (G:wBv l c) {o:List Int} {k:Nat} (hk:k < l.length) (ho:o.length=k) (g:Int):∃ b,(wCu 0 (↑k:Int) (fun k113 b112 =>
            (chk (↑k113:Int) o.length).bind fun _ =>
            if (gd o k113)=g then
              (idx (l.map toR) (↑k:Int)).bind fun x147 =>
              (idx (l.map toR) (↑k113:Int)).bind fun x158 =>
              (wAN x147 x158 c).bind fun x165 =>
              if x165=true then
                some false
              else
                some b112
            else
              some b112) true)=some b/\(b=false ↔ tak l c o k g):=by
  have hl:=G.len
  obtain ⟨b,e,hb⟩:=wDw (body:=fun (k113:Nat) (b112:Bool) =>
            (chk (↑k113:Int) o.length).bind fun _ =>
            if (gd o k113)=g then
              (idx (l.map toR) (↑k:Int)).bind fun x147 =>
              (idx (l.map toR) (↑k113:Int)).bind fun x158 =>
              (wAN x147 x158 c).bind fun x165 =>
              if x165=true then
                some false
              else
                some b112
            else
              some b112) (n:=k) (s0:=true) (fun n b=>b=false ↔ ∃ j,j < n/\gd o j=g/\cl c (gd l k) (gd l j)) (by omega) ⟨fun h=>(by cases h),fun h=>(by obtain ⟨j,h,_⟩:=h;omega)⟩ (fun i b hi hb=>by
    rw [wJR (by omega) (by omega),hH]
    have ext:(∃ j,j < i + 1/\gd o j=g/\cl c (gd l k) (gd l j)) ↔ (∃ j,j < i/\gd o j=g/\cl c (gd l k) (gd l j)) \/ (gd o i=g/\cl c (gd l k) (gd l i)):=by
      constructor
      · rintro ⟨j,h1,h2⟩
        by_cases e:j=i
        · exact .inr (e ▸ h2)
        · exact .inl ⟨j,by omega,h2⟩
      · rintro (⟨j,h1,h2⟩ | h)
        · exact ⟨j,by omega,h2⟩
        · exact ⟨i,by omega,h⟩
    by_cases e:gd o i=g
    · rw [if_pos e,wDP hk,hH,wDP (by omega),hH,wHw G (wFc hk) (wFc (by omega)),hH]
      by_cases d:cl c (gd l k) (gd l i)
      · rw [if_pos (by simpa using d)]
        exact ⟨false,rfl,fun _=>ext.2 (.inr ⟨e,d⟩),fun _=>rfl⟩
      · rw [if_neg (by simpa using d)]
        exact ⟨b,rfl,by rw [ext,hb];exact ⟨.inl,fun h=>h.elim id fun h=>absurd h.2 d⟩⟩
    · rw [if_neg e]
      exact ⟨b,rfl,by rw [ext,hb];exact ⟨.inl,fun h=>h.elim id fun h=>absurd h.1 e⟩⟩)
  exact ⟨b,e,hb⟩
theorem wLN {l:List wAA} {c:Int} (G:wBv l c) {o:List Int} {k:Nat} {m:Int} (hk:k < l.length) (I:Gr l c k m o):∃ s,(iter (fun (x65,b66) =>
        if b66=true then
          esc ((app 8 o [x65]).bind fun x94 =>
          some (max m x65,x94))
        else
          (wCu 0 (↑k:Int) (fun k113 b112 =>
            (chk (↑k113:Int) o.length).bind fun _ =>
            if (gd o k113)=x65 then
              (idx (l.map toR) (↑k:Int)).bind fun x147 =>
              (idx (l.map toR) (↑k113:Int)).bind fun x158 =>
              (wAN x147 x158 c).bind fun x165 =>
              if x165=true then
                some false
              else
                some b112
            else
              some b112) true).bind fun y118 =>
          if y118=true then
            some (.inl (x65,y118))
          else
            some (.inl (w64 (x65 + 1),y118))) big ((1:Int),false))=some s/\Gr l c (k + 1) s.1 s.2:=by
  have hl:=G.len
  refine wME (I:=fun i (s:Int × Bool)=>(s.2=false/\s.1=(i:Int) + 1/\∀ g:Nat,1 <= g->g <= i->tak l c o k g) \/ (s.2=true/\¬ tak l c o k s.1/\∃ j:Nat,s.1=(j:Int) + 1/\∀ g:Nat,1 <= g->g <= j->tak l c o k g)) (Z:=fun (s:Int × List Int)=>Gr l c (k + 1) s.1 s.2) 70 ?_ (.inl ⟨rfl,rfl,fun g h1 h2=>by omega⟩) (by omega)
  rintro i ⟨x,b⟩ hi (⟨rfl,rfl,ht⟩ | ⟨rfl,hn,j,rfl,ht⟩)
  · left
    have hb:=wMw G hk ht
    simp only [nB,if_false]
    obtain ⟨b,e,hb2⟩:=wLM G hk I.len ((i:Int) + 1)
    rw [e,hH]
    refine ⟨by omega,?_⟩
    cases b with
    | true =>
      exact ⟨_,rfl,.inr ⟨rfl,(fun h=>Bool.noConfusion (hb2.2 h)),i,rfl,ht⟩⟩
    | false =>
      refine ⟨_,if_neg (by decide),.inl ⟨rfl,?_,fun g h1 h2=>?_⟩⟩
      · simp only
        rw [wAj (by omega) (by omega)];omega
      · by_cases eg:g=i + 1
        · subst eg;exact hb2.1 rfl
        · exact ht g h1 (by omega)
  · right
    have hb:=wMw G hk ht
    have hf:=wHu G (k:=k)
    have hlen:=I.len
    refine ⟨(max m ((j:Int) + 1),o ++ [(j:Int) + 1]),?_,?_⟩
    · simp only [if_true]
      rw [wFQ (by simp;omega)];rfl
    have hge:=wOD (l:=l) (c:=c) (n:=k + 1) (k:=k) (by omega)
    have hmono:mx l c k <= mx l c (k + 1):=by rw [mx];omega
    have hlast:gd (o ++ [(j:Int) + 1]) k=(j:Int) + 1:=by rw [<- hlen,wMD]
    have hin:∀ i,i < k->gd (o ++ [(j:Int) + 1]) i=gd o i:=fun i hi=>wMC (by omega)
    have htop:=I.top
    have hm0:=I.m0
    refine ⟨by simp [hlen],fun i hi=>?_,fun i hi p hp hh=>?_,by simp only;omega,by simp only;omega⟩
    · by_cases e:i=k
      · subst e;rw [hlast];simp only;omega
      · rw [hin i (by omega)]
        have:=I.pos i (by omega)
        simp only;omega
    · by_cases e:i=k
      · subst e
        simp only at hh
        rw [hlast,hin p hp] at hh
        exact hn ⟨p,hp,hh.1,hh.2⟩
      · simp only at hh
        rw [hin i (by omega),hin p (by omega)] at hh
        exact I.free i (by omega) p hp hh
def wOR (l:List wAA) (o:List Int):List wAA:=l.mapIdx fun i s=>⟨s.Bib,s.Time,gd o i⟩
theorem wDx {l:List wAA} {o:List Int}:(wOR l o).length=l.length:=by unfold wOR;simp
theorem wEH {l:List wAA} {o:List Int} {k:Nat} (h:k < l.length):gd (wOR l o) k=⟨(gd l k).Bib,(gd l k).Time,gd o k⟩:=by
 have h1:=wCA (xs:=wOR l o) (k:=k) (by rw [wDx];exact h)
 unfold wOR at h1
 rw [nj,wCA h] at h1
 exact (nD h1).symm
theorem wMT {l:List wAA} {c:Int} (G:wBv l c):wAY (l.map toR) c=some ((mx l c l.length:Int),0):=by
 unfold wAY
 have hl:=G.len
 rw [wDK (by omega),wCH.2 G,hH,if_pos rfl,nG]
 obtain ⟨⟨m,o⟩,e,I⟩:=wDw (n:=l.length) (s0:=((0:Int),([]:List Int))) (fun k (s:Int × List Int)=>Gr l c k s.1 s.2) (by omega) ⟨rfl,fun i hi=>by omega,fun i hi=>by omega,by simp [mx],by simp⟩ (fun k s hk I=>wLN G hk I)
 rw [e,hH]
 simp only at I ⊢
 congr 2
 have htop:=I.top
 have hm0:=I.m0
 obtain ⟨m',rfl⟩:∃ m':Nat,m=m':=⟨m.toNat,by omega⟩
 have S:wPU l (wOR l o):=⟨wDx,fun i hi=>by rw [wEH hi],fun i hi=>by rw [wEH hi]⟩
 have:=wLL G S (m:=m') ⟨fun i hi j hj hh=>by
  rw [wDx] at hi
  rw [wHx S hi (by omega),wEH hi,wEH (by omega)] at hh
  exact I.free i hi j hj ⟨hh.1.symm,hh.2⟩,fun s hs=>by
  obtain ⟨i,hi,e⟩:=wHG hs
  rw [wDx] at hi
  rw [wEH hi] at e
  have:=I.pos i hi
  subst e
  simp only
  omega⟩ (fun s hs=>by
  obtain ⟨i,hi,e⟩:=wHG hs
  rw [wDx] at hi
  rw [wEH hi] at e
  have:=I.pos i hi
  subst e
  simp only
  omega)
 omega
end Go.Proofs.YthbficbpebiekaaGreat
namespace Go.Proofs.YthbficbpebiekaaGreat
open Go.KL
theorem wLO {l:List wAA} {c:Int} (hl:l.length <= 1000) (h:wHE l c ≠ 0):wBM l c=some (0,wHE l c)/\wBN l c=some ([],wHE l c)/\wBO l c=some ([],wHE l c)/\wBK l c=some (false,wHE l c)/\(∀ b,wBB l c b=some (false,wHE l c)):=by
 unfold wBM wBN wBO wBK wBB
 simp only [wDJ hl,hH,if_neg h]
 exact ⟨trivial,trivial,trivial,trivial,fun _=>trivial⟩
theorem wOI {l:List wAA} {c:Int} (hl:l.length <= 1000) (h:wHE l c ≠ 0):wAY (l.map toR) c=some (0,wHE l c)/\wAS (l.map toR) c=some (false,wHE l c)/\(∀ b,wAQ (l.map toR) c b=some (false,wHE l c)):=by
 unfold wAY wAS wAQ
 simp only [wDK hl,hH,if_neg h]
 exact ⟨trivial,trivial,fun _=>trivial⟩
theorem wPV {l:List wAA} (hl:l.length <= 1000):wAP l=some l:=by
 unfold wAP
 rw [wFQ (by simp;omega)];rfl
theorem wPW {l:List Int} (hl:l.length <= 1000):wAh l=some l:=by
 unfold wAh
 rw [wFQ (by simp;omega)];rfl
theorem wMx (l:List wAA) (hl:l.length <= 1000):wAK l l=some true:=by
 unfold wAK
 rw [wFs (by omega)];simp
theorem wMy (l:List Int) (hl:l.length <= 1000):wAb l l=some true:=by
 unfold wAb
 rw [wFs (by omega)];simp
theorem wLP (p0:List wAA) (p1:Int) (p2:List Int) (_:-9223372036854775808 <= p1) (_:p1 <= 9223372036854775807):wAl p0 p1 p2=some true:=by
 unfold wAl
 by_cases h1:64 < p0.length
 ·rw [if_pos (by omega)];rfl
 rw [if_neg (by omega)]
 by_cases h2:64 < p2.length
 ·rw [if_pos (by omega)];rfl
 rw [if_neg (by omega)]
 have hl:p0.length <= 1000:=by omega
 have hb:p2.length <= 1000:=by omega
 rw [wPV hl,hH,wPW hb,hH,wLG hl,hH,wER hl,hH,wIb hl,hH,if_pos rfl]
 by_cases he:wHE p0 p1=0
 ·have G:=wCH.1 he
  have hm:=wJC (l:=p0) (c:=p1) (n:=p0.length)
  obtain ⟨s,eC,sl,sk⟩:=wLC G
  rw [wMP G,hH]
  dsimp only
  rw [wIc G,hH]
  simp only [if_true,beq_self_eq_true]
  rw [wLE G p2 hb,hH]
  dsimp only
  rw [wHF G p2 hb,hH]
  simp only [if_true,beq_self_eq_true]
  rw [wML G,hH]
  dsimp only
  rw [wMT G,hH]
  dsimp only
  rw [wMM G,hH]
  dsimp only
  rw [eC,hH]
  simp only [if_true,hH,nB,if_false]
  have G2:=wMS G
  have hcr:crB p0 p1 (s.map (·.Bib))=true:=by
   rcases sk with h0 | ⟨k,hk,e⟩
   ·have:s=[]:=List.eq_nil_of_length_eq_zero (by rw [sl];omega)
    subst this;rfl
   ·rw [e];exact wJE G hk
  rw [wLG (by rw [wCX];omega),hH,wIc G2,hH]
  dsimp only
  rw [wHF G _ (by rw [nG,sl];omega),hH]
  simp only [if_true,wLK G,hcr]
  rw [if_pos (by rw [nG,sl]),if_pos (by rw [wCX]),wCX,wKr (by omega) (fun i hi=>by
   have hp:=wKx G (n:=p0.length) (by omega)
   have hmod:=nv i hp
   rw [wBu (by rw [wCX];exact hi),hH,wBu hi,hH,wES hi]
   simp only [if_true]
   rw [if_neg (by omega)]),wCe,wMx _ hl,hH,if_pos rfl,wMy _ hb]
  rfl
 ·obtain ⟨a1,a2,a3,a4,a5⟩:=wLO hl he
  obtain ⟨b1,b2,b3⟩:=wOI hl he
  rw [a4,hH]
  dsimp only
  rw [b2,hH]
  simp only [if_true,beq_self_eq_true]
  rw [a5,hH]
  dsimp only
  rw [b3,hH]
  simp only [if_true,beq_self_eq_true]
  rw [a1,hH]
  dsimp only
  rw [b1,hH]
  dsimp only
  rw [a2,hH]
  dsimp only
  rw [a3,hH]
  simp only [if_true,if_neg he,List.length_nil]
  have:decide (0 < w64 (((0:Nat):Int) + ((0:Nat):Int)))=false:=by decide
  rw [this]
  simp only [hH,nB,if_false,if_neg he]
  rw [wMx _ hl,hH,if_pos rfl,wMy _ hb]
  rfl
end Go.Proofs.YthbficbpebiekaaGreat
