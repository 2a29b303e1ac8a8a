import Derived.Test.YthbficbpebiekaaGreatZ1
import Derived.Test.YthbficbpebiekaaGreatZ0
open Option renaming bind_some->nA
open List renaming getElem?_eq_getElem->nB,mem_append->nD,drop_eq_getElem_cons->nH,append_of_mem->nI,mem_cons->nJ,count_eq_zero->nL,getElem?_eq_some_iff->nM,append_assoc->nO,drop_eq_nil_of_le->nP,mem_append_right->nQ,range->nR,count_append->nT,cons_append->nW,all_eq_true->nX,pairwise_append->nY,map_append->nZ,mergeSort_perm->nb,dropLast_concat_getLast->nc,map_cons->nf,getD_eq_getElem?_getD->ng,getElem_mem->ni,length_cons->nj,pairwise_mergeSort->nk,append_nil->nl,mem_append_left->no,pairwise_cons->nq,mem_singleton->nr,count_pos_iff->nu,mem_map->nv,take_add_one->ny
open Bool renaming and_eq_true->nE,false_eq_true->nG,not_eq_true'->nw
open Nat renaming eq_of_beq_eq_true->nK,le_refl->nU,zero_add->na,lt_irrefl->np,le_trans->nt
open Option.some renaming inj->nN
open Int renaming mul_nonneg->nS,mul_add->nV,tmod_eq_emod_of_nonneg->nh,sub_mul->nz
open List.cons renaming inj->kA
namespace Go.KX
open Go.RowKit Go.KL
section
variable {tb:Tr AF} {ex exY:Run} {P:Program} {N:Nat} {l:List Oper} {os s t:List AO} {a:AO} {σ0 σA σf:Tr AV} {h0 h hf:AH} {μ μS:Mu} {σ σ':Env} {w:World} {o:Oper}
theorem wBn:∀ (l1 l2:List AO) (x:Tr AV) (y:AH) (x1:Tr AV) (y1:AH),wAK tb ex exY l1 x y=some (x1,y1)->wAK tb ex exY (l1 ++ l2) x y=wAK tb ex exY l2 x1 y1
 | [],l2,x,y,x1,y1,h=>by rw [wAV] at h;cases h;rfl
 | b :: l1,l2,x,y,x1,y1,h=>by
  rw [nW,wAX]
  rw [wAX] at h
  cases hb:wBL x b.grd with
  | true =>
   rw [hb] at h
   simp only at h ⊢
   cases hq:opK b.kd b.op tb ex exY x y with
   | none=>rw [hq] at h;cases h
   | some r=>rw [hq] at h;exact wBn l1 l2 _ _ _ _ h
  | false =>
   rw [hb] at h
   exact wBn l1 l2 _ _ _ _ h
theorem wMk (HE:FrX ex) (HY:FrX exY) (Z:ZOK P N l os) (e:os=s ++ t) (hs:wAK tb ex exY s σ0 h0=some (σA,h)) {b:AO} (hb:b ∈ t) {s1 t1:List AO} {σ1:Tr AV} {h1:AH} (e1:os=s1 ++ b :: t1) (hr:wAK tb ex exY s1 σ0 h0=some (σ1,h1)):h.nx.nat <= h1.nx.nat:=by
 obtain ⟨r,r',rfl⟩:=nI hb
 have es:s1=s ++ r:=(wBT (e1 ▸ Z.one) (e1.symm.trans (e.trans (nO _ _ _).symm))).1
 subst es
 rw [wBn s r _ _ _ _ hs] at hr
 exact (wFF HE HY _ _ _ _ _ hr).nx
theorem wDr (Z:ZOK P N l os) {S:Nat->Bool} (hdc:∀ k,k < l.length->S k=true->∀ j ∈ prI l k,S j=true) (ha:a ∈ os) (hS:S a.ix=false) {b:AO} (hb:b ∈ os) (hbS:S b.ix=true) (A:AOK P N l a o) {ob:Oper} (hob:l[b.ix]?=some ob) (v:Value):Agr l ob σ (put' σ o v):=by
 obtain ⟨ob',B⟩:=wBW (Z.ao b hb)
 have eo:ob'=ob:=by have:=B.get;rw [hob] at this;exact (nN this).symm
 subst eo
 intro d hd
 obtain ⟨p,hp,rfl⟩:=wCX B (Z.sub b hb _ B.get) d hd
 symm
 refine wDu fun dd hdd e=>?_
 rcases A.dst with ⟨_,h2⟩ | ⟨q,d',h1,h2,h3,_⟩
 ·rw [h2] at hdd;cases hdd
 ·rw [h2] at hdd
  have hdd:=nN hdd
  have eq:q=p:=Pos.nat_inj (by have:=q.nat_pos;have:=p.nat_pos;have:q.nat - 1=p.nat - 1:=h3.symm.trans (hdd.trans e);omega)
  subst eq
  have:=Z.rdS b hb q hp a ha h1
  have hlt:b.ix < l.length:=(nM.1 hob).1
  have:=wCB hdc (hdc _ hlt hbS) this
  rw [hS] at this
  cases this
theorem JS.fixed (HC:wDj (CC P) P tb ex) (HY':wCp (CC P) P exY) (HE:FrX ex) (HY:FrX exY) (Z:ZOK P N l os) {μ0:Mu} {w0:World} {S:Nat->Bool} (J:JS tb ex exY P l os σ0 h0 σf hf μ0 w0 S σ w s (a :: t) σA h σ' μ μS) (hfix:wAv a.kd=true) (hS:S a.ix=false)
  (hdc:∀ k,k < l.length->S k=true->∀ j ∈ prI l k,S j=true) (A:AOK P N l a o) :
  Step1 P l o σ w fun v w'=>∃ σB hB σ'' μB μT,JS tb ex exY P l os σ0 h0 σf hf μ0 w0 (fun k=>k == a.ix || S k) (put' σ o v) w' (s ++ [a]) t σB hB σ'' μB μT:=by
 have ha:a ∈ os:=by rw [J.e];simp
 have hsel:=Z.sel a ha _ A.get
 have hag:∀ q ∈ wAy a,σ (q.nat - 1)=σ' (q.nat - 1):=fun q hq=>J.ag q fun b hb _=>Z.rd s a t J.e q hq b hb
 have hagr:Agr l o σ σ':=fun d hd=>by
  obtain ⟨q,h1,rfl⟩:=wCX A (Z.sub a ha _ A.get) d hd
  exact hag q h1
 have hw:=wFY A J.env
 have main:∀ (v:AV) (cv:Value) (hB:AH) (w':World) (μB:Mu),wAK tb ex exY (s ++ [a]) σ0 h0=some (wDl a.dst σA v,hB)->wAK tb ex exY t (wDl a.dst σA v) hB=some (σf,hf) ->
   Ext μ h.fl.nat w μB w'->Sim (CC P) P μB hB w'->EnvR μB (wDl a.dst σA v) (put' σ' o cv)->hB.fl=h.fl ->
   ∃ σB hB σ'' μB μT,JS tb ex exY P l os σ0 h0 σf hf μ0 w0 (fun k=>k == a.ix || S k) (put' σ o cv) w' (s ++ [a]) t σB hB σ'' μB μT:=by
  intro v cv hB w' μB r1 r2 E' S' hE' hfl
  have hne:∀ b ∈ t,b.ix ≠ a.ix:=fun b hb e=>by
   have:=Z.one
   rw [J.e] at this
   exact (nq.1 (nY.1 this).2.1).1 b hb e.symm
  have hSb:∀ b ∈ t,(b.ix == a.ix || S b.ix)=true->S b.ix=true:=fun b hb h=>by
   have:=hne b hb
   simpa [this] using h
  have hbo:∀ b ∈ t,b ∈ os:=fun b hb=>by rw [J.e];simp [hb]
  have eB:os=(s ++ [a]) ++ t:=by rw [J.e];simp
  have hnm:∀ b ∈ t,∀ s1 t1 σ1 h1,os=s1 ++ b :: t1->wAK tb ex exY s1 σ0 h0=some (σ1,h1)->μB h1.nx=none/\μ h1.nx=none:=fun b hb s1 t1 σ1 h1 e1 hr=>by
   have g1:=wMk HE HY Z eB r1 hb e1 hr
   have g2:=wMk HE HY Z J.e J.hs (b:=b) (by simp [hb]) e1 hr
   exact ⟨S'.nx _ g1,J.sim.nx _ g2⟩
  let μT:Mu:=fun q=>match μB q with | some c=>some c | none=>μS q
  have hT:μB.Le μT:=fun q c hq=>by show (match μB q with | some c=>some c | none=>μS q)=_;rw [hq]
  have hST:μS.Le μT:=fun q c hq=>by
   show (match μB q with | some c=>some c | none=>μS q)=_
   cases hB:μB q with
   | none=>exact hq
   | some c' =>
    rcases J.nm q c hq with h1 | ⟨b,ob,s1,t1,σ1,h1,k1,k2,k3,k4,k5,k6,k7,k8⟩
    ·rw [E'.mono _ _ h1] at hB
     exact hB.symm ▸ rfl
    ·rcases nJ.1 k1 with rfl | k1
     ·rw [hS] at k2;cases k2
     ·have:=(hnm b k1 s1 t1 σ1 h1 k6 k7).1
      rw [<- k8,hB] at this
      cases this
  refine ⟨_,hB,_,μB,μT,eB,r1,r2,fun b hb=>?_,fun b hb hh=>J.free b (by simp [hb]) (hSb b hb hh),?_,S',hfl.trans J.fl,hE',fun q hq=>?_,hT,fun q c hq=>?_,fun b hb hh=>?_⟩
  ·rcases nD.1 hb with hb | hb
   ·simp [J.inS b hb]
   ·rw [nr.1 hb];simp
  ·have:=J.E
   refine this.trans ?_
   rw [<- J.fl]
   exact E'
  ·have old:σ (q.nat - 1)=σ' (q.nat - 1) \/ a.dst=some q:=by
    by_cases hq':a.dst=some q
    ·exact .inr hq'
    ·exact .inl (J.ag q fun b hb h=>by
      rcases nJ.1 hb with rfl | hb
      ·exact hq'
      ·exact hq b hb (by simp [h]))
   rcases A.dst with ⟨h1,h2⟩ | ⟨p,d,h1,h2,h3,_⟩
   ·unfold put'
    rw [h2]
    rcases old with old | old
    ·exact old
    ·rw [h1] at old;cases old
   ·unfold put'
    rw [h2]
    by_cases e:q.nat - 1=d
    ·simp only [e,wBU]
    ·simp only
     rw [wBp _ _ e,wBp _ _ e]
     rcases old with old | old
     ·exact old
     ·rw [h1] at old
      cases old
      exact absurd h3.symm e
  ·have hq:(match μB q with | some c=>some c | none=>μS q)=some c:=hq
   cases hB':μB q with
   | some c' =>
    rw [hB'] at hq
    exact .inl hq
   | none =>
    rw [hB'] at hq
    rcases J.nm q c hq with h1 | ⟨b,ob,s1,t1,σ1,h1,k1,k2,k3,k4,k5,k6,k7,k8⟩
    ·rw [E'.mono _ _ h1] at hB'
     cases hB'
    ·rcases nJ.1 k1 with rfl | k1
     ·rw [hS] at k2;cases k2
     ·exact .inr ⟨b,ob,s1,t1,σ1,h1,k1,by simp [k2],k3,(wAx (wDr Z hdc ha hS (hbo b k1) k2 A k3 cv)).symm.trans k4,k5,k6,k7,k8⟩
  ·have hbS:=hSb b hb hh
   obtain ⟨ob,p,Pd⟩:=J.pd b (by simp [hb]) hbS
   have hA:=wDr (σ:=σ) Z hdc ha hS (hbo b hb) hbS A Pd.get cv
   have hp:put' σ o cv (p.nat - 1)=σ (p.nat - 1):=wDu fun d hd e=>by
    rcases A.dst with ⟨_,h2⟩ | ⟨q,d',h1,h2,h3,_⟩
    ·rw [h2] at hd;cases hd
    ·rw [h2] at hd
     have hd:=nN hd
     have eq:q=p:=Pos.nat_inj (by have:=q.nat_pos;have:=p.nat_pos;have:q.nat - 1=p.nat - 1:=h3.symm.trans (hd.trans e);omega)
     subst eq
     exact Z.wr s a t J.e q h1 b (nQ _ hb) Pd.dst
   have hsb:=Z.sel b (hbo b hb) _ Pd.get
   refine ⟨ob,p,Pd.get,Pd.dst,?_⟩
   rw [hp,<- wAx hA]
   rcases Pd.fact with f | ⟨f,⟨f1,f2⟩ | ⟨f1,f2,w1,w2,f3⟩ | ⟨f1,f2,w1,o1,s1,t1,σ1,h1,f3,f4,f5,f6,f7,f8,f9⟩⟩
   ·exact .inl f
   ·exact .inr ⟨f,.inl ⟨f1,f2.mono E'.mono⟩⟩
   ·exact .inr ⟨f,.inr (.inl ⟨f1,f2.mono hST,w1,w2,(Runs.agr hsb hA).1 f3⟩)⟩
   ·obtain ⟨n1,n2⟩:=hnm b hb s1 t1 σ1 h1 f6 f7
    have nimg:¬ img μ h.fl.nat w1.heap.size:=by
     rintro ⟨q,d,g1,g2,_⟩
     have:=f9 q d (J.le _ _ g1) g2
     rw [this,n2] at g1
     cases g1
    refine .inr ⟨f,.inr (.inr ⟨f1,f2.mono hST,w1,o1,s1,t1,σ1,h1,(Runs.agr hsb hA).1 f3,(E'.keep.block _ (wAF f4) nimg).trans f4,f5,f6,f7,hST _ _ f8,fun q c hq hc=>?_⟩)⟩
    have hq:(match μB q with | some c=>some c | none=>μS q)=some c:=hq
    cases hB':μB q with
    | none=>rw [hB'] at hq;exact f9 q c hq hc
    | some c' =>
     rw [hB'] at hq
     cases hq
     rcases E'.new q c hB' with g | g | g
     ·exact f9 q c (J.le _ _ g) hc
     ·rw [hc] at g;exact absurd g nimg
     ·have:=wAF f4;omega
 obtain ⟨σx,hx,q1,q2⟩:=wHd (s:=[]) (a:=a) (t:=t) (σ0:=σA) (h0:=h) (by rw [List.nil_append];exact J.hr)
 rw [wAV] at q1
 cases q1
 refine Step1.agr hsel (fun d hd=>(hagr d hd).symm) ?_
 rcases q2 with ⟨g1,v,h2,g2,g3⟩ | ⟨g1,g3⟩
 ·refine (wNl HC HY' A (hw.trans g1) g2 J.env J.sim).mono ?_
  rintro cv w' ⟨_,μB,e1,e2,e3,e4⟩
  refine main v cv h2 w' μB ?_ g3 e1 e2 e3 e4
  rw [wBn s [a] _ _ _ _ J.hs,wAX,g1]
  simp only
  rw [g2]
  exact wAV _ _ _ _ _
 ·refine .inr ⟨hw.trans g1,?_⟩
  refine main u undef h w μ ?_ g3 (Ext.refl μ _ w) J.sim (wCC A J.env (wJW μ)) rfl
  rw [wBn s [a] _ _ _ _ J.hs,wAX,g1]
  exact wAV _ _ _ _ _
theorem JS.opnd (Z:ZOK P N l os) {μ0:Mu} {w0:World} {S:Nat->Bool} (J:JS tb ex exY P l os σ0 h0 σf hf μ0 w0 S σ w s t σA h σ' μ μS) (ha:a ∈ os) (hl:a.ix < l.length) (hp:∀ j ∈ prI l a.ix,S j=true)
  (hdc:∀ k,k < l.length->S k=true->∀ j ∈ prI l k,S j=true) {p:Pos} (hr:p ∈ wAy a):Rv μS (evA σf (.t p)) (σ (p.nat - 1))/\(a.kd=1 \/ a.kd=3 \/ 8 <= a.kd->Rv μ (evA σf (.t p)) (σ (p.nat - 1))):=by
 have base:(∀ b ∈ t,b.dst ≠ some p)->Rv μ (evA σf (.t p)) (σ (p.nat - 1)):=fun hn=>by
  rw [wBS t _ _ _ _ J.hr p hn,J.ag p fun b hb _=>hn b hb]
  exact J.env p
 by_cases hw:∃ b ∈ t,b.dst=some p
 ·obtain ⟨b,hb,hd⟩:=hw
  have hbo:b ∈ os:=by rw [J.e];simp [hb]
  have hanc:=Z.rdS a ha p hr b hbo hd
  have hS:=wCB hdc hp hanc
  obtain ⟨ob,p',Pd⟩:=J.pd b hb hS
  have ep:p'=p:=by have:=Pd.dst;rw [hd] at this;exact (nN this).symm
  subst ep
  rcases Pd.fact with ⟨_,f1,f2⟩ | ⟨_,⟨_,f1⟩ | ⟨f0,f1,_⟩ | ⟨f0,f1,_⟩⟩
  ·rw [f1,f2]
   exact ⟨wJW _,fun _=>wJW _⟩
  ·exact ⟨f1.mono J.le,fun _=>f1⟩
  ·exact ⟨f1,fun hk=>absurd f0 (Z.cl a ha hk p' hr b hbo hd).2⟩
  ·exact ⟨f1,fun hk=>absurd f0 (Z.cl a ha hk p' hr b hbo hd).1⟩
 ·have:=base fun b hb hd=>hw ⟨b,hb,hd⟩
  exact ⟨this.mono J.le,fun _=>this⟩
end
end Go.KX
namespace Go.KX
open Go.RowKit Go.KL
section
variable {tb:Tr AF} {ex exY:Run} {P:Program} {N:Nat} {l:List Oper} {os s t:List AO} {a:AO} {σ0 σA σf:Tr AV} {h0 h h1 h' hf:AH} {μ μS:Mu} {σ σ':Env} {w:World} {o:Oper} {v:AV}
theorem wLD {a:AOp} {op:Op} (hk:kdA a=1) (hc:wEW P a op=true) (hE:EnvR μ σA σ) (hm:∀ b c,μ b=some c->h.m.get b=h1.m.get b) (hr:opY a tb ex exY σA h1=some (v,h')):opY a tb ex exY σA h=some (v,h):=by
 have cel:∀ b c,μ b=some c->wBd h b=wBd h1 b:=fun b c hb=>by unfold wBd;rw [hm b c hb]
 cases a <;> first | (simp [kdA] at hk;done) | skip
 case ld x =>
  have hr:wKh x σA h1=some (v,h'):=hr
  show wKh x σA h=some (v,h)
  have hc:wNa P x op=true:=hc
  unfold wNa at hc
  split at hc
  ·simp only [nE] at hc
   have g:=wAC hc.2 hE
   unfold wKh at hr ⊢
   split at hr
   ·rename_i b off hb
    rw [hb] at g
    obtain ⟨c,g1,_⟩:=g
    simp only [hb,cel b c g1]
    split at hr
    ·exact wKE hr h
    ·cases hr
   ·cases hr
  ·cases hc
 case ldA n x =>
  have hr:wEn n x σA h1=some (v,h'):=hr
  show wEn n x σA h=some (v,h)
  have hc:wJl P n x op=true:=hc
  unfold wJl at hc
  split at hc
  ·simp only [nE] at hc
   have g:=wAC hc.2 hE
   unfold wEn at hr ⊢
   split at hr
   ·rename_i b off hb
    rw [hb] at g
    obtain ⟨c,g1,_⟩:=g
    simp only [hb,cel b c g1]
    split at hr
    ·exact wKE hr h
    ·cases hr
   ·cases hr
  ·cases hc
 case lk two k ok z x y =>
  have hr:wKi two k ok z x y σA h1=some (v,h'):=hr
  show wKi two k ok z x y σA h=some (v,h)
  have hc:wNe P two k ok z x y op=true:=hc
  unfold wNe at hc
  split at hc
  ·simp only [nE] at hc
   have g:=wAC hc.2.2.1 hE
   unfold wKi at hr ⊢
   split at hr
   ·rename_i b hb
    rw [hb] at g
    obtain ⟨c,g1,_⟩:=g
    simp only [hb,hm b c g1]
    repeat' (split at hr)
    all_goals first | (cases hr;done) | (cases hr;rfl)
   ·cases hr
  ·cases hc
 case lenM x =>
  have hr:wCc x σA h1=some (v,h'):=hr
  show wCc x σA h=some (v,h)
  have hc:wGD P x op=true:=hc
  unfold wGD at hc
  split at hc
  ·split at hc
   ·simp only [nE] at hc
    obtain ⟨_,hc⟩:=hc
    split at hc
    ·simp only [nE] at hc
     have g:=wAC hc.2 hE
     unfold wCc at hr ⊢
     split at hr
     ·rename_i hb
      cases hr
      simp_all
     ·rename_i b hb
      rw [hb] at g
      obtain ⟨c,g1,_⟩:=g
      simp only [hb,hm b c g1]
      repeat' (split at hr)
      all_goals first | (cases hr;done) | (cases hr;rfl)
     ·cases hr
    ·cases hc
   ·cases hc
  ·cases hc
theorem wFc (HE:FrX ex) (HY:FrX exY):∀ (r:List AO) (σ1:Tr AV) (h1:AH) (σ2:Tr AV) (h2:AH),wAK tb ex exY r σ1 h1=some (σ2,h2)->(∀ b ∈ r,wEX P N l b=true) ->
  (∀ b ∈ r,b.kd=2 \/ (b.kd=1 \/ b.kd=3 \/ (b.kd=6/\kdA b.op=3) \/ (b.kd=4/\wIc b.op=true) \/ (8 <= b.kd/\kdA b.op=1)))->h1.nx.nat <= h2.nx.nat/\∀ p:Pos,p.nat < h1.nx.nat->h2.m.get p=h1.m.get p
 | [],σ1,h1,σ2,h2,hr,_,_=>by
  rw [wAV] at hr
  cases hr
  exact ⟨nU _,fun _ _=>rfl⟩
 | b :: r,σ1,h1,σ2,h2,hr,hc,hk=>by
  rw [wAX] at hr
  cases hw:wBL σ1 b.grd with
  | false =>
   rw [hw] at hr
   exact wFc HE HY r _ _ _ _ hr (fun c hcc=>hc c (by simp [hcc])) (fun c hcc=>hk c (by simp [hcc]))
  | true =>
   rw [hw] at hr
   simp only at hr
   cases hq:opK b.kd b.op tb ex exY σ1 h1 with
   | none=>rw [hq] at hr;cases hr
   | some q =>
    rw [hq] at hr
    obtain ⟨v,h3⟩:=q
    obtain ⟨g1,g2⟩:=wFc HE HY r _ _ _ _ hr (fun c hcc=>hc c (by simp [hcc])) (fun c hcc=>hk c (by simp [hcc]))
    obtain ⟨o,A⟩:=wBW (hc b (by simp))
    have one:h1.nx.nat <= h3.nx.nat/\∀ p:Pos,p.nat < h1.nx.nat->h3.m.get p=h1.m.get p:=by
     have same:h3=h1->h1.nx.nat <= h3.nx.nat/\∀ p:Pos,p.nat < h1.nx.nat->h3.m.get p=h1.m.get p:=fun e=>by subst e;exact ⟨nU _,fun _ _=>rfl⟩
     rcases hk b (by simp) with k | k | k | ⟨k,k'⟩ | ⟨k,k'⟩ | ⟨k,k'⟩
     ·exact ⟨(wLm HE HY _ _ hq).nx,wNp HE HY b.op (by rw [k] at hq;exact hq)⟩
     ·rw [k] at hq
      exact same (wFC (C:=CC P) (A.k1 k) A.op _ _ _ _ hq).1
     ·rw [k] at hq
      exact same (wFB (A.k3 k) A.op _ _ _ _ hq).1
     ·rw [k] at hq
      exact same (wFB k' A.op _ _ _ _ hq).1
     ·rw [k] at hq
      obtain ⟨B,vf,e1,_⟩:=wHc (C:=CC P) k' A.op _ _ _ _ hq
      subst e1
      refine ⟨(Fr.push h1 B).nx,fun p hp=>?_⟩
      show (h1.m.set h1.nx B).get p=_
      rw [Tr.get_set,if_neg (fun e=>by subst e;omega)]
     ·exact same (wFC (C:=CC P) (.inl k') A.op _ _ _ _ (wKH (by omega) hq)).1
    exact ⟨nt one.1 g1,fun p hp=>(g2 p (Nat.lt_of_lt_of_le hp one.1)).trans (one.2 p hp)⟩
theorem JS.full {μ0:Mu} {w0:World} {S:Nat->Bool} (J:JS tb ex exY P l os σ0 h0 σf hf μ0 w0 S σ w s t σA h σ' μ μS):wAK tb ex exY os σ0 h0=some (σf,hf):=by
 rw [J.e,wBn s t _ _ _ _ J.hs]
 exact J.hr
theorem JS.frm (Z:ZOK P N l os) {μ0:Mu} {w0:World} {S:Nat->Bool} (J:JS tb ex exY P l os σ0 h0 σf hf μ0 w0 S σ w s t σA h σ' μ μS) (ha:a ∈ os) (hl:a.ix < l.length) (hp:∀ j ∈ prI l a.ix,S j=true)
  (hdc:∀ k,k < l.length->S k=true->∀ j ∈ prI l k,S j=true) (A:AOK P N l a o) {s1 t1:List AO} {σ1:Tr AV} (e1:os=s1 ++ a :: t1) (hr1:wAK tb ex exY s1 σ0 h0=some (σ1,h1)) :
  wanted l σ o=wBL σ1 a.grd/\∀ p ∈ wAy a,evA σf (.t p)=evA σ1 (.t p):=by
 have hf:=J.full
 have hrd:∀ p ∈ wAy a,evA σf (.t p)=evA σ1 (.t p):=fun p hp=>by
  rw [e1,wBn s1 _ _ _ _ _ hr1] at hf
  exact wNr Z e1 hf hp
 refine ⟨?_,hrd⟩
 have hE:EnvR μS (rst σf (wAy a)) (rsl σ (wAy a)):=wEc fun p hpr=>(J.opnd Z ha hl hp hdc hpr).1
 have hw:=wFY A hE
 have hag:Agr l o (rsl σ (wAy a)) σ:=fun d hd=>by
  obtain ⟨p,h1,h2⟩:=wCX A (Z.sub a ha _ A.get) d hd
  unfold rsl
  rw [if_pos ⟨p,h1,h2⟩]
 rw [<- wAx hag,hw]
 cases hg:a.grd with
 | none=>rfl
 | some q =>
  obtain ⟨p,b⟩:=q
  show isB b (evA _ (.t p))=isB b (evA _ (.t p))
  have hpr:p ∈ wAy a:=nQ _ (by rw [hg];simp)
  rw [wEb,if_pos hpr,hrd p hpr]
theorem wNt (HE:FrX ex) (HY:FrX exY) (Z:ZOK P N l os) {a b:AO} {s1 t1 s2 t2:List AO} {σ1 σ2:Tr AV} {h1 h2:AH} (e1:os=s1 ++ a :: t1) (e2:os=s2 ++ b :: t2) (r1:wAK tb ex exY s1 σ0 h0=some (σ1,h1)) (r2:wAK tb ex exY s2 σ0 h0=some (σ2,h2))
  (w1:wBL σ1 a.grd=true) (ka:a.kd=4) (la:wIc a.op=true) (hin:a ∈ s2):h1.nx.nat < h2.nx.nat:=by
 obtain ⟨o,A⟩:=wBW (Z.ao a (by rw [e1];simp))
 obtain ⟨r,r',rfl⟩:=nI hin
 have es:s1=r:=(wBT (e1 ▸ Z.one) (e1.symm.trans (e2.trans (by rw [nO,nW])))).1
 subst es
 rw [wBn s1 _ _ _ _ _ r1,wAX,w1] at r2
 simp only at r2
 cases hq:opK a.kd a.op tb ex exY σ1 h1 with
 | none=>rw [hq] at r2;cases r2
 | some q =>
  rw [hq] at r2
  obtain ⟨v,h3⟩:=q
  rw [ka] at hq
  obtain ⟨B,vf,q1,_⟩:=wHc (C:=CC P) la A.op _ _ _ _ hq
  subst q1
  have:=(wFF HE HY _ _ _ _ _ r2).nx
  have h3:(h1.push B).nx.nat=h1.nx.nat + 1:=Pos.nat_succ _
  simp only at this
  omega
theorem nm_ne (HE:FrX ex) (HY:FrX exY) (Z:ZOK P N l os) {a b:AO} {s1 t1 s2 t2:List AO} {σ1 σ2:Tr AV} {h1 h2:AH} (e1:os=s1 ++ a :: t1) (e2:os=s2 ++ b :: t2) (r1:wAK tb ex exY s1 σ0 h0=some (σ1,h1)) (r2:wAK tb ex exY s2 σ0 h0=some (σ2,h2))
  (w1:wBL σ1 a.grd=true) (w2:wBL σ2 b.grd=true) (ka:a.kd=4) (la:wIc a.op=true) (kb:b.kd=4) (lb:wIc b.op=true) (hne:a ≠ b):h1.nx ≠ h2.nx:=by
 have ha:a ∈ s2 ++ b :: t2:=by rw [<- e2,e1];simp
 rcases nD.1 ha with h | h
 ·intro e
  have:=wNt HE HY Z e1 e2 r1 r2 w1 ka la h
  rw [e] at this
  exact absurd this (np _)
 ·rcases nJ.1 h with h | h
  ·exact absurd h hne
  ·obtain ⟨r,r',rfl⟩:=nI h
   have es:s1=s2 ++ b :: r:=(wBT (e1 ▸ Z.one) (e1.symm.trans (e2.trans (by rw [nO,nW])))).1
   intro e
   have:=wNt HE HY Z e2 e1 r2 r1 w2 kb lb (by rw [es];simp)
   rw [e] at this
   exact absurd this (np _)
end
end Go.KX
namespace Go.KX
open Go.RowKit Go.KL
section
variable {tb:Tr AF} {ex exY:Run} {P:Program} {N:Nat} {l:List Oper} {os s t:List AO} {a:AO} {σ0 σA σf:Tr AV} {h0 h h1 h' hf:AH} {μ μS:Mu} {σ σ':Env} {w:World} {o:Oper} {v:AV}
theorem wKJ (Z:ZOK P N l os) {a b:AO} (ha:a ∈ os) (hb:b ∈ os) (e:b.ix=a.ix):b=a:=by
 obtain ⟨s,t,hs⟩:=nI ha
 have one:=Z.one
 rw [hs] at hb one
 rcases nD.1 hb with h | h
 ·exact absurd e ((nY.1 one).2.2 b h a (by simp))
 ·rcases nJ.1 h with h | h
  ·exact h
  ·exact absurd e.symm ((nq.1 (nY.1 one).2.1).1 b h)
theorem wDs (A:AOK P N l a o) {q:Pos} (hn:a.dst ≠ some q) (cv:Value):put' σ o cv (q.nat - 1)=σ (q.nat - 1):=by
 refine wDu fun d hd e=>?_
 rcases A.dst with ⟨_,h2⟩ | ⟨p,d',h1,h2,h3,_⟩
 ·rw [h2] at hd;cases hd
 ·rw [h2] at hd
  have hd:=nN hd
  have:p=q:=Pos.nat_inj (by have:=q.nat_pos;have:=p.nat_pos;have:p.nat - 1=q.nat - 1:=h3.symm.trans (hd.trans e);omega)
  subst this
  exact hn h1
theorem JS.add (Z:ZOK P N l os) {μ0:Mu} {w0:World} {S:Nat->Bool} (J:JS tb ex exY P l os σ0 h0 σf hf μ0 w0 S σ w s t σA h σ' μ μS) (ha:a ∈ t) (hS:S a.ix=false) (hfree:wAv a.kd=false)
  (hdc:∀ k,k < l.length->S k=true->∀ j ∈ prI l k,S j=true) (A:AOK P N l a o) {cv:Value} {w':World} {μT:Mu} (K:Keep w w' Non) (hle:μS.Le μT)
  (hnew:∀ q c,μT q=some c->μS q=some c \/ (c.1=w.heap.size/\wanted l σ o=true/\a.kd=4/\∃ s1 t1 σ1 h1,os=s1 ++ a :: t1/\wAK tb ex exY s1 σ0 h0=some (σ1,h1)/\q=h1.nx))
  (hpa:∃ p,Pend tb ex exY P l os σ0 h0 σf w0 μ μT (put' σ o cv) w' a o p) :
  JS tb ex exY P l os σ0 h0 σf hf μ0 w0 (fun k=>k == a.ix || S k) (put' σ o cv) w' s t σA h σ' μ μT:=by
 have hao:a ∈ os:=by rw [J.e];simp [ha]
 have hbo:∀ b ∈ t,b ∈ os:=fun b hb=>by rw [J.e];simp [hb]
 obtain ⟨sa,ta,ea⟩:=nI hao
 have hself:Agr l o σ (put' σ o cv):=by
  intro d hd
  obtain ⟨p,hp,rfl⟩:=wCX A (Z.sub a hao _ A.get) d hd
  exact (wDs A (Z.rd sa a ta ea p hp a (by simp)) cv).symm
 refine ⟨J.e,J.hs,J.hr,fun b hb=>by simp [J.inS b hb],fun b hb hh=>?_,⟨J.E.mono,J.E.new,J.E.keep.step K fun _ _ hn=>hn.elim⟩,J.sim.keep K,J.fl,J.env,fun q hq=>?_,J.le.trans hle,fun q c hq=>?_,fun b hb hh=>?_⟩
 ·by_cases e:b.ix=a.ix
  ·rw [wKJ Z hao (hbo b hb) e];exact hfree
  ·exact J.free b hb (by simpa [e] using hh)
 ·rw [wDs A (hq a ha (by simp))]
  exact J.ag q fun b hb hs=>hq b hb (by simp [hs])
 ·rcases hnew q c hq with h1 | ⟨_,h2,h3,s1,t1,σ1,h1,e1,e2,e3⟩
  ·rcases J.nm q c h1 with g | ⟨b,ob,s1,t1,σ1,h1,k1,k2,k3,k4,k5,k6,k7,k8⟩
   ·exact .inl g
   ·exact .inr ⟨b,ob,s1,t1,σ1,h1,k1,by simp [k2],k3,(wAx (wDr Z hdc hao hS (hbo b k1) k2 A k3 cv)).symm.trans k4,k5,k6,k7,k8⟩
  ·exact .inr ⟨a,o,s1,t1,σ1,h1,ha,by simp,A.get,(wAx hself).symm.trans h2,h3,e1,e2,e3⟩
 ·by_cases e:b.ix=a.ix
  ·have:=wKJ Z hao (hbo b hb) e
   subst this
   exact ⟨o,hpa⟩
  ·have hbS:S b.ix=true:=by simpa [e] using hh
   obtain ⟨ob,p,Pd⟩:=J.pd b hb hbS
   have hA:=wDr (σ:=σ) Z hdc hao hS (hbo b hb) hbS A Pd.get cv
   have hp:put' σ o cv (p.nat - 1)=σ (p.nat - 1):=by
    refine wDs A (fun hd=>?_) cv
    have hb':=hbo b hb
    rw [ea] at hb'
    have hb'':b ∈ sa ++ ta:=by
     rcases nD.1 hb' with h | h
     ·exact no _ h
     ·rcases nJ.1 h with h | h
      ·exact absurd (by rw [h]) e
      ·exact nQ _ h
    exact Z.wr sa a ta ea p hd b hb'' Pd.dst
   have hsb:=Z.sel b (hbo b hb) _ Pd.get
   refine ⟨ob,p,Pd.get,Pd.dst,?_⟩
   rw [hp,<- wAx hA]
   rcases Pd.fact with f | ⟨f,⟨f1,f2⟩ | ⟨f1,f2,w1,w2,f3⟩ | ⟨f1,f2,w1,o1,s1,t1,σ1,h1,f3,f4,f5,f6,f7,f8,f9⟩⟩
   ·exact .inl f
   ·exact .inr ⟨f,.inl ⟨f1,f2⟩⟩
   ·exact .inr ⟨f,.inr (.inl ⟨f1,f2.mono hle,w1,w2,(Runs.agr hsb hA).1 f3⟩)⟩
   ·refine .inr ⟨f,.inr (.inr ⟨f1,f2.mono hle,w1,o1,s1,t1,σ1,h1,(Runs.agr hsb hA).1 f3,(K.block _ (wAF f4) id).trans f4,f5,f6,f7,hle _ _ f8,fun q c hq hc=>?_⟩)⟩
    rcases hnew q c hq with h1 | ⟨h1,_⟩
    ·exact f9 q c h1 hc
    ·have:=wAF f4
     omega
theorem wFG:∀ (r:List AO),(∀ b ∈ r,b.kd ≠ 0) \/ ∃ x b y,r=x ++ b :: y/\b.kd=0/\∀ c ∈ x,c.kd ≠ 0
 | []=>.inl fun b hb=>by simp at hb
 | a :: r=>by
  by_cases h0:a.kd=0
  ·exact .inr ⟨[],a,r,rfl,h0,fun c hc=>by simp at hc⟩
  ·rcases wFG r with h | ⟨x,b,y,h1,h2,h3⟩
   ·refine .inl fun b hb=>?_
    rcases nJ.1 hb with rfl | hb
    ·exact h0
    ·exact h b hb
   ·refine .inr ⟨a :: x,b,y,by rw [h1];rfl,h2,fun c hc=>?_⟩
    rcases nJ.1 hc with rfl | hc
    ·exact h0
    ·exact h3 c hc
theorem JS.freeOp {σg:Tr AV} (HE:FrX ex) (HY:FrX exY) (Z:ZOK P N l os) (HL:LCK tb ex exY os σ0 h0 σg) (Hg:∀ a ∈ os,8 <= a.kd->∀ p,p ∈ wAy a \/ a.dst=some p->evA σf (.t p)=evA σg (.t p)) {μ0:Mu} {w0:World} {S:Nat->Bool} (J:JS tb ex exY P l os σ0 h0 σf hf μ0 w0 S σ w s t σA h σ' μ μS) (ha:a ∈ t) (hS:S a.ix=false) (hfree:wAv a.kd=false)
  (hp:∀ j ∈ prI l a.ix,S j=true) (hdc:∀ k,k < l.length->S k=true->∀ j ∈ prI l k,S j=true) (A:AOK P N l a o) :
  Step1 P l o σ w fun cv w'=>∃ μT,JS tb ex exY P l os σ0 h0 σf hf μ0 w0 (fun k=>k == a.ix || S k) (put' σ o cv) w' s t σA h σ' μ μT:=by
 have hao:a ∈ os:=by rw [J.e];simp [ha]
 have hl:a.ix < l.length:=(nM.1 A.get).1
 obtain ⟨r,r',et⟩:=nI ha
 have e1:os=(s ++ r) ++ a :: r':=by rw [J.e,et,nO]
 have hsel:=Z.sel a hao _ A.get
 have hsub:=Z.sub a hao _ A.get
 have hfull:=J.full
 rw [e1] at hfull
 obtain ⟨σ1,h1,r1,r2⟩:=wHd hfull
 obtain ⟨hw,hrd⟩:=J.frm Z hao hl hp hdc A e1 r1
 have hrr:wAK tb ex exY r σA h=some (σ1,h1):=by rw [<- wBn s r _ _ _ _ J.hs];exact r1
 have hself:∀ cv,Agr l o σ (put' σ o cv):=by
  intro cv d hd
  obtain ⟨p,hp,rfl⟩:=wCX A hsub d hd
  exact (wDs A (Z.rd _ a _ e1 p hp a (by simp)) cv).symm
 obtain ⟨hdn,hkd⟩:a.dst ≠ none/\(a.kd=1 \/ a.kd=3 \/ (a.kd=6/\kdA a.op=3) \/ (a.kd=4/\wIc a.op=true) \/ (8 <= a.kd/\kdA a.op=1)):=by
  rcases Z.kd a hao with h | h
  ·rw [hfree] at h;cases h
  ·exact h
 obtain ⟨p,d,d1,d2,d3,_⟩:∃ p d,a.dst=some p/\o.dst=some d/\d=p.nat - 1/\d < N:=by
  rcases A.dst with ⟨h1,_⟩ | h
  ·exact absurd h1 hdn
  ·exact h
 have eput:∀ cv,put' σ o cv (p.nat - 1)=cv:=fun cv=>by unfold put';rw [d2,d3];exact wBU _ _ _
 have hslot:∀ q ∈ wBI (wAg a.op),q ∈ wAy a:=fun q hq=>no _ hq
 rcases r2 with ⟨g1,v,h2,g2,g3⟩ | ⟨g1,g3⟩
 ·have hv:evA σf (.t p)=v:=wGw Z e1 g3 d1
  have hw':wanted l σ o=true:=hw.trans g1
  have hwn:∀ cv,wanted l (put' σ o cv) o=true:=fun cv=>(wAx (hself cv)).symm.trans hw'
  have hvS:∀ q ∈ wBI (wAg a.op),Rv μS (evA σ1 (.t q)) (σ (q.nat - 1)):=fun q hq=>by
   rw [<- hrd q (hslot q hq)]
   exact (J.opnd Z hao hl hp hdc (hslot q hq)).1
  have clean:(a.kd=1 \/ a.kd=3 \/ 8 <= a.kd)->(∃ cv,Rv μ v cv/\Runs P σ w o cv w)->Step1 P l o σ w fun cv w'=>∃ μT,JS tb ex exY P l os σ0 h0 σf hf μ0 w0 (fun k=>k == a.ix || S k) (put' σ o cv) w' s t σA h σ' μ μT:=by
   rintro hk ⟨cv,c1,c2⟩
   refine .inl ⟨hw',.inr (.inl ⟨cv,w,c2,μS,J.add Z ha hS hfree hdc A (Keep.refl w _) (Mu.Le.refl _) (fun q c hq=>.inl hq) ⟨p,A.get,d1,.inr ⟨hwn cv,.inl ⟨hk,?_⟩⟩⟩⟩)⟩
   rw [hv,eput]
   exact c1
  have hvC:(a.kd=1 \/ a.kd=3 \/ 8 <= a.kd)->∀ q ∈ wBI (wAg a.op),Rv μ (evA σ1 (.t q)) (σ (q.nat - 1)):=fun hk q hq=>by
   rw [<- hrd q (hslot q hq)]
   exact (J.opnd Z hao hl hp hdc (hslot q hq)).2 hk
  have loadC:(a.kd=1 \/ a.kd=3 \/ 8 <= a.kd)->kdA a.op=1->∀ (x:List AO),(∀ b ∈ x,b ∈ t)->∀ {σ2:Tr AV} {h3 h4:AH} {σ3:Tr AV},wAK tb ex exY x σA h=some (σ2,h3)->opY a.op tb ex exY σ3 h3=some (v,h4)->(∀ b ∈ x,b.kd=0->False)->(∀ q ∈ wAy a,evA σf (.t q)=evA σ3 (.t q))->∃ cv,Rv μ v cv/\Runs P σ w o cv w:=by
   intro hk k x hx σ2 h3 h4 σ3 hrx gY hx0 hrd3
   have hv3:∀ q ∈ wBI (wAg a.op),Rv μ (evA σ3 (.t q)) (σ (q.nat - 1)):=fun q hq=>by
    rw [<- hrd3 q (hslot q hq)]
    exact (J.opnd Z hao hl hp hdc (hslot q hq)).2 hk
   have hrs:=wHb gY
   have henv:=wEc hv3
   obtain ⟨_,hold⟩:=wFc HE HY x _ _ _ _ hrx (fun b hb=>Z.ao b (by rw [J.e];simp [hx b hb])) (fun b hb=>by
    rcases Z.kd b (by rw [J.e];simp [hx b hb]) with h | h
    ·unfold wAv at h
     simp only [Bool.or_eq_true] at h
     rcases h with h | h
     ·exact absurd (nK h) (hx0 b hb)
     ·exact .inl (nK h)
    ·exact .inr h.2)
   have hm:∀ b c,μ b=some c->h.m.get b=h3.m.get b:=fun b c hb=>by
    refine (hold b ?_).symm
    rcases Nat.lt_or_ge b.nat h.nx.nat with hlt | hge
    ·exact hlt
    ·rw [J.sim.nx b hge] at hb;cases hb
   have hld:=wLD k A.op henv hm hrs
   obtain ⟨cv,c1,c2⟩:=wKG (C:=CC P) hsel hsub (.inl k) A.op hld J.sim (fun q hq=>by rw [wEb,if_pos hq];exact hv3 q hq)
   exact ⟨cv,c1,c2⟩
  rcases hkd with hk | hk | ⟨hk,hk2⟩ | ⟨hk,hk2⟩ | ⟨hk,hk2⟩
  ·have gY:opY a.op tb ex exY σ1 h1=some (v,h2):=by rw [hk] at g2;exact g2
   refine clean (.inl hk) ?_
   rcases A.k1 hk with k | k
   ·exact loadC (.inl hk) k r (fun b hb=>by rw [et];simp [hb]) hrr gY (fun b hb h0=>by
     have:=wCB hdc hp (Z.ld _ a _ e1 hk b (by simp [hb]) h0)
     have:=J.free b (by rw [et];simp [hb]) this
     rw [h0] at this
     cases this) hrd
   ·obtain ⟨cv,c1,c2⟩:=wEd hsel hsub k A.op gY (hvC (.inl hk))
    exact ⟨cv,c1,c2 w⟩
  ·have gY:opY a.op tb ex exY σ1 h1=some (v,h2):=by rw [hk] at g2;exact g2
   obtain ⟨cv,c1,c2⟩:=wEd hsel hsub (A.k3 hk) A.op gY (hvC (.inr (.inl hk)))
   exact clean (.inr (.inl hk)) ⟨cv,c1,c2 w⟩
  ·have gY:opY a.op tb ex exY σ1 h1=some (v,h2):=by rw [hk] at g2;exact g2
   obtain ⟨cv,c1,c2⟩:=wEd hsel hsub hk2 A.op gY hvS
   refine .inl ⟨hw',.inr (.inl ⟨cv,w,c2 w,μS,J.add Z ha hS hfree hdc A (Keep.refl w _) (Mu.Le.refl _) (fun q c hq=>.inl hq) ⟨p,A.get,d1,.inr ⟨hwn cv,.inr (.inl ⟨hk,?_,w,w,?_⟩)⟩⟩⟩)⟩
   ·rw [hv,eput]
    exact c1
   ·rw [eput]
    exact (Runs.agr hsel (hself cv)).1 (c2 w)
  ·have gY:opY a.op tb ex exY σ1 h1=some (v,h2):=by rw [hk] at g2;exact g2
   obtain ⟨B,vf,ob,val,_,ev',_,c1,c2,c3⟩:=wIF (C:=CC P) hsel hsub hk2 A.op gY hvS
   have hno:μS h1.nx=none:=by
    cases hq:μS h1.nx with
    | none=>rfl
    | some c =>
     rcases J.nm _ c hq with g | ⟨b,ob',s2,t2,σ2,h3,k1,k2,k3,k4,k5,k6,k7,k8⟩
     ·have:=wMk HE HY Z J.e J.hs ha e1 r1
      rw [J.sim.nx _ this] at g
      cases g
     ·have hbo:b ∈ os:=by rw [J.e];simp [k1]
      have hne:a ≠ b:=fun e=>by subst e;rw [hS] at k2;cases k2
      obtain ⟨ob2,B2⟩:=wBW (Z.ao b hbo)
      have hb2:wIc b.op=true:=by
       rcases Z.kd b hbo with hh | ⟨_,hh | hh | hh | hh | hh⟩
       ·rw [k5] at hh;exact absurd hh (by decide)
       ·omega
       ·omega
       ·omega
       ·exact hh.2
       ·omega
      have hwb:wBL σ2 b.grd=true:=by
       have hlb:b.ix < l.length:=(nM.1 k3).1
       have eo:ob2=ob':=by have:=B2.get;rw [k3] at this;exact (nN this).symm
       subst eo
       have:=(J.frm Z hbo hlb (hdc _ hlb k2) hdc B2 k6 k7).1
       rw [<- this]
       exact k4
      exact absurd k8 (nm_ne HE HY Z e1 k6 r1 k7 g1 hwb hk hk2 k5 hb2 hne)
   have hadd:=Mu.add_le (c:=(⟨w.heap.size,0,g0⟩:Cl)) hno
   have hsz:∀ q c,μS q=some c->c.1 < w.heap.size:=fun q c hq=>by
    rcases J.nm q c hq with g | ⟨b,ob',s2,t2,σ2,h3,k1,k2,k3,k4,k5,k6,k7,k8⟩
    ·exact J.sim.lt q c g
    ·obtain ⟨ob2,p2,Pd⟩:=J.pd b k1 k2
     have eo:ob2=ob':=by have:=Pd.get;rw [k3] at this;exact (nN this).symm
     subst eo
     rcases Pd.fact with ⟨f,_⟩ | ⟨_,⟨f,_⟩ | ⟨f,_⟩ | ⟨_,_,w1,o1,s3,t3,σ3,h4,_,f4,_,f6,f7,f8,_⟩⟩
     ·rw [k4] at f;cases f
     ·omega
     ·omega
     ·have es:s3=s2:=(wBT (f6 ▸ Z.one) (f6.symm.trans k6)).1
      subst es
      rw [k7] at f7
      cases f7
      subst k8
      rw [hq] at f8
      cases f8
      exact wAF f4
   refine .inl ⟨hw',.inr (.inl ⟨val w.heap.size,w.alloc ob,c1 w,μS.add h1.nx ⟨w.heap.size,0,g0⟩,J.add Z ha hS hfree hdc A (wAb w ob) hadd (fun q c hq=>?_) ⟨p,A.get,d1,.inr ⟨hwn _,.inr (.inr ⟨hk,?_,w,ob,s ++ r,r',σ1,h1,?_,heap_alloc_new w ob,J.E.keep.size,e1,r1,Mu.add_same _ _ _,fun q c hq hc=>?_⟩)⟩⟩⟩)⟩
   ·unfold Mu.add at hq
    split at hq
    ·rename_i eq
     cases hq
     exact .inr ⟨rfl,hw',hk,s ++ r,r',σ1,h1,e1,r1,eq⟩
    ·exact .inl hq
   ·rw [hv,eput,ev']
    exact c3 _ _ _ (Mu.add_same _ _ _)
   ·rw [eput]
    exact (Runs.agr hsel (hself _)).1 (c1 w)
   ·unfold Mu.add at hq
    split at hq
    ·rename_i eq
     exact eq
    ·have:=hsz q c hq
     omega
  ·have gY:opY a.op tb ex exY σ1 h1=some (v,h2):=wKH (by omega) g2
   refine clean (.inr (.inr hk)) ?_
   rcases wFG r with hz | ⟨x,b,y,er,hb0,hx0⟩
   ·exact loadC (.inr (.inr hk)) hk2 r (fun b hb=>by rw [et];simp [hb]) hrr gY (fun b hb h0=>hz b hb h0) hrd
   ·have e2:os=(s ++ x) ++ b :: (y ++ a :: r'):=by rw [J.e,et,er];simp
    have hfull2:=J.full
    rw [e2] at hfull2
    obtain ⟨σ2,h3,r3,_⟩:=wHd hfull2
    have hbt:b ∈ t:=by rw [et,er];simp
    have hanc:wKk y + 8 < a.kd:=by
     rcases Z.ld8 _ a _ e1 hk (s ++ x) b y (by rw [er];simp) hb0 with g | g
     ·have:=J.free b hbt (wCB hdc hp g)
      rw [hb0] at this
      cases this
     ·exact g
    have hlk:=HL _ b _ e2 hb0 _ _ r3
    have hsame:=wGs y a r' 0 hlk hfree (by omega)
    have hgf:wBL σg a.grd=true:=by
     rw [<- g1]
     cases hg:a.grd with
     | none=>rfl
     | some q =>
      obtain ⟨q,c⟩:=q
      show isB c (evA _ (.t q))=isB c (evA _ (.t q))
      have hqr:q ∈ wAy a:=nQ _ (by rw [hg];simp)
      rw [<- Hg a hao hk q (.inl hqr),hrd q hqr]
    unfold wEy at hsame
    rw [d1] at hsame
    simp only [hgf] at hsame
    split at hsame
    ·rename_i v' h5 hq
     have hvv:=wKD hsame
     rw [<- Hg a hao hk p (.inr d1),hv] at hvv
     subst hvv
     have hrx:wAK tb ex exY x σA h=some (σ2,h3):=by rw [<- wBn s x _ _ _ _ J.hs];exact r3
     exact loadC (.inr (.inr hk)) hk2 x (fun b hb=>by rw [et,er];simp [hb]) hrx hq (fun b hb h0=>hx0 b hb h0) (fun q hq=>Hg a hao hk q (.inl hq))
    ·cases hsame
 ·refine .inr ⟨hw.trans g1,μS,J.add Z ha hS hfree hdc A (Keep.refl w _) (Mu.Le.refl _) (fun q c hq=>.inl hq) ⟨p,A.get,d1,.inl ⟨(wAx (hself _)).symm.trans (hw.trans g1),eput _,?_⟩⟩⟩
  exact wGw Z e1 (v:=u) g3 d1
theorem JS.catch (Z:ZOK P N l os) {μ0:Mu} {w0:World} {S:Nat->Bool}:∀ (r:List AO) {s t:List AO} {σA:Tr AV} {h:AH} {σ':Env} {μ:Mu},JS tb ex exY P l os σ0 h0 σf hf μ0 w0 S σ w s (r ++ t) σA h σ' μ μS->(∀ a ∈ r,S a.ix=true) ->
  ∃ σB hB σ'' μB,JS tb ex exY P l os σ0 h0 σf hf μ0 w0 S σ w (s ++ r) t σB hB σ'' μB μS
 | [],s,t,σA,h,σ',μ,J,_=>⟨σA,h,σ',μ,by rw [nl];exact J⟩
 | a :: r,s,t,σA,h,σ',μ,J,hS=>by
  obtain ⟨σB,hB,σ'',μB,J1⟩:=JS.catch1 (t:=r ++ t) Z J (hS a (by simp))
  obtain ⟨σC,hC,σ3,μC,J2⟩:=JS.catch Z r J1 fun b hb=>hS b (by simp [hb])
  exact ⟨σC,hC,σ3,μC,by rw [show s ++ a :: r=s ++ [a] ++ r by simp];exact J2⟩
theorem JS.anew {A B:List AO} {σm:Tr AV} {h2:AH} {μ0:Mu} {w0:World} {S:Nat->Bool} (J:JS tb ex exY P l A σ0 h0 σm h2 μ0 w0 S σ w s [] σA h σ' μ μS) (hr:wAK tb ex exY B σm h2=some (σf,hf)) (hB:∀ b ∈ B,S b.ix=false) :
  Ext μ0 h0.fl.nat w0 μ w/\h2.fl=h0.fl/\JS tb ex exY P l B σm h2 σf hf μ w S σ w [] B σm h2 σ' μ μ:=by
 have hr1:=J.hr
 rw [wAV] at hr1
 cases hr1
 exact ⟨J.E,J.fl,rfl,wAV _ _ _ _ _,hr,fun b hb=>(by simp at hb),fun b hb hS=>(by rw [hB b hb] at hS;cases hS),Ext.refl μ _ w,J.sim,rfl,J.env,fun q _=>J.ag q fun b hb=>(by simp at hb),Mu.Le.refl _,fun q c hq=>.inl hq,fun b hb hS=>(by rw [hB b hb] at hS;cases hS)⟩
theorem CK.lazy {rr:Option Nat} {Q:wBh} {D:List Deferred} {id:Nat} (hm:P.follows .mixedOrders=true) (HC:wDj (CC P) P tb ex) (HY':wCp (CC P) P exY) (HE:FrX ex) (HY:FrX exY) (ZZ:∃ A B,ZAll P N l os A B) (HL0:LCK tb ex exY os σ0 h0 σf)
  (hr:wAK tb ex exY os σ0 h0=some (σf,hf)) (S:Sim (CC P) P μ h0 w) (hE:EnvR μ σ0 σ)
  (hQ:∀ μ' w' σ',Ext μ h0.fl.nat w μ' w'->Sim (CC P) P μ' hf w'->EnvR μ' σf σ'->hf.fl=h0.fl->Q D .normal σ' w'):CK rr N P (.region id l.toArray true) Q D σ w:=by
 obtain ⟨A,B,ZZ⟩:=ZZ
 obtain ⟨σm,h2,hrA,hrB⟩:=wBk A B σ0 h0 _ (ZZ.eq ▸ hr)
 have HL:LCK tb ex exY A σ0 h0 σf/\LCK tb ex exY B σm h2 σf:=by
  refine ⟨fun s b t e k0 σ1 h1 hs=>?_,wHY ZZ.low⟩
  have:=HL0 s b (t ++ B) (by rw [ZZ.eq,e];simp) k0 σ1 h1 hs
  exact wFZ t B 0 this
 have Hg:∀ a ∈ A,8 <= a.kd->∀ p,p ∈ wAy a \/ a.dst=some p->evA σm (.t p)=evA σf (.t p):=fun a ha h8 p hp=>(wBS B _ _ _ _ hrB p fun b hb=>ZZ.far a ha h8 p hp b hb).symm
 have lt:∀ b ∈ os,b.ix < l.length:=fun b hb=>by
  rw [ZZ.eq] at hb
  rcases nD.1 hb with hb | hb
  ·obtain ⟨o,A⟩:=wBW (ZZ.za.ao b hb)
   exact (nM.1 A.get).1
  ·obtain ⟨o,A⟩:=wBW (ZZ.zb.ao b hb)
   exact (nM.1 A.get).1
 have stepB:∀ (S1:Nat->Bool) (a:AO) (σ1:Env) (w1:World) (μm:Mu) (wm:World) (s t:List AO) (σA:Tr AV) (h:AH) (σ':Env) (μ1 μS:Mu) (o:Oper),a ∈ B->S1 a.ix=false->(∀ j ∈ prI l a.ix,S1 j=true)->(∀ k,k < l.length->S1 k=true->∀ j ∈ prI l k,S1 j=true)->AOK P N l a o ->
   JS tb ex exY P l B σm h2 σf hf μm wm S1 σ1 w1 s t σA h σ' μ1 μS->Step1 P l o σ1 w1 fun v w'=>∃ s t σA h σ' μ1 μS,JS tb ex exY P l B σm h2 σf hf μm wm (fun k=>k == a.ix || S1 k) (put' σ1 o v) w' s t σA h σ' μ1 μS:=by
  intro S1 a σ1 w1 μm wm s t σA h σ' μ1 μS o ha hSi hpi hdc A J
  have hat:a ∈ t:=by
   have:=ha
   rw [J.e] at this
   rcases nD.1 this with h | h
   ·rw [J.inS a h] at hSi;cases hSi
   ·exact h
  cases hf:wAv a.kd with
  | true =>
   obtain ⟨r,r',et⟩:=nI hat
   rw [et] at J
   obtain ⟨σB,hB,σ'',μB,J1⟩:=JS.catch ZZ.zb r J fun b hb=>wCB hdc hpi (ZZ.zb.anc (s ++ r) a r' (by rw [J.e,nO]) hf b (by simp [hb]))
   refine (J1.fixed HC HY' HE HY ZZ.zb hf hSi hdc A).mono ?_
   rintro v w' ⟨σC,hC,σ3,μC,μT,J2⟩
   exact ⟨_,_,_,_,_,_,_,J2⟩
  | false =>
   refine (J.freeOp HE HY ZZ.zb HL.2 (fun _ _ _ _ _=>rfl) hat hSi hf hpi hdc A).mono ?_
   rintro v w' ⟨μT,J2⟩
   exact ⟨_,_,_,_,_,_,_,J2⟩
 have toB:∀ (S1:Nat->Bool) (σ1:Env) (w1:World) (s t:List AO) (σA:Tr AV) (h:AH) (σ':Env) (μ1 μS:Mu),(∀ a ∈ A,S1 a.ix=true)->(∀ b ∈ B,S1 b.ix=false)->JS tb ex exY P l A σ0 h0 σm h2 μ w S1 σ1 w1 s t σA h σ' μ1 μS ->
   ∃ μm σ',Ext μ h0.fl.nat w μm w1/\h2.fl=h0.fl/\JS tb ex exY P l B σm h2 σf hf μm w1 S1 σ1 w1 [] B σm h2 σ' μm μm:=by
  intro S1 σ1 w1 s t σA h σ' μ1 μS hA hB J
  have J0:JS tb ex exY P l A σ0 h0 σm h2 μ w S1 σ1 w1 s (t ++ []) σA h σ' μ1 μS:=by rw [nl];exact J
  obtain ⟨σB,hB',σ'',μB,J1⟩:=JS.catch ZZ.za t J0 fun b hb=>hA b (by rw [J.e];simp [hb])
  obtain ⟨g1,g2,g3⟩:=J1.anew hrB hB
  exact ⟨μB,σ'',g1,g2,g3⟩
 refine CK.anyRel hm ZZ.za.pr (fun S σ w1=>((∀ b ∈ B,S b.ix=false)/\∃ s t σA h σ' μ1 μS,JS tb ex exY P l A σ0 h0 σm h2 μ w S σ w1 s t σA h σ' μ1 μS) \/
  ((∀ a ∈ A,S a.ix=true)/\∃ μm wm,Ext μ h0.fl.nat w μm wm/\h2.fl=h0.fl/\∃ s t σA h σ' μ1 μS,JS tb ex exY P l B σm h2 σf hf μm wm S σ w1 s t σA h σ' μ1 μS)) ?_ ?_ ?_
 ·exact .inl ⟨fun b _=>rfl,[],A,σ0,h0,σ,μ,μ,rfl,wAV _ _ _ _ _,hrA,fun b hb=>(by simp at hb),fun b _ hb=>(by cases hb),Ext.drew μ _ w,S.keep (Keep.drew w),rfl,hE,fun _ _=>rfl,Mu.Le.refl _,fun q c hq=>.inl hq,fun b _ hb=>(by cases hb)⟩
 ·rintro S1 i σ1 w1 hi hSi hpi hdc hlt hI
  obtain ⟨a,ha,rfl⟩:=ZZ.all i hi
  rw [ZZ.eq] at ha
  rcases nD.1 ha with ha | ha
  ·obtain ⟨o,AK⟩:=wBW (ZZ.za.ao a ha)
   refine ⟨o,AK.get,wFD AK,?_⟩
   rcases hI with ⟨hB,s,t,σA,h,σ',μ1,μS,J⟩ | ⟨hA,_⟩
   ·have hB':∀ b ∈ B,(fun k=>k == a.ix || S1 k) b.ix=false:=fun b hb=>by
     have:=(ZZ.cross b hb a ha).1
     simp [hB b hb,Ne.symm this]
    have hat:a ∈ t:=by
     have:=ha
     rw [J.e] at this
     rcases nD.1 this with h | h
     ·rw [J.inS a h] at hSi;cases hSi
     ·exact h
    cases hf:wAv a.kd with
    | true =>
     obtain ⟨r,r',et⟩:=nI hat
     rw [et] at J
     obtain ⟨σB,hB2,σ'',μB,J1⟩:=JS.catch ZZ.za r J fun b hb=>wCB hdc hpi (ZZ.za.anc (s ++ r) a r' (by rw [J.e,nO]) hf b (by simp [hb]))
     refine (J1.fixed HC HY' HE HY ZZ.za hf hSi hdc AK).mono ?_
     rintro v w' ⟨σC,hC,σ3,μC,μT,J2⟩
     exact .inl ⟨hB',_,_,_,_,_,_,_,J2⟩
    | false =>
     refine (J.freeOp HE HY ZZ.za HL.1 Hg hat hSi hf hpi hdc AK).mono ?_
     rintro v w' ⟨μT,J2⟩
     exact .inl ⟨hB',_,_,_,_,_,_,_,J2⟩
   ·rw [hA a ha] at hSi
    cases hSi
  ·obtain ⟨o,AK⟩:=wBW (ZZ.zb.ao a ha)
   refine ⟨o,AK.get,wFD AK,?_⟩
   have hA:∀ c ∈ A,S1 c.ix=true:=fun c hc=>wCB hdc hpi (ZZ.cross a ha c hc).2
   rcases hI with ⟨hB,s,t,σA,h,σ',μ1,μS,J⟩ | ⟨_,μm,wm,g1,g2,s,t,σA,h,σ',μ1,μS,J⟩
   ·obtain ⟨μm,σ2,g1,g2,J1⟩:=toB S1 σ1 w1 s t σA h σ' μ1 μS hA hB J
    refine (stepB S1 a σ1 w1 _ _ _ _ _ _ _ _ _ o ha hSi hpi hdc AK J1).mono ?_
    rintro v w' ⟨s,t,σA,h,σ',μ1,μS,J2⟩
    exact .inr ⟨fun c hc=>by simp [hA c hc],_,_,g1,g2,_,_,_,_,_,_,_,J2⟩
   ·refine (stepB S1 a σ1 w1 _ _ _ _ _ _ _ _ _ o ha hSi hpi hdc AK J).mono ?_
    rintro v w' ⟨s,t,σA,h,σ',μ1,μS,J2⟩
    exact .inr ⟨fun c hc=>by simp [hA c hc],_,_,g1,g2,_,_,_,_,_,_,_,J2⟩
 ·rintro S1 σ1 w1 hall hI
  have hI2:∃ μm wm,Ext μ h0.fl.nat w μm wm/\h2.fl=h0.fl/\∃ s t σA h σ' μ1 μS,JS tb ex exY P l B σm h2 σf hf μm wm S1 σ1 w1 s t σA h σ' μ1 μS:=by
   rcases hI with ⟨hB,s,t,σA,h,σ',μ1,μS,J⟩ | ⟨_,hI⟩
   ·obtain ⟨μm,σ2,g1,g2,J1⟩:=toB S1 σ1 w1 s t σA h σ' μ1 μS (fun a ha=>hall _ (lt a (by rw [ZZ.eq];simp [ha]))) hB J
    exact ⟨_,_,g1,g2,_,_,_,_,_,_,_,J1⟩
   ·exact hI
  obtain ⟨μm,wm,g1,g2,s,t,σA,h,σ',μ1,μS,J⟩:=hI2
  have J0:JS tb ex exY P l B σm h2 σf hf μm wm S1 σ1 w1 s (t ++ []) σA h σ' μ1 μS:=by rw [nl];exact J
  obtain ⟨σB,hB,σ'',μB,J1⟩:=JS.catch ZZ.zb t J0 fun b hb=>hall _ (lt b (by rw [ZZ.eq,J.e];simp [hb]))
  have hr1:=J1.hr
  rw [wAV] at hr1
  cases hr1
  refine hQ μB w1 σ1 (g1.trans (g2 ▸ J1.E)) J1.sim (fun q=>?_) (J1.fl.trans g2)
  rw [J1.ag q fun b hb=>by simp at hb]
  exact J1.env q
end
end Go.KX
namespace Go.KX
open Go.RowKit Go.KL
section
variable {P:Program} {tb:Tr AF}
theorem wKK (hm:P.follows .mixedOrders=true) {ex exY:Run} (HC:wDj (CC P) P tb ex) (HY:wCp (CC P) P exY) (FE:FrX ex) (FY:FrX exY) {os:List AO} {σA σA':Tr AV} {h h':AH} (hr:wAK tb ex exY os σA h=some (σA',h')) {id N:Nat} {ops:Array Oper} {draw:Bool} (hc:chkR P N os ops.toList draw=true)
  {rr:Option Nat} {μ:Mu} {σ:Env} {w:World} {D:List Deferred} {n0:Nat} (S:Sim (CC P) P μ h w) (hE:EnvR μ σA σ) (M:Mk μ w n0 D):CK rr N P (.region id ops draw) (PostX P μ h.fl w n0 rr D .nrm σA' h') D σ w:=by
 unfold chkR at hc
 simp only [nE,nX] at hc
 obtain ⟨c1,c2⟩:=hc
 have hop:ops=ops.toList.toArray:=by simp
 have hcs:∀ a ∈ os,wEX P N ops.toList a=true/\kOf ((nR ops.toList.length).map fun i=>kdAt i os) a.ix=a.kd:=fun a ha=>⟨(c1 a ha).1,nK (c1 a ha).2⟩
 have post:∀ {w0:World},Ext μ h.fl.nat w μ w0->Sim (CC P) P μ h w0->OKS N P ops.toList (PostX P μ h.fl w n0 rr D .nrm σA' h') D ((nR ops.toList.length).map fun i=>kdAt i os) (wGE os) σ w0:=by
  intro w0 E0 S0
  refine wGF HC HY os σA h σA' h' hr hcs μ σ w0 S0 hE fun μ' w' σ' q1 q2 q3 q4=>?_
  have E:=E0.trans q1
  exact ⟨rfl,μ',E,q2,q3,M.ext E,q4,fun _=>rfl⟩
 rw [hop]
 cases draw with
 | true =>
  simp only at c2
  split at c2
  ·simp only [nE,nX,Nat.blt_eq] at c2
   exact CK.lazy hm HC HY FE FY (wJx (fun a ha=>(c1 a ha).1) c2.2) (wHY c2.1) hr S hE fun μ' w' σ' q1 q2 q3 q4=>⟨rfl,μ',q1,q2,q3,M.ext q1,q4,fun _=>rfl⟩
  ·exact CK.anyOrd hm _ _ c2 (post (Ext.drew μ _ w) (S.keep (Keep.drew w)))
 | false=>exact CK.reg _ c2 (post (Ext.refl μ _ w) S)
theorem wLE {ex:Run} (HC:wDj (CC P) P tb ex) {g:AOd} {t:List Pos} {asg body:AC} {g':Operand} {ps:Array Tmp} {asg' body':Code} {N:Nat} (hc:wDK P N (.rf g t asg body) (.rangeFunc g' ps asg' body')=true)
  {σA σA':Tr AV} {h h':AH} {e:Ex} (hr:sRf true g t asg body tb ex σA h=some (e,σA',h')) {μ:Mu} {σ:Env} {w:World} {D:List Deferred} {n0:Nat} (S:Sim (CC P) P μ h w) (hE:EnvR μ σA σ) (M:Mk μ w n0 D) (hn:n0 <= w.heap.size) :
  CK none N P (.rangeFunc g' ps asg' body') (PostX P μ h.fl w n0 none D e σA' h') D σ w:=by
 simp only [wDK,nE] at hc
 obtain ⟨c1,c2,c3,c4⟩:=hc
 obtain ⟨p,rfl⟩:∃ p:List Nat,ps=p.toArray:=⟨ps.toList,by simp⟩
 ·obtain ⟨ht,c6⟩:=wHZ (by simpa using c2)
  unfold sRf at hr
  split at hr
  ·rename_i f fi ca hg
   have hx:=wAC c1 hE
   rw [hg] at hx
   obtain ⟨fv,cv,g1,g2,g3⟩:=hx
   split at hr <;> first | (cases hr;done) | skip
   rename_i rv h2 hcall
   obtain ⟨hcf,hgv⟩:=HC _ _ _ _ _ hcall
   refine CK.rangeFunc (t:=p) g3 hcf fun fn l rb w1 e1 e2 hl hd K hs=>?_
   subst e1 e2
   have hle:=Mu.add_le (c:=(⟨w.heap.size + 1,0,⟨N,σ,p,asg',body',w.heap.size,fn⟩⟩:Cl)) (S.nx h.nx (nU _))
   obtain ⟨s1,s2,s3,s4⟩:=S.push (w':=w1) (c:=⟨w.heap.size + 1,0,⟨N,σ,p,asg',body',w.heap.size,fn⟩⟩) (B:=.loop σA t asg body .ready) K (Nat.le_succ _) (by show w.heap.size + 1 < _;omega) ⟨hl,hE.mono hle,ht,c6,c3,c4⟩
   generalize hμ1:μ.add h.nx (⟨w.heap.size + 1,0,⟨N,σ,p,asg',body',w.heap.size,fn⟩⟩:Cl)=μ1 at *
   have M1:Mk μ1 w1 n0 (wHN w.heap.size :: D):=by
    have M':=M.ext s2
    obtain ⟨rbs,m1,m2,m3⟩:=M'
    have hold:∀ rb ∈ rbs,rb < w.heap.size:=by
     obtain ⟨rbs0,k1,k2,k3⟩:=M
     intro rb hrb
     have hmm:rbs.map wHN=rbs0.map wHN:=by rw [<- m1,<- k1]
     have hinj:rbs=rbs0:=by
      have:∀ (a b:List Nat),a.map wHN=b.map wHN->a=b:=by
       intro a
       induction a with
       | nil=>intro b hb;cases b with
        | nil=>rfl
        | cons _ _=>simp at hb
       | cons x a ih=>intro b hb;cases b with
        | nil=>simp at hb
        | cons y b =>
         simp only [nf,List.cons.injEq] at hb
         have hxy:x=y:=by have:=hb.1;simp [wHN] at this;exact this
         rw [hxy,ih b hb.2]
      exact this _ _ hmm
     exact (k3 rb (hinj ▸ hrb)).1.lt
    refine ⟨w.heap.size :: rbs,by rw [nf,<- m1],List.nodup_cons.2 ⟨fun hm=>absurd (hold _ hm) (np _),m2⟩,fun rb hrb=>?_⟩
    rcases nJ.1 hrb with rfl | hrb
    ·refine ⟨hd,hn,fun q c hq=>?_⟩
     rw [<- hμ1] at hq
     unfold Mu.add at hq
     split at hq
     ·cases hq;show w.heap.size + 1 ≠ _;omega
     ·have:=S.lt q c hq;omega
    ·exact m3 rb hrb
   have G:=hgv μ1 w1 (fv ++ (.func (.yield (w.heap.size + 1)) #[] #[] :: cv)) s1 (wBy (g1.mono s2.mono) (wAe ⟨_,s4,rfl⟩ (g2.mono s2.mono)))
   rw [nO]
   refine G.mono ?_
   rintro v3 w3 ⟨μ3,q1,q2,q3,q4⟩
   rw [s3] at q1 q4
   have E13:=s2.trans q1
   have hc3:=q1.mono _ _ s4
   have fin:∀ {B:AB} {h3:AH} (w4:World),h2.m.get h.nx=some B->wHx B->h2.put h.nx .dead=some h3->Keep w3 w4 (·=w.heap.size + 1)->w4.heap.size=w3.heap.size->∃ μ',Ext μ h.fl.nat w μ' w4/\Sim (CC P) P μ' h3 w4/\EnvR μ' σA σ/\Mk μ' w4 n0 (wHN w.heap.size :: D)/\h3.fl=h.fl:=by
    intro B h3 w4 hB hlv hput K4 _
    obtain ⟨v1,v2,v3⟩:=q2.put hput hB hlv hc3 K4 (B':=.dead) trivial
    rw [q4] at v2 v3
    exact ⟨μ3,E13.trans v2,v1,hE.mono E13.mono,(M1.ext q1).ext v2,v3⟩
   split at hr
   ·rename_i sx tx ax bx hB
    split at hr <;> first | (cases hr;done) | skip
    rename_i h3 hput
    cases hr
    obtain ⟨c',u1,u2⟩:=q2.at_ _ _ hB
    rw [hc3] at u1;cases u1
    have L3:wHw (CC P) μ3 w3 ⟨w.heap.size + 1,0,⟨N,σ,p,asg',body',w.heap.size,fn⟩⟩ sx tx ax bx .ready:=u2
    refine .inl ⟨L3.at_,fun w4 K4 hs4=>?_⟩
    obtain ⟨μ',a1,a2,a3,a4,a5⟩:=fin w4 hB trivial hput K4 hs4
    exact ⟨rfl,μ',a1,a2,a3,a4,a5,fun hq=>by cases hq⟩
   ·rename_i sx tx ax bx ee hB
    split at hr <;> first | (cases hr;done) | skip
    rename_i h3 hput
    cases hr
    obtain ⟨c',u1,u2⟩:=q2.at_ _ _ hB
    rw [hc3] at u1;cases u1
    have L3:wHw (CC P) μ3 w3 ⟨w.heap.size + 1,0,⟨N,σ,p,asg',body',w.heap.size,fn⟩⟩ sx tx ax bx (.done e):=u2
    cases e with
    | nrm =>
     refine .inl ⟨L3.at_,fun w4 K4 hs4=>?_⟩
     obtain ⟨μ',a1,a2,a3,a4,a5⟩:=fin w4 hB trivial hput K4 hs4
     exact ⟨rfl,μ',a1,a2,a3,a4,a5,fun hq=>by cases hq⟩
    | ret =>
     refine .inr ⟨.ret,.inl rfl,L3.at_,fun w4 K4 hs4=>?_⟩
     obtain ⟨μ',a1,a2,a3,a4,a5⟩:=fin w4 hB trivial hput K4 hs4
     exact ⟨rfl,μ',a1,a2,a3,a4,a5,fun hq=>by cases hq⟩
    | exit i =>
     refine .inr ⟨.exit i,.inr ⟨i,rfl⟩,L3.at_,fun w4 K4 hs4=>?_⟩
     obtain ⟨μ',a1,a2,a3,a4,a5⟩:=fin w4 hB trivial hput K4 hs4
     exact ⟨rfl,μ',a1,a2,a3,a4,a5,fun hq=>by cases hq⟩
   ·cases hr
  ·cases hr
theorem CK.ofRounds {rr:Option Nat} {N:Nat} {c:Code} {Q:wBh} {D:List Deferred} {σ:Env} {w:World} (m:Nat) (hh:∀ a,Rep N D a σ->Code.roundsIn (WF rr) 0 P c (wFJ N Q) m a w):CK rr N P (.loop c) Q D σ w :=
 fun a ha=>wpIn_loop_rounds m (hh a ha)
theorem wNu {exR:Run} {r:Bool} (HE:wGG P exR r) {a b:AC} {σA σA':Tr AV} {h h':AH} {e:Ex} (hr:wNQ a b exR σA h=some (e,σA',h')) {c d:Code} {N:Nat} (hc1:wDK P N a c=true) (hc2:wDK P N b d=true)
  {rr:Option Nat} {μ:Mu} {σ:Env} {w:World} {D:List Deferred} {n0:Nat} (hrr:rr.isSome=r) (S:Sim (CC P) P μ h w) (hE:EnvR μ σA σ) (M:Mk μ w n0 D) (hn:n0 <= w.heap.size):CK rr N P (.seq c d) (PostX P μ h.fl w n0 rr D e σA' h') D σ w:=by
 obtain ⟨⟨e1,σ1,h1⟩,ha,hb⟩:=wNB hr
 rw [wGv] at hb
 refine CK.seq ((HE _ _ _ _ _ _ ha c N hc1 rr μ σ w D n0 hrr S hE M hn).mono ?_)
 intro D' e' σ' w' hp
 obtain ⟨rfl,μ1,q1,q2,q3,q4,q5,q6⟩:=hp
 cases e1 with
 | nrm =>
  refine (HE _ _ _ _ _ _ hb d N hc2 rr μ1 σ' w' D' n0 hrr q2 q3 q4 (nt hn q1.keep.size)).mono ?_
  intro D'' e'' σ'' w'' hp
  rw [q5] at hp
  exact PostX.trans q1 q6 hp
 | ret=>cases hb;exact ⟨rfl,μ1,q1,q2,q3,q4,q5,q6⟩
 | exit i=>cases hb;exact ⟨rfl,μ1,q1,q2,q3,q4,q5,q6⟩
theorem wMl {exR:Run} {r:Bool} {m:Nat} (HE:wGG P exR r) (HL:wJy P exR r m) {a:AC} {σA σA':Tr AV} {h h':AH} {e:Ex} (hr:wJT a exR σA h=some (e,σA',h')) {c:Code} {N:Nat} (hc:wDK P N a c=true)
  {rr:Option Nat} {μ:Mu} {σ:Env} {w:World} {D:List Deferred} {n0:Nat} (hrr:rr.isSome=r) (S:Sim (CC P) P μ h w) (hE:EnvR μ σA σ) (M:Mk μ w n0 D) (hn:n0 <= w.heap.size):∀ act,Rep N D act σ->Code.roundsIn (WF rr) 0 P c (wFJ N (PostX P μ h.fl w n0 rr D e σA' h')) (m + 1) act w:=by
 obtain ⟨⟨e1,σ1,h1⟩,ha,hb⟩:=wNB hr
 rw [wGv] at hb
 intro act hact
 rw [roundsIn_succ]
 refine wpIn_mono (HE _ _ _ _ _ _ ha c N hc rr μ σ w D n0 hrr S hE M hn act hact) ?_
 rintro e' act' w' ⟨σ',D',hrep,hp⟩
 obtain ⟨rfl,μ1,q1,q2,q3,q4,q5,q6⟩:=hp
 cases e1 with
 | nrm =>
  refine wEa ?_ m act' w' (HL _ _ _ _ _ _ hb c N hc rr μ1 σ' w' D' n0 hrr q2 q3 q4 (nt hn q1.keep.size) act' hrep)
  rintro e'' act'' w'' ⟨σ'',D'',hrep',hp⟩
  rw [q5] at hp
  exact ⟨σ'',D'',hrep',PostX.trans q1 q6 hp⟩
 | ret=>cases hb;exact ⟨σ',D',hrep,rfl,μ1,q1,q2,q3,q4,q5,q6⟩
 | exit i=>cases hb;exact ⟨σ',D',hrep,rfl,μ1,q1,q2,q3,q4,q5,q6⟩
theorem wMm (hm:P.follows .mixedOrders=true) (T:wIE P tb):∀ (n:Nat) (r:Bool),wGG P (exec tb n r) r/\wJy P (exec tb n r) r n:=by
 intro n
 induction n with
 | zero=>intro r;exact ⟨fun c σA h e σA' h' hr=>(by cases hr),fun c σA h e σA' h' hr=>(by cases hr)⟩
 | succ n ih =>
  intro r
  have HC:=wJz T (ih false).1
  have HY:=wLB (P:=P) (ih true).1
  obtain ⟨HE,HL⟩:=ih r
  have loop:wJy P (exec tb (n + 1) r) r (n + 1):=by
   intro c σA h e σA' h' hr code N hc rr μ σ w D n0 hrr S hE M hn
   have hr:wJT c (exec tb n r) σA h=some (e,σA',h'):=hr
   exact wMl HE HL hr hc hrr S hE M hn
  refine ⟨?_,loop⟩
  intro c σA h e σA' h' hr code N hc rr μ σ w D n0 hrr S hE M hn
  rw [wFx] at hr
  cases c with
  | skip =>
   have hr:sNrm σA h=some (e,σA',h'):=hr
   cases hr
   have fin:PostX P μ h.fl w n0 rr D .nrm σA h D .normal σ w:=⟨rfl,μ,Ext.refl μ _ w,S,hE,M,rfl,fun _=>rfl⟩
   cases code <;> simp only [wDK,nG] at hc
   ·exact CK.skip fin
   ·exact CK.label fin
  | rg os =>
   have hr:sRg os tb (exec tb n false) (exec tb n true) (exec tb n r) σA h=some (e,σA',h'):=hr
   unfold sRg at hr
   have:∃ y,wAK tb (exec tb n false) (exec tb n true) os σA h=some y/\some (Ex.nrm,y.1,y.2)=some (e,σA',h'):=by
    cases hq:wAK tb (exec tb n false) (exec tb n true) os σA h with
    | none=>rw [hq] at hr;cases hr
    | some y=>rw [hq] at hr;exact ⟨y,rfl,hr⟩
   obtain ⟨y,h1,h2⟩:=this
   cases h2
   cases code <;> simp only [wDK,nG] at hc
   exact wKK hm HC HY (wCr tb n false) (wCr tb n true) h1 hc S hE M
  | seq a b =>
   have hr:wNQ a b (exec tb n r) σA h=some (e,σA',h'):=hr
   cases code <;> simp only [wDK,nG,nE] at hc
   exact wNu HE hr hc.1 hc.2 hrr S hE M hn
  | cond x a b =>
   have hr:wJS x a b (exec tb n r) σA h=some (e,σA',h'):=hr
   cases code <;> simp only [wDK,nG,nE] at hc
   have hx:=wAC hc.1 hE
   unfold wJS at hr
   split at hr
   ·rename_i hb;rw [hb] at hx
    exact CK.condT hx (HE _ _ _ _ _ _ hr _ N hc.2.1 rr μ σ w D n0 hrr S hE M hn)
   ·rename_i hb;rw [hb] at hx
    exact CK.condF hx (HE _ _ _ _ _ _ hr _ N hc.2.2 rr μ σ w D n0 hrr S hE M hn)
   ·cases hr
  | block i a =>
   have hr:wHM i a (exec tb n r) σA h=some (e,σA',h'):=hr
   cases code <;> simp only [wDK,nG,nE] at hc
   rename_i j code
   have hij:=nK hc.1
   subst hij
   obtain ⟨⟨e1,σ1,h1⟩,ha,hb⟩:=wNB hr
   refine CK.block ((HE _ _ _ _ _ _ ha code N hc.2 rr μ σ w D n0 hrr S hE M hn).mono ?_)
   rintro D' e' σ' w' ⟨rfl,μ1,q1,q2,q3,q4,q5,q6⟩
   cases e1 with
   | nrm=>cases hb;exact ⟨rfl,μ1,q1,q2,q3,q4,q5,q6⟩
   | ret=>cases hb;exact ⟨rfl,μ1,q1,q2,q3,q4,q5,q6⟩
   | exit k =>
    have hb:Bool.rec (motive:=fun _=>R) (some (.exit k,σ1,h1)) (some (.nrm,σ1,h1)) (Nat.beq k i)=some (e,σA',h'):=hb
    cases hk:Nat.beq k i with
    | true =>
     rw [hk] at hb;cases hb
     have:=nK hk
     subst this
     exact wFL ⟨rfl,μ1,q1,q2,q3,q4,q5,q6⟩
    | false =>
     rw [hk] at hb;cases hb
     exact wKl ⟨rfl,μ1,q1,q2,q3,q4,q5,q6⟩ hk
  | loop a =>
   have hr':exec tb (n + 1) r (.loop a) σA h=some (e,σA',h'):=hr
   cases code <;> simp only [wDK,nG] at hc
   exact CK.ofRounds (n + 1) (loop _ _ _ _ _ _ hr' _ N hc rr μ σ w D n0 hrr S hE M hn)
  | rf g t asg body =>
   have hr:sRf (!r) g t asg body tb (exec tb n false) σA h=some (e,σA',h'):=hr
   cases r with
   | true=>unfold sRf at hr;simp at hr
   | false =>
    have hnone:rr=none:=by cases rr <;> first | rfl | cases hrr
    subst hnone
    cases code <;> first | (simp only [wDK,nG] at hc;done) | skip
    exact wLE HC hc hr S hE M hn
  | exit i =>
   have hr:some (Ex.exit i,σA,h)=some (e,σA',h'):=hr
   cases hr
   cases code <;> simp only [wDK,nG] at hc
   have:=nK hc
   subst this
   exact CK.exit ⟨rfl,μ,Ext.refl μ _ w,S,hE,M,rfl,fun _=>rfl⟩
  | scope a =>
   have hr:exec tb n r a σA h=some (e,σA',h'):=hr
   cases code <;> simp only [wDK,nG] at hc
   refine CK.scope ((HE _ _ _ _ _ _ hr _ N hc rr μ σ w D n0 hrr S hE M hn).mono ?_)
   rintro D' e' σ' w' ⟨rfl,q⟩
   cases e with
   | nrm=>exact ⟨rfl,q⟩
   | ret=>exact ⟨rfl,q⟩
   | exit k=>exact ⟨rfl,q⟩
  | ret =>
   have hr:some (Ex.ret,σA,h)=some (e,σA',h'):=hr
   cases hr
   cases code <;> simp only [wDK,nG] at hc
   exact CK.ret ⟨rfl,μ,Ext.refl μ _ w,S,hE,M,rfl,fun _=>rfl⟩
  | rl os =>
   have hr:sRl os tb (exec tb n false) (exec tb n true) σA h=some (e,σA',h'):=hr
   rw [wLc] at hr
   split at hr
   ·rename_i y hq
    cases hr
    obtain ⟨g1,g2⟩:=wGt _ _ _ _ hq
    cases code <;> simp only [wDK,nG,nE,nX] at hc
    rename_i id ops draw
    obtain ⟨rfl,c1,c2⟩:=hc
    have hop:ops=ops.toList.toArray:=by simp
    rw [hop]
    exact CK.lazy hm HC HY (wCr tb n false) (wCr tb n true) (wJx c1 c2) g2 g1 S hE fun μ' w' σ' q1 q2 q3 q4=>⟨rfl,μ',q1,q2,q3,M.ext q1,q4,fun _=>rfl⟩
   ·cases hr
theorem Sim.empty (C:Chk) (P:Program) (w:World):Sim C P (fun _=>none) ⟨.e,.H,.H⟩ w :=
 ⟨fun _ _=>rfl,fun _ _ h=>(by cases h),fun _ _ _ _ _ _ h=>(by rw [Tr.get_e] at h;cases h),fun _ _ h=>(by rw [Tr.get_e] at h;cases h)⟩
theorem wIH (hm:P.follows .mixedOrders=true) (T:wIE P tb) (n:Nat) (f:Pos) (args:List AV) (vs:List Value) (v:AV) (h:AH) (hv:∀ μ,RvL μ args vs) (hr:wFu tb (exec tb n false) f args ⟨.e,.H,.H⟩=some (v,h)) (w:World) :
  Gv P (f.nat - 1) vs w fun cv w'=>∃ μ,Rv μ v cv/\Keep w w' Non:=by
 obtain ⟨_,hg⟩:=wJz T (wMm hm T n false).1 f args _ v h hr
 refine (hg _ w vs (Sim.empty _ _ w) (hv _)).mono ?_
 rintro cv w' ⟨μ',h1,h2,h3,_⟩
 exact ⟨μ',h3,h1.keep.weak fun i _ ⟨p,d,hp,_⟩=>by cases hp⟩
noncomputable def okB (tb:Tr AF) (n:Nat) (f:Pos) (b:Bool):Bool:=match wFu tb (exec tb n false) f [] ⟨.e,.H,.H⟩ with
 | some (.bool b',_)=>b' == b
 | _=>false
theorem wLF (hm:P.follows .mixedOrders=true) (T:wIE P tb) (n:Nat) (f:Pos) (k:Nat) (hk:f.nat=k + 1) (b:Bool) (hr:okB tb n f b=true) (w:World):Gv P k [] w fun cv w'=>cv=.bool b/\Keep w w' Non:=by
 unfold okB at hr
 split at hr
 ·rename_i b' h hq
  have hb:=eq_of_beq hr
  subst hb
  have:=wIH hm T n f [] [] _ h (fun _=>rfl) hq w
  rw [hk] at this
  refine this.mono ?_
  rintro cv w' ⟨μ,h1,h2⟩
  exact ⟨h1,h2⟩
 ·cases hr
def wKL (f:Nat->AF->Prop):Tr AF->(Nat->Nat)->Prop
 | .e,_=>True
 | .n l v r,g=>(match v with | none=>True | some a=>f (g 1) a)/\wKL f l (fun n=>g (2 * n))/\wKL f r (fun n=>g (2 * n + 1))
theorem wEe {f:Nat->AF->Prop}:∀ {t:Tr AF} {g:Nat->Nat},wKL f t g->∀ p a,t.get p=some a->f (g p.nat) a
 | .e,g,_,p,a,hq=>by rw [Tr.get_e] at hq;cases hq
 | .n l v r,g,⟨h1,h2,h3⟩,.H,a,hq=>by
  rw [Tr.get_H] at hq;subst hq;exact h1
 | .n l v r,g,⟨h1,h2,h3⟩,.O p,a,hq=>wEe h2 p a hq
 | .n l v r,g,⟨h1,h2,h3⟩,.I p,a,hq=>wEe h3 p a hq
theorem wNv (h:wKL (fun n a=>chkF P (n - 1) a=true) tb fun n=>n):wIE P tb:=fun p af hq=>wEe h p af hq
end
end Go.KX
namespace Go.KL
variable {S S' B B' α:Type}
theorem wHe {body:Nat->S->Option (S ⊕ B)} (I:Nat->S->Prop) (Z:B->Prop):∀ (m k:Nat) (s:S),I k s ->
  (∀ i s,k <= i->i < k + m->I i s->(∃ s',body i s=some (.inl s')/\I (i + 1) s') \/ ∃ b,body i s=some (.inr b)/\Z b) ->
  (∃ s',forN body m k s=some (.inl s')/\I (k + m) s') \/ ∃ b,forN body m k s=some (.inr b)/\Z b
 | 0,k,s,h,_=>.inl ⟨s,rfl,h⟩
 | m + 1,k,s,h,hb=>by
  simp only [forN]
  rcases hb k s (nU _) (by omega) h with ⟨s',h1,h2⟩ | ⟨b,h1,h2⟩
  ·rw [h1]
   have:=wHe I Z m (k + 1) s' h2 fun i s h2 h3 h4=>hb i s (by omega) (by omega) h4
   rwa [show k + 1 + m=k + (m + 1) from by omega] at this
  ·rw [h1];exact .inr ⟨b,rfl,h2⟩
theorem wDM {body:Nat->S->Option S} (I:Nat->S->Prop):∀ (m k:Nat) (s:S),I k s ->
  (∀ i s,k <= i->i < k + m->I i s->∃ s',body i s=some s'/\I (i + 1) s')->∃ s',forN' body m k s=some s'/\I (k + m) s'
 | 0,k,s,h,_=>⟨s,rfl,h⟩
 | m + 1,k,s,h,hb=>by
  simp only [forN']
  obtain ⟨s',h1,h2⟩:=hb k s (nU _) (by omega) h
  rw [h1]
  have:=wDM I m (k + 1) s' h2 fun i s h2 h3 h4=>hb i s (by omega) (by omega) h4
  rwa [show k + 1 + m=k + (m + 1) from by omega] at this
theorem wCT {body:Nat->S->Option (S ⊕ B)} {n:Nat} {s:S} (hn:n <= 9223372036854775807):wGP 0 (n:Int) body s=forN body n 0 s:=by
 unfold wGP
 rw [if_pos (by omega),show ((n:Int) - 0).toNat=n from by omega]
theorem wDZ {body:Nat->S->Option S} {n:Nat} {s:S} (hn:n <= 9223372036854775807):wCY 0 (n:Int) body s=forN' body n 0 s:=by
 unfold wCY
 rw [if_pos (by omega),show ((n:Int) - 0).toNat=n from by omega]
def first (p:α->Bool):List α->Nat->Int
 | [],_=>-1
 | a :: l,k=>if p a then (k:Int) else first p l (k + 1)
theorem wGH (p:α->Bool):∀ (l:List α) (k:Nat),decide (0 <= first p l k)=l.any p
 | [],k=>by simp [first]
 | a :: l,k=>by
  rw [first,List.any_cons]
  by_cases h:p a
  ·simp [h]
  ·simp [h,wGH p l (k + 1)]
theorem wII {R:Type} {l:List α} {f:α->Option Bool} {p:α->Bool} (hf:∀ a ∈ l,f a=some (p a)) (hn:l.length <= 9223372036854775807) (z:Int->R) :
  (jn (wGP 0 (↑l.length:Int) (fun k2 (_:Unit)=>(idx l (↑k2:Int)).bind fun x=>(f x).bind fun y=>if y=true then esc (some (z (↑k2:Int))) else some (.inl ())) ()) fun _=>some (z (-1)))=some (z (first p l 0)):=by
 rw [wCT hn]
 have key:∀ (m k:Nat),k + m=l.length->(jn (forN (fun k2 (_:Unit)=>(idx l (↑k2:Int)).bind fun x=>(f x).bind fun y=>if y=true then esc (some (z (↑k2:Int))) else some (.inl ())) m k ()) fun _=>some (z (-1)))=some (z (first p (l.drop k) k)):=by
  intro m
  induction m with
  | zero=>intro k hk;rw [nP (by omega)];rfl
  | succ m ih =>
   intro k hk
   have hlt:k < l.length:=by omega
   rw [nH hlt,first,forN,wDy,nB hlt]
   simp only [nA,hf _ (ni hlt)]
   by_cases h:p l[k]=true
   ·simp [h]
   ·simp only [h,if_false,nG]
    exact ih (k + 1) (by omega)
 exact key l.length 0 (by omega)
theorem wIJ [DecidableEq α] {l m:List α} (hn:l.length <= 9223372036854775807) :
  (if (↑l.length:Int)=(↑m.length:Int) then jn (wGP 0 (↑l.length:Int) (fun k4 (_:Unit)=>(idx l (↑k4:Int)).bind fun x26=>(idx m (↑k4:Int)).bind fun x34=>if x26=x34 then some (.inl ()) else esc (some false)) ()) fun _=>some true else some false)=some (decide (l=m)):=by
 by_cases hl:l.length=m.length
 ·rw [if_pos (by omega),wCT hn]
  have key:∀ (n k:Nat),k + n=l.length->(jn (forN (fun k4 (_:Unit)=>(idx l (↑k4:Int)).bind fun x26=>(idx m (↑k4:Int)).bind fun x34=>if x26=x34 then some (.inl ()) else esc (some false)) n k ()) fun _=>some true)=some (decide (l.drop k=m.drop k)):=by
   intro n
   induction n with
   | zero=>intro k hk;rw [nP (by omega),nP (by omega)];simp [forN]
   | succ n ih =>
    intro k hk
    have h1:k < l.length:=by omega
    have h2:k < m.length:=by omega
    rw [nH h1,nH h2,forN,wDy,wDy,nB h1,nB h2]
    simp only [nA]
    by_cases h:l[k]=m[k]
    ·rw [if_pos h]
     simp only
     rw [ih (k + 1) (by omega)]
     congr 1
     exact decide_eq_decide.2 ⟨fun e=>by rw [e,h],fun e=>(kA e).2⟩
    ·rw [if_neg h]
     have:¬ l[k] :: l.drop (k + 1)=m[k] :: m.drop (k + 1):=fun e=>h (kA e).1
     simp only [wKn,wGQ,this,decide_false]
  have:=key l.length 0 (by omega)
  simpa using this
 ·rw [if_neg (by omega)]
  have:l ≠ m:=fun e=>hl (by rw [e])
  simp [this]
theorem wNx {bytes:Nat} {l m:List α} (h:(l.length + m.length) * bytes <= 140737488355328):app bytes l m=some (l ++ m):=if_pos h
end Go.KL
namespace Go.Proofs.YthbficbpebiekaaGreat
open Go.KL
def fD (s:wAA) (n:Int):Int:=w64 ((w64 ((w64 (s.X - (w64 (2500 * (w64 (n - 1)))))) * (w64 (s.X - (w64 (2500 * (w64 (n - 1)))))))) + (w64 (s.Y * s.Y)))
def wIK (R:Int) (s:wAA) (l:List Int) (n:Int):Bool:=!decide (n ∈ l) && decide (fD s n <= R)
def wAu (R:Int) (s:wAA) (l:List Int):Int :=
 if wIK R s l 5 then 5 else if wIK R s l 4 then 4 else if wIK R s l 3 then 3 else if wIK R s l 2 then 2 else if wIK R s l 1 then 1 else 0
theorem wAz (R:Int) (s:wAA) (l:List Int):0 <= wAu R s l/\wAu R s l <= 5/\(0 < wAu R s l->wAu R s l ∉ l):=by
 unfold wAu
 have h:∀ n,wIK R s l n=true->n ∉ l:=fun n hn=>by
  unfold wIK at hn
  simp only [nE,nw,decide_eq_false_iff_not] at hn
  exact hn.1
 split
 ·rename_i e;exact ⟨by omega,by omega,fun _=>h _ e⟩
 ·split
  ·rename_i e;exact ⟨by omega,by omega,fun _=>h _ e⟩
  ·split
   ·rename_i e;exact ⟨by omega,by omega,fun _=>h _ e⟩
   ·split
    ·rename_i e;exact ⟨by omega,by omega,fun _=>h _ e⟩
    ·split
     ·rename_i e;exact ⟨by omega,by omega,fun _=>h _ e⟩
     ·exact ⟨by omega,by omega,fun e=>by omega⟩
def wDN (l:List Int):Nat:=l.count 1 + l.count 2 + l.count 3 + l.count 4 + l.count 5
theorem wEg (l:List Int) (x:Int) (h0:0 <= x) (h5:x <= 5):wDN (l ++ [x])=wDN l + if 0 < x then 1 else 0:=by
 unfold wDN
 have:x=0 \/ x=1 \/ x=2 \/ x=3 \/ x=4 \/ x=5:=by omega
 rcases this with rfl | rfl | rfl | rfl | rfl | rfl <;> simp [nT] <;> omega
theorem wDO {l:List Int} (hn:∀ n,0 < n->l.count n <= 1):wDN l <= 5:=by
 unfold wDN
 have:=hn 1 (by omega);have:=hn 2 (by omega);have:=hn 3 (by omega);have:=hn 4 (by omega);have:=hn 5 (by omega)
 omega
structure wND (i:Nat) (d:Arr Bool 6) (x:Int) (l:List Int):Prop where
 len:l.length=i
 rng:∀ n ∈ l,0 <= n/\n <= 5
 one:∀ n,0 < n->l.count n <= 1
 cnt:x=wDN l
 dn:∀ n:Nat,1 <= n->n <= 5->d.get n=decide ((n:Int) ∈ l)
theorem wHA {R:Int} {s:wAA} {d:Arr Bool 6} {l:List Int} (hd:∀ n:Nat,1 <= n->n <= 5->d.get n=decide ((n:Int) ∈ l)) {R2:Int} (hR:w64 (R2 * R2)=R) :
    (wCY 1 (5 + 1) (fun k165 x164 =>
        (chk (1 + ↑k165:Int) 6).bind fun _ =>
        if (d.get ((1 + ↑k165:Int).toNat))=true then
          some x164
        else
          if (w64 ((w64 ((w64 (s.X - (w64 (2500 * (w64 ((1 + ↑k165:Int) - 1)))))) * (w64 (s.X - (w64 (2500 * (w64 ((1 + ↑k165:Int) - 1)))))))) + (w64 (s.Y * s.Y)))) <= (w64 (R2 * R2)) then
            some (1 + ↑k165:Int)
          else
            some x164) 0)=some (wAu R s l):=by
  rw [hR]
  have step:∀ (k:Nat) (x:Int),k < 5->((chk (1 + ↑k:Int) 6).bind fun _ =>
        if (d.get ((1 + ↑k:Int).toNat))=true then
          some x
        else
          if (w64 ((w64 ((w64 (s.X - (w64 (2500 * (w64 ((1 + ↑k:Int) - 1)))))) * (w64 (s.X - (w64 (2500 * (w64 ((1 + ↑k:Int) - 1)))))))) + (w64 (s.Y * s.Y)))) <= R then
            some (1 + ↑k:Int)
          else
            some x)=some (if wIK R s l (1 + ↑k:Int) then (1 + ↑k:Int) else x):=by
    intro k x hk
    rw [wCb (by omega) (by omega)]
    simp only [nA]
    have e:(1 + (k:Int)).toNat=k + 1:=by omega
    rw [e,hd (k + 1) (by omega) (by omega)]
    have e2:((k + 1:Nat):Int)=1 + (k:Int):=by omega
    rw [e2]
    unfold wIK fD
    by_cases h1:(1 + (k:Int)) ∈ l
    · simp [h1]
    · by_cases h2:(w64 ((w64 ((w64 (s.X - (w64 (2500 * (w64 ((1 + ↑k:Int) - 1)))))) * (w64 (s.X - (w64 (2500 * (w64 ((1 + ↑k:Int) - 1)))))))) + (w64 (s.Y * s.Y)))) <= R
      · simp [h1,h2]
      · simp [h1,h2]
  unfold wCY
  rw [if_pos (by omega)]
  show forN' _ 5 0 0=_
  simp only [forN',step 0 _ (by omega),step (0 + 1) _ (by omega),step (0 + 1 + 1) _ (by omega),step (0 + 1 + 1 + 1) _ (by omega),step (0 + 1 + 1 + 1 + 1) _ (by omega)]
  unfold wAu
  have c1:(1 + ((0:Nat):Int))=1:=by omega
  have c2:(1 + ((0 + 1:Nat):Int))=2:=by omega
  have c3:(1 + ((0 + 1 + 1:Nat):Int))=3:=by omega
  have c4:(1 + ((0 + 1 + 1 + 1:Nat):Int))=4:=by omega
  have c5:(1 + ((0 + 1 + 1 + 1 + 1:Nat):Int))=5:=by omega
  rw [c1,c2,c3,c4,c5]
def fIn (s:wAA):Bool:=(decide (-20000 <= s.X) && decide (s.X <= 20000)) && (decide (-20000 <= s.Y) && decide (s.Y <= 20000))
theorem wKO (x a b:Int):wAo x a b=some (decide (a <= x) && decide (x <= b)):=by
 unfold wAo
 by_cases h:a <= x <;> simp [h]
theorem wKP (s:wAA):wAU s=some (fIn s):=by
 unfold wAU fIn
 simp only [wKO,nA]
 by_cases h:(decide (-20000 <= s.X) && decide (s.X <= 20000))=true
 ·rw [h];simp
 ·have:(decide (-20000 <= s.X) && decide (s.X <= 20000))=false:=by simpa using h
  rw [this];simp
theorem wIL {l:List wAA} {f:wAA->Option Bool} {p:wAA->Bool} (hf:∀ a,f a=some (p a)) (hn:l.length <= 9223372036854775807):wAT l f=some (l.all p):=by
 unfold wAT wAE wAH wAP
 have:=wII (R:=Int) (l:=l) (f:=fun x=>(f x).bind fun x5=>some (!x5)) (p:=fun a=>!p a) (fun a _=>by rw [hf];rfl) hn id
 simp only [id] at this
 rw [this]
 simp only [nA,wGH]
 congr 1
 clear this hn
 induction l with
 | nil=>rfl
 | cons a l ih=>rw [List.any_cons,List.all_cons,<- ih];cases p a <;> simp
def wNE (l:List Int):Nat:=l.countP fun n=>decide (0 < n)
theorem wIM {l:List Int} (hl:l.length <= 8):(wCY 0 (↑l.length:Int) (fun k23 x22 =>
      (chk (↑k23:Int) l.length).bind fun _ =>
      if 0 < (gd l k23) then
        some (w64 (x22 - 1))
      else
        some x22) (5:Int))=some (5 - (wNE l:Int)):=by
  rw [wDZ (by omega)]
  have key:∀ (m k:Nat) (x:Int),k + m=l.length->-100 <= x - m->x <= 100->(forN' (fun k23 x22 =>
      (chk (↑k23:Int) l.length).bind fun _ =>
      if 0 < (gd l k23) then
        some (w64 (x22 - 1))
      else
        some x22) m k x)=some (x - (wNE (l.drop k):Int)):=by
    intro m
    induction m with
    | zero=>intro k x hk _ _;rw [nP (by omega)];simp [forN',wNE]
    | succ m ih =>
      intro k x hk h1 h2
      have hlt:k < l.length:=by omega
      have e:l.drop k=l[k] :: l.drop (k + 1):=nH hlt
      rw [e,forN',wCb (by omega) (by omega)]
      simp only [nA]
      have hg:gd l k=l[k]:=by unfold gd;rw [ng,nB hlt];rfl
      rw [hg]
      unfold wNE at ih ⊢
      rw [List.countP_cons]
      by_cases hp:0 < l[k]
      · rw [if_pos hp,wAd (by omega) (by omega)]
        simp only
        rw [ih (k + 1) (x - 1) (by omega) (by omega) (by omega)]
        have:decide (0 < l[k])=true:=by simpa using hp
        rw [if_pos this]
        congr 1;omega
      · rw [if_neg hp]
        simp only
        rw [ih (k + 1) x (by omega) (by omega) (by omega)]
        have:¬ decide (0 < l[k])=true:=by simpa using hp
        rw [if_neg this]
        rfl
  have:=key l.length 0 5 (by omega) (by omega) (by omega)
  simpa using this
def fl (R:Int):List wAA->List Int->Option (List Int)
 | [],l=>some l
 | s :: r,l=>if wDN l=5 then none else fl R r (l ++ [wAu R s l])
def flr:Option (List Int)->List Int × Int
 | none=>([],9)
 | some l=>(l,0)
theorem wNy:wND 0 (Arr.fill 6 false) 0 []:=by
 refine ⟨rfl,by simp,by simp,by simp [wDN],fun n h1 h2=>?_⟩
 have:n=1 \/ n=2 \/ n=3 \/ n=4 \/ n=5:=by omega
 rcases this with rfl | rfl | rfl | rfl | rfl <;> rfl
theorem wKQ {R:Int} {s:wAA} {d:Arr Bool 6} {x:Int} {l:List Int} (F:wND l.length d x l) (h8:l.length <= 8) (hx:x ≠ 5) :
  (0 < wAu R s l->wND (l.length + 1) (d.set (wAu R s l).toNat true) (w64 (x + 1)) (l ++ [wAu R s l]))/\(¬ 0 < wAu R s l->wND (l.length + 1) d x (l ++ [wAu R s l])):=by
 obtain ⟨r1,r2,r3⟩:=wAz R s l
 generalize wAu R s l=q at r1 r2 r3
 have hcnt:=wEg l q r1 r2
 have hle:=wDO F.one
 have base:∀ {d':Arr Bool 6} {x':Int},x'=wDN (l ++ [q])->(∀ n:Nat,1 <= n->n <= 5->d'.get n=decide ((n:Int) ∈ l ++ [q]))->wND (l.length + 1) d' x' (l ++ [q]):=by
  intro d' x' hx' hd'
  refine ⟨by simp,fun n hn=>?_,fun n hn=>?_,hx',hd'⟩
  ·rcases nD.1 hn with h | h
   ·exact F.rng n h
   ·simp at h;subst h;exact ⟨r1,r2⟩
  ·rw [nT]
   by_cases e:n=q
   ·subst e
    have:l.count n=0:=nL.2 (r3 hn)
    rw [this];simp
   ·have:[q].count n=0:=by rw [nL];simp [e]
    rw [this];exact F.one n hn
 refine ⟨fun hq=>base ?_ fun n n1 n2=>?_,fun hq=>base ?_ fun n n1 n2=>?_⟩
 ·have:=F.cnt
  rw [if_pos hq] at hcnt
  rw [wAd (by omega) (by omega)];omega
 ·have hg:(d.set q.toNat true).get n=if q.toNat=n then true else d.get n:=by
   unfold Arr.get Arr.set
   have hl6:=d.h
   simp only [ng,List.getElem?_set]
   by_cases e:q.toNat=n
   ·rw [if_pos e,if_pos e,if_pos (by omega)];rfl
   ·rw [if_neg e,if_neg e]
  rw [hg,F.dn n n1 n2]
  by_cases e:q.toNat=n
  ·have:(n:Int)=q:=by omega
   rw [if_pos e];simp [this]
  ·have:¬ (n:Int)=q:=by omega
   rw [if_neg e];simp [this]
 ·have:=F.cnt
  rw [if_neg hq] at hcnt
  omega
 ·rw [F.dn n n1 n2]
  have:¬ (n:Int)=q:=by omega
  simp [this]
theorem wEh {R R2:Int} (hR:w64 (R2 * R2)=R) {shots:List wAA} (h8:shots.length <= 8):∀ (m k:Nat) (d:Arr Bool 6) (x:Int) (l:List Int),k + m=shots.length->wND k d x l ->
  jn (forN (fun k110 (a104,x105,l106) =>
  (idx shots (↑k110:Int)).bind fun x135 =>
  if x105=5 then
   esc (some ([],9))
  else
   (wCY 1 (5 + 1) (fun k165 x164 =>
    (chk (1 + ↑k165:Int) 6).bind fun _ =>
    if (a104.get ((1 + ↑k165:Int).toNat))=true then
     some x164
    else
     if (w64 ((w64 ((w64 (x135.X - (w64 (2500 * (w64 ((1 + ↑k165:Int) - 1)))))) * (w64 (x135.X - (w64 (2500 * (w64 ((1 + ↑k165:Int) - 1)))))))) + (w64 (x135.Y * x135.Y)))) <= (w64 (R2 * R2)) then
      some (1 + ↑k165:Int)
     else
      some x164) 0).bind fun y170 =>
   if 0 < y170 then
    (chk y170 6).bind fun _ =>
    (app 8 l106 [y170]).bind fun x235 =>
    some (.inl ((a104.set y170.toNat true),w64 (x105 + 1),x235))
   else
    (app 8 l106 [y170]).bind fun x254 =>
    some (.inl (a104,x105,x254))) m k (d,x,l)) (fun (y271,y272,y273)=>some (y273,(0:Int)))=some (flr (fl R (shots.drop k) l))
 | 0,k,d,x,l,hk,_=>by rw [nP (by omega)];rfl
 | m + 1,k,d,x,l,hk,F=>by
  have ih:=wEh (R2:=R2) hR h8 m (k + 1)
  have hlt:k < shots.length:=by omega
  have hl:=F.len
  rw [nH hlt,fl,forN]
  simp only
  rw [wDy,nB hlt,nA]
  by_cases hx:x=5
  ·rw [if_pos hx,if_pos (by have:=F.cnt;omega)]
   rfl
  ·rw [if_neg hx,if_neg (by have:=F.cnt;omega),wHA F.dn hR,nA]
   obtain ⟨r1,r2,r3⟩:=wAz R shots[k] l
   have ha:app 8 l [wAu R shots[k] l]=some (l ++ [wAu R shots[k] l]):=wNx (by simp;omega)
   obtain ⟨s1,s2⟩:=wKQ (R:=R) (s:=shots[k]) (hl ▸ F) (by omega) hx
   rw [hl] at s1 s2
   by_cases hq:0 < wAu R shots[k] l
   ·rw [if_pos hq,wCb r1 (by omega),nA,ha,nA]
    exact ih _ _ _ (by omega) (s1 hq)
   ·rw [if_neg hq,ha,nA]
    exact ih _ _ _ (by omega) (s2 hq)
theorem wDP {p:Int} (hp:p=0 \/ p=1) {shots:List wAA} (h8:shots.length <= 8) (hin:shots.all fIn=true):wAN p shots=some (flr (fl (if p=0 then 50625 else 330625) shots [])):=by
 have hall:=wIL (l:=shots) (p:=fIn) wKP (by omega)
 unfold wAN
 have h8':¬ 8 < (↑shots.length:Int):=by omega
 rcases hp with rfl | rfl
 ·rw [if_pos rfl,if_neg h8',hall,hin,nA,if_pos rfl,wBv,if_pos rfl]
  have hi:idx ([225,575]:List Int) 0=some 225:=rfl
  rw [hi,nA,wCT (by omega)]
  exact wEh (R:=50625) (by decide) h8 shots.length 0 _ _ _ (by omega) wNy
 ·rw [if_neg (by decide),if_pos rfl,if_neg h8',hall,hin,nA,if_pos rfl,wBv,if_neg (by decide)]
  have hi:idx ([225,575]:List Int) 1=some 575:=rfl
  rw [hi,nA,wCT (by omega)]
  exact wEh (R:=330625) (by decide) h8 shots.length 0 _ _ _ (by omega) wNy
theorem wKR (R:Int) (a:wAA):∀ (s:List wAA) (l:List Int),fl R (s ++ [a]) l=(fl R s l).bind fun r=>if wDN r=5 then none else some (r ++ [wAu R a r])
 | [],l=>by simp [fl]
 | b :: s,l=>by
  rw [nW,fl,fl]
  split
  ·rfl
  ·exact wKR R a s _
theorem wFH {R:Int}:∀ {s:List wAA} {l r:List Int},fl R s l=some r->r.length=l.length + s.length
 | [],l,r,h=>by cases h;simp
 | b :: s,l,r,h=>by
  rw [fl] at h
  split at h
  ·cases h
  ·have:=wFH h
   simp at this ⊢
   omega
theorem wGI {R:Int}:∀ {s:List wAA} {l r:List Int},fl R s l=some r->(∀ n ∈ l,0 <= n/\n <= 5)->∀ n ∈ r,0 <= n/\n <= 5
 | [],l,r,h,hl=>by cases h;exact hl
 | b :: s,l,r,h,hl=>by
  rw [fl] at h
  split at h
  ·cases h
  ·refine wGI h fun n hn=>?_
   rcases nD.1 hn with hn | hn
   ·exact hl n hn
   ·obtain ⟨r1,r2,_⟩:=wAz R b l
    simp at hn
    subst hn
    exact ⟨r1,r2⟩
theorem wLo {R:Int}:∀ {s:List wAA} {l r:List Int},fl R s l=some r->(∀ n,0 < n->l.count n <= 1)->∀ n,0 < n->r.count n <= 1
 | [],l,r,h,hl=>by cases h;exact hl
 | b :: s,l,r,h,hl=>by
  rw [fl] at h
  split at h
  ·cases h
  ·refine wLo h fun n hn=>?_
   obtain ⟨_,_,r3⟩:=wAz R b l
   rw [nT]
   by_cases e:n=wAu R b l
   ·subst e
    rw [nL.2 (r3 hn)]
    simp
   ·rw [nL (l:=[wAu R b l]).2 (by simp [e])]
    exact hl n hn
theorem wKS:∀ {l:List Int},(∀ n ∈ l,0 <= n/\n <= 5)->wNE l=wDN l
 | [],_=>rfl
 | a :: l,h=>by
  have ih:=wKS (l:=l) fun n hn=>h n (by simp [hn])
  have h0:=h a (by simp)
  unfold wNE wDN at ih ⊢
  rw [List.countP_cons,ih]
  have:a=0 \/ a=1 \/ a=2 \/ a=3 \/ a=4 \/ a=5:=by omega
  rcases this with rfl | rfl | rfl | rfl | rfl | rfl <;> simp <;> omega
end Go.Proofs.YthbficbpebiekaaGreat
namespace Go.Proofs.YthbficbpebiekaaGreat
open Go.KL
def wAt (s:wAA):Prop:=-20000 <= s.X/\s.X <= 20000/\-20000 <= s.Y/\s.Y <= 20000
theorem wMo {x:Int} {b:Int} (h:-b <= x) (h2:x <= b):0 <= x * x/\x * x <= b * b:=by
 refine ⟨?_,?_⟩
 ·rcases Int.le_total 0 x with h0 | h0
  ·exact nS h0 h0
  ·have:=nS (show 0 <= -x by omega) (show 0 <= -x by omega)
   rwa [Int.neg_mul_neg] at this
 ·have h3:0 <= (b - x) * (b + x):=nS (by omega) (by omega)
  have h4:(b - x) * (b + x)=b * b - x * x:=by
   rw [nz,nV,nV,Int.mul_comm x b];omega
  omega
theorem fD_eq {s:wAA} (hs:wAt s) {n:Int} (h1:1 <= n) (h5:n <= 5):fD s n=(s.X - 2500 * (n - 1)) * (s.X - 2500 * (n - 1)) + s.Y * s.Y:=by
 obtain ⟨a,b,c,d⟩:=hs
 unfold fD
 rw [wAd (x:=n - 1) (by omega) (by omega),wAd (x:=2500 * (n - 1)) (by omega) (by omega),wAd (x:=s.X - 2500 * (n - 1)) (by omega) (by omega)]
 obtain ⟨x1,x2⟩:=wMo (x:=s.X - 2500 * (n - 1)) (b:=30000) (by omega) (by omega)
 obtain ⟨y1,y2⟩:=wMo (x:=s.Y) (b:=20000) c d
 rw [wAd (x:=(s.X - 2500 * (n - 1)) * (s.X - 2500 * (n - 1))) (by omega) (by omega),wAd (x:=s.Y * s.Y) (by omega) (by omega),wAd (by omega) (by omega)]
theorem wKT {s:wAA} (hs:wAt s) {n R:Int} (h1:1 <= n) (h5:n <= 5) (hR:R <= 330625) (h:fD s n <= R):-575 <= s.X - 2500 * (n - 1)/\s.X - 2500 * (n - 1) <= 575:=by
 rw [fD_eq hs h1 h5] at h
 obtain ⟨y1,_⟩:=wMo (x:=s.Y) (b:=20000) hs.2.2.1 hs.2.2.2
 generalize s.X - 2500 * (n - 1)=x at h
 have hx:x * x <= 330625:=by omega
 refine ⟨?_,?_⟩
 ·rcases Int.lt_or_le x (-575) with c | c
  ·have:=nS (show 0 <= -x - 576 by omega) (show 0 <= -x + 576 by omega)
   rw [nz,nV,nV,Int.neg_mul_neg] at this
   omega
  ·exact c
 ·rcases Int.lt_or_le 575 x with c | c
  ·have:=nS (show 0 <= x - 576 by omega) (show 0 <= x + 576 by omega)
   rw [nz,nV,nV] at this
   omega
  ·exact c
theorem wFd {s:wAA} (hs:wAt s) {n m R:Int} (h1:1 <= n) (h5:n <= 5) (m1:1 <= m) (m5:m <= 5) (hR:R <= 330625) (h:fD s n <= R) (hm:fD s m <= R):n=m:=by
 have a:=wKT hs h1 h5 hR h
 have b:=wKT hs m1 m5 hR hm
 omega
def tgt (R:Int) (s:wAA):Int:=wAu R s []
theorem wBs {R:Int} {s:wAA} {l:List Int} (h:0 < wAu R s l):fD s (wAu R s l) <= R/\wAu R s l ∉ l:=by
 have hh:∀ n,wIK R s l n=true->fD s n <= R/\n ∉ l:=fun n hn=>by
  unfold wIK at hn
  simp only [nE,nw,decide_eq_false_iff_not,decide_eq_true_eq] at hn
  exact ⟨hn.2,hn.1⟩
 unfold wAu at h ⊢
 split
 ·rename_i e;exact hh _ e
 ·rename_i e5
  rw [if_neg e5] at h
  split
  ·rename_i e;exact hh _ e
  ·rename_i e4
   rw [if_neg e4] at h
   split
   ·rename_i e;exact hh _ e
   ·rename_i e3
    rw [if_neg e3] at h
    split
    ·rename_i e;exact hh _ e
    ·rename_i e2
     rw [if_neg e2] at h
     split
     ·rename_i e;exact hh _ e
     ·rename_i e1
      rw [if_neg e1] at h
      omega
theorem wEi {R:Int} {s:wAA} {l:List Int} (h:wAu R s l=0) {n:Int} (h1:1 <= n) (h5:n <= 5) (hl:n ∉ l):¬ fD s n <= R:=by
 intro hn
 have hh:wIK R s l n=true:=by unfold wIK;simp [hl,hn]
 unfold wAu at h
 split at h
 ·omega
 ·rename_i e5
  split at h
  ·omega
  ·rename_i e4
   split at h
   ·omega
   ·rename_i e3
    split at h
    ·omega
    ·rename_i e2
     split at h
     ·omega
     ·rename_i e1
      have:n=1 \/ n=2 \/ n=3 \/ n=4 \/ n=5:=by omega
      rcases this with rfl | rfl | rfl | rfl | rfl <;> contradiction
theorem wLI {R:Int} (hR:R <= 330625) {s:wAA} (hs:wAt s) (l:List Int):wAu R s l=if tgt R s ∈ l then 0 else tgt R s:=by
 obtain ⟨t0,t5,_⟩:=wAz R s []
 obtain ⟨p0,p5,_⟩:=wAz R s l
 unfold tgt
 by_cases c:0 < wAu R s []
 ·obtain ⟨n1,_⟩:=wBs c
  by_cases m:wAu R s [] ∈ l
  ·rw [if_pos m]
   by_cases c2:0 < wAu R s l
   ·obtain ⟨n2,n3⟩:=wBs c2
    have:=wFd hs (by omega) p5 (by omega) t5 hR n2 n1
    rw [this] at n3
    exact absurd m n3
   ·omega
  ·rw [if_neg m]
   by_cases c2:0 < wAu R s l
   ·obtain ⟨n2,n3⟩:=wBs c2
    exact wFd hs (by omega) p5 (by omega) t5 hR n2 n1
   ·exact absurd n1 (wEi (show wAu R s l=0 by omega) (by omega) t5 m)
 ·have z:wAu R s []=0:=by omega
  rw [z]
  have:wAu R s l=0:=by
   by_cases c2:0 < wAu R s l
   ·obtain ⟨n2,n3⟩:=wBs c2
    exact absurd n2 (wEi z (by omega) p5 (by simp))
   ·omega
  rw [this];split <;> rfl
theorem wLp {R:Int} (hR:R <= 330625):∀ {s:List wAA} {l r:List Int},(∀ x ∈ s,wAt x)->fl R s l=some r->∀ n,0 < n->(n ∈ r ↔ n ∈ l \/ n ∈ s.map (tgt R))
 | [],l,r,_,h,n,_=>by cases h;simp
 | b :: s,l,r,hs,h,n,hn=>by
  rw [fl] at h
  split at h
  ·cases h
  ·rw [wLp hR (fun x hx=>hs x (by simp [hx])) h n hn,wLI hR (hs b (by simp)) l]
   by_cases m:tgt R b ∈ l
   ·rw [if_pos m]
    simp only [nD,nf,nJ,List.not_mem_nil,or_false]
    constructor
    ·rintro ((h | h) | h)
     ·exact .inl h
     ·omega
     ·exact .inr (.inr h)
    ·rintro (h | h | h)
     ·exact .inl (.inl h)
     ·subst h;exact .inl (.inl m)
     ·exact .inr h
   ·rw [if_neg m]
    simp only [nD,nf,nJ,List.not_mem_nil,or_false]
    constructor
    ·rintro ((h | h) | h)
     ·exact .inl h
     ·exact .inr (.inl h)
     ·exact .inr (.inr h)
    ·rintro (h | h | h)
     ·exact .inl (.inl h)
     ·exact .inl (.inr h)
     ·exact .inr h
def wLJ (t:List Int):Prop:=1 ∈ t/\2 ∈ t/\3 ∈ t/\4 ∈ t/\5 ∈ t
theorem wDa {a b:List Int} (h:∀ n,0 < n->n ∈ a->n ∈ b) (ha:wLJ a):wLJ b :=
 ⟨h _ (by decide) ha.1,h _ (by decide) ha.2.1,h _ (by decide) ha.2.2.1,h _ (by decide) ha.2.2.2.1,h _ (by decide) ha.2.2.2.2⟩
theorem wBM {l:List Int} {n:Int} (h:l.count n <= 1):l.count n=if n ∈ l then 1 else 0:=by
 split
 ·rename_i m
  have:=nu.2 m
  omega
 ·rename_i m;exact nL.2 m
theorem wKU {l:List Int} (h:∀ n,0 < n->l.count n <= 1):wDN l=5 ↔ wLJ l:=by
 unfold wDN wLJ
 rw [wBM (h 1 (by omega)),wBM (h 2 (by omega)),wBM (h 3 (by omega)),wBM (h 4 (by omega)),wBM (h 5 (by omega))]
 by_cases a:(1:Int) ∈ l <;> by_cases b:(2:Int) ∈ l <;> by_cases c:(3:Int) ∈ l <;> by_cases d:(4:Int) ∈ l <;> by_cases e:(5:Int) ∈ l <;> simp [a,b,c,d,e]
theorem wKV {l r:List Int} (hl:∀ n,0 < n->l.count n <= 1) (hr:∀ n,0 < n->r.count n <= 1) (h:∀ n,0 < n->n ∈ l->n ∈ r):wDN l <= wDN r:=by
 have key:∀ n:Int,0 < n->l.count n <= r.count n:=fun n hn=>by
  rw [wBM (hl n hn),wBM (hr n hn)]
  split
  ·rename_i m;rw [if_pos (h n hn m)];exact nU _
  ·exact Nat.zero_le _
 unfold wDN
 have:=key 1 (by omega);have:=key 2 (by omega);have:=key 3 (by omega);have:=key 4 (by omega);have:=key 5 (by omega)
 omega
theorem wCU {R:Int} {s:List wAA} {r:List Int} (h:fl R s []=some r):∀ n,0 < n->r.count n <= 1:=wLo h (fun _ _=>by simp)
theorem wCt {R:Int} (hR:R <= 330625) {s:List wAA} {r:List Int} (hs:∀ x ∈ s,wAt x) (h:fl R s []=some r) (n:Int) (hn:0 < n):n ∈ r ↔ n ∈ s.map (tgt R):=by
 rw [wLp hR hs h n hn];simp
theorem wKW {R:Int} (hR:R <= 330625) (a:wAA):∀ {s:List wAA},(∀ x ∈ s,wAt x)->(fl R (s ++ [a]) []=none ↔ wLJ (s.map (tgt R))):=by
 intro s
 induction hn:s.length generalizing s a with
 | zero =>
  intro hs
  have:s=[]:=List.eq_nil_of_length_eq_zero hn
  subst this
  refine ⟨fun h=>?_,fun h=>absurd h.1 (by simp)⟩
  rw [List.nil_append,fl,if_neg (by decide),fl] at h
  cases h
 | succ n ih =>
  intro hs
  have hne:s ≠ []:=fun e=>by subst e;simp at hn
  obtain ⟨s',b,rfl⟩:∃ s' b,s=s' ++ [b]:=⟨s.dropLast,s.getLast hne,(nc hne).symm⟩
  rw [wKR R a (s' ++ [b]) []]
  have hs':∀ x ∈ s',wAt x:=fun x hx=>hs x (by simp [hx])
  have hl':s'.length=n:=by simp at hn;omega
  cases hf:fl R (s' ++ [b]) [] with
  | none =>
   refine ⟨fun _=>?_,fun _=>rfl⟩
   have:=(ih b hl' hs').1 hf
   exact wDa (fun n _ h=>by simp only [nZ,nD];exact .inl h) this
  | some r =>
   simp only [nA]
   have e:wDN r=5 ↔ wLJ ((s' ++ [b]).map (tgt R)):=by
    rw [wKU (wCU hf)]
    exact ⟨wDa (fun n h0 h=>(wCt hR hs hf n h0).1 h),wDa (fun n h0 h=>(wCt hR hs hf n h0).2 h)⟩
   rw [<- e]
   by_cases c:wDN r=5
   ·rw [if_pos c];simp [c]
   ·rw [if_neg c];simp [c]
theorem wHf {R:Int} (hR:R <= 330625) {s:List wAA} (hs:∀ x ∈ s,wAt x) (h:fl R s []=none):∃ s' a,s=s' ++ [a]/\wLJ (s'.map (tgt R)):=by
 have hne:s ≠ []:=fun e=>by subst e;cases h
 have e:=(nc hne).symm
 rw [e] at h
 exact ⟨_,_,e,(wKW hR _ (fun x hx=>hs x ((List.dropLast_sublist s).subset hx))).1 h⟩
theorem wHB {R:Int} (hR:R <= 330625) {s:List wAA} (hs:∀ x ∈ s,wAt x) (h:fl R s []=none):wLJ (s.map (tgt R)):=by
 obtain ⟨s',a,e,h5⟩:=wHf hR hs h
 subst e
 exact wDa (fun n _ h=>by simp only [nZ,nD];exact .inl h) h5
theorem wMp {R:Int} (hR:R <= 330625) {s t:List wAA} (hp:s.Perm t) (hs:∀ x ∈ s,wAt x) {a b:List Int} (ha:fl R s []=some a) (hb:fl R t []=some b):a.Perm b:=by
 have ht:∀ x ∈ t,wAt x:=fun x hx=>hs x (hp.mem_iff.2 hx)
 have hmem:∀ n,0 < n->(n ∈ a ↔ n ∈ b):=fun n hn=>by
  rw [wCt hR hs ha n hn,wCt hR ht hb n hn]
  exact (hp.map _).mem_iff
 have hpos:∀ n,0 < n->a.count n=b.count n:=fun n hn=>by
  rw [wBM (wCU ha n hn),wBM (wCU hb n hn)]
  by_cases m:n ∈ a
  ·rw [if_pos m,if_pos ((hmem n hn).1 m)]
  ·rw [if_neg m,if_neg (fun h=>m ((hmem n hn).2 h))]
 have hla:a.length=s.length:=by have:=wFH ha;simpa using this
 have hlb:b.length=t.length:=by have:=wFH hb;simpa using this
 have hlen:a.length=b.length:=by rw [hla,hlb,hp.length_eq]
 have ra:=wGI ha (by simp)
 have rb:=wGI hb (by simp)
 have zero:∀ {l:List Int},(∀ n ∈ l,0 <= n/\n <= 5)->l.length=l.count 0 + wDN l:=by
  intro l
  induction l with
  | nil=>intro _;rfl
  | cons x l ih =>
   intro h
   have e:=ih (fun n hn=>h n (by simp [hn]))
   have hx:=h x (by simp)
   unfold wDN at e ⊢
   have:x=0 \/ x=1 \/ x=2 \/ x=3 \/ x=4 \/ x=5:=by omega
   rw [nj,e]
   rcases this with rfl | rfl | rfl | rfl | rfl | rfl <;> simp <;> omega
 have z:a.count 0=b.count 0:=by
  have e1:=zero ra
  have e2:=zero rb
  unfold wDN at e1 e2
  have:=hpos 1 (by omega);have:=hpos 2 (by omega);have:=hpos 3 (by omega);have:=hpos 4 (by omega);have:=hpos 5 (by omega)
  omega
 refine List.perm_iff_count.2 fun n=>?_
 rcases Int.lt_trichotomy n 0 with h | h | h
 ·rw [nL.2 (fun m=>by have:=ra n m;omega),nL.2 (fun m=>by have:=rb n m;omega)]
 ·subst h;exact z
 ·exact hpos n h
theorem wMq {s:wAA} (hs:wAt s) (h:0 < tgt 50625 s):tgt 330625 s=tgt 50625 s:=by
 obtain ⟨_,t5,_⟩:=wAz 50625 s []
 obtain ⟨u0,u5,_⟩:=wAz 330625 s []
 unfold tgt at h ⊢
 obtain ⟨n1,_⟩:=wBs h
 have n1':fD s (wAu 50625 s []) <= 330625:=by omega
 by_cases c:0 < wAu 330625 s []
 ·obtain ⟨n2,_⟩:=wBs c
  exact wFd hs (by omega) u5 (by omega) t5 (by omega) n2 n1'
 ·exact absurd n1' (wEi (show wAu 330625 s []=0 by omega) (by omega) t5 (by simp))
theorem wHg {s:List wAA} (hs:∀ x ∈ s,wAt x) (n:Int) (hn:0 < n) (h:n ∈ s.map (tgt 50625)):n ∈ s.map (tgt 330625):=by
 obtain ⟨x,hx,e⟩:=nv.1 h
 exact nv.2 ⟨x,hx,by rw [wMq (hs x hx) (by omega),e]⟩
theorem wIN {s:List wAA} (hs:∀ x ∈ s,wAt x) (h:fl 50625 s []=none):fl 330625 s []=none:=by
 obtain ⟨s',a,e,h5⟩:=wHf (by omega) hs h
 subst e
 have hs':∀ x ∈ s',wAt x:=fun x hx=>hs x (by simp [hx])
 exact (wKW (by omega) a hs').2 (wDa (wHg hs') h5)
theorem wKX {s:List wAA} (hs:∀ x ∈ s,wAt x) {a b:List Int} (ha:fl 50625 s []=some a) (hb:fl 330625 s []=some b):wDN a <= wDN b :=
 wKV (wCU ha) (wCU hb) fun n hn h=>(wCt (by omega) hs hb n hn).2 (wHg hs n hn ((wCt (by omega) hs ha n hn).1 h))
theorem wKY {R:Int}:∀ {s:List wAA} {l r:List Int} (k:Nat),fl R s l=some r->k <= s.length->fl R (s.take k) l=some (r.take (l.length + k))
 | s,l,r,0,h,_=>by
  rw [List.take_zero,fl]
  congr 1
  have:∀ {s:List wAA} {l r:List Int},fl R s l=some r->r.take l.length=l:=by
   intro s
   induction s with
   | nil=>intro l r h;cases h;simp
   | cons b s ih =>
    intro l r h
    rw [fl] at h
    split at h
    ·cases h
    ·have e:=ih h
     rw [List.length_append] at e
     have:=congrArg (List.take l.length) e
     rw [List.take_take,Nat.min_eq_left (by omega)] at this
     simpa using this
  exact (this h).symm
 | [],l,r,k + 1,h,hk=>by simp at hk
 | b :: s,l,r,k + 1,h,hk=>by
  rw [fl] at h
  rw [List.take_succ_cons,fl]
  split at h
  ·cases h
  ·rename_i c
   rw [if_neg c,wKY k h (by simp at hk;omega)]
   congr 2
   simp;omega
end Go.Proofs.YthbficbpebiekaaGreat
namespace Go.Proofs.YthbficbpebiekaaGreat
open Go.KL
theorem wKZ {a b:Int} (h0:0 <= a) (hb:0 < b):∃ x,rem a b=some x/\0 <= x/\x < b:=by
 refine ⟨a.tmod b,if_neg (by omega),?_,?_⟩
 ·rw [nh h0];exact Int.emod_nonneg _ (by omega)
 ·rw [nh h0];exact Int.emod_lt_of_pos _ hb
theorem wHC (x:Int):0 <= wCG x:=by unfold wCG;omega
theorem wMr (x:Int):wCG x < 4294967296:=by unfold wCG;omega
theorem w64u (x:Int):w64 (wCG x)=wCG x:=by
 have:=wHC x
 have:=wMr x
 exact wAd (by omega) (by omega)
theorem wLK (a:Int) {b:Int} (hb:b ≠ 0):∃ x,quo a b=some x:=⟨_,if_neg hb⟩
theorem wFe (d:wAB) (n:Int) (h0:0 <= d.next) (h1:d.next <= 1000000):∃ x d',wAI d n=some (x,d')/\0 <= d'.next/\d'.next <= d.next + 1/\0 <= x/\(x < n \/ (n <= 1/\x=0)):=by
 unfold wAI
 by_cases hn:n <= 1
 ·exact ⟨0,d,by rw [if_pos hn],h0,by omega,by omega,.inr ⟨hn,rfl⟩⟩
 rw [if_neg hn]
 by_cases hl:(d.bytes.length:Int)=0
 ·exact ⟨0,d,by rw [if_pos hl],h0,by omega,by omega,.inl (by omega)⟩
 rw [if_neg hl]
 obtain ⟨r,e1,r0,r1⟩:=wKZ h0 (show (0:Int) < d.bytes.length by omega)
 obtain ⟨b,e2⟩:∃ b,idx d.bytes r=some b:=by
  unfold idx
  rw [if_pos r0,nB (by omega)]
  exact ⟨_,rfl⟩
 obtain ⟨q,e3⟩:=wLK d.next (b:=d.bytes.length) hl
 obtain ⟨st,e4,_,_⟩:=wKZ (wHC ((wCG ((wCG ((wCG (d.state * 45)) + (wCG b))) + (wCG (77 * (wCG q))))) + 1)) (b:=65519) (by decide)
 rw [e1,nA,e2,nA,e3,nA,e4,nA,wAd (x:=d.next + 1) (by omega) (by omega)]
 have fin:∀ z:Int,∃ x d',((rem (w64 (wCG z)) n).bind fun x=>some (x,(⟨d.bytes,d.next + 1,st⟩:wAB)))=some (x,d')/\0 <= d'.next/\d'.next <= d.next + 1/\0 <= x/\(x < n \/ (n <= 1/\x=0)):=by
  intro z
  obtain ⟨x,e5,x0,x1⟩:=wKZ (a:=w64 (wCG z)) (b:=n) (by rw [w64u];exact wHC z) (by omega)
  exact ⟨x,_,by rw [e5];rfl,by show 0 <= d.next + 1;omega,by show d.next + 1 <= _;omega,x0,.inl x1⟩
 by_cases c1:wCG q=0
 ·rw [if_pos c1]
  by_cases c2:n <= 256
  ·rw [if_pos c2];exact fin _
  ·rw [if_neg c2];exact fin _
 ·rw [if_neg c1];exact fin _
theorem wKa (d:wAB) (a b:Int) (h0:0 <= d.next) (h1:d.next <= 1000000) (ha:-1000000 <= a) (hab:a <= b) (hb:b <= 1000000):∃ x d',wAG d a b=some (x,d')/\0 <= d'.next/\d'.next <= d.next + 1/\a <= x/\x <= b:=by
 unfold wAG
 rw [wAd (x:=b - a) (by omega) (by omega),wAd (x:=b - a + 1) (by omega) (by omega)]
 obtain ⟨x,d',e,n0,n1,x0,x1⟩:=wFe d (b - a + 1) h0 h1
 refine ⟨a + x,d',?_,n0,n1,by omega,by omega⟩
 rw [e,nA]
 simp only
 rw [wAd (by omega) (by omega)]
end Go.Proofs.YthbficbpebiekaaGreat
namespace Go.KL
variable {S B α:Type}
theorem wLL {body:S->Option (S ⊕ B)} (I:Nat->S->Prop) (Z:B->Prop) (m:Nat) (step:∀ i s,i <= m->I i s->(i < m/\∃ s',body s=some (.inl s')/\I (i + 1) s') \/ ∃ b,body s=some (.inr b)/\Z b) {s0:S} (h0:I 0 s0) (hm:m < 1000000):∃ b,iter body big s0=some b/\Z b:=by
 have key:∀ (d i:Nat) (s:S),i + d=m->I i s->∀ F,d < F->∃ b,iter body F s=some b/\Z b:=by
  intro d
  induction d with
  | zero =>
   intro i s hi hI F hF
   obtain ⟨F,rfl⟩:∃ G,F=G + 1:=⟨F - 1,by omega⟩
   rcases step i s (by omega) hI with ⟨h,_⟩ | ⟨b,h1,h2⟩
   ·omega
   ·exact ⟨b,by rw [iter,h1],h2⟩
  | succ d ih =>
   intro i s hi hI F hF
   obtain ⟨F,rfl⟩:∃ G,F=G + 1:=⟨F - 1,by omega⟩
   rcases step i s (by omega) hI with ⟨_,s',h1,h2⟩ | ⟨b,h1,h2⟩
   ·obtain ⟨b,h3,h4⟩:=ih (i + 1) s' (by omega) h2 F (by omega)
    exact ⟨b,by rw [iter,h1];exact h3,h4⟩
   ·exact ⟨b,by rw [iter,h1],h2⟩
 exact key m 0 s0 (by omega) h0 big (by unfold big;omega)
theorem wLM [Inhabited α] {l:List α} {k:Nat} (h:k < l.length):gd l k=l[k]:=by
 have:=wFl h
 rw [nB h] at this
 exact (nN this).symm
end Go.KL
namespace Go.Proofs.YthbficbpebiekaaGreat
open Go.KL
theorem wLN {l:List Int} {i k:Int} (i0:0 <= i) (i1:i < l.length) (k0:0 <= k) (k1:k < l.length):(List.set (List.set l i.toNat (gd l k.toNat)) k.toNat (gd l i.toNat)).Perm l:=by
 rw [wLM (show k.toNat < l.length by omega),wLM (show i.toNat < l.length by omega)]
 exact List.set_set_perm (by omega) (by omega)
theorem wIO (d:wAB) (n:Nat) (h0:0 <= d.next) (h1:d.next <= 100000) (hn:n <= 1000):∃ l d',wAR d (n:Int)=some (l,d')/\0 <= d'.next/\d'.next <= d.next + n/\l.Perm ((nR n).map fun (k:Nat)=>(k:Int)):=by
 unfold wAR
 have e1:max (0:Int) n=n:=by omega
 rw [e1,wDZ (by omega)]
 obtain ⟨s,hs,hI⟩:=wDM (body:=fun (k19:Nat) (l15:List Int)=>(app 8 l15 [(k19:Int)]).bind fun x47=>some x47) (fun k l=>l=(nR k).map fun (k:Nat)=>(k:Int)) n 0 [] rfl (fun i s _ hi e=>by
  subst e
  refine ⟨_,by rw [app,if_pos (by simp;omega)];rfl,?_⟩
  rw [List.range_succ,nZ];rfl)
 rw [hs,nA]
 rw [na] at hI
 have hlen:s.length=n:=by rw [hI];simp
 rw [wAd (by omega) (by omega)]
 refine (wLL (I:=fun j (st:List Int × Int × Int × List Int × Int)=>st.2.2.2.1.Perm s/\0 <= st.2.1/\st.2.1 <= d.next + j/\st.2.2.2.2=(s.length:Int) - 1 - j) (Z:=fun (b:List Int × wAB)=>0 <= b.2.next/\b.2.next <= d.next + n/\b.1.Perm s) n ?_ ⟨List.Perm.refl _,by simpa using h0,by simp,by simp⟩ (by omega)).elim fun b hb=>⟨b.1,b.2,hb.1,hb.2.1,hb.2.2.1,hI ▸ hb.2.2.2⟩
 rintro j ⟨b,nx,st,l,i⟩ hj ⟨hp,n0,n1,hi⟩
 simp only at hp n0 n1 hi ⊢
 have hl:l.length=s.length:=hp.length_eq
 by_cases c:0 < i
 ·left
  refine ⟨by omega,?_⟩
  rw [if_pos c,wAd (x:=i + 1) (by omega) (by omega)]
  obtain ⟨x,d',e,m0,m1,x0,x1⟩:=wFe ⟨b,nx,st⟩ (i + 1) n0 (by simp only;omega)
  have x1':x < l.length:=by omega
  rw [e,nA]
  simp only
  rw [wCb x0 (by omega),nA,wCb (by omega) (by omega),nA,wCb x0 (by rw [List.length_set];omega),nA,wAd (by omega) (by omega)]
  exact ⟨_,rfl,(wLN (by omega) (by omega) x0 x1').trans hp,m0,by simp only at m1 ⊢;omega,by simp only;omega⟩
 ·right
  rw [if_neg c]
  exact ⟨_,rfl,n0,by simp only;omega,hp⟩
theorem wLO {α:Type} [Inhabited α] {l:List α} {p:List Int} (h:p.Perm ((nR l.length).map fun (k:Nat)=>(k:Int))):(p.map fun i=>gd l i.toNat).Perm l:=by
 have:=h.map fun i=>gd l i.toNat
 refine this.trans ?_
 rw [List.map_map]
 have e:(nR l.length).map ((fun i:Int=>gd l i.toNat) ∘ fun (k:Nat)=>(k:Int))=l:=by
  refine List.ext_getElem (by simp) fun i h1 h2=>?_
  simp only [List.getElem_map,List.getElem_range,Function.comp]
  rw [Int.toNat_natCast,wLM h2]
 rw [e]
theorem wMs {p:List Int} {n:Nat} (h:p.Perm ((nR n).map fun (k:Nat)=>(k:Int))):∀ i ∈ p,0 <= i/\i < n:=by
 intro i hi
 obtain ⟨k,hk,e⟩:=nv.1 (h.mem_iff.1 hi)
 have:=List.mem_range.1 hk
 omega
end Go.Proofs.YthbficbpebiekaaGreat
namespace Go.Proofs.YthbficbpebiekaaGreat
open Go.KL
theorem wMt (d:wAB) (h0:d.next=0):∃ l d',wAc d 8=some (l,d')/\l.length <= 8/\∀ s ∈ l,wAt s:=by
 unfold wAc
 rw [wAd (by omega) (by omega)]
 obtain ⟨x,d1,e,m0,m1,x0,x1⟩:=wFe d (8 + 1) (by omega) (by omega)
 rw [e,nA]
 simp only
 have hx:x <= 8:=by omega
 unfold wCY
 rw [if_pos (by omega)]
 obtain ⟨⟨b,nx,st,l⟩,hs,hI⟩:=wDM (body:=fun (k53:Nat) ((l44,x47,x48,l49):List Int × Int × Int × List wAA) =>
  (wAI (⟨l44,x47,x48⟩:wAB) 5).bind fun (x80,x81) =>
  (wAG x81 (-60) 60).bind fun (x94,x95) =>
  (wAG x95 (-40) 40).bind fun (x108,x109) =>
  (app 16 l49 [(⟨w64 ((w64 (2500 * x80)) + (w64 (10 * x94))),w64 (10 * x108)⟩:wAA)]).bind fun x127 =>
  some (x109.bytes,x109.next,x109.state,x127)) (fun (k:Nat) (s:List Int × Int × Int × List wAA)=>0 <= s.2.1/\s.2.1 <= 1 + 3 * (k:Int)/\s.2.2.2.length=k/\∀ z ∈ s.2.2.2,wAt z) (x - 0).toNat 0 (d1.bytes,d1.next,d1.state,[]) ⟨m0,by simp only;omega,rfl,by simp⟩ (by
   rintro i ⟨b,nx,st,l⟩ hi0 hi1 ⟨n0,n1,hl,hz⟩
   simp only at n0 n1 hl hz ⊢
   obtain ⟨a,d2,e2,p0,p1,a0,a1⟩:=wFe ⟨b,nx,st⟩ 5 n0 (by simp only;omega)
   obtain ⟨y,d3,e3,q0,q1,y0,y1⟩:=wKa d2 (-60) 60 p0 (by simp only at p1;omega) (by omega) (by omega) (by omega)
   obtain ⟨v,d4,e4,r0,r1,v0,v1⟩:=wKa d3 (-40) 40 q0 (by simp only at p1;omega) (by omega) (by omega) (by omega)
   rw [e2,nA]
   simp only
   rw [e3,nA]
   simp only
   rw [e4,nA]
   simp only
   have a5:a <= 4:=by omega
   rw [wAd (x:=2500 * a) (by omega) (by omega),wAd (x:=10 * y) (by omega) (by omega),wAd (x:=2500 * a + 10 * y) (by omega) (by omega),wAd (x:=10 * v) (by omega) (by omega),app,if_pos (by simp;omega),nA]
   refine ⟨_,rfl,r0,by simp only at p1 ⊢;omega,by simp [hl],fun z hz'=>?_⟩
   simp only at hz'
   rcases nD.1 hz' with h | h
   ·exact hz z h
   ·have:=nr.1 h
    subst this
    unfold wAt
    simp only
    omega)
 rw [hs,nA]
 simp only at hI ⊢
 exact ⟨l,_,rfl,by omega,hI.2.2.2⟩
theorem wLP {x16:List wAA} {x50:List Int} (h8:x16.length <= 8) (hp:x50.Perm ((nR x16.length).map fun (k:Nat)=>(k:Int))):∃ m,(wCY 0 (↑x50.length:Int) (fun k84 l80 =>
  (chk (↑k84:Int) x50.length).bind fun _ =>
  (chk (gd x50 k84) x16.length).bind fun _ =>
  (app 16 l80 [(gd x16 (gd x50 k84).toNat)]).bind fun x123 =>
  some x123) [])=some m/\m.Perm x16:=by
 have hl:x50.length=x16.length:=by rw [hp.length_eq];simp
 refine ⟨x50.map fun i=>gd x16 i.toNat,?_,wLO hp⟩
 rw [wDZ (by omega)]
 obtain ⟨s,hs,hI⟩:=wDM (body:=fun (k84:Nat) (l80:List wAA) =>
  (chk (↑k84:Int) x50.length).bind fun _ =>
  (chk (gd x50 k84) x16.length).bind fun _ =>
  (app 16 l80 [(gd x16 (gd x50 k84).toNat)]).bind fun x123 =>
  some x123) (fun k s=>s=(x50.take k).map fun i=>gd x16 i.toNat) x50.length 0 [] rfl (by
   intro i s _ hi e
   have hi':i < x50.length:=by omega
   have hg:=wLM hi'
   have hr:=wMs hp x50[i] (ni hi')
   subst e
   rw [hg,wCb (by omega) (by omega),nA,wCb hr.1 hr.2,nA,app,if_pos (by simp;omega),nA]
   refine ⟨_,rfl,?_⟩
   rw [ny,nB hi',nZ];rfl)
 rw [hs,hI,na,List.take_length]
def fRd (x16 y89:List wAA) (k187:Nat):Arr Bool 2 × Arr Int 2->Option ((Arr Bool 2 × Arr Int 2) ⊕ Bool)
 | (a185,a186) =>
  (wAN (↑k187:Int) x16).bind fun (x210,x211) =>
  (wAj (↑k187:Int) x16).bind fun (x225,x226) =>
  (wAp (↑k187:Int) x16).bind fun (x237,x238) =>
  (if x211=x226 then
   if x211=x238 then
    if x211=0 then
     some false
    else
     some (decide (¬ (x211=9)))
   else
    some true
  else
   some true).bind fun b248 =>
  if b248=true then
   esc (some false)
  else
   (chk (↑k187:Int) 2).bind fun _ =>
   if x211=0 then
    if (↑x210.length:Int)=(↑x16.length:Int) then
     if x237=(max 0 (w64 ((↑x16.length:Int) - 5))) then
      jn (wGP 0 (↑x210.length:Int) (fun k337 l334 =>
       (idx x210 (↑k337:Int)).bind fun x366 =>
       (if x366 < 0 then
        some true
       else
        if 5 < x366 then
         some true
        else
         if 0 < x366 then
          some (wDE l334 x366 false)
         else
          some false).bind fun b374 =>
       if b374=true then
        esc (esc (some false))
       else
        (cut x16 0 (↑k337:Int)).bind fun x426 =>
        (wAN (↑k187:Int) x426).bind fun (x443,x444) =>
        if x444=0 then
         (cut x210 0 (↑k337:Int)).bind fun x459 =>
         (wAL x443 x459).bind fun x479 =>
         if x479=true then
          some (.inl (mput l334 x366 true))
         else
          esc (esc (some false))
        else
         esc (esc (some false))) (mput ([]:List (Int × Bool)) 0 true)) fun y512 =>
      if x225=(w64 (6 - (↑(y512.length):Int))) then
       (wAN (↑k187:Int) y89).bind fun (x541,x542) =>
       if x542=0 then
        (wAM x210).bind fun x559 =>
        (wAM x541).bind fun x577 =>
        (wAO x559).bind fun x590 =>
        (wAO x577).bind fun x602 =>
        (wAL x590 x602).bind fun x625 =>
        if x625=true then
         some (.inl ((a185.set k187 (decide (¬ (x211=0)))),(a186.set k187 x225)))
        else
         esc (some false)
       else
        if x542=9 then
         if 0 < x225 then
          esc (some false)
         else
          some (.inl ((a185.set k187 (decide (¬ (x211=0)))),(a186.set k187 x225)))
        else
         esc (some false)
      else
       esc (some false)
     else
      esc (some false)
    else
     esc (some false)
   else
    some (.inl ((a185.set k187 (decide (¬ (x211=0)))),(a186.set k187 x225)))
theorem wFf (p0 p1:List Int):wAZ p0 p1=(wAl p0).bind fun x1 =>
 (wAc x1 8).bind fun (x16,x17) =>
 (wAl p1).bind fun x35 =>
 (wAR x35 (↑x16.length:Int)).bind fun (x50,x51) =>
 (wCY 0 (↑x50.length:Int) (fun k84 l80 =>
  (chk (↑k84:Int) x50.length).bind fun _ =>
  (chk (gd x50 k84) x16.length).bind fun _ =>
  (app 16 l80 [(gd x16 (gd x50 k84).toNat)]).bind fun x123 =>
  some x123) []).bind fun y89 =>
 jn (wGP 0 2 (fRd x16 y89) ((Arr.fill 2 false),(Arr.fill 2 0))) fun (y677,y678) =>
 if (y677.get (0))=true then
  if (y677.get 1)=true then
   (wAW).bind fun x695 =>
   some x695
  else
   some false
 else
  if (y677.get 1)=true then
   (wAW).bind fun x711 =>
   some x711
  else
   if (y678.get 1) <= (y678.get (0)) then
    (wAW).bind fun x727 =>
    some x727
   else
    some false:=rfl
def lps:Option (List Int)->Int × Int
 | none=>(0,9)
 | some l=>(5 - (wDN l:Int),0)
def sps:Option (List Int)->Int × Int
 | none=>(0,9)
 | some l=>(max 0 ((l.length:Int) - 5),0)
theorem wBt {s:List wAA} (h:∀ x ∈ s,wAt x):s.all fIn=true:=by
 rw [nX]
 intro x hx
 obtain ⟨a,b,c,d⟩:=h x hx
 unfold fIn
 simp [a,b,c,d]
theorem wLQ {p:Int} {shots:List wAA} {r:List Int} (e:wAN p shots=some (r,0)) (hl:r.length <= 8) (hr:∀ n ∈ r,0 <= n/\n <= 5):wAj p shots=some (5 - (wDN r:Int),0):=by
 unfold wAj
 rw [e,nA]
 simp only [if_pos]
 rw [wIM hl,nA,wKS hr]
theorem wLR {p:Int} (hp:p=0 \/ p=1) {shots:List wAA} (h8:shots.length <= 8) (hin:∀ x ∈ shots,wAt x):wAj p shots=some (lps (fl (if p=0 then 50625 else 330625) shots [])):=by
 have e:=wDP hp h8 (wBt hin)
 cases hf:fl (if p=0 then 50625 else 330625) shots [] with
 | none =>
  rw [hf] at e
  unfold wAj
  rw [e,nA]
  rfl
 | some r =>
  rw [hf] at e
  have hl:=wFH hf
  exact wLQ e (by simp at hl;omega) (wGI hf (by simp))
theorem wKb {p:Int} (hp:p=0 \/ p=1) {shots:List wAA} (h8:shots.length <= 8) (hin:∀ x ∈ shots,wAt x):wAp p shots=some (sps (fl (if p=0 then 50625 else 330625) shots [])):=by
 unfold wAp
 rw [wDP hp h8 (wBt hin),nA]
 cases hf:fl (if p=0 then 50625 else 330625) shots [] with
 | none=>rfl
 | some r =>
  have hl:=wFH hf
  simp only [flr,if_pos,sps]
  rw [wAd (by simp at hl;omega) (by simp at hl;omega)]
structure wKc (m:List (Int × Bool)) (l:List Int):Prop where
 len:m.length=1 + wDN l
 get:∀ n,0 < n->wEk m n=if n ∈ l then some true else none
 zero:wHo m 0=true
theorem wLS {m:List (Int × Bool)} {x:Int} {v:Bool}:(mput m x v).length=m.length + if wHo m x then 0 else 1:=by
 induction m with
 | nil=>rfl
 | cons p m ih =>
  obtain ⟨a,u⟩:=p
  unfold wHo at ih ⊢
  rw [mput,wEk]
  by_cases h:x=a
  ·rw [if_pos h,if_pos h];rfl
  ·rw [if_neg h,if_neg h,nj,ih,nj];omega
theorem wEj {m:List (Int × Bool)} {x y:Int} {v:Bool}:wEk (mput m x v) y=if y=x then some v else wEk m y:=by
 induction m with
 | nil=>simp only [mput,wEk]
 | cons p m ih =>
  obtain ⟨a,u⟩:=p
  rw [mput]
  by_cases h:x=a
  ·subst h
   rw [if_pos rfl,wEk,wEk]
   split <;> rfl
  ·rw [if_neg h,wEk,wEk,ih]
   by_cases h2:y=a
   ·rw [if_pos h2,if_neg (by omega),if_pos h2]
   ·rw [if_neg h2,if_neg h2]
theorem seen0:wKc (mput ([]:List (Int × Bool)) 0 true) []:=⟨rfl,fun n h=>by
 rw [wEj,if_neg (by omega)];rfl,rfl⟩
theorem wKd {m:List (Int × Bool)} {l:List Int} {x:Int} (h:wKc m l) (hx0:0 <= x) (hx5:x <= 5) (hn:0 < x->x ∉ l):wKc (mput m x true) (l ++ [x]):=by
 refine ⟨?_,fun n h1=>?_,?_⟩
 ·rw [wLS,h.len,wEg l x hx0 hx5]
  by_cases c:0 < x
  ·have:wHo m x=false:=by unfold wHo;rw [h.get x c,if_neg (hn c)];rfl
   rw [this,if_pos c];simp;omega
  ·have e:x=0:=by omega
   subst e
   rw [h.zero];simp
 ·rw [wEj,h.get n h1]
  by_cases e:n=x
  ·rw [if_pos e];simp [e]
  ·rw [if_neg e];simp [e]
 ·have:=h.zero
  unfold wHo at this ⊢
  rw [wEj]
  split
  ·rfl
  ·exact this
theorem wGJ {p:Int} (hp:p=0 \/ p=1) {shots:List wAA} (h8:shots.length <= 8) (hin:∀ x ∈ shots,wAt x) {r:List Int} (hf:fl (if p=0 then 50625 else 330625) shots []=some r) {k:Nat} (hk:k <= shots.length):wAN p (shots.take k)=some (r.take k,0):=by
 rw [wDP hp (by simp;omega) (wBt fun x hx=>hin x (List.mem_of_mem_take hx)),wKY k hf hk]
 simp only [List.length_nil,na,flr]
theorem wHh {α:Type} {l:List α} {k:Nat} (hk:k <= l.length):cut l 0 (k:Int)=some (l.take k):=by
 unfold cut
 rw [if_pos (by omega)]
 simp
theorem wKe {a b:List Int} (h:a.Perm b) (ha:a.length <= 100):wAO a=some (a.mergeSort fun x y=>decide (x <= y))/\wAO b=some (a.mergeSort fun x y=>decide (x <= y)):=by
 have hl:=h.length_eq
 unfold wAO wKo
 rw [if_pos (by omega),if_pos (by omega)]
 refine ⟨rfl,?_⟩
 congr 1
 have tr:∀ a b c:Int,decide (a <= b)=true->decide (b <= c)=true->decide (a <= c)=true:=fun a b c h1 h2=>by simp at h1 h2 ⊢;omega
 have tt:∀ a b:Int,(decide (a <= b) || decide (b <= a))=true:=fun a b=>by simp;omega
 refine List.Perm.eq_of_pairwise (le:=fun x y:Int=>x <= y) (fun x y _ _ h1 h2=>by omega) ?_ ?_ ?_
 ·exact (nk tr tt b).imp (by simp)
 ·exact (nk tr tt a).imp (by simp)
 ·exact ((nb b _).trans h.symm).trans (nb a _).symm
theorem wHi (l m:List Int) (hl:l.length <= 1000):wAL l m=some (decide (l=m)):=by
 unfold wAL
 exact wIJ (by omega)
theorem wHj (l:List Int) (hl:l.length <= 1000):wAM l=some l:=by
 unfold wAM
 rw [app,if_pos (by simp;omega)];rfl
theorem wMu {S B:Type} {body:Nat->S->Option (S ⊕ B)} (I:Nat->S->Prop) (m k:Nat) (s:S) (h:I k s) (hb:∀ i s,i < k + m->I i s->∃ s',body i s=some (.inl s')/\I (i + 1) s'):∃ s',forN body m k s=some (.inl s')/\I (k + m) s':=by
 rcases wHe I (fun _=>False) m k s h (fun i s _ h2 h3=>.inl (hb i s h2 h3)) with h | ⟨b,_,h⟩
 ·exact h
 ·exact h.elim
theorem wMv {S R:Type} {x:Option (S ⊕ R)} {k:S->Option R} {z:Option R} {P:S->Prop} (h:∃ m,x=some (.inl m)/\P m) (hk:∀ m,P m->k m=z):jn x k=z:=by
 obtain ⟨m,e,hm⟩:=h
 rw [e,wBv]
 exact hk m hm
theorem wHk {k:Nat} (hk:k=0 \/ k=1) {shots mixed:List wAA} (h8:shots.length <= 8) (hin:∀ x ∈ shots,wAt x) (hp:mixed.Perm shots) (a:Arr Bool 2) (b:Arr Int 2) :
  fRd shots mixed k (a,b)=some (.inl (a.set k (decide (fl (if (k:Int)=0 then 50625 else 330625) shots []=none)),b.set k (lps (fl (if (k:Int)=0 then 50625 else 330625) shots [])).1)):=by
 have hk':(k:Int)=0 \/ (k:Int)=1:=by omega
 have hR:(if (k:Int)=0 then (50625:Int) else 330625) <= 330625:=by split <;> omega
 have hinm:∀ x ∈ mixed,wAt x:=fun x hx=>hin x (hp.mem_iff.1 hx)
 have h8m:mixed.length <= 8:=by rw [hp.length_eq];exact h8
 unfold fRd
 dsimp only
 rw [wDP hk' h8 (wBt hin),nA]
 have eL:=wLR hk' h8 hin
 have eS:=wKb hk' h8 hin
 have eM:=wDP hk' h8m (wBt hinm)
 generalize hRR:(if (k:Int)=0 then (50625:Int) else 330625)=R at hR eL eS eM ⊢
 cases hf:fl R shots [] with
 | none =>
  rw [hf] at eL eS
  simp only [flr]
  rw [eL,nA]
  simp only [lps]
  rw [eS,nA]
  simp only [sps]
  rw [if_pos trivial,if_pos trivial,if_neg (by decide),show (some (decide ¬True))=some false by simp,nA,if_neg (by decide),wCb (by omega) (by omega),nA]
  refine (if_neg (by decide)).trans ?_
  simp
 | some r =>
  rw [hf] at eL eS
  have hl:=wFH hf
  rw [List.length_nil,na] at hl
  have hr:=wGI hf (by simp)
  have h1:=wCU hf
  have hc:=wDO h1
  simp only [flr]
  rw [eL,nA]
  simp only [lps]
  rw [eS,nA]
  simp only [sps]
  rw [if_pos trivial,if_pos trivial,if_pos trivial,nA,if_neg (by decide),wCb (by omega) (by omega),nA,if_pos trivial,if_pos (by omega),wAd (by omega) (by omega)]
  refine (if_pos (by omega)).trans ?_
  rw [wCT (by omega)]
  refine wMv (P:=fun m=>wKc m (r.take (0 + r.length))) (wMu (fun k m=>wKc m (r.take k)) r.length 0 _ seen0 ?_) ?_
  ·intro i m hi hm
   have hi':i < r.length:=by omega
   have hx:=hr _ (ni hi')
   have hnot:0 < r[i]->r[i] ∉ r.take i:=fun h0 hmem=>by
    have c:=h1 _ h0
    have e:r=r.take i ++ r[i] :: r.drop (i + 1):=by rw [<- nH hi',List.take_append_drop]
    have c2:=congrArg (List.count r[i]) e
    rw [nT,List.count_cons_self] at c2
    have:=nu.2 hmem
    omega
   rw [wDy,nB hi',nA,if_neg (by omega),if_neg (by omega)]
   have hb:(if 0 < r[i] then some (wDE m r[i] false) else some false)=some false:=by
    split
    ·rename_i h0
     unfold wDE
     rw [hm.get _ h0,if_neg (hnot h0)];rfl
    ·rfl
   rw [hb,nA,if_neg (by decide),wHh (by omega),nA]
   have eb:=wGJ hk' h8 hin (hRR.symm ▸ hf) (k:=i) (by omega)
   rw [eb,nA]
   simp only [if_true]
   rw [wHh (by omega),nA,wHi _ _ (by simp;omega),nA,if_pos (by simp)]
   refine ⟨_,rfl,?_⟩
   rw [ny,nB hi']
   exact wKd hm hx.1 hx.2 hnot
  ·intro m hm
   rw [na,List.take_length] at hm
   have hml:=hm.len
   rw [wAd (by omega) (by omega)]
   refine (if_pos (by omega)).trans ?_
   rw [eM,nA]
   cases hg:fl R mixed [] with
   | none =>
    have all:wLJ r:=wDa (fun n h0 h=>(wCt hR hin hf n h0).2 ((hp.map _).mem_iff.1 h)) (wHB hR hinm hg)
    have:=(wKU h1).2 all
    simp only [flr]
    refine (if_neg (by decide)).trans ((if_pos (by decide)).trans ((if_neg (by omega)).trans ?_))
    simp
   | some q =>
    have hq:=wMp hR hp.symm hin hf hg
    have hlq:=hq.length_eq
    simp only [flr,if_true]
    obtain ⟨s1,s2⟩:=wKe hq (by omega)
    rw [wHj _ (by omega),nA,wHj _ (by omega),nA,s1,nA,s2,nA,wHi _ _ (by rw [(nb r _).length_eq];omega),nA]
    refine (if_pos (by simp)).trans ?_
    simp
theorem wIP {S B:Type} {body:Nat->S->Option (S ⊕ B)} {s s1 s2:S} (h0:body 0 s=some (.inl s1)) (h1:body 1 s1=some (.inl s2)):wGP 0 2 body s=some (.inl s2):=by
 unfold wGP
 rw [if_pos (by decide)]
 show forN body 2 0 s=_
 simp only [forN,h0,h1]
theorem wIQ (p0 p1:List Int):wAZ p0 p1=some true:=by
 rw [wFf]
 unfold wAl
 rw [nA]
 obtain ⟨shots,d1,e1,h8,hin⟩:=wMt (⟨p0,0,17⟩:wAB) rfl
 rw [e1,nA]
 simp only
 rw [nA]
 obtain ⟨p,d2,e2,_,_,hp⟩:=wIO (⟨p1,0,17⟩:wAB) shots.length (by simp) (by simp) (by omega)
 rw [e2,nA]
 simp only
 obtain ⟨mixed,e3,hm⟩:=wLP h8 hp
 rw [e3,nA]
 have r0:=wHk (.inl rfl) h8 hin hm (Arr.fill 2 false) (Arr.fill 2 0)
 have r1:=wHk (.inr rfl) h8 hin hm ((Arr.fill 2 false).set 0 (decide (fl (if ((0:Nat):Int)=0 then 50625 else 330625) shots []=none))) ((Arr.fill 2 0).set 0 (lps (fl (if ((0:Nat):Int)=0 then 50625 else 330625) shots [])).1)
 have e4:=wIP r0 r1
 rw [e4,wBv]
 simp only
 have hs:=@wIN shots hin
 have hl:=@wKX shots hin
 simp only [Int.ofNat_zero,if_true,show ¬ (((1:Nat):Int)=0) by decide,if_false]
 cases f0:fl 50625 shots [] with
 | none =>
  rw [hs f0]
  rfl
 | some a =>
  cases f1:fl 330625 shots [] with
  | none=>rfl
  | some b =>
   have:=hl f0 f1
   have c1:=wDO (wCU f0)
   have c2:=wDO (wCU f1)
   show (if (5 - (wDN b:Int)) <= 5 - (wDN a:Int) then _ else _)=_
   rw [if_pos (by omega)]
   rfl
end Go.Proofs.YthbficbpebiekaaGreat
