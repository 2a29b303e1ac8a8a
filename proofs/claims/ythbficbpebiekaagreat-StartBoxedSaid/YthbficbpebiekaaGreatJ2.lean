import Derived.Test.YthbficbpebiekaaGreatJ1
import Derived.Test.YthbficbpebiekaaGreatJ0
set_option linter.all false
open Option renaming bind_some->nA
open Bool renaming false_eq_true->nB,and_eq_true->nE
open Option.some renaming inj->nD
open List renaming nodup_iff_pairwise_ne->nG,getElem?_eq_getElem->nH,range->nI,append_assoc->nJ,mem_append->nK,append_of_mem->nL,getElem?_eq_some_iff->nN,drop_eq_getElem_cons->nO,mem_cons->nP,map_append->nQ,pairwise_iff_getElem->nT,drop_eq_nil_of_le->nV,mem_append_right->nW,pairwise_append->nX,range_succ->nZ,mem_singleton->na,nodup_append->nb,all_eq_true->nc,getElem_map->nf,append_nil->ng,mem_map->nh,replicate->ni,length_append->nj,cons_append->np,length_map->nt,mem_range->nv,take_append_drop->nw,length_singleton->ny,mem_append_left->nz,mergeSort_perm->kC,pairwise_cons->kD,length_range->kH,set->kJ
open Nat renaming eq_of_beq_eq_true->nM,le_refl->nY,mod_lt->nl,le_trans->nq,zero_add->nr,div_add_mod->nu,lt_irrefl->kB,sub_self->kE
open Int renaming tmod_eq_emod_of_nonneg->nR,tdiv_eq_ediv_of_nonneg->nS,le_trans->nU,toNat_natCast->nk,le_add_of_nonneg_left->no,add_le_add_right->kA,natCast_nonneg->kG
open List.cons renaming inj->kK
namespace Go.KX
open Go.RowKit Go.KL
section
variable {tb:Tr AF} {ex exY:Run} {P:Program} {N:Nat} {l:List Oper} {os s t:List AO} {a:AO} {σ0 σA σf:Tr AV} {h0 h hf:AH} {μ μS:Mu} {σ σ':Env} {w:World} {o:Oper}
theorem wCB:∀ (l1 l2:List AO) (x:Tr AV) (y:AH) (x1:Tr AV) (y1:AH),wAP tb ex exY l1 x y=some (x1,y1)->wAP tb ex exY (l1 ++ l2) x y=wAP tb ex exY l2 x1 y1
 | [],l2,x,y,x1,y1,h=>by rw [wAa] at h;cases h;rfl
 | b :: l1,l2,x,y,x1,y1,h=>by
  rw [np,wAb]
  rw [wAb] at h
  cases hb:wBW x b.grd with
  | true =>
   rw [hb] at h
   simp only at h ⊢
   cases hq:opK b.kd b.op tb ex exY x y with
   | none=>rw [hq] at h;cases h
   | some r=>rw [hq] at h;exact wCB l1 l2 _ _ _ _ h
  | false =>
   rw [hb] at h
   exact wCB l1 l2 _ _ _ _ h
theorem wNI (HE:FrX ex) (HY:FrX exY) (Z:ZOK P N l os) (e:os=s ++ t) (hs:wAP tb ex exY s σ0 h0=some (σA,h)) {b:AO} (hb:b ∈ t) {s1 t1:List AO} {σ1:Tr AV} {h1:AH} (e1:os=s1 ++ b :: t1) (hr:wAP tb ex exY s1 σ0 h0=some (σ1,h1)):h.nx.nat <= h1.nx.nat:=by
 obtain ⟨r,r',rfl⟩:=nL hb
 have es:s1=s ++ r:=(wBb (e1 ▸ Z.one) (e1.symm.trans (e.trans (nJ _ _ _).symm))).1
 subst es
 rw [wCB s r _ _ _ _ hs] at hr
 exact (wFh HE HY _ _ _ _ _ hr).nx
theorem wEP (Z:ZOK P N l os) {S:Nat->Bool} (hdc:∀ k,k < l.length->S k=true->∀ j ∈ prI l k,S j=true) (ha:a ∈ os) (hS:S a.ix=false) {b:AO} (hb:b ∈ os) (hbS:S b.ix=true) (A:AOK P N l a o) {ob:Oper} (hob:l[b.ix]?=some ob) (v:Value):Agr l ob σ (put' σ o v):=by
 obtain ⟨ob',B⟩:=wBh (Z.ao b hb)
 have eo:ob'=ob:=by have:=B.get;rw [hob] at this;exact (nD this).symm
 subst eo
 intro d hd
 obtain ⟨p,hp,rfl⟩:=wCp B (Z.sub b hb _ B.get) d hd
 symm
 refine wES fun dd hdd e=>?_
 rcases A.dst with ⟨_,h2⟩ | ⟨q,d',h1,h2,h3,_⟩
 ·rw [h2] at hdd;cases hdd
 ·rw [h2] at hdd
  have hdd:=nD hdd
  have eq:q=p:=Pos.nat_inj (by have:=q.nat_pos;have:=p.nat_pos;have:q.nat - 1=p.nat - 1:=h3.symm.trans (hdd.trans e);omega)
  subst eq
  have:=Z.rdS b hb q hp a ha h1
  have hlt:b.ix < l.length:=(nN.1 hob).1
  have:=wCO hdc (hdc _ hlt hbS) this
  rw [hS] at this
  cases this
theorem JS.fixed (HC:wEG (CC P) P tb ex) (HY':wDK (CC P) P exY) (HE:FrX ex) (HY:FrX exY) (Z:ZOK P N l os) {μ0:Mu} {w0:World} {S:Nat->Bool} (J:JS tb ex exY P l os σ0 h0 σf hf μ0 w0 S σ w s (a :: t) σA h σ' μ μS) (hfix:wBB a.kd=true) (hS:S a.ix=false)
  (hdc:∀ k,k < l.length->S k=true->∀ j ∈ prI l k,S j=true) (A:AOK P N l a o) :
  Step1 P l o σ w fun v w'=>∃ σB hB σ'' μB μT,JS tb ex exY P l os σ0 h0 σf hf μ0 w0 (fun k=>k == a.ix || S k) (put' σ o v) w' (s ++ [a]) t σB hB σ'' μB μT:=by
 have ha:a ∈ os:=by rw [J.e];simp
 have hsel:=Z.sel a ha _ A.get
 have hag:∀ q ∈ wBG a,σ (q.nat - 1)=σ' (q.nat - 1):=fun q hq=>J.ag q fun b hb _=>Z.rd s a t J.e q hq b hb
 have hagr:Agr l o σ σ':=fun d hd=>by
  obtain ⟨q,h1,rfl⟩:=wCp A (Z.sub a ha _ A.get) d hd
  exact hag q h1
 have hw:=wFy A J.env
 have main:∀ (v:AV) (cv:Value) (hB:AH) (w':World) (μB:Mu),wAP tb ex exY (s ++ [a]) σ0 h0=some (wEI a.dst σA v,hB)->wAP tb ex exY t (wEI a.dst σA v) hB=some (σf,hf) ->
   Ext μ h.fl.nat w μB w'->Sim (CC P) P μB hB w'->EnvR μB (wEI a.dst σA v) (put' σ' o cv)->hB.fl=h.fl ->
   ∃ σB hB σ'' μB μT,JS tb ex exY P l os σ0 h0 σf hf μ0 w0 (fun k=>k == a.ix || S k) (put' σ o cv) w' (s ++ [a]) t σB hB σ'' μB μT:=by
  intro v cv hB w' μB r1 r2 E' S' hE' hfl
  have hne:∀ b ∈ t,b.ix ≠ a.ix:=fun b hb e=>by
   have:=Z.one
   rw [J.e] at this
   exact (kD.1 (nX.1 this).2.1).1 b hb e.symm
  have hSb:∀ b ∈ t,(b.ix == a.ix || S b.ix)=true->S b.ix=true:=fun b hb h=>by
   have:=hne b hb
   simpa [this] using h
  have hbo:∀ b ∈ t,b ∈ os:=fun b hb=>by rw [J.e];simp [hb]
  have eB:os=(s ++ [a]) ++ t:=by rw [J.e];simp
  have hnm:∀ b ∈ t,∀ s1 t1 σ1 h1,os=s1 ++ b :: t1->wAP tb ex exY s1 σ0 h0=some (σ1,h1)->μB h1.nx=none/\μ h1.nx=none:=fun b hb s1 t1 σ1 h1 e1 hr=>by
   have g1:=wNI HE HY Z eB r1 hb e1 hr
   have g2:=wNI HE HY Z J.e J.hs (b:=b) (by simp [hb]) e1 hr
   exact ⟨S'.nx _ g1,J.sim.nx _ g2⟩
  let μT:Mu:=fun q=>match μB q with | some c=>some c | none=>μS q
  have hT:μB.Le μT:=fun q c hq=>by show (match μB q with | some c=>some c | none=>μS q)=_;rw [hq]
  have hST:μS.Le μT:=fun q c hq=>by
   show (match μB q with | some c=>some c | none=>μS q)=_
   cases hB:μB q with
   | none=>exact hq
   | some c' =>
    rcases J.nm q c hq with h1 | ⟨b,ob,s1,t1,σ1,h1,k1,k2,k3,k4,k5,k6,k7,k8⟩
    ·rw [E'.mono _ _ h1] at hB
     exact hB.symm ▸ rfl
    ·rcases nP.1 k1 with rfl | k1
     ·rw [hS] at k2;cases k2
     ·have:=(hnm b k1 s1 t1 σ1 h1 k6 k7).1
      rw [<- k8,hB] at this
      cases this
  refine ⟨_,hB,_,μB,μT,eB,r1,r2,fun b hb=>?_,fun b hb hh=>J.free b (by simp [hb]) (hSb b hb hh),?_,S',hfl.trans J.fl,hE',fun q hq=>?_,hT,fun q c hq=>?_,fun b hb hh=>?_⟩
  ·rcases nK.1 hb with hb | hb
   ·simp [J.inS b hb]
   ·rw [na.1 hb];simp
  ·have:=J.E
   refine this.trans ?_
   rw [<- J.fl]
   exact E'
  ·have old:σ (q.nat - 1)=σ' (q.nat - 1) \/ a.dst=some q:=by
    by_cases hq':a.dst=some q
    ·exact .inr hq'
    ·exact .inl (J.ag q fun b hb h=>by
      rcases nP.1 hb with rfl | hb
      ·exact hq'
      ·exact hq b hb (by simp [h]))
   rcases A.dst with ⟨h1,h2⟩ | ⟨p,d,h1,h2,h3,_⟩
   ·unfold put'
    rw [h2]
    rcases old with old | old
    ·exact old
    ·rw [h1] at old;cases old
   ·unfold put'
    rw [h2]
    by_cases e:q.nat - 1=d
    ·simp only [e,wBf]
    ·simp only
     rw [wCF _ _ e,wCF _ _ e]
     rcases old with old | old
     ·exact old
     ·rw [h1] at old
      cases old
      exact absurd h3.symm e
  ·have hq:(match μB q with | some c=>some c | none=>μS q)=some c:=hq
   cases hB':μB q with
   | some c' =>
    rw [hB'] at hq
    exact .inl hq
   | none =>
    rw [hB'] at hq
    rcases J.nm q c hq with h1 | ⟨b,ob,s1,t1,σ1,h1,k1,k2,k3,k4,k5,k6,k7,k8⟩
    ·rw [E'.mono _ _ h1] at hB'
     cases hB'
    ·rcases nP.1 k1 with rfl | k1
     ·rw [hS] at k2;cases k2
     ·exact .inr ⟨b,ob,s1,t1,σ1,h1,k1,by simp [k2],k3,(wBD (wEP Z hdc ha hS (hbo b k1) k2 A k3 cv)).symm.trans k4,k5,k6,k7,k8⟩
  ·have hbS:=hSb b hb hh
   obtain ⟨ob,p,Pd⟩:=J.pd b (by simp [hb]) hbS
   have hA:=wEP (σ:=σ) Z hdc ha hS (hbo b hb) hbS A Pd.get cv
   have hp:put' σ o cv (p.nat - 1)=σ (p.nat - 1):=wES fun d hd e=>by
    rcases A.dst with ⟨_,h2⟩ | ⟨q,d',h1,h2,h3,_⟩
    ·rw [h2] at hd;cases hd
    ·rw [h2] at hd
     have hd:=nD hd
     have eq:q=p:=Pos.nat_inj (by have:=q.nat_pos;have:=p.nat_pos;have:q.nat - 1=p.nat - 1:=h3.symm.trans (hd.trans e);omega)
     subst eq
     exact Z.wr s a t J.e q h1 b (nW _ hb) Pd.dst
   have hsb:=Z.sel b (hbo b hb) _ Pd.get
   refine ⟨ob,p,Pd.get,Pd.dst,?_⟩
   rw [hp,<- wBD hA]
   rcases Pd.fact with f | ⟨f,⟨f1,f2⟩ | ⟨f1,f2,w1,w2,f3⟩ | ⟨f1,f2,w1,o1,s1,t1,σ1,h1,f3,f4,f5,f6,f7,f8,f9⟩⟩
   ·exact .inl f
   ·exact .inr ⟨f,.inl ⟨f1,f2.mono E'.mono⟩⟩
   ·exact .inr ⟨f,.inr (.inl ⟨f1,f2.mono hST,w1,w2,(Runs.agr hsb hA).1 f3⟩)⟩
   ·obtain ⟨n1,n2⟩:=hnm b hb s1 t1 σ1 h1 f6 f7
    have nimg:¬ img μ h.fl.nat w1.heap.size:=by
     rintro ⟨q,d,g1,g2,_⟩
     have:=f9 q d (J.le _ _ g1) g2
     rw [this,n2] at g1
     cases g1
    refine .inr ⟨f,.inr (.inr ⟨f1,f2.mono hST,w1,o1,s1,t1,σ1,h1,(Runs.agr hsb hA).1 f3,(E'.keep.block _ (wAI f4) nimg).trans f4,f5,f6,f7,hST _ _ f8,fun q c hq hc=>?_⟩)⟩
    have hq:(match μB q with | some c=>some c | none=>μS q)=some c:=hq
    cases hB':μB q with
    | none=>rw [hB'] at hq;exact f9 q c hq hc
    | some c' =>
     rw [hB'] at hq
     cases hq
     rcases E'.new q c hB' with g | g | g
     ·exact f9 q c (J.le _ _ g) hc
     ·rw [hc] at g;exact absurd g nimg
     ·have:=wAI f4;omega
 obtain ⟨σx,hx,q1,q2⟩:=wID (s:=[]) (a:=a) (t:=t) (σ0:=σA) (h0:=h) (by rw [List.nil_append];exact J.hr)
 rw [wAa] at q1
 cases q1
 refine Step1.agr hsel (fun d hd=>(hagr d hd).symm) ?_
 rcases q2 with ⟨g1,v,h2,g2,g3⟩ | ⟨g1,g3⟩
 ·refine (wOJ HC HY' A (hw.trans g1) g2 J.env J.sim).mono ?_
  rintro cv w' ⟨_,μB,e1,e2,e3,e4⟩
  refine main v cv h2 w' μB ?_ g3 e1 e2 e3 e4
  rw [wCB s [a] _ _ _ _ J.hs,wAb,g1]
  simp only
  rw [g2]
  exact wAa _ _ _ _ _
 ·refine .inr ⟨hw.trans g1,?_⟩
  refine main u undef h w μ ?_ g3 (Ext.refl μ _ w) J.sim (wCS A J.env (wJr μ)) rfl
  rw [wCB s [a] _ _ _ _ J.hs,wAb,g1]
  exact wAa _ _ _ _ _
theorem JS.opnd (Z:ZOK P N l os) {μ0:Mu} {w0:World} {S:Nat->Bool} (J:JS tb ex exY P l os σ0 h0 σf hf μ0 w0 S σ w s t σA h σ' μ μS) (ha:a ∈ os) (hl:a.ix < l.length) (hp:∀ j ∈ prI l a.ix,S j=true)
  (hdc:∀ k,k < l.length->S k=true->∀ j ∈ prI l k,S j=true) {p:Pos} (hr:p ∈ wBG a):Rv μS (evA σf (.t p)) (σ (p.nat - 1))/\(a.kd=1 \/ a.kd=3 \/ 8 <= a.kd->Rv μ (evA σf (.t p)) (σ (p.nat - 1))):=by
 have base:(∀ b ∈ t,b.dst ≠ some p)->Rv μ (evA σf (.t p)) (σ (p.nat - 1)):=fun hn=>by
  rw [wBa t _ _ _ _ J.hr p hn,J.ag p fun b hb _=>hn b hb]
  exact J.env p
 by_cases hw:∃ b ∈ t,b.dst=some p
 ·obtain ⟨b,hb,hd⟩:=hw
  have hbo:b ∈ os:=by rw [J.e];simp [hb]
  have hanc:=Z.rdS a ha p hr b hbo hd
  have hS:=wCO hdc hp hanc
  obtain ⟨ob,p',Pd⟩:=J.pd b hb hS
  have ep:p'=p:=by have:=Pd.dst;rw [hd] at this;exact (nD this).symm
  subst ep
  rcases Pd.fact with ⟨_,f1,f2⟩ | ⟨_,⟨_,f1⟩ | ⟨f0,f1,_⟩ | ⟨f0,f1,_⟩⟩
  ·rw [f1,f2]
   exact ⟨wJr _,fun _=>wJr _⟩
  ·exact ⟨f1.mono J.le,fun _=>f1⟩
  ·exact ⟨f1,fun hk=>absurd f0 (Z.cl a ha hk p' hr b hbo hd).2⟩
  ·exact ⟨f1,fun hk=>absurd f0 (Z.cl a ha hk p' hr b hbo hd).1⟩
 ·have:=base fun b hb hd=>hw ⟨b,hb,hd⟩
  exact ⟨this.mono J.le,fun _=>this⟩
end
end Go.KX
namespace Go.KX
open Go.RowKit Go.KL
section
variable {tb:Tr AF} {ex exY:Run} {P:Program} {N:Nat} {l:List Oper} {os s t:List AO} {a:AO} {σ0 σA σf:Tr AV} {h0 h h1 h' hf:AH} {μ μS:Mu} {σ σ':Env} {w:World} {o:Oper} {v:AV}
theorem wLa {a:AOp} {op:Op} (hk:kdA a=1) (hc:wEx P a op=true) (hE:EnvR μ σA σ) (hm:∀ b c,μ b=some c->h.m.get b=h1.m.get b) (hr:opY a tb ex exY σA h1=some (v,h')):opY a tb ex exY σA h=some (v,h):=by
 have cel:∀ b c,μ b=some c->wBr h b=wBr h1 b:=fun b c hb=>by unfold wBr;rw [hm b c hb]
 cases a <;> first | (simp [kdA] at hk;done) | skip
 case ld x =>
  have hr:wLE x σA h1=some (v,h'):=hr
  show wLE x σA h=some (v,h)
  have hc:wNy P x op=true:=hc
  unfold wNy at hc
  split at hc
  ·simp only [nE] at hc
   have g:=wAD hc.2 hE
   unfold wLE at hr ⊢
   split at hr
   ·rename_i b off hb
    rw [hb] at g
    obtain ⟨c,g1,_⟩:=g
    simp only [hb,cel b c g1]
    split at hr
    ·exact wKZ hr h
    ·cases hr
   ·cases hr
  ·cases hc
 case ldA n x =>
  have hr:wFP n x σA h1=some (v,h'):=hr
  show wFP n x σA h=some (v,h)
  have hc:wKG P n x op=true:=hc
  unfold wKG at hc
  split at hc
  ·simp only [nE] at hc
   have g:=wAD hc.2 hE
   unfold wFP at hr ⊢
   split at hr
   ·rename_i b off hb
    rw [hb] at g
    obtain ⟨c,g1,_⟩:=g
    simp only [hb,cel b c g1]
    split at hr
    ·exact wKZ hr h
    ·cases hr
   ·cases hr
  ·cases hc
 case lk two k ok z x y =>
  have hr:wLF two k ok z x y σA h1=some (v,h'):=hr
  show wLF two k ok z x y σA h=some (v,h)
  have hc:wOC P two k ok z x y op=true:=hc
  unfold wOC at hc
  split at hc
  ·simp only [nE] at hc
   have g:=wAD hc.2.2.1 hE
   unfold wLF at hr ⊢
   split at hr
   ·rename_i b hb
    rw [hb] at g
    obtain ⟨c,g1,_⟩:=g
    simp only [hb,hm b c g1]
    repeat' (split at hr)
    all_goals first | (cases hr;done) | (cases hr;rfl)
   ·cases hr
  ·cases hc
 case lenM x =>
  have hr:wCu x σA h1=some (v,h'):=hr
  show wCu x σA h=some (v,h)
  have hc:wGg P x op=true:=hc
  unfold wGg at hc
  split at hc
  ·split at hc
   ·simp only [nE] at hc
    obtain ⟨_,hc⟩:=hc
    split at hc
    ·simp only [nE] at hc
     have g:=wAD hc.2 hE
     unfold wCu at hr ⊢
     split at hr
     ·rename_i hb
      cases hr
      simp_all
     ·rename_i b hb
      rw [hb] at g
      obtain ⟨c,g1,_⟩:=g
      simp only [hb,hm b c g1]
      repeat' (split at hr)
      all_goals first | (cases hr;done) | (cases hr;rfl)
     ·cases hr
    ·cases hc
   ·cases hc
  ·cases hc
theorem wGC (HE:FrX ex) (HY:FrX exY):∀ (r:List AO) (σ1:Tr AV) (h1:AH) (σ2:Tr AV) (h2:AH),wAP tb ex exY r σ1 h1=some (σ2,h2)->(∀ b ∈ r,wEy P N l b=true) ->
  (∀ b ∈ r,b.kd=2 \/ (b.kd=1 \/ b.kd=3 \/ (b.kd=6/\kdA b.op=3) \/ (b.kd=4/\wIu b.op=true) \/ (8 <= b.kd/\kdA b.op=1)))->h1.nx.nat <= h2.nx.nat/\∀ p:Pos,p.nat < h1.nx.nat->h2.m.get p=h1.m.get p
 | [],σ1,h1,σ2,h2,hr,_,_=>by
  rw [wAa] at hr
  cases hr
  exact ⟨nY _,fun _ _=>rfl⟩
 | b :: r,σ1,h1,σ2,h2,hr,hc,hk=>by
  rw [wAb] at hr
  cases hw:wBW σ1 b.grd with
  | false =>
   rw [hw] at hr
   exact wGC HE HY r _ _ _ _ hr (fun c hcc=>hc c (by simp [hcc])) (fun c hcc=>hk c (by simp [hcc]))
  | true =>
   rw [hw] at hr
   simp only at hr
   cases hq:opK b.kd b.op tb ex exY σ1 h1 with
   | none=>rw [hq] at hr;cases hr
   | some q =>
    rw [hq] at hr
    obtain ⟨v,h3⟩:=q
    obtain ⟨g1,g2⟩:=wGC HE HY r _ _ _ _ hr (fun c hcc=>hc c (by simp [hcc])) (fun c hcc=>hk c (by simp [hcc]))
    obtain ⟨o,A⟩:=wBh (hc b (by simp))
    have one:h1.nx.nat <= h3.nx.nat/\∀ p:Pos,p.nat < h1.nx.nat->h3.m.get p=h1.m.get p:=by
     have same:h3=h1->h1.nx.nat <= h3.nx.nat/\∀ p:Pos,p.nat < h1.nx.nat->h3.m.get p=h1.m.get p:=fun e=>by subst e;exact ⟨nY _,fun _ _=>rfl⟩
     rcases hk b (by simp) with k | k | k | ⟨k,k'⟩ | ⟨k,k'⟩ | ⟨k,k'⟩
     ·exact ⟨(wMH HE HY _ _ hq).nx,wON HE HY b.op (by rw [k] at hq;exact hq)⟩
     ·rw [k] at hq
      exact same (wFe (C:=CC P) (A.k1 k) A.op _ _ _ _ hq).1
     ·rw [k] at hq
      exact same (wFd (A.k3 k) A.op _ _ _ _ hq).1
     ·rw [k] at hq
      exact same (wFd k' A.op _ _ _ _ hq).1
     ·rw [k] at hq
      obtain ⟨B,vf,e1,_⟩:=wIC (C:=CC P) k' A.op _ _ _ _ hq
      subst e1
      refine ⟨(Fr.push h1 B).nx,fun p hp=>?_⟩
      show (h1.m.set h1.nx B).get p=_
      rw [Tr.get_set,if_neg (fun e=>by subst e;omega)]
     ·exact same (wFe (C:=CC P) (.inl k') A.op _ _ _ _ (wKc (by omega) hq)).1
    exact ⟨nq one.1 g1,fun p hp=>(g2 p (Nat.lt_of_lt_of_le hp one.1)).trans (one.2 p hp)⟩
theorem JS.full {μ0:Mu} {w0:World} {S:Nat->Bool} (J:JS tb ex exY P l os σ0 h0 σf hf μ0 w0 S σ w s t σA h σ' μ μS):wAP tb ex exY os σ0 h0=some (σf,hf):=by
 rw [J.e,wCB s t _ _ _ _ J.hs]
 exact J.hr
theorem JS.frm (Z:ZOK P N l os) {μ0:Mu} {w0:World} {S:Nat->Bool} (J:JS tb ex exY P l os σ0 h0 σf hf μ0 w0 S σ w s t σA h σ' μ μS) (ha:a ∈ os) (hl:a.ix < l.length) (hp:∀ j ∈ prI l a.ix,S j=true)
  (hdc:∀ k,k < l.length->S k=true->∀ j ∈ prI l k,S j=true) (A:AOK P N l a o) {s1 t1:List AO} {σ1:Tr AV} (e1:os=s1 ++ a :: t1) (hr1:wAP tb ex exY s1 σ0 h0=some (σ1,h1)) :
  wanted l σ o=wBW σ1 a.grd/\∀ p ∈ wBG a,evA σf (.t p)=evA σ1 (.t p):=by
 have hf:=J.full
 have hrd:∀ p ∈ wBG a,evA σf (.t p)=evA σ1 (.t p):=fun p hp=>by
  rw [e1,wCB s1 _ _ _ _ _ hr1] at hf
  exact wOP Z e1 hf hp
 refine ⟨?_,hrd⟩
 have hE:EnvR μS (rst σf (wBG a)) (rsl σ (wBG a)):=wFD fun p hpr=>(J.opnd Z ha hl hp hdc hpr).1
 have hw:=wFy A hE
 have hag:Agr l o (rsl σ (wBG a)) σ:=fun d hd=>by
  obtain ⟨p,h1,h2⟩:=wCp A (Z.sub a ha _ A.get) d hd
  unfold rsl
  rw [if_pos ⟨p,h1,h2⟩]
 rw [<- wBD hag,hw]
 cases hg:a.grd with
 | none=>rfl
 | some q =>
  obtain ⟨p,b⟩:=q
  show isB b (evA _ (.t p))=isB b (evA _ (.t p))
  have hpr:p ∈ wBG a:=nW _ (by rw [hg];simp)
  rw [wFC,if_pos hpr,hrd p hpr]
theorem wOR (HE:FrX ex) (HY:FrX exY) (Z:ZOK P N l os) {a b:AO} {s1 t1 s2 t2:List AO} {σ1 σ2:Tr AV} {h1 h2:AH} (e1:os=s1 ++ a :: t1) (e2:os=s2 ++ b :: t2) (r1:wAP tb ex exY s1 σ0 h0=some (σ1,h1)) (r2:wAP tb ex exY s2 σ0 h0=some (σ2,h2))
  (w1:wBW σ1 a.grd=true) (ka:a.kd=4) (la:wIu a.op=true) (hin:a ∈ s2):h1.nx.nat < h2.nx.nat:=by
 obtain ⟨o,A⟩:=wBh (Z.ao a (by rw [e1];simp))
 obtain ⟨r,r',rfl⟩:=nL hin
 have es:s1=r:=(wBb (e1 ▸ Z.one) (e1.symm.trans (e2.trans (by rw [nJ,np])))).1
 subst es
 rw [wCB s1 _ _ _ _ _ r1,wAb,w1] at r2
 simp only at r2
 cases hq:opK a.kd a.op tb ex exY σ1 h1 with
 | none=>rw [hq] at r2;cases r2
 | some q =>
  rw [hq] at r2
  obtain ⟨v,h3⟩:=q
  rw [ka] at hq
  obtain ⟨B,vf,q1,_⟩:=wIC (C:=CC P) la A.op _ _ _ _ hq
  subst q1
  have:=(wFh HE HY _ _ _ _ _ r2).nx
  have h3:(h1.push B).nx.nat=h1.nx.nat + 1:=Pos.nat_succ _
  simp only at this
  omega
theorem nm_ne (HE:FrX ex) (HY:FrX exY) (Z:ZOK P N l os) {a b:AO} {s1 t1 s2 t2:List AO} {σ1 σ2:Tr AV} {h1 h2:AH} (e1:os=s1 ++ a :: t1) (e2:os=s2 ++ b :: t2) (r1:wAP tb ex exY s1 σ0 h0=some (σ1,h1)) (r2:wAP tb ex exY s2 σ0 h0=some (σ2,h2))
  (w1:wBW σ1 a.grd=true) (w2:wBW σ2 b.grd=true) (ka:a.kd=4) (la:wIu a.op=true) (kb:b.kd=4) (lb:wIu b.op=true) (hne:a ≠ b):h1.nx ≠ h2.nx:=by
 have ha:a ∈ s2 ++ b :: t2:=by rw [<- e2,e1];simp
 rcases nK.1 ha with h | h
 ·intro e
  have:=wOR HE HY Z e1 e2 r1 r2 w1 ka la h
  rw [e] at this
  exact absurd this (kB _)
 ·rcases nP.1 h with h | h
  ·exact absurd h hne
  ·obtain ⟨r,r',rfl⟩:=nL h
   have es:s1=s2 ++ b :: r:=(wBb (e1 ▸ Z.one) (e1.symm.trans (e2.trans (by rw [nJ,np])))).1
   intro e
   have:=wOR HE HY Z e2 e1 r2 r1 w2 kb lb (by rw [es];simp)
   rw [e] at this
   exact absurd this (kB _)
end
end Go.KX
namespace Go.KX
open Go.RowKit Go.KL
section
variable {tb:Tr AF} {ex exY:Run} {P:Program} {N:Nat} {l:List Oper} {os s t:List AO} {a:AO} {σ0 σA σf:Tr AV} {h0 h h1 h' hf:AH} {μ μS:Mu} {σ σ':Env} {w:World} {o:Oper} {v:AV}
theorem wKe (Z:ZOK P N l os) {a b:AO} (ha:a ∈ os) (hb:b ∈ os) (e:b.ix=a.ix):b=a:=by
 obtain ⟨s,t,hs⟩:=nL ha
 have one:=Z.one
 rw [hs] at hb one
 rcases nK.1 hb with h | h
 ·exact absurd e ((nX.1 one).2.2 b h a (by simp))
 ·rcases nP.1 h with h | h
  ·exact h
  ·exact absurd e.symm ((kD.1 (nX.1 one).2.1).1 b h)
theorem wEQ (A:AOK P N l a o) {q:Pos} (hn:a.dst ≠ some q) (cv:Value):put' σ o cv (q.nat - 1)=σ (q.nat - 1):=by
 refine wES fun d hd e=>?_
 rcases A.dst with ⟨_,h2⟩ | ⟨p,d',h1,h2,h3,_⟩
 ·rw [h2] at hd;cases hd
 ·rw [h2] at hd
  have hd:=nD hd
  have:p=q:=Pos.nat_inj (by have:=q.nat_pos;have:=p.nat_pos;have:p.nat - 1=q.nat - 1:=h3.symm.trans (hd.trans e);omega)
  subst this
  exact hn h1
theorem JS.add (Z:ZOK P N l os) {μ0:Mu} {w0:World} {S:Nat->Bool} (J:JS tb ex exY P l os σ0 h0 σf hf μ0 w0 S σ w s t σA h σ' μ μS) (ha:a ∈ t) (hS:S a.ix=false) (hfree:wBB a.kd=false)
  (hdc:∀ k,k < l.length->S k=true->∀ j ∈ prI l k,S j=true) (A:AOK P N l a o) {cv:Value} {w':World} {μT:Mu} (K:Keep w w' Non) (hle:μS.Le μT)
  (hnew:∀ q c,μT q=some c->μS q=some c \/ (c.1=w.heap.size/\wanted l σ o=true/\a.kd=4/\∃ s1 t1 σ1 h1,os=s1 ++ a :: t1/\wAP tb ex exY s1 σ0 h0=some (σ1,h1)/\q=h1.nx))
  (hpa:∃ p,Pend tb ex exY P l os σ0 h0 σf w0 μ μT (put' σ o cv) w' a o p) :
  JS tb ex exY P l os σ0 h0 σf hf μ0 w0 (fun k=>k == a.ix || S k) (put' σ o cv) w' s t σA h σ' μ μT:=by
 have hao:a ∈ os:=by rw [J.e];simp [ha]
 have hbo:∀ b ∈ t,b ∈ os:=fun b hb=>by rw [J.e];simp [hb]
 obtain ⟨sa,ta,ea⟩:=nL hao
 have hself:Agr l o σ (put' σ o cv):=by
  intro d hd
  obtain ⟨p,hp,rfl⟩:=wCp A (Z.sub a hao _ A.get) d hd
  exact (wEQ A (Z.rd sa a ta ea p hp a (by simp)) cv).symm
 refine ⟨J.e,J.hs,J.hr,fun b hb=>by simp [J.inS b hb],fun b hb hh=>?_,⟨J.E.mono,J.E.new,J.E.keep.step K fun _ _ hn=>hn.elim⟩,J.sim.keep K,J.fl,J.env,fun q hq=>?_,J.le.trans hle,fun q c hq=>?_,fun b hb hh=>?_⟩
 ·by_cases e:b.ix=a.ix
  ·rw [wKe Z hao (hbo b hb) e];exact hfree
  ·exact J.free b hb (by simpa [e] using hh)
 ·rw [wEQ A (hq a ha (by simp))]
  exact J.ag q fun b hb hs=>hq b hb (by simp [hs])
 ·rcases hnew q c hq with h1 | ⟨_,h2,h3,s1,t1,σ1,h1,e1,e2,e3⟩
  ·rcases J.nm q c h1 with g | ⟨b,ob,s1,t1,σ1,h1,k1,k2,k3,k4,k5,k6,k7,k8⟩
   ·exact .inl g
   ·exact .inr ⟨b,ob,s1,t1,σ1,h1,k1,by simp [k2],k3,(wBD (wEP Z hdc hao hS (hbo b k1) k2 A k3 cv)).symm.trans k4,k5,k6,k7,k8⟩
  ·exact .inr ⟨a,o,s1,t1,σ1,h1,ha,by simp,A.get,(wBD hself).symm.trans h2,h3,e1,e2,e3⟩
 ·by_cases e:b.ix=a.ix
  ·have:=wKe Z hao (hbo b hb) e
   subst this
   exact ⟨o,hpa⟩
  ·have hbS:S b.ix=true:=by simpa [e] using hh
   obtain ⟨ob,p,Pd⟩:=J.pd b hb hbS
   have hA:=wEP (σ:=σ) Z hdc hao hS (hbo b hb) hbS A Pd.get cv
   have hp:put' σ o cv (p.nat - 1)=σ (p.nat - 1):=by
    refine wEQ A (fun hd=>?_) cv
    have hb':=hbo b hb
    rw [ea] at hb'
    have hb'':b ∈ sa ++ ta:=by
     rcases nK.1 hb' with h | h
     ·exact nz _ h
     ·rcases nP.1 h with h | h
      ·exact absurd (by rw [h]) e
      ·exact nW _ h
    exact Z.wr sa a ta ea p hd b hb'' Pd.dst
   have hsb:=Z.sel b (hbo b hb) _ Pd.get
   refine ⟨ob,p,Pd.get,Pd.dst,?_⟩
   rw [hp,<- wBD hA]
   rcases Pd.fact with f | ⟨f,⟨f1,f2⟩ | ⟨f1,f2,w1,w2,f3⟩ | ⟨f1,f2,w1,o1,s1,t1,σ1,h1,f3,f4,f5,f6,f7,f8,f9⟩⟩
   ·exact .inl f
   ·exact .inr ⟨f,.inl ⟨f1,f2⟩⟩
   ·exact .inr ⟨f,.inr (.inl ⟨f1,f2.mono hle,w1,w2,(Runs.agr hsb hA).1 f3⟩)⟩
   ·refine .inr ⟨f,.inr (.inr ⟨f1,f2.mono hle,w1,o1,s1,t1,σ1,h1,(Runs.agr hsb hA).1 f3,(K.block _ (wAI f4) id).trans f4,f5,f6,f7,hle _ _ f8,fun q c hq hc=>?_⟩)⟩
    rcases hnew q c hq with h1 | ⟨h1,_⟩
    ·exact f9 q c h1 hc
    ·have:=wAI f4
     omega
theorem wFi:∀ (r:List AO),(∀ b ∈ r,b.kd ≠ 0) \/ ∃ x b y,r=x ++ b :: y/\b.kd=0/\∀ c ∈ x,c.kd ≠ 0
 | []=>.inl fun b hb=>by simp at hb
 | a :: r=>by
  by_cases h0:a.kd=0
  ·exact .inr ⟨[],a,r,rfl,h0,fun c hc=>by simp at hc⟩
  ·rcases wFi r with h | ⟨x,b,y,h1,h2,h3⟩
   ·refine .inl fun b hb=>?_
    rcases nP.1 hb with rfl | hb
    ·exact h0
    ·exact h b hb
   ·refine .inr ⟨a :: x,b,y,by rw [h1];rfl,h2,fun c hc=>?_⟩
    rcases nP.1 hc with rfl | hc
    ·exact h0
    ·exact h3 c hc
theorem JS.freeOp {σg:Tr AV} (HE:FrX ex) (HY:FrX exY) (Z:ZOK P N l os) (HL:LCK tb ex exY os σ0 h0 σg) (Hg:∀ a ∈ os,8 <= a.kd->∀ p,p ∈ wBG a \/ a.dst=some p->evA σf (.t p)=evA σg (.t p)) {μ0:Mu} {w0:World} {S:Nat->Bool} (J:JS tb ex exY P l os σ0 h0 σf hf μ0 w0 S σ w s t σA h σ' μ μS) (ha:a ∈ t) (hS:S a.ix=false) (hfree:wBB a.kd=false)
  (hp:∀ j ∈ prI l a.ix,S j=true) (hdc:∀ k,k < l.length->S k=true->∀ j ∈ prI l k,S j=true) (A:AOK P N l a o) :
  Step1 P l o σ w fun cv w'=>∃ μT,JS tb ex exY P l os σ0 h0 σf hf μ0 w0 (fun k=>k == a.ix || S k) (put' σ o cv) w' s t σA h σ' μ μT:=by
 have hao:a ∈ os:=by rw [J.e];simp [ha]
 have hl:a.ix < l.length:=(nN.1 A.get).1
 obtain ⟨r,r',et⟩:=nL ha
 have e1:os=(s ++ r) ++ a :: r':=by rw [J.e,et,nJ]
 have hsel:=Z.sel a hao _ A.get
 have hsub:=Z.sub a hao _ A.get
 have hfull:=J.full
 rw [e1] at hfull
 obtain ⟨σ1,h1,r1,r2⟩:=wID hfull
 obtain ⟨hw,hrd⟩:=J.frm Z hao hl hp hdc A e1 r1
 have hrr:wAP tb ex exY r σA h=some (σ1,h1):=by rw [<- wCB s r _ _ _ _ J.hs];exact r1
 have hself:∀ cv,Agr l o σ (put' σ o cv):=by
  intro cv d hd
  obtain ⟨p,hp,rfl⟩:=wCp A hsub d hd
  exact (wEQ A (Z.rd _ a _ e1 p hp a (by simp)) cv).symm
 obtain ⟨hdn,hkd⟩:a.dst ≠ none/\(a.kd=1 \/ a.kd=3 \/ (a.kd=6/\kdA a.op=3) \/ (a.kd=4/\wIu a.op=true) \/ (8 <= a.kd/\kdA a.op=1)):=by
  rcases Z.kd a hao with h | h
  ·rw [hfree] at h;cases h
  ·exact h
 obtain ⟨p,d,d1,d2,d3,_⟩:∃ p d,a.dst=some p/\o.dst=some d/\d=p.nat - 1/\d < N:=by
  rcases A.dst with ⟨h1,_⟩ | h
  ·exact absurd h1 hdn
  ·exact h
 have eput:∀ cv,put' σ o cv (p.nat - 1)=cv:=fun cv=>by unfold put';rw [d2,d3];exact wBf _ _ _
 have hslot:∀ q ∈ wBR (wAk a.op),q ∈ wBG a:=fun q hq=>nz _ hq
 rcases r2 with ⟨g1,v,h2,g2,g3⟩ | ⟨g1,g3⟩
 ·have hv:evA σf (.t p)=v:=wHX Z e1 g3 d1
  have hw':wanted l σ o=true:=hw.trans g1
  have hwn:∀ cv,wanted l (put' σ o cv) o=true:=fun cv=>(wBD (hself cv)).symm.trans hw'
  have hvS:∀ q ∈ wBR (wAk a.op),Rv μS (evA σ1 (.t q)) (σ (q.nat - 1)):=fun q hq=>by
   rw [<- hrd q (hslot q hq)]
   exact (J.opnd Z hao hl hp hdc (hslot q hq)).1
  have clean:(a.kd=1 \/ a.kd=3 \/ 8 <= a.kd)->(∃ cv,Rv μ v cv/\Runs P σ w o cv w)->Step1 P l o σ w fun cv w'=>∃ μT,JS tb ex exY P l os σ0 h0 σf hf μ0 w0 (fun k=>k == a.ix || S k) (put' σ o cv) w' s t σA h σ' μ μT:=by
   rintro hk ⟨cv,c1,c2⟩
   refine .inl ⟨hw',.inr (.inl ⟨cv,w,c2,μS,J.add Z ha hS hfree hdc A (Keep.refl w _) (Mu.Le.refl _) (fun q c hq=>.inl hq) ⟨p,A.get,d1,.inr ⟨hwn cv,.inl ⟨hk,?_⟩⟩⟩⟩)⟩
   rw [hv,eput]
   exact c1
  have hvC:(a.kd=1 \/ a.kd=3 \/ 8 <= a.kd)->∀ q ∈ wBR (wAk a.op),Rv μ (evA σ1 (.t q)) (σ (q.nat - 1)):=fun hk q hq=>by
   rw [<- hrd q (hslot q hq)]
   exact (J.opnd Z hao hl hp hdc (hslot q hq)).2 hk
  have loadC:(a.kd=1 \/ a.kd=3 \/ 8 <= a.kd)->kdA a.op=1->∀ (x:List AO),(∀ b ∈ x,b ∈ t)->∀ {σ2:Tr AV} {h3 h4:AH} {σ3:Tr AV},wAP tb ex exY x σA h=some (σ2,h3)->opY a.op tb ex exY σ3 h3=some (v,h4)->(∀ b ∈ x,b.kd=0->False)->(∀ q ∈ wBG a,evA σf (.t q)=evA σ3 (.t q))->∃ cv,Rv μ v cv/\Runs P σ w o cv w:=by
   intro hk k x hx σ2 h3 h4 σ3 hrx gY hx0 hrd3
   have hv3:∀ q ∈ wBR (wAk a.op),Rv μ (evA σ3 (.t q)) (σ (q.nat - 1)):=fun q hq=>by
    rw [<- hrd3 q (hslot q hq)]
    exact (J.opnd Z hao hl hp hdc (hslot q hq)).2 hk
   have hrs:=wIB gY
   have henv:=wFD hv3
   obtain ⟨_,hold⟩:=wGC HE HY x _ _ _ _ hrx (fun b hb=>Z.ao b (by rw [J.e];simp [hx b hb])) (fun b hb=>by
    rcases Z.kd b (by rw [J.e];simp [hx b hb]) with h | h
    ·unfold wBB at h
     simp only [Bool.or_eq_true] at h
     rcases h with h | h
     ·exact absurd (nM h) (hx0 b hb)
     ·exact .inl (nM h)
    ·exact .inr h.2)
   have hm:∀ b c,μ b=some c->h.m.get b=h3.m.get b:=fun b c hb=>by
    refine (hold b ?_).symm
    rcases Nat.lt_or_ge b.nat h.nx.nat with hlt | hge
    ·exact hlt
    ·rw [J.sim.nx b hge] at hb;cases hb
   have hld:=wLa k A.op henv hm hrs
   obtain ⟨cv,c1,c2⟩:=wKb (C:=CC P) hsel hsub (.inl k) A.op hld J.sim (fun q hq=>by rw [wFC,if_pos hq];exact hv3 q hq)
   exact ⟨cv,c1,c2⟩
  rcases hkd with hk | hk | ⟨hk,hk2⟩ | ⟨hk,hk2⟩ | ⟨hk,hk2⟩
  ·have gY:opY a.op tb ex exY σ1 h1=some (v,h2):=by rw [hk] at g2;exact g2
   refine clean (.inl hk) ?_
   rcases A.k1 hk with k | k
   ·exact loadC (.inl hk) k r (fun b hb=>by rw [et];simp [hb]) hrr gY (fun b hb h0=>by
     have:=wCO hdc hp (Z.ld _ a _ e1 hk b (by simp [hb]) h0)
     have:=J.free b (by rw [et];simp [hb]) this
     rw [h0] at this
     cases this) hrd
   ·obtain ⟨cv,c1,c2⟩:=wFE hsel hsub k A.op gY (hvC (.inl hk))
    exact ⟨cv,c1,c2 w⟩
  ·have gY:opY a.op tb ex exY σ1 h1=some (v,h2):=by rw [hk] at g2;exact g2
   obtain ⟨cv,c1,c2⟩:=wFE hsel hsub (A.k3 hk) A.op gY (hvC (.inr (.inl hk)))
   exact clean (.inr (.inl hk)) ⟨cv,c1,c2 w⟩
  ·have gY:opY a.op tb ex exY σ1 h1=some (v,h2):=by rw [hk] at g2;exact g2
   obtain ⟨cv,c1,c2⟩:=wFE hsel hsub hk2 A.op gY hvS
   refine .inl ⟨hw',.inr (.inl ⟨cv,w,c2 w,μS,J.add Z ha hS hfree hdc A (Keep.refl w _) (Mu.Le.refl _) (fun q c hq=>.inl hq) ⟨p,A.get,d1,.inr ⟨hwn cv,.inr (.inl ⟨hk,?_,w,w,?_⟩)⟩⟩⟩)⟩
   ·rw [hv,eput]
    exact c1
   ·rw [eput]
    exact (Runs.agr hsel (hself cv)).1 (c2 w)
  ·have gY:opY a.op tb ex exY σ1 h1=some (v,h2):=by rw [hk] at g2;exact g2
   obtain ⟨B,vf,ob,val,_,ev',_,c1,c2,c3⟩:=wIj (C:=CC P) hsel hsub hk2 A.op gY hvS
   have hno:μS h1.nx=none:=by
    cases hq:μS h1.nx with
    | none=>rfl
    | some c =>
     rcases J.nm _ c hq with g | ⟨b,ob',s2,t2,σ2,h3,k1,k2,k3,k4,k5,k6,k7,k8⟩
     ·have:=wNI HE HY Z J.e J.hs ha e1 r1
      rw [J.sim.nx _ this] at g
      cases g
     ·have hbo:b ∈ os:=by rw [J.e];simp [k1]
      have hne:a ≠ b:=fun e=>by subst e;rw [hS] at k2;cases k2
      obtain ⟨ob2,B2⟩:=wBh (Z.ao b hbo)
      have hb2:wIu b.op=true:=by
       rcases Z.kd b hbo with hh | ⟨_,hh | hh | hh | hh | hh⟩
       ·rw [k5] at hh;exact absurd hh (by decide)
       ·omega
       ·omega
       ·omega
       ·exact hh.2
       ·omega
      have hwb:wBW σ2 b.grd=true:=by
       have hlb:b.ix < l.length:=(nN.1 k3).1
       have eo:ob2=ob':=by have:=B2.get;rw [k3] at this;exact (nD this).symm
       subst eo
       have:=(J.frm Z hbo hlb (hdc _ hlb k2) hdc B2 k6 k7).1
       rw [<- this]
       exact k4
      exact absurd k8 (nm_ne HE HY Z e1 k6 r1 k7 g1 hwb hk hk2 k5 hb2 hne)
   have hadd:=Mu.add_le (c:=(⟨w.heap.size,0,g0⟩:Cl)) hno
   have hsz:∀ q c,μS q=some c->c.1 < w.heap.size:=fun q c hq=>by
    rcases J.nm q c hq with g | ⟨b,ob',s2,t2,σ2,h3,k1,k2,k3,k4,k5,k6,k7,k8⟩
    ·exact J.sim.lt q c g
    ·obtain ⟨ob2,p2,Pd⟩:=J.pd b k1 k2
     have eo:ob2=ob':=by have:=Pd.get;rw [k3] at this;exact (nD this).symm
     subst eo
     rcases Pd.fact with ⟨f,_⟩ | ⟨_,⟨f,_⟩ | ⟨f,_⟩ | ⟨_,_,w1,o1,s3,t3,σ3,h4,_,f4,_,f6,f7,f8,_⟩⟩
     ·rw [k4] at f;cases f
     ·omega
     ·omega
     ·have es:s3=s2:=(wBb (f6 ▸ Z.one) (f6.symm.trans k6)).1
      subst es
      rw [k7] at f7
      cases f7
      subst k8
      rw [hq] at f8
      cases f8
      exact wAI f4
   refine .inl ⟨hw',.inr (.inl ⟨val w.heap.size,w.alloc ob,c1 w,μS.add h1.nx ⟨w.heap.size,0,g0⟩,J.add Z ha hS hfree hdc A (wAe w ob) hadd (fun q c hq=>?_) ⟨p,A.get,d1,.inr ⟨hwn _,.inr (.inr ⟨hk,?_,w,ob,s ++ r,r',σ1,h1,?_,heap_alloc_new w ob,J.E.keep.size,e1,r1,Mu.add_same _ _ _,fun q c hq hc=>?_⟩)⟩⟩⟩)⟩
   ·unfold Mu.add at hq
    split at hq
    ·rename_i eq
     cases hq
     exact .inr ⟨rfl,hw',hk,s ++ r,r',σ1,h1,e1,r1,eq⟩
    ·exact .inl hq
   ·rw [hv,eput,ev']
    exact c3 _ _ _ (Mu.add_same _ _ _)
   ·rw [eput]
    exact (Runs.agr hsel (hself _)).1 (c1 w)
   ·unfold Mu.add at hq
    split at hq
    ·rename_i eq
     exact eq
    ·have:=hsz q c hq
     omega
  ·have gY:opY a.op tb ex exY σ1 h1=some (v,h2):=wKc (by omega) g2
   refine clean (.inr (.inr hk)) ?_
   rcases wFi r with hz | ⟨x,b,y,er,hb0,hx0⟩
   ·exact loadC (.inr (.inr hk)) hk2 r (fun b hb=>by rw [et];simp [hb]) hrr gY (fun b hb h0=>hz b hb h0) hrd
   ·have e2:os=(s ++ x) ++ b :: (y ++ a :: r'):=by rw [J.e,et,er];simp
    have hfull2:=J.full
    rw [e2] at hfull2
    obtain ⟨σ2,h3,r3,_⟩:=wID hfull2
    have hbt:b ∈ t:=by rw [et,er];simp
    have hanc:wLH y + 8 < a.kd:=by
     rcases Z.ld8 _ a _ e1 hk (s ++ x) b y (by rw [er];simp) hb0 with g | g
     ·have:=J.free b hbt (wCO hdc hp g)
      rw [hb0] at this
      cases this
     ·exact g
    have hlk:=HL _ b _ e2 hb0 _ _ r3
    have hsame:=wHT y a r' 0 hlk hfree (by omega)
    have hgf:wBW σg a.grd=true:=by
     rw [<- g1]
     cases hg:a.grd with
     | none=>rfl
     | some q =>
      obtain ⟨q,c⟩:=q
      show isB c (evA _ (.t q))=isB c (evA _ (.t q))
      have hqr:q ∈ wBG a:=nW _ (by rw [hg];simp)
      rw [<- Hg a hao hk q (.inl hqr),hrd q hqr]
    unfold wFa at hsame
    rw [d1] at hsame
    simp only [hgf] at hsame
    split at hsame
    ·rename_i v' h5 hq
     have hvv:=wKY hsame
     rw [<- Hg a hao hk p (.inr d1),hv] at hvv
     subst hvv
     have hrx:wAP tb ex exY x σA h=some (σ2,h3):=by rw [<- wCB s x _ _ _ _ J.hs];exact r3
     exact loadC (.inr (.inr hk)) hk2 x (fun b hb=>by rw [et,er];simp [hb]) hrx hq (fun b hb h0=>hx0 b hb h0) (fun q hq=>Hg a hao hk q (.inl hq))
    ·cases hsame
 ·refine .inr ⟨hw.trans g1,μS,J.add Z ha hS hfree hdc A (Keep.refl w _) (Mu.Le.refl _) (fun q c hq=>.inl hq) ⟨p,A.get,d1,.inl ⟨(wBD (hself _)).symm.trans (hw.trans g1),eput _,?_⟩⟩⟩
  exact wHX Z e1 (v:=u) g3 d1
theorem JS.catch (Z:ZOK P N l os) {μ0:Mu} {w0:World} {S:Nat->Bool}:∀ (r:List AO) {s t:List AO} {σA:Tr AV} {h:AH} {σ':Env} {μ:Mu},JS tb ex exY P l os σ0 h0 σf hf μ0 w0 S σ w s (r ++ t) σA h σ' μ μS->(∀ a ∈ r,S a.ix=true) ->
  ∃ σB hB σ'' μB,JS tb ex exY P l os σ0 h0 σf hf μ0 w0 S σ w (s ++ r) t σB hB σ'' μB μS
 | [],s,t,σA,h,σ',μ,J,_=>⟨σA,h,σ',μ,by rw [ng];exact J⟩
 | a :: r,s,t,σA,h,σ',μ,J,hS=>by
  obtain ⟨σB,hB,σ'',μB,J1⟩:=JS.catch1 (t:=r ++ t) Z J (hS a (by simp))
  obtain ⟨σC,hC,σ3,μC,J2⟩:=JS.catch Z r J1 fun b hb=>hS b (by simp [hb])
  exact ⟨σC,hC,σ3,μC,by rw [show s ++ a :: r=s ++ [a] ++ r by simp];exact J2⟩
theorem JS.anew {A B:List AO} {σm:Tr AV} {h2:AH} {μ0:Mu} {w0:World} {S:Nat->Bool} (J:JS tb ex exY P l A σ0 h0 σm h2 μ0 w0 S σ w s [] σA h σ' μ μS) (hr:wAP tb ex exY B σm h2=some (σf,hf)) (hB:∀ b ∈ B,S b.ix=false) :
  Ext μ0 h0.fl.nat w0 μ w/\h2.fl=h0.fl/\JS tb ex exY P l B σm h2 σf hf μ w S σ w [] B σm h2 σ' μ μ:=by
 have hr1:=J.hr
 rw [wAa] at hr1
 cases hr1
 exact ⟨J.E,J.fl,rfl,wAa _ _ _ _ _,hr,fun b hb=>(by simp at hb),fun b hb hS=>(by rw [hB b hb] at hS;cases hS),Ext.refl μ _ w,J.sim,rfl,J.env,fun q _=>J.ag q fun b hb=>(by simp at hb),Mu.Le.refl _,fun q c hq=>.inl hq,fun b hb hS=>(by rw [hB b hb] at hS;cases hS)⟩
theorem CK.lazy {rr:Option Nat} {Q:wBn} {D:List Deferred} {id:Nat} (hm:P.follows .mixedOrders=true) (HC:wEG (CC P) P tb ex) (HY':wDK (CC P) P exY) (HE:FrX ex) (HY:FrX exY) (ZZ:∃ A B,ZAll P N l os A B) (HL0:LCK tb ex exY os σ0 h0 σf)
  (hr:wAP tb ex exY os σ0 h0=some (σf,hf)) (S:Sim (CC P) P μ h0 w) (hE:EnvR μ σ0 σ)
  (hQ:∀ μ' w' σ',Ext μ h0.fl.nat w μ' w'->Sim (CC P) P μ' hf w'->EnvR μ' σf σ'->hf.fl=h0.fl->Q D .normal σ' w'):CK rr N P (.region id l.toArray true) Q D σ w:=by
 obtain ⟨A,B,ZZ⟩:=ZZ
 obtain ⟨σm,h2,hrA,hrB⟩:=wBy A B σ0 h0 _ (ZZ.eq ▸ hr)
 have HL:LCK tb ex exY A σ0 h0 σf/\LCK tb ex exY B σm h2 σf:=by
  refine ⟨fun s b t e k0 σ1 h1 hs=>?_,wHy ZZ.low⟩
  have:=HL0 s b (t ++ B) (by rw [ZZ.eq,e];simp) k0 σ1 h1 hs
  exact wFz t B 0 this
 have Hg:∀ a ∈ A,8 <= a.kd->∀ p,p ∈ wBG a \/ a.dst=some p->evA σm (.t p)=evA σf (.t p):=fun a ha h8 p hp=>(wBa B _ _ _ _ hrB p fun b hb=>ZZ.far a ha h8 p hp b hb).symm
 have lt:∀ b ∈ os,b.ix < l.length:=fun b hb=>by
  rw [ZZ.eq] at hb
  rcases nK.1 hb with hb | hb
  ·obtain ⟨o,A⟩:=wBh (ZZ.za.ao b hb)
   exact (nN.1 A.get).1
  ·obtain ⟨o,A⟩:=wBh (ZZ.zb.ao b hb)
   exact (nN.1 A.get).1
 have stepB:∀ (S1:Nat->Bool) (a:AO) (σ1:Env) (w1:World) (μm:Mu) (wm:World) (s t:List AO) (σA:Tr AV) (h:AH) (σ':Env) (μ1 μS:Mu) (o:Oper),a ∈ B->S1 a.ix=false->(∀ j ∈ prI l a.ix,S1 j=true)->(∀ k,k < l.length->S1 k=true->∀ j ∈ prI l k,S1 j=true)->AOK P N l a o ->
   JS tb ex exY P l B σm h2 σf hf μm wm S1 σ1 w1 s t σA h σ' μ1 μS->Step1 P l o σ1 w1 fun v w'=>∃ s t σA h σ' μ1 μS,JS tb ex exY P l B σm h2 σf hf μm wm (fun k=>k == a.ix || S1 k) (put' σ1 o v) w' s t σA h σ' μ1 μS:=by
  intro S1 a σ1 w1 μm wm s t σA h σ' μ1 μS o ha hSi hpi hdc A J
  have hat:a ∈ t:=by
   have:=ha
   rw [J.e] at this
   rcases nK.1 this with h | h
   ·rw [J.inS a h] at hSi;cases hSi
   ·exact h
  cases hf:wBB a.kd with
  | true =>
   obtain ⟨r,r',et⟩:=nL hat
   rw [et] at J
   obtain ⟨σB,hB,σ'',μB,J1⟩:=JS.catch ZZ.zb r J fun b hb=>wCO hdc hpi (ZZ.zb.anc (s ++ r) a r' (by rw [J.e,nJ]) hf b (by simp [hb]))
   refine (J1.fixed HC HY' HE HY ZZ.zb hf hSi hdc A).mono ?_
   rintro v w' ⟨σC,hC,σ3,μC,μT,J2⟩
   exact ⟨_,_,_,_,_,_,_,J2⟩
  | false =>
   refine (J.freeOp HE HY ZZ.zb HL.2 (fun _ _ _ _ _=>rfl) hat hSi hf hpi hdc A).mono ?_
   rintro v w' ⟨μT,J2⟩
   exact ⟨_,_,_,_,_,_,_,J2⟩
 have toB:∀ (S1:Nat->Bool) (σ1:Env) (w1:World) (s t:List AO) (σA:Tr AV) (h:AH) (σ':Env) (μ1 μS:Mu),(∀ a ∈ A,S1 a.ix=true)->(∀ b ∈ B,S1 b.ix=false)->JS tb ex exY P l A σ0 h0 σm h2 μ w S1 σ1 w1 s t σA h σ' μ1 μS ->
   ∃ μm σ',Ext μ h0.fl.nat w μm w1/\h2.fl=h0.fl/\JS tb ex exY P l B σm h2 σf hf μm w1 S1 σ1 w1 [] B σm h2 σ' μm μm:=by
  intro S1 σ1 w1 s t σA h σ' μ1 μS hA hB J
  have J0:JS tb ex exY P l A σ0 h0 σm h2 μ w S1 σ1 w1 s (t ++ []) σA h σ' μ1 μS:=by rw [ng];exact J
  obtain ⟨σB,hB',σ'',μB,J1⟩:=JS.catch ZZ.za t J0 fun b hb=>hA b (by rw [J.e];simp [hb])
  obtain ⟨g1,g2,g3⟩:=J1.anew hrB hB
  exact ⟨μB,σ'',g1,g2,g3⟩
 refine CK.anyRel hm ZZ.za.pr (fun S σ w1=>((∀ b ∈ B,S b.ix=false)/\∃ s t σA h σ' μ1 μS,JS tb ex exY P l A σ0 h0 σm h2 μ w S σ w1 s t σA h σ' μ1 μS) \/
  ((∀ a ∈ A,S a.ix=true)/\∃ μm wm,Ext μ h0.fl.nat w μm wm/\h2.fl=h0.fl/\∃ s t σA h σ' μ1 μS,JS tb ex exY P l B σm h2 σf hf μm wm S σ w1 s t σA h σ' μ1 μS)) ?_ ?_ ?_
 ·exact .inl ⟨fun b _=>rfl,[],A,σ0,h0,σ,μ,μ,rfl,wAa _ _ _ _ _,hrA,fun b hb=>(by simp at hb),fun b _ hb=>(by cases hb),Ext.drew μ _ w,S.keep (Keep.drew w),rfl,hE,fun _ _=>rfl,Mu.Le.refl _,fun q c hq=>.inl hq,fun b _ hb=>(by cases hb)⟩
 ·rintro S1 i σ1 w1 hi hSi hpi hdc hlt hI
  obtain ⟨a,ha,rfl⟩:=ZZ.all i hi
  rw [ZZ.eq] at ha
  rcases nK.1 ha with ha | ha
  ·obtain ⟨o,AK⟩:=wBh (ZZ.za.ao a ha)
   refine ⟨o,AK.get,wFf AK,?_⟩
   rcases hI with ⟨hB,s,t,σA,h,σ',μ1,μS,J⟩ | ⟨hA,_⟩
   ·have hB':∀ b ∈ B,(fun k=>k == a.ix || S1 k) b.ix=false:=fun b hb=>by
     have:=(ZZ.cross b hb a ha).1
     simp [hB b hb,Ne.symm this]
    have hat:a ∈ t:=by
     have:=ha
     rw [J.e] at this
     rcases nK.1 this with h | h
     ·rw [J.inS a h] at hSi;cases hSi
     ·exact h
    cases hf:wBB a.kd with
    | true =>
     obtain ⟨r,r',et⟩:=nL hat
     rw [et] at J
     obtain ⟨σB,hB2,σ'',μB,J1⟩:=JS.catch ZZ.za r J fun b hb=>wCO hdc hpi (ZZ.za.anc (s ++ r) a r' (by rw [J.e,nJ]) hf b (by simp [hb]))
     refine (J1.fixed HC HY' HE HY ZZ.za hf hSi hdc AK).mono ?_
     rintro v w' ⟨σC,hC,σ3,μC,μT,J2⟩
     exact .inl ⟨hB',_,_,_,_,_,_,_,J2⟩
    | false =>
     refine (J.freeOp HE HY ZZ.za HL.1 Hg hat hSi hf hpi hdc AK).mono ?_
     rintro v w' ⟨μT,J2⟩
     exact .inl ⟨hB',_,_,_,_,_,_,_,J2⟩
   ·rw [hA a ha] at hSi
    cases hSi
  ·obtain ⟨o,AK⟩:=wBh (ZZ.zb.ao a ha)
   refine ⟨o,AK.get,wFf AK,?_⟩
   have hA:∀ c ∈ A,S1 c.ix=true:=fun c hc=>wCO hdc hpi (ZZ.cross a ha c hc).2
   rcases hI with ⟨hB,s,t,σA,h,σ',μ1,μS,J⟩ | ⟨_,μm,wm,g1,g2,s,t,σA,h,σ',μ1,μS,J⟩
   ·obtain ⟨μm,σ2,g1,g2,J1⟩:=toB S1 σ1 w1 s t σA h σ' μ1 μS hA hB J
    refine (stepB S1 a σ1 w1 _ _ _ _ _ _ _ _ _ o ha hSi hpi hdc AK J1).mono ?_
    rintro v w' ⟨s,t,σA,h,σ',μ1,μS,J2⟩
    exact .inr ⟨fun c hc=>by simp [hA c hc],_,_,g1,g2,_,_,_,_,_,_,_,J2⟩
   ·refine (stepB S1 a σ1 w1 _ _ _ _ _ _ _ _ _ o ha hSi hpi hdc AK J).mono ?_
    rintro v w' ⟨s,t,σA,h,σ',μ1,μS,J2⟩
    exact .inr ⟨fun c hc=>by simp [hA c hc],_,_,g1,g2,_,_,_,_,_,_,_,J2⟩
 ·rintro S1 σ1 w1 hall hI
  have hI2:∃ μm wm,Ext μ h0.fl.nat w μm wm/\h2.fl=h0.fl/\∃ s t σA h σ' μ1 μS,JS tb ex exY P l B σm h2 σf hf μm wm S1 σ1 w1 s t σA h σ' μ1 μS:=by
   rcases hI with ⟨hB,s,t,σA,h,σ',μ1,μS,J⟩ | ⟨_,hI⟩
   ·obtain ⟨μm,σ2,g1,g2,J1⟩:=toB S1 σ1 w1 s t σA h σ' μ1 μS (fun a ha=>hall _ (lt a (by rw [ZZ.eq];simp [ha]))) hB J
    exact ⟨_,_,g1,g2,_,_,_,_,_,_,_,J1⟩
   ·exact hI
  obtain ⟨μm,wm,g1,g2,s,t,σA,h,σ',μ1,μS,J⟩:=hI2
  have J0:JS tb ex exY P l B σm h2 σf hf μm wm S1 σ1 w1 s (t ++ []) σA h σ' μ1 μS:=by rw [ng];exact J
  obtain ⟨σB,hB,σ'',μB,J1⟩:=JS.catch ZZ.zb t J0 fun b hb=>hall _ (lt b (by rw [ZZ.eq,J.e];simp [hb]))
  have hr1:=J1.hr
  rw [wAa] at hr1
  cases hr1
  refine hQ μB w1 σ1 (g1.trans (g2 ▸ J1.E)) J1.sim (fun q=>?_) (J1.fl.trans g2)
  rw [J1.ag q fun b hb=>by simp at hb]
  exact J1.env q
end
end Go.KX
namespace Go.KX
open Go.RowKit Go.KL
section
variable {P:Program} {tb:Tr AF}
theorem wKf (hm:P.follows .mixedOrders=true) {ex exY:Run} (HC:wEG (CC P) P tb ex) (HY:wDK (CC P) P exY) (FE:FrX ex) (FY:FrX exY) {os:List AO} {σA σA':Tr AV} {h h':AH} (hr:wAP tb ex exY os σA h=some (σA',h')) {id N:Nat} {ops:Array Oper} {draw:Bool} (hc:chkR P N os ops.toList draw=true)
  {rr:Option Nat} {μ:Mu} {σ:Env} {w:World} {D:List Deferred} {n0:Nat} (S:Sim (CC P) P μ h w) (hE:EnvR μ σA σ) (M:Mk μ w n0 D):CK rr N P (.region id ops draw) (PostX P μ h.fl w n0 rr D .nrm σA' h') D σ w:=by
 unfold chkR at hc
 simp only [nE,nc] at hc
 obtain ⟨c1,c2⟩:=hc
 have hop:ops=ops.toList.toArray:=by simp
 have hcs:∀ a ∈ os,wEy P N ops.toList a=true/\kOf ((nI ops.toList.length).map fun i=>kdAt i os) a.ix=a.kd:=fun a ha=>⟨(c1 a ha).1,nM (c1 a ha).2⟩
 have post:∀ {w0:World},Ext μ h.fl.nat w μ w0->Sim (CC P) P μ h w0->OKS N P ops.toList (PostX P μ h.fl w n0 rr D .nrm σA' h') D ((nI ops.toList.length).map fun i=>kdAt i os) (wGh os) σ w0:=by
  intro w0 E0 S0
  refine wGi HC HY os σA h σA' h' hr hcs μ σ w0 S0 hE fun μ' w' σ' q1 q2 q3 q4=>?_
  have E:=E0.trans q1
  exact ⟨rfl,μ',E,q2,q3,M.ext E,q4,fun _=>rfl⟩
 rw [hop]
 cases draw with
 | true =>
  simp only at c2
  split at c2
  ·simp only [nE,nc,Nat.blt_eq] at c2
   exact CK.lazy hm HC HY FE FY (wKS (fun a ha=>(c1 a ha).1) c2.2) (wHy c2.1) hr S hE fun μ' w' σ' q1 q2 q3 q4=>⟨rfl,μ',q1,q2,q3,M.ext q1,q4,fun _=>rfl⟩
  ·exact CK.anyOrd hm _ _ c2 (post (Ext.drew μ _ w) (S.keep (Keep.drew w)))
 | false=>exact CK.reg _ c2 (post (Ext.refl μ _ w) S)
theorem wLb {ex:Run} (HC:wEG (CC P) P tb ex) {g:AOd} {t:List Pos} {asg body:AC} {g':Operand} {ps:Array Tmp} {asg' body':Code} {N:Nat} (hc:wDh P N (.rf g t asg body) (.rangeFunc g' ps asg' body')=true)
  {σA σA':Tr AV} {h h':AH} {e:Ex} (hr:sRf true g t asg body tb ex σA h=some (e,σA',h')) {μ:Mu} {σ:Env} {w:World} {D:List Deferred} {n0:Nat} (S:Sim (CC P) P μ h w) (hE:EnvR μ σA σ) (M:Mk μ w n0 D) (hn:n0 <= w.heap.size) :
  CK none N P (.rangeFunc g' ps asg' body') (PostX P μ h.fl w n0 none D e σA' h') D σ w:=by
 simp only [wDh,nE] at hc
 obtain ⟨c1,c2,c3,c4⟩:=hc
 obtain ⟨p,rfl⟩:∃ p:List Nat,ps=p.toArray:=⟨ps.toList,by simp⟩
 ·obtain ⟨ht,c6⟩:=wHz (by simpa using c2)
  unfold sRf at hr
  split at hr
  ·rename_i f fi ca hg
   have hx:=wAD c1 hE
   rw [hg] at hx
   obtain ⟨fv,cv,g1,g2,g3⟩:=hx
   split at hr <;> first | (cases hr;done) | skip
   rename_i rv h2 hcall
   obtain ⟨hcf,hgv⟩:=HC _ _ _ _ _ hcall
   refine CK.rangeFunc (t:=p) g3 hcf fun fn l rb w1 e1 e2 hl hd K hs=>?_
   subst e1 e2
   have hle:=Mu.add_le (c:=(⟨w.heap.size + 1,0,⟨N,σ,p,asg',body',w.heap.size,fn⟩⟩:Cl)) (S.nx h.nx (nY _))
   obtain ⟨s1,s2,s3,s4⟩:=S.push (w':=w1) (c:=⟨w.heap.size + 1,0,⟨N,σ,p,asg',body',w.heap.size,fn⟩⟩) (B:=.loop σA t asg body .ready) K (Nat.le_succ _) (by show w.heap.size + 1 < _;omega) ⟨hl,hE.mono hle,ht,c6,c3,c4⟩
   generalize hμ1:μ.add h.nx (⟨w.heap.size + 1,0,⟨N,σ,p,asg',body',w.heap.size,fn⟩⟩:Cl)=μ1 at *
   have M1:Mk μ1 w1 n0 (wHn w.heap.size :: D):=by
    have M':=M.ext s2
    obtain ⟨rbs,m1,m2,m3⟩:=M'
    have hold:∀ rb ∈ rbs,rb < w.heap.size:=by
     obtain ⟨rbs0,k1,k2,k3⟩:=M
     intro rb hrb
     have hmm:rbs.map wHn=rbs0.map wHn:=by rw [<- m1,<- k1]
     have hinj:rbs=rbs0:=by
      have:∀ (a b:List Nat),a.map wHn=b.map wHn->a=b:=by
       intro a
       induction a with
       | nil=>intro b hb;cases b with
        | nil=>rfl
        | cons _ _=>simp at hb
       | cons x a ih=>intro b hb;cases b with
        | nil=>simp at hb
        | cons y b =>
         simp only [List.map_cons,List.cons.injEq] at hb
         have hxy:x=y:=by have:=hb.1;simp [wHn] at this;exact this
         rw [hxy,ih b hb.2]
      exact this _ _ hmm
     exact (k3 rb (hinj ▸ hrb)).1.lt
    refine ⟨w.heap.size :: rbs,by rw [List.map_cons,<- m1],List.nodup_cons.2 ⟨fun hm=>absurd (hold _ hm) (kB _),m2⟩,fun rb hrb=>?_⟩
    rcases nP.1 hrb with rfl | hrb
    ·refine ⟨hd,hn,fun q c hq=>?_⟩
     rw [<- hμ1] at hq
     unfold Mu.add at hq
     split at hq
     ·cases hq;show w.heap.size + 1 ≠ _;omega
     ·have:=S.lt q c hq;omega
    ·exact m3 rb hrb
   have G:=hgv μ1 w1 (fv ++ (.func (.yield (w.heap.size + 1)) #[] #[] :: cv)) s1 (wCL (g1.mono s2.mono) (wAi ⟨_,s4,rfl⟩ (g2.mono s2.mono)))
   rw [nJ]
   refine G.mono ?_
   rintro v3 w3 ⟨μ3,q1,q2,q3,q4⟩
   rw [s3] at q1 q4
   have E13:=s2.trans q1
   have hc3:=q1.mono _ _ s4
   have fin:∀ {B:AB} {h3:AH} (w4:World),h2.m.get h.nx=some B->wIb B->h2.put h.nx .dead=some h3->Keep w3 w4 (·=w.heap.size + 1)->w4.heap.size=w3.heap.size->∃ μ',Ext μ h.fl.nat w μ' w4/\Sim (CC P) P μ' h3 w4/\EnvR μ' σA σ/\Mk μ' w4 n0 (wHn w.heap.size :: D)/\h3.fl=h.fl:=by
    intro B h3 w4 hB hlv hput K4 _
    obtain ⟨v1,v2,v3⟩:=q2.put hput hB hlv hc3 K4 (B':=.dead) trivial
    rw [q4] at v2 v3
    exact ⟨μ3,E13.trans v2,v1,hE.mono E13.mono,(M1.ext q1).ext v2,v3⟩
   split at hr
   ·rename_i sx tx ax bx hB
    split at hr <;> first | (cases hr;done) | skip
    rename_i h3 hput
    cases hr
    obtain ⟨c',u1,u2⟩:=q2.at_ _ _ hB
    rw [hc3] at u1;cases u1
    have L3:wIa (CC P) μ3 w3 ⟨w.heap.size + 1,0,⟨N,σ,p,asg',body',w.heap.size,fn⟩⟩ sx tx ax bx .ready:=u2
    refine .inl ⟨L3.at_,fun w4 K4 hs4=>?_⟩
    obtain ⟨μ',a1,a2,a3,a4,a5⟩:=fin w4 hB trivial hput K4 hs4
    exact ⟨rfl,μ',a1,a2,a3,a4,a5,fun hq=>by cases hq⟩
   ·rename_i sx tx ax bx ee hB
    split at hr <;> first | (cases hr;done) | skip
    rename_i h3 hput
    cases hr
    obtain ⟨c',u1,u2⟩:=q2.at_ _ _ hB
    rw [hc3] at u1;cases u1
    have L3:wIa (CC P) μ3 w3 ⟨w.heap.size + 1,0,⟨N,σ,p,asg',body',w.heap.size,fn⟩⟩ sx tx ax bx (.done e):=u2
    cases e with
    | nrm =>
     refine .inl ⟨L3.at_,fun w4 K4 hs4=>?_⟩
     obtain ⟨μ',a1,a2,a3,a4,a5⟩:=fin w4 hB trivial hput K4 hs4
     exact ⟨rfl,μ',a1,a2,a3,a4,a5,fun hq=>by cases hq⟩
    | ret =>
     refine .inr ⟨.ret,.inl rfl,L3.at_,fun w4 K4 hs4=>?_⟩
     obtain ⟨μ',a1,a2,a3,a4,a5⟩:=fin w4 hB trivial hput K4 hs4
     exact ⟨rfl,μ',a1,a2,a3,a4,a5,fun hq=>by cases hq⟩
    | exit i =>
     refine .inr ⟨.exit i,.inr ⟨i,rfl⟩,L3.at_,fun w4 K4 hs4=>?_⟩
     obtain ⟨μ',a1,a2,a3,a4,a5⟩:=fin w4 hB trivial hput K4 hs4
     exact ⟨rfl,μ',a1,a2,a3,a4,a5,fun hq=>by cases hq⟩
   ·cases hr
  ·cases hr
theorem CK.ofRounds {rr:Option Nat} {N:Nat} {c:Code} {Q:wBn} {D:List Deferred} {σ:Env} {w:World} (m:Nat) (hh:∀ a,Rep N D a σ->Code.roundsIn (WF rr) 0 P c (wFN N Q) m a w):CK rr N P (.loop c) Q D σ w :=
 fun a ha=>wpIn_loop_rounds m (hh a ha)
theorem wOS {exR:Run} {r:Bool} (HE:wGj P exR r) {a b:AC} {σA σA':Tr AV} {h h':AH} {e:Ex} (hr:wNo a b exR σA h=some (e,σA',h')) {c d:Code} {N:Nat} (hc1:wDh P N a c=true) (hc2:wDh P N b d=true)
  {rr:Option Nat} {μ:Mu} {σ:Env} {w:World} {D:List Deferred} {n0:Nat} (hrr:rr.isSome=r) (S:Sim (CC P) P μ h w) (hE:EnvR μ σA σ) (M:Mk μ w n0 D) (hn:n0 <= w.heap.size):CK rr N P (.seq c d) (PostX P μ h.fl w n0 rr D e σA' h') D σ w:=by
 obtain ⟨⟨e1,σ1,h1⟩,ha,hb⟩:=wNY hr
 rw [wHW] at hb
 refine CK.seq ((HE _ _ _ _ _ _ ha c N hc1 rr μ σ w D n0 hrr S hE M hn).mono ?_)
 intro D' e' σ' w' hp
 obtain ⟨rfl,μ1,q1,q2,q3,q4,q5,q6⟩:=hp
 cases e1 with
 | nrm =>
  refine (HE _ _ _ _ _ _ hb d N hc2 rr μ1 σ' w' D' n0 hrr q2 q3 q4 (nq hn q1.keep.size)).mono ?_
  intro D'' e'' σ'' w'' hp
  rw [q5] at hp
  exact PostX.trans q1 q6 hp
 | ret=>cases hb;exact ⟨rfl,μ1,q1,q2,q3,q4,q5,q6⟩
 | exit i=>cases hb;exact ⟨rfl,μ1,q1,q2,q3,q4,q5,q6⟩
theorem wNJ {exR:Run} {r:Bool} {m:Nat} (HE:wGj P exR r) (HL:wKT P exR r m) {a:AC} {σA σA':Tr AV} {h h':AH} {e:Ex} (hr:wJo a exR σA h=some (e,σA',h')) {c:Code} {N:Nat} (hc:wDh P N a c=true)
  {rr:Option Nat} {μ:Mu} {σ:Env} {w:World} {D:List Deferred} {n0:Nat} (hrr:rr.isSome=r) (S:Sim (CC P) P μ h w) (hE:EnvR μ σA σ) (M:Mk μ w n0 D) (hn:n0 <= w.heap.size):∀ act,Rep N D act σ->Code.roundsIn (WF rr) 0 P c (wFN N (PostX P μ h.fl w n0 rr D e σA' h')) (m + 1) act w:=by
 obtain ⟨⟨e1,σ1,h1⟩,ha,hb⟩:=wNY hr
 rw [wHW] at hb
 intro act hact
 rw [roundsIn_succ]
 refine wpIn_mono (HE _ _ _ _ _ _ ha c N hc rr μ σ w D n0 hrr S hE M hn act hact) ?_
 rintro e' act' w' ⟨σ',D',hrep,hp⟩
 obtain ⟨rfl,μ1,q1,q2,q3,q4,q5,q6⟩:=hp
 cases e1 with
 | nrm =>
  refine wFB ?_ m act' w' (HL _ _ _ _ _ _ hb c N hc rr μ1 σ' w' D' n0 hrr q2 q3 q4 (nq hn q1.keep.size) act' hrep)
  rintro e'' act'' w'' ⟨σ'',D'',hrep',hp⟩
  rw [q5] at hp
  exact ⟨σ'',D'',hrep',PostX.trans q1 q6 hp⟩
 | ret=>cases hb;exact ⟨σ',D',hrep,rfl,μ1,q1,q2,q3,q4,q5,q6⟩
 | exit i=>cases hb;exact ⟨σ',D',hrep,rfl,μ1,q1,q2,q3,q4,q5,q6⟩
theorem wNK (hm:P.follows .mixedOrders=true) (T:wIi P tb):∀ (n:Nat) (r:Bool),wGj P (exec tb n r) r/\wKT P (exec tb n r) r n:=by
 intro n
 induction n with
 | zero=>intro r;exact ⟨fun c σA h e σA' h' hr=>(by cases hr),fun c σA h e σA' h' hr=>(by cases hr)⟩
 | succ n ih =>
  intro r
  have HC:=wKU T (ih false).1
  have HY:=wLY (P:=P) (ih true).1
  obtain ⟨HE,HL⟩:=ih r
  have loop:wKT P (exec tb (n + 1) r) r (n + 1):=by
   intro c σA h e σA' h' hr code N hc rr μ σ w D n0 hrr S hE M hn
   have hr:wJo c (exec tb n r) σA h=some (e,σA',h'):=hr
   exact wNJ HE HL hr hc hrr S hE M hn
  refine ⟨?_,loop⟩
  intro c σA h e σA' h' hr code N hc rr μ σ w D n0 hrr S hE M hn
  rw [wGa] at hr
  cases c with
  | skip =>
   have hr:sNrm σA h=some (e,σA',h'):=hr
   cases hr
   have fin:PostX P μ h.fl w n0 rr D .nrm σA h D .normal σ w:=⟨rfl,μ,Ext.refl μ _ w,S,hE,M,rfl,fun _=>rfl⟩
   cases code <;> simp only [wDh,nB] at hc
   ·exact CK.skip fin
   ·exact CK.label fin
  | rg os =>
   have hr:sRg os tb (exec tb n false) (exec tb n true) (exec tb n r) σA h=some (e,σA',h'):=hr
   unfold sRg at hr
   have:∃ y,wAP tb (exec tb n false) (exec tb n true) os σA h=some y/\some (Ex.nrm,y.1,y.2)=some (e,σA',h'):=by
    cases hq:wAP tb (exec tb n false) (exec tb n true) os σA h with
    | none=>rw [hq] at hr;cases hr
    | some y=>rw [hq] at hr;exact ⟨y,rfl,hr⟩
   obtain ⟨y,h1,h2⟩:=this
   cases h2
   cases code <;> simp only [wDh,nB] at hc
   exact wKf hm HC HY (wDM tb n false) (wDM tb n true) h1 hc S hE M
  | seq a b =>
   have hr:wNo a b (exec tb n r) σA h=some (e,σA',h'):=hr
   cases code <;> simp only [wDh,nB,nE] at hc
   exact wOS HE hr hc.1 hc.2 hrr S hE M hn
  | cond x a b =>
   have hr:wJn x a b (exec tb n r) σA h=some (e,σA',h'):=hr
   cases code <;> simp only [wDh,nB,nE] at hc
   have hx:=wAD hc.1 hE
   unfold wJn at hr
   split at hr
   ·rename_i hb;rw [hb] at hx
    exact CK.condT hx (HE _ _ _ _ _ _ hr _ N hc.2.1 rr μ σ w D n0 hrr S hE M hn)
   ·rename_i hb;rw [hb] at hx
    exact CK.condF hx (HE _ _ _ _ _ _ hr _ N hc.2.2 rr μ σ w D n0 hrr S hE M hn)
   ·cases hr
  | block i a =>
   have hr:wHm i a (exec tb n r) σA h=some (e,σA',h'):=hr
   cases code <;> simp only [wDh,nB,nE] at hc
   rename_i j code
   have hij:=nM hc.1
   subst hij
   obtain ⟨⟨e1,σ1,h1⟩,ha,hb⟩:=wNY hr
   refine CK.block ((HE _ _ _ _ _ _ ha code N hc.2 rr μ σ w D n0 hrr S hE M hn).mono ?_)
   rintro D' e' σ' w' ⟨rfl,μ1,q1,q2,q3,q4,q5,q6⟩
   cases e1 with
   | nrm=>cases hb;exact ⟨rfl,μ1,q1,q2,q3,q4,q5,q6⟩
   | ret=>cases hb;exact ⟨rfl,μ1,q1,q2,q3,q4,q5,q6⟩
   | exit k =>
    have hb:Bool.rec (motive:=fun _=>R) (some (.exit k,σ1,h1)) (some (.nrm,σ1,h1)) (Nat.beq k i)=some (e,σA',h'):=hb
    cases hk:Nat.beq k i with
    | true =>
     rw [hk] at hb;cases hb
     have:=nM hk
     subst this
     exact wFk ⟨rfl,μ1,q1,q2,q3,q4,q5,q6⟩
    | false =>
     rw [hk] at hb;cases hb
     exact wLI ⟨rfl,μ1,q1,q2,q3,q4,q5,q6⟩ hk
  | loop a =>
   have hr':exec tb (n + 1) r (.loop a) σA h=some (e,σA',h'):=hr
   cases code <;> simp only [wDh,nB] at hc
   exact CK.ofRounds (n + 1) (loop _ _ _ _ _ _ hr' _ N hc rr μ σ w D n0 hrr S hE M hn)
  | rf g t asg body =>
   have hr:sRf (!r) g t asg body tb (exec tb n false) σA h=some (e,σA',h'):=hr
   cases r with
   | true=>unfold sRf at hr;simp at hr
   | false =>
    have hnone:rr=none:=by cases rr <;> first | rfl | cases hrr
    subst hnone
    cases code <;> first | (simp only [wDh,nB] at hc;done) | skip
    exact wLb HC hc hr S hE M hn
  | exit i =>
   have hr:some (Ex.exit i,σA,h)=some (e,σA',h'):=hr
   cases hr
   cases code <;> simp only [wDh,nB] at hc
   have:=nM hc
   subst this
   exact CK.exit ⟨rfl,μ,Ext.refl μ _ w,S,hE,M,rfl,fun _=>rfl⟩
  | scope a =>
   have hr:exec tb n r a σA h=some (e,σA',h'):=hr
   cases code <;> simp only [wDh,nB] at hc
   refine CK.scope ((HE _ _ _ _ _ _ hr _ N hc rr μ σ w D n0 hrr S hE M hn).mono ?_)
   rintro D' e' σ' w' ⟨rfl,q⟩
   cases e with
   | nrm=>exact ⟨rfl,q⟩
   | ret=>exact ⟨rfl,q⟩
   | exit k=>exact ⟨rfl,q⟩
  | ret =>
   have hr:some (Ex.ret,σA,h)=some (e,σA',h'):=hr
   cases hr
   cases code <;> simp only [wDh,nB] at hc
   exact CK.ret ⟨rfl,μ,Ext.refl μ _ w,S,hE,M,rfl,fun _=>rfl⟩
  | rl os =>
   have hr:sRl os tb (exec tb n false) (exec tb n true) σA h=some (e,σA',h'):=hr
   rw [wLx] at hr
   split at hr
   ·rename_i y hq
    cases hr
    obtain ⟨g1,g2⟩:=wHU _ _ _ _ hq
    cases code <;> simp only [wDh,nB,nE,nc] at hc
    rename_i id ops draw
    obtain ⟨rfl,c1,c2⟩:=hc
    have hop:ops=ops.toList.toArray:=by simp
    rw [hop]
    exact CK.lazy hm HC HY (wDM tb n false) (wDM tb n true) (wKS c1 c2) g2 g1 S hE fun μ' w' σ' q1 q2 q3 q4=>⟨rfl,μ',q1,q2,q3,M.ext q1,q4,fun _=>rfl⟩
   ·cases hr
theorem Sim.empty (C:Chk) (P:Program) (w:World):Sim C P (fun _=>none) ⟨.e,.H,.H⟩ w :=
 ⟨fun _ _=>rfl,fun _ _ h=>(by cases h),fun _ _ _ _ _ _ h=>(by rw [Tr.get_e] at h;cases h),fun _ _ h=>(by rw [Tr.get_e] at h;cases h)⟩
theorem wIl (hm:P.follows .mixedOrders=true) (T:wIi P tb) (n:Nat) (f:Pos) (args:List AV) (vs:List Value) (v:AV) (h:AH) (hv:∀ μ,RvL μ args vs) (hr:wGX tb (exec tb n false) f args ⟨.e,.H,.H⟩=some (v,h)) (w:World) :
  Gv P (f.nat - 1) vs w fun cv w'=>∃ μ,Rv μ v cv/\Keep w w' Non:=by
 obtain ⟨_,hg⟩:=wKU T (wNK hm T n false).1 f args _ v h hr
 refine (hg _ w vs (Sim.empty _ _ w) (hv _)).mono ?_
 rintro cv w' ⟨μ',h1,h2,h3,_⟩
 exact ⟨μ',h3,h1.keep.weak fun i _ ⟨p,d,hp,_⟩=>by cases hp⟩
noncomputable def okB (tb:Tr AF) (n:Nat) (f:Pos) (b:Bool):Bool:=match wGX tb (exec tb n false) f [] ⟨.e,.H,.H⟩ with
 | some (.bool b',_)=>b' == b
 | _=>false
theorem wLc (hm:P.follows .mixedOrders=true) (T:wIi P tb) (n:Nat) (f:Pos) (k:Nat) (hk:f.nat=k + 1) (b:Bool) (hr:okB tb n f b=true) (w:World):Gv P k [] w fun cv w'=>cv=.bool b/\Keep w w' Non:=by
 unfold okB at hr
 split at hr
 ·rename_i b' h hq
  have hb:=eq_of_beq hr
  subst hb
  have:=wIl hm T n f [] [] _ h (fun _=>rfl) hq w
  rw [hk] at this
  refine this.mono ?_
  rintro cv w' ⟨μ,h1,h2⟩
  exact ⟨h1,h2⟩
 ·cases hr
def wKg (f:Nat->AF->Prop):Tr AF->(Nat->Nat)->Prop
 | .e,_=>True
 | .n l v r,g=>(match v with | none=>True | some a=>f (g 1) a)/\wKg f l (fun n=>g (2 * n))/\wKg f r (fun n=>g (2 * n + 1))
theorem wFF {f:Nat->AF->Prop}:∀ {t:Tr AF} {g:Nat->Nat},wKg f t g->∀ p a,t.get p=some a->f (g p.nat) a
 | .e,g,_,p,a,hq=>by rw [Tr.get_e] at hq;cases hq
 | .n l v r,g,⟨h1,h2,h3⟩,.H,a,hq=>by
  rw [Tr.get_H] at hq;subst hq;exact h1
 | .n l v r,g,⟨h1,h2,h3⟩,.O p,a,hq=>wFF h2 p a hq
 | .n l v r,g,⟨h1,h2,h3⟩,.I p,a,hq=>wFF h3 p a hq
theorem wOT (h:wKg (fun n a=>chkF P (n - 1) a=true) tb fun n=>n):wIi P tb:=fun p af hq=>wFF h p af hq
end
end Go.KX
namespace Go.KL
variable {S S' B B' α:Type}
theorem wGD {body:Nat->S->Option (S ⊕ B)} (I:Nat->S->Prop) (Z:B->Prop):∀ (m k:Nat) (s:S),I k s ->
  (∀ i s,k <= i->i < k + m->I i s->(∃ s',body i s=some (.inl s')/\I (i + 1) s') \/ ∃ b,body i s=some (.inr b)/\Z b) ->
  (∃ s',forN body m k s=some (.inl s')/\I (k + m) s') \/ ∃ b,forN body m k s=some (.inr b)/\Z b
 | 0,k,s,h,_=>.inl ⟨s,rfl,h⟩
 | m + 1,k,s,h,hb=>by
  simp only [forN]
  rcases hb k s (nY _) (by omega) h with ⟨s',h1,h2⟩ | ⟨b,h1,h2⟩
  ·rw [h1]
   have:=wGD I Z m (k + 1) s' h2 fun i s h2 h3 h4=>hb i s (by omega) (by omega) h4
   rwa [show k + 1 + m=k + (m + 1) from by omega] at this
  ·rw [h1];exact .inr ⟨b,rfl,h2⟩
theorem wFJ {body:Nat->S->Option S} (I:Nat->S->Prop):∀ (m k:Nat) (s:S),I k s ->
  (∀ i s,k <= i->i < k + m->I i s->∃ s',body i s=some s'/\I (i + 1) s')->∃ s',forN' body m k s=some s'/\I (k + m) s'
 | 0,k,s,h,_=>⟨s,rfl,h⟩
 | m + 1,k,s,h,hb=>by
  simp only [forN']
  obtain ⟨s',h1,h2⟩:=hb k s (nY _) (by omega) h
  rw [h1]
  have:=wFJ I m (k + 1) s' h2 fun i s h2 h3 h4=>hb i s (by omega) (by omega) h4
  rwa [show k + 1 + m=k + (m + 1) from by omega] at this
theorem wCk {body:Nat->S->Option (S ⊕ B)} {n:Nat} {s:S} (hn:n <= 9223372036854775807):wIQ 0 (n:Int) body s=forN body n 0 s:=by
 unfold wIQ
 rw [if_pos (by omega),show ((n:Int) - 0).toNat=n from by omega]
theorem wCr {body:Nat->S->Option S} {n:Nat} {s:S} (hn:n <= 9223372036854775807):wDA 0 (n:Int) body s=forN' body n 0 s:=by
 unfold wDA
 rw [if_pos (by omega),show ((n:Int) - 0).toNat=n from by omega]
theorem wIm [DecidableEq α] {l m:List α} (hn:l.length <= 9223372036854775807) :
  (if (↑l.length:Int)=(↑m.length:Int) then jn (wIQ 0 (↑l.length:Int) (fun k4 (_:Unit)=>(idx l (↑k4:Int)).bind fun x26=>(idx m (↑k4:Int)).bind fun x34=>if x26=x34 then some (.inl ()) else esc (some false)) ()) fun _=>some true else some false)=some (decide (l=m)):=by
 by_cases hl:l.length=m.length
 ·rw [if_pos (by omega),wCk hn]
  have key:∀ (n k:Nat),k + n=l.length->(jn (forN (fun k4 (_:Unit)=>(idx l (↑k4:Int)).bind fun x26=>(idx m (↑k4:Int)).bind fun x34=>if x26=x34 then some (.inl ()) else esc (some false)) n k ()) fun _=>some true)=some (decide (l.drop k=m.drop k)):=by
   intro n
   induction n with
   | zero=>intro k hk;rw [nV (by omega),nV (by omega)];simp [forN]
   | succ n ih =>
    intro k hk
    have h1:k < l.length:=by omega
    have h2:k < m.length:=by omega
    rw [nO h1,nO h2,forN,wEX,wEX,nH h1,nH h2]
    simp only [nA]
    by_cases h:l[k]=m[k]
    ·rw [if_pos h]
     simp only
     rw [ih (k + 1) (by omega)]
     congr 1
     exact decide_eq_decide.2 ⟨fun e=>by rw [e,h],fun e=>(kK e).2⟩
    ·rw [if_neg h]
     have:¬ l[k] :: l.drop (k + 1)=m[k] :: m.drop (k + 1):=fun e=>h (kK e).1
     simp only [wLK,wEb,this,decide_false]
  have:=key l.length 0 (by omega)
  simpa using this
 ·rw [if_neg (by omega)]
  have:l ≠ m:=fun e=>hl (by rw [e])
  simp [this]
theorem wLh {R:Type} {l:List α} {g:α->Option (Unit ⊕ R)} {p:α->Bool} {z:R} {K:Unit->Option R} (hg:∀ a ∈ l,g a=if p a=true then some (.inl ()) else some (.inr z)) (hn:l.length <= 9223372036854775807) :
  jn (wIQ 0 (↑l.length:Int) (fun k (_:Unit)=>(idx l (↑k:Int)).bind g) ()) K=if l.all p=true then K () else some z:=by
 rw [wCk hn]
 have key:∀ (m k:Nat),k + m=l.length->jn (forN (fun k (_:Unit)=>(idx l (↑k:Int)).bind g) m k ()) K=if (l.drop k).all p=true then K () else some z:=by
  intro m
  induction m with
  | zero=>intro k hk;rw [nV (by omega)];rfl
  | succ m ih =>
   intro k hk
   have hlt:k < l.length:=by omega
   have e:l.drop k=l[k] :: l.drop (k + 1):=nO hlt
   rw [e,List.all_cons,forN,wEX,nH hlt]
   simp only [nA,hg _ (List.getElem_mem hlt)]
   by_cases h:p l[k]=true
   ·rw [h]
    simp only [if_true,Bool.true_and]
    exact ih (k + 1) (by omega)
   ·rw [if_neg h]
    have:p l[k]=false:=by simpa using h
    simp only [this,Bool.false_and,wEb,nB,if_false]
 exact key l.length 0 (by omega)
theorem wLi {β:Type} {l:List α} {f:α->β} {bytes:Nat} {g:α->List β->Option (List β)} (hg:∀ a ∈ l,∀ r,g a r=app bytes r [f a]) (hn:l.length <= 9223372036854775807) (hb:l.length * bytes <= 140737488355328) :
  wDA 0 (↑l.length:Int) (fun k r=>(idx l (↑k:Int)).bind fun x=>g x r) []=some (l.map f):=by
 rw [wCr hn]
 have key:∀ (m k:Nat) (r:List β),k + m=l.length->r.length=k->forN' (fun k r=>(idx l (↑k:Int)).bind fun x=>g x r) m k r=some (r ++ (l.drop k).map f):=by
  intro m
  induction m with
  | zero=>intro k r hk _;rw [nV (by omega)];simp [forN']
  | succ m ih =>
   intro k r hk hr
   have hlt:k < l.length:=by omega
   have e:l.drop k=l[k] :: l.drop (k + 1):=nO hlt
   rw [e,forN',wEX,nH hlt]
   have ha:app bytes r [f l[k]]=some (r ++ [f l[k]]):=by
    refine if_pos ?_
    simp only [List.length_cons,List.length_nil]
    exact nq (Nat.mul_le_mul_right _ (by omega)) hb
   simp only [nA,hg _ (List.getElem_mem hlt),ha]
   rw [ih (k + 1) _ (by omega) (by simp [hr]),nJ]
   rfl
 exact key l.length 0 [] (by omega) rfl
theorem wFK {bytes:Nat} {l m:List α} (h:(l.length + m.length) * bytes <= 140737488355328):app bytes l m=some (l ++ m):=if_pos h
end Go.KL
namespace Go.Proofs.YthbficbpebiekaaGreat
open Go.KL
theorem wIG {a b:Int} (h0:0 <= a) (hb:0 < b):∃ x,rem a b=some x/\0 <= x/\x < b:=by
 refine ⟨a.tmod b,if_neg (by omega),?_,?_⟩
 ·rw [nR h0];exact Int.emod_nonneg _ (by omega)
 ·rw [nR h0];exact Int.emod_lt_of_pos _ hb
theorem wHZ (x:Int):0 <= wCW x:=by unfold wCW;omega
theorem wNL (x:Int):wCW x < 4294967296:=by unfold wCW;omega
theorem w64u (x:Int):w64 (wCW x)=wCW x:=by
 have:=wHZ x
 have:=wNL x
 exact wAd (by omega) (by omega)
theorem wLj (a:Int) {b:Int} (hb:b ≠ 0):∃ x,quo a b=some x:=⟨_,if_neg hb⟩
theorem wHa (d:wAC) (n:Int) (h0:0 <= d.next) (h1:d.next <= 1000000):∃ x d',wAR d n=some (x,d')/\0 <= d'.next/\d'.next <= d.next + 1/\0 <= x/\(x < n \/ (n <= 1/\x=0)):=by
 unfold wAR
 by_cases hn:n <= 1
 ·exact ⟨0,d,by rw [if_pos hn],h0,by omega,by omega,.inr ⟨hn,rfl⟩⟩
 rw [if_neg hn]
 by_cases hl:(d.bytes.length:Int)=0
 ·exact ⟨0,d,by rw [if_pos hl],h0,by omega,by omega,.inl (by omega)⟩
 rw [if_neg hl]
 obtain ⟨r,e1,r0,r1⟩:=wIG h0 (show (0:Int) < d.bytes.length by omega)
 obtain ⟨b,e2⟩:∃ b,idx d.bytes r=some b:=by
  unfold idx
  rw [if_pos r0,nH (by omega)]
  exact ⟨_,rfl⟩
 obtain ⟨q,e3⟩:=wLj d.next (b:=d.bytes.length) hl
 obtain ⟨st,e4,_,_⟩:=wIG (wHZ ((wCW ((wCW ((wCW (d.state * 45)) + (wCW b))) + (wCW (77 * (wCW q))))) + 1)) (b:=65519) (by decide)
 rw [e1,nA,e2,nA,e3,nA,e4,nA,wAd (x:=d.next + 1) (by omega) (by omega)]
 have fin:∀ z:Int,∃ x d',((rem (w64 (wCW z)) n).bind fun x=>some (x,(⟨d.bytes,d.next + 1,st⟩:wAC)))=some (x,d')/\0 <= d'.next/\d'.next <= d.next + 1/\0 <= x/\(x < n \/ (n <= 1/\x=0)):=by
  intro z
  obtain ⟨x,e5,x0,x1⟩:=wIG (a:=w64 (wCW z)) (b:=n) (by rw [w64u];exact wHZ z) (by omega)
  exact ⟨x,_,by rw [e5];rfl,by show 0 <= d.next + 1;omega,by show d.next + 1 <= _;omega,x0,.inl x1⟩
 by_cases c1:wCW q=0
 ·rw [if_pos c1]
  by_cases c2:n <= 256
  ·rw [if_pos c2];exact fin _
  ·rw [if_neg c2];exact fin _
 ·rw [if_neg c1];exact fin _
theorem wGE (d:wAC) (a b:Int) (h0:0 <= d.next) (h1:d.next <= 1000000) (ha:-1000000 <= a) (hab:a <= b) (hb:b <= 1000000):∃ x d',wAF d a b=some (x,d')/\0 <= d'.next/\d'.next <= d.next + 1/\a <= x/\x <= b:=by
 unfold wAF
 rw [wAd (x:=b - a) (by omega) (by omega),wAd (x:=b - a + 1) (by omega) (by omega)]
 obtain ⟨x,d',e,n0,n1,x0,x1⟩:=wHa d (b - a + 1) h0 h1
 refine ⟨a + x,d',?_,n0,n1,by omega,by omega⟩
 rw [e,nA]
 simp only
 rw [wAd (by omega) (by omega)]
end Go.Proofs.YthbficbpebiekaaGreat
namespace Go.KL
variable {S B α:Type}
theorem wKi {body:S->Option (S ⊕ B)} (F:Nat):∀ (m:Nat) (s:Nat->S),(∀ i,i < m->body (s i)=some (.inl (s (i + 1))))->iter body (m + F) (s 0)=iter body F (s m)
 | 0,s,_=>by rw [nr]
 | m + 1,s,h=>by
  rw [show m + 1 + F=(m + F) + 1 by omega,iter,h 0 (by omega)]
  exact wKi F m (fun i=>s (i + 1)) fun i hi=>h (i + 1) (by omega)
theorem wNM {body:S->Option (S ⊕ B)} {m:Nat} (s:Nat->S) (h:∀ i,i < m->body (s i)=some (.inl (s (i + 1)))) {b:B} (hb:body (s m)=some (.inr b)) {s0:S} (h0:s 0=s0) (hm:m < 1000000):iter body big s0=some b:=by
 subst h0
 have:=wKi (big - m - 1 + 1) m s h
 rw [show m + (big - m - 1 + 1)=big by unfold big;omega] at this
 rw [this,iter,hb]
theorem wLk {body:S->Option (S ⊕ B)} (I:Nat->S->Prop) (Z:B->Prop) (m:Nat) (step:∀ i s,i <= m->I i s->(i < m/\∃ s',body s=some (.inl s')/\I (i + 1) s') \/ ∃ b,body s=some (.inr b)/\Z b) {s0:S} (h0:I 0 s0) (hm:m < 1000000):∃ b,iter body big s0=some b/\Z b:=by
 have key:∀ (d i:Nat) (s:S),i + d=m->I i s->∀ F,d < F->∃ b,iter body F s=some b/\Z b:=by
  intro d
  induction d with
  | zero =>
   intro i s hi hI F hF
   obtain ⟨F,rfl⟩:∃ G,F=G + 1:=⟨F - 1,by omega⟩
   rcases step i s (by omega) hI with ⟨h,_⟩ | ⟨b,h1,h2⟩
   ·omega
   ·exact ⟨b,by rw [iter,h1],h2⟩
  | succ d ih =>
   intro i s hi hI F hF
   obtain ⟨F,rfl⟩:∃ G,F=G + 1:=⟨F - 1,by omega⟩
   rcases step i s (by omega) hI with ⟨_,s',h1,h2⟩ | ⟨b,h1,h2⟩
   ·obtain ⟨b,h3,h4⟩:=ih (i + 1) s' (by omega) h2 F (by omega)
    exact ⟨b,by rw [iter,h1];exact h3,h4⟩
   ·exact ⟨b,by rw [iter,h1],h2⟩
 exact key m 0 s0 (by omega) h0 big (by unfold big;omega)
theorem wOX [Inhabited α] {l:List α} {i k:Nat} {x:α} (hi:i < l.length) (hk:k < l.length):gd (l.set i x) k=if k=i then x else gd l k:=by
 have h1:=wBT (xs:=l.set i x) (k:=k) (by rw [List.length_set];exact hk)
 rw [List.getElem?_set] at h1
 by_cases e:i=k
 ·subst e
  rw [if_pos rfl,if_pos hi] at h1
  rw [if_pos rfl]
  exact (nD h1).symm
 ·rw [if_neg e,wBT hk] at h1
  rw [if_neg (fun h=>e h.symm)]
  exact (nD h1).symm
theorem wDO [Inhabited α] {l:List α} {k:Nat} (h:k < l.length):gd l k=l[k]:=by
 have:=wBT h
 rw [nH h] at this
 exact (nD this).symm
end Go.KL
namespace Go.Proofs.YthbficbpebiekaaGreat
open Go.KL
theorem wLl {l:List Int} {i k:Int} (i0:0 <= i) (i1:i < l.length) (k0:0 <= k) (k1:k < l.length):(kJ (kJ l i.toNat (gd l k.toNat)) k.toNat (gd l i.toNat)).Perm l:=by
 rw [wDO (show k.toNat < l.length by omega),wDO (show i.toNat < l.length by omega)]
 exact List.set_set_perm (by omega) (by omega)
theorem wIn (d:wAC) (n:Nat) (h0:0 <= d.next) (h1:d.next <= 100000) (hn:n <= 1000):∃ l d',wAX d (n:Int)=some (l,d')/\0 <= d'.next/\d'.next <= d.next + n/\l.Perm ((nI n).map fun (k:Nat)=>(k:Int)):=by
 unfold wAX
 have e1:max (0:Int) n=n:=by omega
 rw [e1,wCr (by omega)]
 obtain ⟨s,hs,hI⟩:=wFJ (body:=fun (k19:Nat) (l15:List Int)=>(app 8 l15 [(k19:Int)]).bind fun x47=>some x47) (fun k l=>l=(nI k).map fun (k:Nat)=>(k:Int)) n 0 [] rfl (fun i s _ hi e=>by
  subst e
  refine ⟨_,by rw [app,if_pos (by simp;omega)];rfl,?_⟩
  rw [nZ,nQ];rfl)
 rw [hs,nA]
 rw [nr] at hI
 have hlen:s.length=n:=by rw [hI];simp
 rw [wAd (by omega) (by omega)]
 refine (wLk (I:=fun j (st:List Int × Int × Int × List Int × Int)=>st.2.2.2.1.Perm s/\0 <= st.2.1/\st.2.1 <= d.next + j/\st.2.2.2.2=(s.length:Int) - 1 - j) (Z:=fun (b:List Int × wAC)=>0 <= b.2.next/\b.2.next <= d.next + n/\b.1.Perm s) n ?_ ⟨List.Perm.refl _,by simpa using h0,by simp,by simp⟩ (by omega)).elim fun b hb=>⟨b.1,b.2,hb.1,hb.2.1,hb.2.2.1,hI ▸ hb.2.2.2⟩
 rintro j ⟨b,nx,st,l,i⟩ hj ⟨hp,n0,n1,hi⟩
 simp only at hp n0 n1 hi ⊢
 have hl:l.length=s.length:=hp.length_eq
 by_cases c:0 < i
 ·left
  refine ⟨by omega,?_⟩
  rw [if_pos c,wAd (x:=i + 1) (by omega) (by omega)]
  obtain ⟨x,d',e,m0,m1,x0,x1⟩:=wHa ⟨b,nx,st⟩ (i + 1) n0 (by simp only;omega)
  have x1':x < l.length:=by omega
  rw [e,nA]
  simp only
  rw [wCZ x0 (by omega),nA,wCZ (by omega) (by omega),nA,wCZ x0 (by rw [List.length_set];omega),nA,wAd (by omega) (by omega)]
  exact ⟨_,rfl,(wLl (by omega) (by omega) x0 x1').trans hp,m0,by simp only at m1 ⊢;omega,by simp only;omega⟩
 ·right
  rw [if_neg c]
  exact ⟨_,rfl,n0,by simp only;omega,hp⟩
theorem wNN {p:List Int} {n:Nat} (h:p.Perm ((nI n).map fun (k:Nat)=>(k:Int))):∀ i ∈ p,0 <= i/\i < n:=by
 intro i hi
 obtain ⟨k,hk,e⟩:=nh.1 (h.mem_iff.1 hi)
 have:=nv.1 hk
 omega
end Go.Proofs.YthbficbpebiekaaGreat
namespace Go.KL
variable {S B R α β:Type}
theorem wGk {body:Nat->S->Option S} (s:Nat->S):∀ (m k:Nat),(∀ i,k <= i->i < k + m->body i (s i)=some (s (i + 1)))->forN' body m k (s k)=some (s (k + m))
 | 0,_,_=>rfl
 | m + 1,k,h=>by
  rw [forN',h k (nY _) (by omega)]
  have:=wGk s m (k + 1) fun i h1 h2=>h i (by omega) (by omega)
  rw [show k + 1 + m=k + (m + 1) by omega] at this
  exact this
theorem wGl {body:Nat->S->Option S} {n:Nat} {s0:S} (s:Nat->S) (h0:s 0=s0) (hn:n <= 9223372036854775807) (h:∀ i,i < n->body i (s i)=some (s (i + 1))):wDA 0 (n:Int) body s0=some (s n):=by
 rw [wCr hn,<- h0]
 have:=wGk s n 0 fun i _ hi=>h i (by omega)
 rwa [nr] at this
theorem wHb [Inhabited α] {l:List α} {k:Nat} (h:k < l.length):idx l (k:Int)=some (gd l k):=by
 rw [wEX]
 exact wBT h
theorem wDw [Inhabited α] {l:List α} {k:Nat} (h:k < l.length):gd l k ∈ l:=List.mem_of_getElem? (wBT h)
theorem wKj [Inhabited α] {l:List α} {k:Nat} (h:k < l.length):l.take (k + 1)=l.take k ++ [gd l k]:=by
 rw [List.take_add_one,wBT h]
 rfl
theorem wKk [Inhabited α] {l:List α} {k:Nat} (h:k < l.length):l.drop k=gd l k :: l.drop (k + 1):=by
 have:=wBT h
 rw [nH h] at this
 rw [nO h,nD this]
theorem wER [Inhabited α] {l m:List α} {k:Nat} (h:k < l.length):gd (l ++ m) k=gd l k:=by
 have h1:=wBT (xs:=l ++ m) (k:=k) (by rw [nj];omega)
 rw [List.getElem?_append_left h,wBT h] at h1
 exact (nD h1).symm
theorem wIH [Inhabited α] (l m:List α) (x:α):gd (l ++ x :: m) l.length=x:=by
 have h1:=wBT (xs:=l ++ x :: m) (k:=l.length) (by simp)
 rw [List.getElem?_append_right (nY _),kE] at h1
 exact (nD h1).symm
theorem wNO [Inhabited α] [Inhabited β] (f:α->β) {l:List α} {k:Nat} (h:k < l.length):gd (l.map f) k=f (gd l k):=by
 have h1:=wBT (xs:=l.map f) (k:=k) (by simpa using h)
 rw [List.getElem?_map,wBT h] at h1
 exact (nD h1).symm
theorem wKl (o:Option α):(o.bind fun x=>some x)=o:=by cases o <;> rfl
end Go.KL
namespace Go.KL
end Go.KL
namespace Go.KL
open List MergeSort.Internal in
theorem wDP {α:Type} {le le':α->α->Bool}:∀ (l r:List α),(∀ x ∈ l,∀ y ∈ r,le x y=le' x y)->merge l r le=merge l r le'
 | [],r,_=>by simp
 | l,[],_=>by simp
 | a :: l,b :: r,h=>by
  rw [cons_merge_cons,cons_merge_cons,h a (by simp) b (by simp),wDP l (b :: r) (fun x hx y hy=>h x (by simp [hx]) y hy),wDP (a :: l) r (fun x hx y hy=>h x hx y (by simp [hy]))]
open List MergeSort.Internal in
theorem wDQ {α:Type} {le le':α->α->Bool}:∀ (l:List α),(∀ x ∈ l,∀ y ∈ l,le x y=le' x y)->mergeSort l le=mergeSort l le'
 | [],_=>by simp
 | [a],_=>by simp
 | a :: b :: xs,h=>by
  have m1:∀ x ∈ (splitInTwo ⟨a :: b :: xs,rfl⟩).1.1,x ∈ a :: b :: xs:=fun x hx=>by
   rw [splitInTwo_fst] at hx
   exact List.mem_of_mem_take hx
  have m2:∀ x ∈ (splitInTwo ⟨a :: b :: xs,rfl⟩).2.1,x ∈ a :: b :: xs:=fun x hx=>by
   rw [splitInTwo_snd] at hx
   exact List.mem_of_mem_drop hx
  have:(splitInTwo ⟨a :: b :: xs,rfl⟩).1.1.length < xs.length + 1 + 1:=by simp [splitInTwo_fst];omega
  have:(splitInTwo ⟨a :: b :: xs,rfl⟩).2.1.length < xs.length + 1 + 1:=by simp [splitInTwo_snd];omega
  simp only [mergeSort]
  rw [wDQ _ (fun x hx y hy=>h x (m1 x hx) y (m1 y hy)),wDQ _ (fun x hx y hy=>h x (m2 x hx) y (m2 y hy))]
  exact wDP _ _ fun x hx y hy=>h x (m1 x ((mem_mergeSort).1 hx)) y (m2 y ((mem_mergeSort).1 hy))
termination_by l=>l.length
end Go.KL
namespace Go.Proofs.YthbficbpebiekaaGreat
open Go.KL
theorem wLm (x a b:Int):wBK x a b=some (decide (a <= x) && decide (x <= b)):=by
 unfold wBK
 by_cases h:a <= x <;> simp [h]
theorem wII {K V:Type} [DecidableEq K] {m:List (K × V)} {x y:K} {v:V}:wFM (mput m x v) y=if y=x then some v else wFM m y:=by
 induction m with
 | nil=>simp only [mput,wFM]
 | cons p m ih =>
  obtain ⟨a,u⟩:=p
  rw [mput]
  by_cases h:x=a
  ·subst h
   rw [if_pos rfl,wFM,wFM]
   split <;> rfl
  ·rw [if_neg h,wFM,wFM,ih]
   by_cases h2:y=a
   ·rw [if_pos h2,if_neg (fun e:y=x=>h (e.symm.trans h2)),if_pos h2]
   ·rw [if_neg h2,if_neg h2]
theorem wIJ {l:List Int} (hl:l.length <= 1000) (hd:l.Nodup):wBL l=some false:=by
 unfold wBL
 rw [wCk (by omega)]
 have key:∀ (m k:Nat) (t:List (Int × Bool)),k + m=l.length->(∀ n,wBv t n false=decide (n ∈ l.take k)) ->
   jn (forN (fun k20 l17 =>
  (idx l (↑k20:Int)).bind fun x41 =>
  if (wBv l17 x41 false)=true then
   esc (some true)
  else
   some (.inl (mput l17 x41 true))) m k t) (fun _=>some false)=some false:=by
  intro m
  induction m with
  | zero=>intro k t _ _;rfl
  | succ m ih =>
   intro k t hk ht
   have hlt:k < l.length:=by omega
   have c:gd l k ∉ l.take k:=fun c=>by
    rw [<- nw k l,wKk hlt] at hd
    exact (nb.1 hd).2.2 _ c _ (by simp) rfl
   rw [forN,wHb hlt,nA,ht,if_neg (by simpa using c)]
   simp only
   refine ih (k + 1) _ (by omega) fun n=>?_
   unfold wBv at ht ⊢
   rw [wII,wKj hlt]
   by_cases e:n=gd l k
   ·rw [if_pos e];simp [e]
   ·rw [if_neg e,ht];simp [e]
 exact key l.length 0 [] (by omega) (fun n=>by simp [wBv,wFM])
theorem wGF {f:wAA->Option Int} {p:wAA->Int} (hf:∀ s,f s=some (p s)) (a b:Int) {l:List wAA} (hl:l.length <= 1000):wAU (⟨f,a,b⟩:wAE) l=some (l.map p):=by
 unfold wAU
 rw [wLi (bytes:=8) (f:=p) (fun s _ r=>by simp only [hf,nA,wKl]) (by omega) (by omega)]
 rfl
theorem wHc {f:wAA->Option Int} {a b:Int} {l:List Int} (hl:l.length <= 1000) (h:∀ x ∈ l,a <= x/\x <= b):wAq l (fun x=>wAT x (⟨f,a,b⟩:wAE))=some true:=by
 unfold wAq
 rw [wLh (p:=fun x=>decide (a <= x) && decide (x <= b)) (z:=false) (fun x _=>by
  unfold wAT
  simp only [wLm,nA]
  split <;> rfl) (by omega)]
 rw [if_pos (nc.2 fun x hx=>by have:=h x hx;simp;omega)]
structure wGm (f:List wAA):Prop where
 l1:1 <= f.length
 l2:f.length <= 60
 bib:∀ s ∈ f,1 <= s.Bib/\s.Bib <= 999
 rank:∀ s ∈ f,1 <= s.Rank/\s.Rank <= 9999
 nat:∀ s ∈ f,0 <= s.Nation/\s.Nation <= 30
 bibs:(f.map (·.Bib)).Nodup
 ranks:(f.map (·.Rank)).Nodup
theorem wIK {f:List wAA} (G:wGm f):wBM f=some 0:=by
 unfold wBM
 have h1:=G.l1
 have h2:=G.l2
 have hm:∀ {p:wAA->Int} {a b:Int},(∀ s ∈ f,a <= p s/\p s <= b)->∀ x ∈ f.map p,a <= x/\x <= b:=fun h x hx=>by
  obtain ⟨s,hs,e⟩:=nh.1 hx
  exact e ▸ h s hs
 rw [wLm,nA,if_pos (by simp;omega)]
 unfold wBV
 rw [nA]
 rw [wGF (f:=wAK) (p:=(·.Bib)) (fun _=>rfl) _ _ (by omega),nA,wHc (by simp;omega) (hm G.bib),nA,if_pos rfl]
 rw [wGF (f:=wAL) (p:=(·.Rank)) (fun _=>rfl) _ _ (by omega),nA,wHc (by simp;omega) (hm G.rank),nA,if_pos rfl]
 rw [wGF (f:=wAS) (p:=(·.Nation)) (fun _=>rfl) _ _ (by omega),nA,wHc (by simp;omega) (hm G.nat),nA,if_pos rfl]
 rw [nA,wIJ (by simp;omega) G.bibs,nA,if_neg (by decide)]
 rw [nA,wIJ (by simp;omega) G.ranks,nA,if_neg (by decide)]
theorem wIo (a b:Int):wAx a b=some (if a < b then -1 else if b < a then 1 else 0):=by
 unfold wAx wBI
 simp only [not_true_eq_false,decide_false,nA,nB,if_false]
 split
 ·rfl
 ·split <;> rfl
def rk (f:List wAA) (i:Int):Int:=(gd f i.toNat).Rank
theorem wGG {f:List wAA} {a b:Int} (ha:0 <= a/\a < f.length) (hb:0 <= b/\b < f.length):wAW a b f=some (if rk f a < rk f b then -1 else if rk f b < rk f a then 1 else 0):=by
 unfold wAW
 have e:∀ {i:Int},0 <= i->i < f.length->idx f i=some (gd f i.toNat):=fun h1 h2=>by
  unfold idx
  rw [if_pos h1,wBT (by omega)]
 rw [e ha.1 ha.2,nA,e hb.1 hb.2,nA,wIo,wKl]
 rfl
theorem wMK {f:List wAA} (G:wGm f) {a b:Int} (ha:0 <= a/\a < f.length) (hb:0 <= b/\b < f.length) (e:rk f a=rk f b):a=b:=by
 unfold rk at e
 have pw:=nT.1 G.ranks
 have hi:a.toNat < (f.map (·.Rank)).length:=by simp;omega
 have hj:b.toNat < (f.map (·.Rank)).length:=by simp;omega
 have e':(f.map (·.Rank))[a.toNat]=(f.map (·.Rank))[b.toNat]:=by
  rw [nf,nf,<- wDO (by omega),<- wDO (by omega)]
  exact e
 rcases Int.lt_trichotomy a b with c | c | c
 ·exact absurd e' (pw _ _ hi hj (by omega))
 ·exact c
 ·exact absurd e'.symm (pw _ _ hj hi (by omega))
def wCw (n:Nat):List Int:=(nI n).map fun (k:Nat)=>(k:Int)
theorem wHd (n:Nat):(wCw n).Pairwise (· < ·):=by
 unfold wCw
 rw [List.pairwise_map]
 exact List.pairwise_lt_range.imp fun h=>by omega
theorem wBe {n:Nat}:∀ i ∈ wCw n,0 <= i/\i < n:=by
 intro i hi
 obtain ⟨k,hk,e⟩:=nh.1 hi
 have:=nv.1 hk
 omega
structure Rk (f:List wAA) (r:List Int):Prop where
 perm:r.Perm (wCw f.length)
 ord:r.Pairwise fun a b=>rk f a < rk f b
theorem wOY {f:List wAA} {r r':List Int} (h:Rk f r) (h':Rk f r'):r=r':=by
 refine List.Perm.eq_of_pairwise (le:=fun a b=>rk f a < rk f b) (fun a b _ _ h1 h2=>by omega) h.ord h'.ord (h.perm.trans h'.perm.symm)
theorem wGn {f:List wAA} (G:wGm f):∃ r,wAw f=some r/\Rk f r:=by
 unfold wAw
 have h1:=G.l1
 have h2:=G.l2
 rw [mkz,if_pos (by omega),nA]
 have e:=wGl (body:=fun (k24:Nat) (l23:List Int) =>
  (chk (↑k24:Int) l23.length).bind fun _ =>
  some (kJ l23 k24 (↑k24:Int))) (n:=f.length) (s0:=ni (f.length:Int).toNat 0) (fun k=>wCw k ++ ni (f.length - k) 0) (by simp [wCw]) (by omega) (fun i hi=>by
   have hl:(wCw i ++ ni (f.length - i) (0:Int)).length=f.length:=by simp [wCw];omega
   rw [wCZ (by omega) (by omega),nA]
   congr 1
   have hn:(wCw i).length=i:=by simp [wCw]
   rw [List.set_append_right _ _ (by omega),hn,kE,show f.length - i=(f.length - (i + 1)) + 1 by omega,List.replicate_succ,List.set_cons_zero]
   have:wCw (i + 1)=wCw i ++ [(i:Int)]:=by unfold wCw;rw [nZ,nQ];rfl
   rw [this,nJ]
   rfl)
 rw [e,nA]
 simp only [kE,List.replicate_zero,ng]
 have C:Cmp (fun x:Int × Int=>wAW x.1 x.2 f) (wCw f.length):=by
  have lt:∀ x ∈ wCw f.length,∀ y ∈ wCw f.length,ltB (fun x:Int × Int=>wAW x.1 x.2 f) x y=decide (rk f x < rk f y):=fun x hx y hy=>by
   unfold ltB
   simp only
   rw [wGG (wBe x hx) (wBe y hy)]
   by_cases c:rk f x < rk f y
   ·simp [c]
   ·by_cases c2:rk f y < rk f x <;> simp [c,c2]
  refine ⟨by simp [wCw];omega,fun x hx y hy=>by simp only;rw [wGG (wBe x hx) (wBe y hy)];rfl,fun x hx=>by rw [lt x hx x hx];simp,fun x hx y hy z hz a b=>?_,fun x hx y hy z hz a b=>?_,fun x hx y hy a b=>?_⟩
  ·rw [lt x hx y hy] at a;rw [lt y hy z hz] at b;rw [lt x hx z hz]
   simp at a b ⊢;omega
  ·rw [lt x hx y hy] at a;rw [lt y hy z hz] at b;rw [lt x hx z hz]
   simp at a b ⊢;omega
  ·rw [lt x hx y hy] at a;rw [lt y hy x hx] at b
   simp at a b
   exact wMK G (wBe x hx) (wBe y hy) (by omega)
 unfold wAv
 rw [wLL C,nA]
 refine ⟨_,rfl,kC _ _,?_⟩
 have hp:=kC (wCw f.length) fun x y=>!ltB (fun x:Int × Int=>wAW x.1 x.2 f) y x
 have lt:∀ x ∈ wCw f.length,∀ y ∈ wCw f.length,ltB (fun x:Int × Int=>wAW x.1 x.2 f) x y=decide (rk f x < rk f y):=fun x hx y hy=>by
  unfold ltB
  simp only
  rw [wGG (wBe x hx) (wBe y hy)]
  by_cases c:rk f x < rk f y
  ·simp [c]
  ·by_cases c2:rk f y < rk f x <;> simp [c,c2]
 rw [wDQ (le':=fun x y=>decide (rk f x <= rk f y)) (wCw f.length) (fun x hx y hy=>by
  rw [lt y hy x hx,<- decide_not]
  exact decide_eq_decide.2 (by omega))] at hp ⊢
 have so:=List.pairwise_mergeSort (le:=fun x y:Int=>decide (rk f x <= rk f y)) (fun a b c h1 h2=>by simp at h1 h2 ⊢;omega) (fun a b=>by simp;omega) (wCw f.length)
 have nd:((wCw f.length).mergeSort fun x y=>decide (rk f x <= rk f y)).Pairwise (· ≠ ·):=nG.1 (hp.nodup_iff.2 (nG.2 ((wHd _).imp fun h=>by omega)))
 refine (so.and nd).imp_of_mem fun {a b} ha hb h=>?_
 have h1:rk f a <= rk f b:=by simpa using h.1
 have h2:rk f a ≠ rk f b:=fun e=>h.2 (wMK G (wBe a (hp.mem_iff.1 ha)) (wBe b (hp.mem_iff.1 hb)) e)
 omega
end Go.Proofs.YthbficbpebiekaaGreat
namespace Go.Proofs.YthbficbpebiekaaGreat
open Go.KL
def wNP (w:Int) (s:List Int × Int):List Int × Int :=
 let a:=if 1 <= gd s.1 0 + s.2/\gd s.1 0 + s.2 <= w then s.1 ++ [gd s.1 0 + s.2] else s.1
 (if 1 <= gd s.1 0 - s.2/\gd s.1 0 - s.2 <= w then a ++ [gd s.1 0 - s.2] else a,s.2 + 1)
def wDm (w:Int):Nat->List Int × Int
 | 0=>([(w + 1).tdiv 2],1)
 | i + 1=>wNP w (wDm w i)
def wCV (w:Nat):List Int:=(wDm w (w / 2)).1
def far (w:Nat) (x:Int):Int:=max (2 * x - w - 1) (w + 1 - 2 * x)
structure LnP (w:Nat):Prop where
 len:(wCV w).length=w
 rng:∀ x ∈ wCV w,1 <= x/\x <= w
 one:(wCV w).Nodup
 out:∀ k,k < w - 1->far w (gd (wCV w) k) <= far w (gd (wCV w) (k + 1))
 rnd:∀ i,i < w / 2->((wDm w i).1.length:Int) < w
 num:∀ i,i <= w / 2->(wDm w i).2=i + 1/\(wDm w i).1.length <= 40/\1 <= (wDm w i).1.length/\gd (wDm w i).1 0=((w:Int) + 1).tdiv 2
instance (w:Nat):Decidable (LnP w) :=
 decidable_of_iff ((wCV w).length=w/\(∀ x ∈ wCV w,1 <= x/\x <= w)/\(wCV w).Nodup/\(∀ k,k < w - 1->far w (gd (wCV w) k) <= far w (gd (wCV w) (k + 1)))/\(∀ i,i < w / 2->((wDm w i).1.length:Int) < w)/\(∀ i,i < w / 2 + 1->(wDm w i).2=i + 1/\(wDm w i).1.length <= 40/\1 <= (wDm w i).1.length/\gd (wDm w i).1 0=((w:Int) + 1).tdiv 2))
  ⟨fun ⟨a,b,c,d,e,f⟩=>⟨a,b,c,d,e,fun i hi=>f i (by omega)⟩,fun ⟨a,b,c,d,e,f⟩=>⟨a,b,c,d,e,fun i hi=>f i (by omega)⟩⟩
theorem wFL:∀ w,w < 21->1 <= w->LnP w:=by decide
def bx (f:List wAA) (w:Nat) (r:List Int) (k:Nat):wAO:=⟨(gd f (gd r k).toNat).Bib,((k / w:Nat):Int) + 1,gd (wCV w) (k % w)⟩
theorem wKm {w:Nat} (w1:1 <= w) (w2:w <= 20) {i:Nat} (hi:i < w / 2):((chk 0 (wDm w i).1.length).bind fun _ =>
          (wDA 0 2 (fun k87 l84 =>
            (idx ([w64 ((gd (wDm w i).1 0) + (wDm w i).2),w64 ((gd (wDm w i).1 0) - (wDm w i).2)]:List Int) (↑k87:Int)).bind fun x110 =>
            (wBK x110 1 w).bind fun x113 =>
            if x113=true then
              (app 8 l84 [x110]).bind fun x130 =>
              some x130
            else
              some l84) (wDm w i).1).bind fun y92 =>
          some (Sum.inl (β:=List wAO × Int) (y92,w64 ((wDm w i).2 + 1))))=some (.inl (wDm w (i + 1))):=by
  have L:=wFL w (by omega) w1
  obtain ⟨n1,n2,n3,n4⟩:=L.num i (by omega)
  have hd:((w:Int) + 1).tdiv 2=(w + 1) / 2:=nS (by omega)
  have hm:0 <= gd (wDm w i).1 0/\gd (wDm w i).1 0 <= 20:=by rw [n4,hd];omega
  have e2:(wDm w (i + 1))=wNP w (wDm w i):=rfl
  rw [e2]
  unfold wNP
  generalize wDm w i=s at n1 n2 n3 hm ⊢
  obtain ⟨l,x⟩:=s
  simp only at n1 n2 n3 hm ⊢
  subst n1
  rw [wCZ (by omega) (by omega),nA,wAd (by omega) (by omega),wAd (by omega) (by omega),wAd (by omega) (by omega)]
  unfold wDA
  rw [if_pos (by decide)]
  show ((forN' _ 2 0 _).bind _)=_
  generalize gd l 0=m at hm
  have i0:idx [m + ((i:Int) + 1),m - ((i:Int) + 1)] ((0:Nat):Int)=some (m + ((i:Int) + 1)):=rfl
  have i1:idx [m + ((i:Int) + 1),m - ((i:Int) + 1)] ((0 + 1:Nat):Int)=some (m - ((i:Int) + 1)):=rfl
  have ca:∀ (y:Int),(decide (1 <= y) && decide (y <= (w:Int)))=true ↔ 1 <= y/\y <= w:=fun y=>by simp
  simp only [forN',i0,i1,nA,wLm,ca]
  by_cases c1:1 <= m + ((i:Int) + 1)/\m + ((i:Int) + 1) <= w
  · simp only [if_pos c1]
    rw [wFK (by simp;omega)]
    simp only [nA]
    by_cases c2:1 <= m - ((i:Int) + 1)/\m - ((i:Int) + 1) <= w
    · simp only [if_pos c2]
      rw [wFK (by simp;omega)]
      rfl
    · simp only [if_neg c2]
      rfl
  · simp only [if_neg c1]
    by_cases c2:1 <= m - ((i:Int) + 1)/\m - ((i:Int) + 1) <= w
    · simp only [if_pos c2]
      rw [wFK (by simp;omega)]
      rfl
    · simp only [if_neg c2]
      rfl
theorem wKn {f:List wAA} {r:List Int} (h:Rk f r) {k:Nat} (hk:k < f.length):r.length=f.length/\0 <= gd r k/\gd r k < f.length:=by
 have hl:r.length=f.length:=by rw [h.perm.length_eq];simp [wCw]
 have:=wBe _ (h.perm.mem_iff.1 (wDw (l:=r) (k:=k) (by omega)))
 exact ⟨hl,this⟩
theorem wIL {f:List wAA} (G:wGm f) {r:List Int} (hr:wAw f=some r) (R:Rk f r) {w:Nat} (w1:1 <= w) (w2:w <= 20):wAm f w=some ((nI f.length).map (bx f w r),0):=by
  unfold wAm
  have L:=wFL w (by omega) w1
  have h2:=G.l2
  have hrl:r.length=f.length:=by rw [R.perm.length_eq];simp [wCw]
  rw [wIK G,nA,if_pos rfl,wLm,nA,if_pos (by simp;omega),quo,if_neg (by decide),nA]
  have hd:((w:Int) + 1).tdiv 2=(w + 1) / 2:=nS (by omega)
  rw [wAd (x:=(w:Int) + 1) (by omega) (by omega),wAd (x:=((w:Int) + 1).tdiv 2) (by omega) (by omega)]
  have e0:(([((w:Int) + 1).tdiv 2],1):List Int × Int)=wDm w 0:=rfl
  refine wNM (m:=w / 2) (wDm w) (fun i hi=>?_) ?_ e0.symm (by omega)
  · simp only
    rw [if_pos (L.rnd i hi)]
    exact wKm w1 w2 hi
  · have hlen:(wDm w (w / 2)).1.length=w:=L.len
    simp only
    rw [if_neg (by omega),hr,nA]
    have e1:(wDm w (w / 2)).1=wCV w:=rfl
    rw [e1]
    have:=wGl (body:=fun (k204:Nat) (l200:List wAO) =>
            (chk (↑k204:Int) r.length).bind fun _ =>
            (idx f (gd r k204)).bind fun x237 =>
            (quo (↑k204:Int) w).bind fun x246 =>
            (rem (↑k204:Int) w).bind fun x249 =>
            (chk x249 (wCV w).length).bind fun _ =>
            (app 24 l200 [(⟨x237.Bib,w64 (x246 + 1),(gd (wCV w) x249.toNat)⟩:wAO)]).bind fun x262 =>
            some x262) (n:=r.length) (s0:=[]) (fun k=>(nI k).map (bx f w r)) rfl (by omega) (fun i hi=>by
        obtain ⟨_,g0,g1⟩:=wKn R (k:=i) (by omega)
        have hmod:=nl i w1
        have hdiv:=Nat.div_le_self i w
        have et:(i:Int).tmod (w:Int)=((i % w:Nat):Int):=by
          rw [nR (by omega)];simp
        have ed:(i:Int).tdiv (w:Int)=((i / w:Nat):Int):=by
          rw [nS (by omega)];simp
        have ei:idx f (gd r i)=some (gd f (gd r i).toNat):=by
          unfold idx
          rw [if_pos g0,wBT (by omega)]
        have ll:=L.len
        have q0:(0:Int) <= ((i / w:Nat):Int):=kG _
        have q1:((i / w:Nat):Int) <= (i:Int):=Int.ofNat_le.2 hdiv
        have q2:w64 ((i / w:Nat):Int)=((i / w:Nat):Int):=wAd (nU (by decide) q0) (nU q1 (by omega))
        have q3:w64 (((i / w:Nat):Int) + 1)=((i / w:Nat):Int) + 1:=wAd (nU (by decide) (no q0)) (nU (kA q1 1) (by omega))
        rw [wCZ (by omega) (by omega),nA,ei,nA,quo,if_neg (by omega),nA,rem,if_neg (by omega),nA,et,ed,q2,q3,wCZ (by omega) (by omega),nA,wFK (by simp;omega),nA,nZ,nQ]
        rfl)
    rw [this,nA,hrl]
    rfl
end Go.Proofs.YthbficbpebiekaaGreat
namespace Go.Proofs.YthbficbpebiekaaGreat
open Go.KL
def sRd (x2:Int) (x16:List Int) (k85:Nat):List Int × Int × Int × List wAA->Option (List Int × Int × Int × List wAA)
 | (l76,x79,x80,l81) =>
  (chk (↑k85:Int) x16.length).bind fun _ =>
  (wAF (⟨l76,x79,x80⟩:wAC) 1 9).bind fun (x184,x185) =>
  (wAR x185 x2).bind fun (x198,x199) =>
  (wAF x199 1 3).bind fun (x212,x213) =>
  (app 24 l81 [(⟨w64 ((w64 (10 * (↑k85:Int))) + x184),x198,w64 ((w64 (3 * (gd x16 k85))) + x212)⟩:wAA)]).bind fun x231 =>
  some (x213.bytes,x213.next,x213.state,x231)
theorem wHe (p0:wAC) (p1:Int):wAf p0 p1=(wAF p0 1 6).bind fun (x2,x3) =>
 (wAX x3 60).bind fun (x16,x17) =>
 (wAF x17 1 p1).bind fun (x33,x34) =>
 (wDA 0 x33 (sRd x2 x16) (x34.bytes,x34.next,x34.state,[])).bind fun (y90,y91,y92,y93) =>
 some (y93,(⟨y90,y91,y92⟩:wAC)):=rfl
structure MInv (p:List Int) (n:Int) (k:Nat) (s:List Int × Int × Int × List wAA):Prop where
 n0:0 <= s.2.1
 n1:s.2.1 <= n + 3 * (k:Int)
 len:s.2.2.2.length=k
 el:∀ i,i < k->(10 * (i:Int) + 1 <= (gd s.2.2.2 i).Bib/\(gd s.2.2.2 i).Bib <= 10 * (i:Int) + 9)/\(0 <= (gd s.2.2.2 i).Nation/\(gd s.2.2.2 i).Nation <= 5)/\3 * gd p i + 1 <= (gd s.2.2.2 i).Rank/\(gd s.2.2.2 i).Rank <= 3 * gd p i + 3
theorem wKo {p:List Int} (hp:p.length=60) (hr:∀ i ∈ p,0 <= i/\i < 60) {x n:Int} (x0:1 <= x) (x1:x <= 6) (n1:0 <= n) (n2:n <= 1000) {k:Nat} {s:List Int × Int × Int × List wAA} (hk:k < 30) (I:MInv p n k s):∃ s',sRd x p k s=some s'/\MInv p n (k + 1) s':=by
 obtain ⟨b,nx,st,l⟩:=s
 obtain ⟨i0,i1,hl,el⟩:=I
 simp only at i0 i1 hl el
 unfold sRd
 simp only
 have hg:=hr _ (wDw (l:=p) (k:=k) (by omega))
 obtain ⟨a,d2,e2,p0,p1,a0,a1⟩:=wGE ⟨b,nx,st⟩ 1 9 i0 (by simp only;omega) (by omega) (by omega) (by omega)
 simp only at p1
 obtain ⟨y,d3,e3,q0,q1,y0,y1⟩:=wHa d2 x p0 (by omega)
 obtain ⟨v,d4,e4,r0,r1,v0,v1⟩:=wGE d3 1 3 q0 (by omega) (by omega) (by omega) (by omega)
 rw [wCZ (by omega) (by omega),nA,e2,nA]
 simp only
 rw [e3,nA]
 simp only
 rw [e4,nA]
 simp only
 rw [wAd (x:=10 * (k:Int)) (by omega) (by omega),wAd (x:=10 * (k:Int) + a) (by omega) (by omega),wAd (x:=3 * gd p k) (by omega) (by omega),wAd (x:=3 * gd p k + v) (by omega) (by omega),wFK (by simp;omega),nA]
 refine ⟨_,rfl,r0,by simp only;omega,by simp [hl],fun i hi=>?_⟩
 simp only
 by_cases e:i=k
 ·rw [e,show gd (l ++ [(⟨10 * (k:Int) + a,y,3 * gd p k + v⟩:wAA)]) k=⟨10 * (k:Int) + a,y,3 * gd p k + v⟩ by rw [<- hl,wIH]]
  simp only
  omega
 ·rw [wER (by omega)]
  exact el i (by omega)
theorem wIM {α:Type} {l:List α} [Inhabited α] {g:α->Int} (h:∀ i j,i < j->j < l.length->g (gd l i) ≠ g (gd l j)):(l.map g).Nodup:=by
 rw [nG,nT]
 intro i j hi hj hij e
 rw [nt] at hi hj
 rw [nf,nf,<- wDO hi,<- wDO hj] at e
 exact h i j hij hj e
theorem wOZ {α:Type} [Inhabited α] {l:List α} {a:α} (h:a ∈ l):∃ i,i < l.length/\gd l i=a:=by
 obtain ⟨i,hi,e⟩:=List.getElem_of_mem h
 exact ⟨i,hi,by rw [wDO hi,e]⟩
theorem wNQ (d:wAC) (h0:d.next=0):∃ f d',wAf d 30=some (f,d')/\wGm f/\f.length <= 30/\∀ s ∈ f,s.Bib <= 299/\s.Rank <= 200:=by
 rw [wHe]
 obtain ⟨x,d1,e1,m0,m1,x0,x1⟩:=wGE d 1 6 (by omega) (by omega) (by omega) (by omega) (by omega)
 rw [e1,nA]
 simp only
 obtain ⟨p,d2,e2,p0,p1,pp⟩:=wIn d1 60 m0 (by omega) (by omega)
 rw [show ((60:Nat):Int)=60 from rfl] at e2
 rw [e2,nA]
 simp only
 obtain ⟨n,d3,e3,q0,q1,n0,n1⟩:=wGE d2 1 30 p0 (by omega) (by omega) (by omega) (by omega)
 rw [e3,nA]
 simp only
 obtain ⟨m,rfl⟩:∃ m:Nat,n=m:=⟨n.toNat,by omega⟩
 have hpl:p.length=60:=by rw [pp.length_eq];simp
 have hpr:=wNN pp
 have hpn:p.Nodup:=pp.nodup_iff.2 (nG.2 ((wHd 60).imp fun h=>by omega))
 have hpd:∀ i j,i < j->j < 60->gd p i ≠ gd p j:=fun i j hij hj e=>by
  have:=nT.1 (nG.1 hpn) i j (by omega) (by omega) hij
  rw [<- wDO (by omega),<- wDO (by omega)] at this
  exact this e
 rw [wCr (by omega)]
 obtain ⟨⟨b,nx,st,l⟩,hs,I⟩:=wFJ (body:=sRd x p) (MInv p d3.next) m 0 (d3.bytes,d3.next,d3.state,[]) ⟨q0,by simp only;omega,rfl,fun i hi=>by omega⟩ (fun i s _ hi I=>wKo hpl hpr x0 x1 q0 (by omega) (by omega) I)
 rw [hs,nA]
 obtain ⟨i0,i1,hl,el⟩:=I
 simp only at i0 i1 hl el ⊢
 rw [nr] at hl el
 have hg:∀ i,i < m->0 <= gd p i/\gd p i < 60:=fun i hi=>hpr _ (wDw (by omega))
 have hf:∀ s ∈ l,(1 <= s.Bib/\s.Bib <= 299)/\(0 <= s.Nation/\s.Nation <= 5)/\1 <= s.Rank/\s.Rank <= 200:=fun s hs=>by
  obtain ⟨i,hi,e⟩:=wOZ hs
  have h1:=el i (by omega)
  have h2:=hg i (by omega)
  rw [e] at h1
  omega
 refine ⟨l,_,rfl,⟨by omega,by omega,fun s hs=>by have:=hf s hs;omega,fun s hs=>by have:=hf s hs;omega,fun s hs=>by have:=hf s hs;omega,wIM fun i j hij hj=>?_,wIM fun i j hij hj=>?_⟩,by omega,fun s hs=>by have:=hf s hs;omega⟩
 ·have h1:=el i (by omega)
  have h2:=el j (by omega)
  omega
 ·have h1:=el i (by omega)
  have h2:=el j (by omega)
  have h3:=hpd i j hij (by omega)
  omega
theorem wHf {r:List Int} {n:Nat} (hp:r.Perm (wCw n)) (hn:n <= 1000):wAZ r n=some true:=by
 unfold wAZ
 have hl:r.length=n:=by rw [hp.length_eq];simp [wCw]
 have hd:r.Nodup:=hp.nodup_iff.2 (nG.2 ((wHd n).imp fun h=>by omega))
 rw [mkz,if_pos (by omega),nA,wCk (by omega)]
 rcases wGD (body:=fun (k15:Nat) (l14:List Bool) =>
  (idx r (↑k15:Int)).bind fun x38 =>
  if x38 < 0 then
   esc (some false)
  else
   if (n:Int) <= x38 then
    esc (some false)
   else
    (chk x38 l14.length).bind fun _ =>
    if (gd l14 x38.toNat)=true then
     esc (some false)
    else
     some (.inl (kJ l14 x38.toNat true))) (fun k l=>l.length=n/\∀ j:Nat,j < n->(gd l j=true ↔ (j:Int) ∈ r.take k)) (fun _=>False) r.length 0 (ni (n:Int).toNat false) ⟨by simp,fun j hj=>by
    rw [wDO (by simp;omega)];simp⟩ (fun k l _ hk ⟨h1,h2⟩=>.inl (by
    have hk':k < r.length:=by omega
    have hr:=wBe _ (hp.mem_iff.1 (wDw hk'))
    have hno:gd r k ∉ r.take k:=fun c=>by
     have hd2:=hd
     rw [<- nw k r,wKk hk'] at hd2
     exact (nb.1 hd2).2.2 _ c _ (by simp) rfl
    rw [wHb hk',nA,if_neg (by omega),if_neg (by omega),wCZ (by omega) (by omega),nA]
    have e:(((gd r k).toNat:Nat):Int)=gd r k:=by omega
    rw [if_neg (fun c=>hno (by have:=(h2 _ (by omega)).1 c;rwa [e] at this))]
    refine ⟨_,rfl,by simpa using h1,fun j hj=>?_⟩
    rw [wOX (by omega) (by omega),wKj hk',nK,na]
    by_cases c:j=(gd r k).toNat
    ·rw [if_pos c]
     exact ⟨fun _=>.inr (by omega),fun _=>rfl⟩
    ·rw [if_neg c,h2 j hj]
     exact ⟨.inl,fun h=>h.elim id fun h=>absurd h (by omega)⟩)) with ⟨s,e,_⟩ | ⟨_,_,h⟩
 ·rw [e,wEa]
  simp [hl]
 ·exact h.elim
def ky (b:wAO):Arr Int 2:=⟨[b.Row,b.Lane],rfl⟩
def bRd (x16:List wAA) (x70:List Int) (x33:Int) (x55:List wAO) (k132:Nat) (l129:List (Arr Int 2 × Bool)):Option (List (Arr Int 2 × Bool) ⊕ Bool) :=
            (chk (↑k132:Int) x55.length).bind fun _ =>
            (idx x70 (↑k132:Int)).bind fun x183 =>
            (idx x16 x183).bind fun x192 =>
            if ((gd x55 k132).Bib)=x192.Bib then
              (quo (↑k132:Int) (w64 (x33 + 1))).bind fun x205 =>
              if ((gd x55 k132).Row)=(w64 (x205 + 1)) then
                if ((gd x55 k132).Lane) < 1 then
                  esc (some false)
                else
                  if (w64 (x33 + 1)) < ((gd x55 k132).Lane) then
                    esc (some false)
                  else
                    if (wBv l129 (ky (gd x55 k132)) false)=true then
                      esc (some false)
                    else
                      (rem (↑k132:Int) (w64 (x33 + 1))).bind fun x253 =>
                      if 0 < x253 then
                        (chk (w64 ((↑k132:Int) - 1)) x55.length).bind fun _ =>
                        (wAJ (gd x55 (w64 ((↑k132:Int) - 1)).toNat) (w64 (x33 + 1))).bind fun x261 =>
                        (wAJ (gd x55 k132) (w64 (x33 + 1))).bind fun x272 =>
                        if x272 < x261 then
                          esc (some false)
                        else
                          some (.inl (mput l129 (ky (gd x55 k132)) true))
                      else
                        some (.inl (mput l129 (ky (gd x55 k132)) true))
              else
                esc (some false)
            else
              esc (some false)
theorem wGo (p0:List Int) (p1:Int):wAg p0 p1 =
 (wBH p0).bind fun x1 =>
 (wAf x1 30).bind fun (x16,x17) =>
 (wAo p1 20).bind fun x33 =>
 (wAm x16 (w64 (x33 + 1))).bind fun (x55,x56) =>
 (wBC x16).bind fun (x70,x71) =>
 if x56=0 then
  if x71=0 then
   if (↑x55.length:Int)=(↑x16.length:Int) then
    (wAZ x70 (↑x16.length:Int)).bind fun x95 =>
    if x95=true then
     jn (wIQ 0 (↑x55.length:Int) (bRd x16 x70 x33 x55) ([]:List (Arr Int 2 × Bool))) fun y307 =>
     ((wAN x16).bind fun x334 =>
     (app 24 x334 [(⟨999,0,9999⟩:wAA)]).bind fun x352 =>
     (wAm x352 (w64 (x33 + 1))).bind fun (x365,x366) =>
     some (x366,x365)).bind fun (x323,l324) =>
     if x323=0 then
      if (↑l324.length:Int)=(w64 ((↑x55.length:Int) + 1)) then
       (cut l324 0 (↑x55.length:Int)).bind fun x838 =>
       (wAQ x838 x55).bind fun x856 =>
       if x856=true then
        (wBN).bind fun x868 =>
        some x868
       else
        some false
      else
       some false
     else
      some false
    else
     some false
   else
    some false
  else
   some false
 else
  some false:=rfl
theorem wML {w:Nat} (w2:w <= 20) {b:wAO} (h1:1 <= b.Lane) (h2:b.Lane <= w):wAJ b w=some (far w b.Lane):=by
 unfold wAJ far
 rw [wAd (x:=2 * b.Lane) (by omega) (by omega),wAd (x:=2 * b.Lane - w) (by omega) (by omega),wAd (x:=2 * b.Lane - w - 1) (by omega) (by omega),wAd (x:=(w:Int) + 1) (by omega) (by omega),wAd (by omega) (by omega)]
theorem wOa {a b:wAO} (h:ky a=ky b):a.Row=b.Row/\a.Lane=b.Lane:=by
 have:=congrArg Arr.l h
 unfold ky at this
 simpa using this
theorem wIp {f:List wAA} (G:wGm f) {r:List Int} (R:Rk f r) {x:Int} {w:Nat} (hw:w64 (x + 1)=w) (w1:1 <= w) (w2:w <= 20):∃ t,wIQ 0 (f.length:Int) (bRd f r x ((nI f.length).map (bx f w r))) []=some (.inl t):=by
 have L:=wFL w (by omega) w1
 have h2:=G.l2
 rw [wCk (by omega)]
 have hrl:r.length=f.length:=by rw [R.perm.length_eq];simp [wCw]
 have hbx:∀ k,k < f.length->gd ((nI f.length).map (bx f w r)) k=bx f w r k:=fun k hk=>by
  rw [wNO _ (by simpa using hk),wDO (by simpa using hk)];simp
 have hln:∀ k,1 <= (bx f w r k).Lane/\(bx f w r k).Lane <= w:=fun k=>by
  have:=nl k w1
  exact L.rng _ (wDw (by rw [L.len];exact this))
 have hin:∀ j k,j < k->ky (bx f w r j) ≠ ky (bx f w r k):=fun j k hjk e=>by
  obtain ⟨e1,e2⟩:=wOa e
  have m1:=nl j w1
  have m2:=nl k w1
  have d1:j / w=k / w:=by
   have:((j / w:Nat):Int) + 1=((k / w:Nat):Int) + 1:=e1
   exact Int.ofNat_inj.1 ((Int.add_left_inj 1).1 this)
  have d2:j % w=k % w:=by
   have e3:gd (wCV w) (j % w)=gd (wCV w) (k % w):=e2
   have pw:=nT.1 (nG.1 L.one)
   rcases Nat.lt_trichotomy (j % w) (k % w) with c | c | c
   ·have:=pw _ _ (by rw [L.len];exact m1) (by rw [L.len];exact m2) c
    rw [<- wDO (by rw [L.len];exact m1),<- wDO (by rw [L.len];exact m2)] at this
    exact absurd e3 this
   ·exact c
   ·have:=pw _ _ (by rw [L.len];exact m2) (by rw [L.len];exact m1) c
    rw [<- wDO (by rw [L.len];exact m2),<- wDO (by rw [L.len];exact m1)] at this
    exact absurd e3.symm this
  have h3:=nu j w
  have h4:=nu k w
  rw [d1,d2] at h3
  omega
 rcases wGD (body:=bRd f r x ((nI f.length).map (bx f w r))) (fun k t=>∀ y,wBv t y false=true->∃ j,j < k/\y=ky (bx f w r j)) (fun _=>False) f.length 0 [] (fun y hy=>by simp [wBv,wFM] at hy) (fun k t _ hk ht=>.inl (by
  have hk':k < f.length:=by omega
  obtain ⟨_,g0,g1⟩:=wKn R hk'
  have hmod:=nl k w1
  have q1:((k / w:Nat):Int) <= (k:Int):=Int.ofNat_le.2 (Nat.div_le_self k w)
  have q0:(0:Int) <= ((k / w:Nat):Int):=kG _
  have et:(k:Int).tmod (w:Int)=((k % w:Nat):Int):=by
   rw [nR (by omega)];simp
  have ed:(k:Int).tdiv (w:Int)=((k / w:Nat):Int):=by
   rw [nS (by omega)];simp
  have q2:w64 ((k / w:Nat):Int)=((k / w:Nat):Int):=wAd (nU (by decide) q0) (nU q1 (by omega))
  have q3:w64 (((k / w:Nat):Int) + 1)=((k / w:Nat):Int) + 1:=wAd (nU (by decide) (no q0)) (nU (kA q1 1) (by omega))
  have ei:idx f (gd r k)=some (gd f (gd r k).toNat):=by
   unfold idx
   rw [if_pos g0,wBT (by omega)]
  have hlk:=hln k
  have hb:(bx f w r k).Bib=(gd f (gd r k).toNat).Bib:=rfl
  have hro:(bx f w r k).Row=((k / w:Nat):Int) + 1:=rfl
  have hno:¬ wBv t (ky (bx f w r k)) false=true:=fun c=>by
   obtain ⟨j,hj,e⟩:=ht _ c
   exact hin j k hj e.symm
  have hnew:∀ y,wBv (mput t (ky (bx f w r k)) true) y false=true->∃ j,j < k + 1/\y=ky (bx f w r j):=fun y hy=>by
   unfold wBv at hy
   rw [wII] at hy
   by_cases c:y=ky (bx f w r k)
   ·exact ⟨k,by omega,c⟩
   ·rw [if_neg c] at hy
    obtain ⟨j,hj,e⟩:=ht y hy
    exact ⟨j,by omega,e⟩
  unfold bRd
  rw [wCZ (by omega) (by simp;omega),nA,wHb (by omega),nA,ei,nA,hbx k hk',hw,if_pos hb,quo,if_neg (by omega),nA,ed,q2,q3,if_pos hro,if_neg (by omega),if_neg (by omega),if_neg hno,rem,if_neg (by omega),nA,et]
  by_cases c:(0:Int) < ((k % w:Nat):Int)
  ·have k0:k ≠ 0:=fun e=>by subst e;simp at c
   have e1:(w64 ((k:Int) - 1))=((k - 1:Nat):Int):=by rw [wAd (by omega) (by omega)];omega
   rw [if_pos c,e1,wCZ (by omega) (by simp;omega),nA,nk,hbx (k - 1) (by omega),wML w2 (hln _).1 (hln _).2,nA,wML w2 hlk.1 hlk.2,nA]
   have em:(k - 1) % w=k % w - 1:=by
    have h1:=nu k w
    have h3:k - 1=(k % w - 1) + w * (k / w):=by omega
    rw [h3,Nat.add_mul_mod_self_left,Nat.mod_eq_of_lt (by omega)]
   have ho:=L.out (k % w - 1) (by omega)
   have hfar:far w (bx f w r (k - 1)).Lane <= far w (bx f w r k).Lane:=by
    show far w (gd (wCV w) ((k - 1) % w)) <= far w (gd (wCV w) (k % w))
    rw [em]
    rwa [show k % w - 1 + 1=k % w by omega] at ho
   rw [if_neg (by omega)]
   exact ⟨_,rfl,hnew⟩
  ·rw [if_neg c]
   exact ⟨_,rfl,hnew⟩)) with ⟨t,e,_⟩ | ⟨_,_,h⟩
 ·exact ⟨t,e⟩
 ·exact h.elim
theorem wNR (v:Int) {n:Int} (h1:1 <= n) (h2:n <= 1000):∃ x,wAo v n=some x/\0 <= x/\x < n:=by
 unfold wAo
 rw [if_neg (by omega),rem,if_neg (by omega),nA]
 have a1:=Int.lt_tmod_of_pos v (show 0 < n by omega)
 have a2:=Int.tmod_lt_of_pos v (show 0 < n by omega)
 rw [wAd (by omega) (by omega)]
 obtain ⟨x,e,x0,x1⟩:=wIG (a:=v.tmod n + n) (b:=n) (by omega) (by omega)
 rw [e,nA]
 exact ⟨x,rfl,x0,x1⟩
theorem wNS {f:List wAA} (G:wGm f) (hl:f.length <= 30) (hb:∀ s ∈ f,s.Bib <= 299/\s.Rank <= 200) {r:List Int} (R:Rk f r):wGm (f ++ [⟨999,0,9999⟩])/\Rk (f ++ [⟨999,0,9999⟩]) (r ++ [(f.length:Int)]):=by
 have hm:∀ {P:wAA->Prop},(∀ s ∈ f,P s)->P ⟨999,0,9999⟩->∀ s ∈ f ++ [⟨999,0,9999⟩],P s:=fun h1 h2 s hs=>by
  rcases nK.1 hs with h | h
  ·exact h1 s h
  ·rw [na.1 h];exact h2
 have hrk:∀ i:Int,0 <= i->i < f.length->rk (f ++ [⟨999,0,9999⟩]) i=rk f i:=fun i h0 h1=>by
  unfold rk
  rw [wER (by omega)]
 have hlast:rk (f ++ [⟨999,0,9999⟩]) (f.length:Int)=9999:=by
  unfold rk
  rw [nk,wIH]
 have hn:wCw (f.length + 1)=wCw f.length ++ [(f.length:Int)]:=by unfold wCw;rw [nZ,nQ];rfl
 have hri:∀ a ∈ r,0 <= a/\a < f.length:=fun a ha=>wBe a (R.perm.mem_iff.1 ha)
 refine ⟨⟨by simp,by simp;omega,hm G.bib (by decide),hm G.rank (by decide),hm G.nat (by decide),?_,?_⟩,?_,?_⟩
 ·rw [nQ,nb]
  refine ⟨G.bibs,by simp,fun a ha b hb' e=>?_⟩
  obtain ⟨s,hs,e2⟩:=nh.1 ha
  have:=hb s hs
  simp at hb'
  omega
 ·rw [nQ,nb]
  refine ⟨G.ranks,by simp,fun a ha b hb' e=>?_⟩
  obtain ⟨s,hs,e2⟩:=nh.1 ha
  have:=hb s hs
  simp at hb'
  omega
 ·rw [nj,ny,hn]
  exact R.perm.append_right _
 ·rw [nX]
  refine ⟨R.ord.imp_of_mem fun {a b} ha hb h=>?_,List.pairwise_singleton _ _,fun a ha b hb'=>?_⟩
  ·rw [hrk a (hri a ha).1 (hri a ha).2,hrk b (hri b hb).1 (hri b hb).2];exact h
  ·rw [na.1 hb',hlast,hrk a (hri a ha).1 (hri a ha).2]
   have:=hb _ (wDw (l:=f) (k:=a.toNat) (by have:=hri a ha;omega))
   unfold rk
   omega
end Go.Proofs.YthbficbpebiekaaGreat
namespace Go.Proofs.YthbficbpebiekaaGreat
open Go.KL
theorem wKp (p0:List Int) (p1:Int) (_:-9223372036854775808 <= p1) (_:p1 <= 9223372036854775807):wAg p0 p1=some true:=by
 rw [wGo]
 unfold wBH
 rw [nA]
 obtain ⟨f,d1,e1,G,hl,hb⟩:=wNQ (⟨p0,0,17⟩:wAC) rfl
 rw [e1,nA]
 simp only
 obtain ⟨x,e2,x0,x1⟩:=wNR p1 (n:=20) (by omega) (by omega)
 rw [e2,nA]
 obtain ⟨w,hw⟩:∃ w:Nat,w64 (x + 1)=w:=⟨(x + 1).toNat,by rw [wAd (by omega) (by omega)];omega⟩
 have hwx:w64 (x + 1)=x + 1:=wAd (by omega) (by omega)
 have w1:1 <= w:=by omega
 have w2:w <= 20:=by omega
 obtain ⟨r,hr,R⟩:=wGn G
 have hrl:r.length=f.length:=by rw [R.perm.length_eq];simp [wCw]
 rw [hw,wIL G hr R w1 w2,nA]
 simp only
 have er:wBC f=some (r,0):=by
  unfold wBC
  rw [wIK G,nA,if_pos rfl,hr,nA]
 rw [er,nA]
 simp only [if_true,nt,kH]
 rw [wHf R.perm (by omega),nA,if_pos rfl]
 obtain ⟨t,et⟩:=wIp G R hw w1 w2
 rw [et,wEa]
 have ec:wAN f=some f:=by
  unfold wAN
  rw [wFK (by simp;omega)];rfl
 obtain ⟨G',R'⟩:=wNS G hl hb R
 obtain ⟨r',hr',R2⟩:=wGn G'
 have:=wOY R2 R'
 subst this
 have e5:((wAm (f ++ [(⟨999,0,9999⟩:wAA)]) w).bind fun (x365,x366)=>some (x366,x365))=some ((0:Int),(nI (f ++ [(⟨999,0,9999⟩:wAA)]).length).map (bx (f ++ [⟨999,0,9999⟩]) w (r ++ [(f.length:Int)]))):=by
  rw [wIL G' hr' R2 w1 w2];rfl
 rw [ec,nA,wFK (by simp;omega),nA,e5,nA]
 simp only [if_true,nt,kH,nj,ny]
 rw [if_pos (by rw [wAd (by omega) (by omega)];omega)]
 have e3:cut ((nI (f.length + 1)).map (bx (f ++ [⟨999,0,9999⟩]) w (r ++ [(f.length:Int)]))) 0 (f.length:Int)=some ((nI f.length).map (bx f w r)):=by
  unfold cut
  rw [if_pos (by simp;omega)]
  congr 1
  simp only [nk,Int.toNat_zero,List.drop_zero,Nat.sub_zero]
  rw [nZ,nQ,List.take_append_of_le_length (by simp),List.take_of_length_le (by simp)]
  refine List.map_congr_left fun k hk=>?_
  have hk':=nv.1 hk
  obtain ⟨_,g0,g1⟩:=wKn R hk'
  unfold bx
  rw [wER (l:=r) (by omega),wER (l:=f) (by omega)]
 rw [e3,nA]
 have e4:wAQ ((nI f.length).map (bx f w r)) ((nI f.length).map (bx f w r))=some true:=by
  unfold wAQ
  rw [wIm (by simp;omega)];simp
 rw [e4,nA,if_pos rfl]
 rfl
end Go.Proofs.YthbficbpebiekaaGreat
