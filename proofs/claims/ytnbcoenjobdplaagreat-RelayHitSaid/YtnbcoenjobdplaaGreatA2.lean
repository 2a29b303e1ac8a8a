import Derived.Test.YtnbcoenjobdplaaGreatA1
import Derived.Test.YtnbcoenjobdplaaGreatA0
set_option linter.all false
open Option renaming bind_some->hH
open Nat renaming eq_of_beq_eq_true->nA,le_refl->nJ,beq->nN,le_trans->na,zero_add->ni,zero_le->nk,lt_or_ge->np,lt_of_lt_of_le->nu,mul_le_mul->kH,lt_irrefl->kK
open Bool renaming and_eq_true->nB,false_eq_true->nG
open List renaming mem_append->nD,mem_cons->nH,cons_append->nI,append_assoc->nK,length_set->nL,append_of_mem->nM,mem_append_right->nO,getElem?_eq_some_iff->nP,getElem?_eq_getElem->nQ,pairwise_cons->nR,nil_append->nS,pairwise_append->nT,all_eq_true->nU,length_cons->nV,take_length->nW,length_append->nY,map_append->nZ,mem_append_left->nb,drop_eq_getElem_cons->nf,mem_or_eq_of_mem_set->ng,mem_singleton->nh,range->nj,drop_eq_nil_of_le->nl,not_mem_nil->no,set->nr,map_cons->nv,getElem?_append_right->nw,mem_map->nz,append_nil->kA,length_map->kB,getElem?_eq_none->kC,take_append_drop->kD,mem_of_mem_take->kJ,any_cons->kL,all_cons->kM,mem_filterMap->kO,set_cons_succ->kP,nodup_append->kR
open Option.some renaming inj->nE,injEq->kQ
open List.cons renaming injEq->nX
open Int renaming mul_le_mul_of_nonneg_left->nq,tmod_eq_emod_of_nonneg->ny,mul_nonneg->kE,mul_le_mul->kG
namespace Go.KX
noncomputable section
open Go.RowKit Go.KL
def kdAt (i:Nat):List AO->Nat
 | []=>0
 | a :: os=>match nN a.ix i with
  | true=>a.kd
  | false=>kdAt i os
def lazyA (os:List AO):Bool:=os.any fun a=>Nat.blt 3 a.kd
def chkR (P:Program) (N:Nat) (os:List AO) (l:List Oper) (draw:Bool):Bool :=
 let ks:=(nj l.length).map fun i=>kdAt i os
 os.all (fun a=>wGE P N l a && nN (kOf ks a.ix) a.kd) && (match draw with
  | true=>(match lazyA os with
   | true=>os.all (fun a=>Nat.blt a.kd 8) && chkZ l os
   | false=>wKu l ks (wIH os))
  | false=>inOrder 0 (wIH os) l.length)
def wKb (N:Nat):List Pos->List Nat->Bool
 | [],[]=>true
 | t :: ts,p :: ps=>(nN t.nat (p + 1) && Nat.blt p N) && wKb N ts ps
 | _,_=>false
theorem wJm {N:Nat}:∀ {ts:List Pos} {ps:List Nat},wKb N ts ps=true->ts.map Pos.nat=ps.map (· + 1)/\∀ x ∈ ps,x < N
 | [],[],_=>by simp
 | t :: ts,p :: ps,h=>by
  simp only [wKb,nB,Nat.blt_eq] at h
  obtain ⟨⟨h1,h2⟩,h3⟩:=h
  obtain ⟨h4,h5⟩:=wJm h3
  refine ⟨by simp [h4,nA h1],?_⟩
  intro x hx
  rcases nH.1 hx with rfl | hx
  ·exact h2
  ·exact h5 x hx
 | [],_ :: _,h=>by simp [wKb] at h
 | _ :: _,[],h=>by simp [wKb] at h
theorem wJn {μ:Mu}:∀ {ts:List Pos} {ns:List Nat} {σA σB:Tr AV} {σ:Env} {as:List AV} {vs:List Value},wOW σA ts as=some σB->ts.map Pos.nat=ns.map (· + 1)->RvL μ as vs->EnvR μ σA σ->EnvR μ σB (wLf σ ns vs)/\ns.length=vs.length
 | [],ns,σA,σB,σ,as,vs,hs,hn,hv,hE=>by
  cases ns with
  | cons _ _=>simp at hn
  | nil =>
   cases as with
   | cons _ _=>simp [wOW] at hs
   | nil=>cases hv;simp only [wOW,kQ] at hs;subst hs;exact ⟨hE,rfl⟩
 | t :: ts,ns,σA,σB,σ,as,vs,hs,hn,hv,hE=>by
  cases ns with
  | nil=>simp at hn
  | cons n ns =>
   cases as with
   | nil=>simp [wOW] at hs
   | cons a as =>
    obtain ⟨v,ws,h1,h2,rfl⟩:=hv
    simp only [nv,nX] at hn
    have hp:=hE.put (p:=t) h1
    have e:t.nat - 1=n:=by omega
    rw [e] at hp
    obtain ⟨g1,g2⟩:=wJn (ts:=ts) (ns:=ns) (σA:=σA.set t a) (σ:=upd σ n v) (by simpa [wOW] using hs) hn.2 h2 hp
    exact ⟨g1,by simp [g2]⟩
def wEM (P:Program) (N:Nat):AC->Code->Bool
 | .skip,.skip=>true
 | .skip,.label _=>true
 | .rg os,.region _ ops draw=>chkR P N os ops.toList draw
 | .rl os,.region _ ops draw=>draw && (os.all (fun a=>wGE P N ops.toList a) && chkZ ops.toList os)
 | .seq a b,.seq c d=>wEM P N a c && wEM P N b d
 | .cond x a b,.cond y c d=>wBm x y && (wEM P N a c && wEM P N b d)
 | .block i a,.block j c=>nN i j && wEM P N a c
 | .loop a,.loop c=>wEM P N a c
 | .scope a,.scope c=>wEM P N a c
 | .rf g t asg body,.rangeFunc g' ps asg' body'=>wBm g g' && (wKb N t ps.toList && (wEM P N asg asg' && wEM P N body body'))
 | .exit i,.exit j=>nN i j
 | .ret,.ret=>true
 | _,_=>false
def CC (P:Program):Chk:=fun a c N=>wEM P N a c=true
section
variable {P:Program} {tb:Tr AF} {μ μ' μ'':Mu} {w w' w'':World} {h h' h'':AH} {σ:Env} {σA:Tr AV}
def Mk (μ:Mu) (w:World) (n0:Nat) (D:List Deferred):Prop:=∃ rbs:List Nat,D=rbs.map mark/\rbs.Nodup/\∀ rb ∈ rbs,Dfr w rb/\n0 <= rb/\∀ p c,μ p=some c->c.1 ≠ rb
theorem Mk.nil (μ:Mu) (w:World) (n0:Nat):Mk μ w n0 []:=⟨[],rfl,by simp,by simp⟩
theorem Mk.ext {n0 fl:Nat} {D:List Deferred} (M:Mk μ w n0 D) (E:Ext μ fl w μ' w'):Mk μ' w' n0 D:=by
 obtain ⟨rbs,h1,h2,h3⟩:=M
 refine ⟨rbs,h1,h2,fun rb hrb=>?_⟩
 obtain ⟨g1,g2,g3⟩:=h3 rb hrb
 refine ⟨g1.keep E.keep fun ⟨p,d,q1,q2,_⟩=>g3 p d q1 q2,g2,fun p c hp=>?_⟩
 rcases E.new p c hp with q | ⟨p',d,q1,q2,_⟩ | q
 ·exact g3 p c q
 ·rw [<- q2];exact g3 p' d q1
 ·have:=g1.lt;omega
def PostX (P:Program) (μ:Mu) (fl:Pos) (w:World) (n0:Nat) (rr:Option Nat) (D:List Deferred) (e:Ex) (σA':Tr AV) (h':AH):wCd:=fun D' e' σ' w' =>
 e'=exC e/\∃ μ',Ext μ fl.nat w μ' w'/\Sim (CC P) P μ' h' w'/\EnvR μ' σA' σ'/\Mk μ' w' n0 D'/\h'.fl=fl/\(rr.isSome=true->D'=D)
def wGu (P:Program) (ex:Run) (r:Bool):Prop:=∀ c σA h e σA' h',ex c σA h=some (e,σA',h')->∀ code N,wEM P N c code=true->∀ (rr:Option Nat) (μ:Mu) (σ:Env) (w:World) (D:List Deferred) (n0:Nat),
 rr.isSome=r->Sim (CC P) P μ h w->EnvR μ σA σ->Mk μ w n0 D->n0 <= w.heap.size->CK rr N P code (PostX P μ h.fl w n0 rr D e σA' h') D σ w
def wMM (P:Program) (ex:Run) (r:Bool) (m:Nat):Prop:=∀ c σA h e σA' h',ex (.loop c) σA h=some (e,σA',h')->∀ code N,wEM P N c code=true->∀ (rr:Option Nat) (μ:Mu) (σ:Env) (w:World) (D:List Deferred) (n0:Nat),
 rr.isSome=r->Sim (CC P) P μ h w->EnvR μ σA σ->Mk μ w n0 D->n0 <= w.heap.size->∀ a,Rep N D a σ->Code.roundsIn (WF rr) 0 P code (wHB N (PostX P μ h.fl w n0 rr D e σA' h')) m a w
theorem PostX.trans {fl:Pos} {n0:Nat} {rr:Option Nat} {D D1 D':List Deferred} {e:Ex} {e':Exit} {σA':Tr AV} {σ':Env} (E:Ext μ fl.nat w μ' w') (hD:rr.isSome=true->D1=D) (hP:PostX P μ' fl w' n0 rr D1 e σA' h' D' e' σ' w''):PostX P μ fl w n0 rr D e σA' h' D' e' σ' w'':=by
 obtain ⟨h1,μ2,h2,h3,h4,h5,h6,h7⟩:=hP
 exact ⟨h1,μ2,E.trans h2,h3,h4,h5,h6,fun hr=>(h7 hr).trans (hD hr)⟩
theorem wGH {F:Fence} {n:Nat} {c:Code} {Q Q':Exit->Act->World->Prop} (hQ:∀ e a w,Q e a w->Q' e a w):∀ (m:Nat) (a:Act) (w:World),Code.roundsIn F n P c Q m a w->Code.roundsIn F n P c Q' m a w
 | 0,_,_,h=>h.elim
 | m + 1,a,w,h=>by
  rw [roundsIn_succ] at h ⊢
  refine wpIn_mono h fun e a w q=>?_
  cases e with
  | normal=>exact wGH hQ m a w q
  | _=>exact hQ _ _ _ q
theorem Ext.drew (μ:Mu) (fl:Nat) (w:World):Ext μ fl w μ { w with drawn:=w.drawn + 1 }:=⟨Mu.Le.refl μ,fun _ _ h=>.inl h,(Keep.drew w).weak fun _ _ h=>h.elim⟩
theorem Sim.keepX {C:Chk} {X:Nat->Prop} (S:Sim C P μ h w) (K:Keep w w' X) (hX:∀ p c,μ p=some c->¬ X c.1):Sim C P μ h w' :=
 ⟨S.nx,fun p c hp=>nu (S.lt p c hp) K.size,S.inj,fun p b hb=>let ⟨c,h1,h2⟩:=S.at_ p b hb;⟨c,h1,h2.keep K (hX p c h1)⟩⟩
def wDW (P:Program):List AR->List ResultVar->Bool
 | [],[]=>true
 | .t p :: l,.tmp t :: k=>nN p.nat (t + 1) && wDW P l k
 | .c p n :: l,.cell a t :: k=>nN p.nat (a + 1) && ((match n with | none=>wNF P t false | some n=>wNF P t true && szT P t n) && wDW P l k)
 | _,_=>false
def chkF (P:Program) (k:Nat) (af:AF):Bool:=match P.funcs[k]? with
 | none=>false
 | some fn=>match fn.body with
  | none=>false
  | some c => nN fn.ntmps af.n && (wDW P af.res fn.results.toList && (!(fn.name == "runtime.NumGoroutine") && wEM P fn.ntmps af.body c))
theorem wJC {C:Chk} (hE:EnvR μ σA σ) (S:Sim C P μ h w):∀ {l:List AR} {k:List ResultVar} {vs:List AV},wDW P l k=true->wPp σA h l=some vs->∃ VS,RvL μ vs VS/\wPn P w σ k VS
 | [],[],vs,_,hr=>by simp only [wPp] at hr;cases hr;exact ⟨[],rfl,trivial⟩
 | .t p :: l,.tmp t :: k,vs,hc,hr=>by
  simp only [wDW,nB] at hc
  simp only [wPp,res1] at hr
  split at hr
  ·rename_i vs' hvs
   cases hr
   obtain ⟨VS,g1,g2⟩:=wJC hE S hc.2 hvs
   have e:=nA hc.1
   have g:=hE p
   rw [e] at g
   exact ⟨_,wBM g g1,rfl,g2⟩
  ·cases hr
 | .c p n :: l,.cell a t :: k,vs,hc,hr=>by
  simp only [wDW,nB] at hc
  obtain ⟨c1,c2,c3⟩:=hc
  have e:=nA c1
  have g:=hE p
  rw [e] at g
  rw [wPp] at hr
  split at hr
  ·rename_i v hv
   split at hr
   ·rename_i vs' hvs
    cases hr
    obtain ⟨VS,g1,g2⟩:=wJC hE S c3 hvs
    simp only [res1] at hv
    split at hv
    ·rename_i b off hb
     split at hv
     ·rename_i cl hcl
      obtain ⟨c,ws,q1,q2,q3⟩:=wDr hcl S
      rw [hb] at g
      obtain ⟨c',k1,k2⟩:=g
      rw [q1] at k1;cases k1
      have k2:σ a=.pointer (some ⟨c.1,off,none⟩):=k2
      split at hv
      ·rw [wFL] at hv
       obtain ⟨cv,r1,r2⟩:=wEF q2 hv
       refine ⟨_,wBM r2 g1,⟨_,k2,?_⟩,g2⟩
       simp [loadVar,wDk c2,load,Sem.run,q3 w (Keep.refl w _) _ _ r1]
      ·rename_i n
       simp only [nB] at c2
       obtain ⟨r,hr3,rfl⟩:=wCt hv
       obtain ⟨r1,r2⟩:=wEG hr3 q2
       refine ⟨_,wBM ⟨_,r1,rfl⟩ g1,⟨_,k2,?_⟩,g2⟩
       have:=KL.run_loadCells (P:=P) (w:=w) (b:=c.1) (off:=off) (n:=n) ((ws.drop off).take n) (by simp;omega) fun j u hu=>q3 w (Keep.refl w _) _ _ (wDg rfl j u hu)
       simp [loadVar,wDk c2.1,wCz c2.2,this]
     ·cases hv
    ·cases hv
   ·cases hr
  ·cases hr
 | [],_ :: _,_,hc,_=>by simp [wDW] at hc
 | .t _ :: _,[],_,hc,_=>by simp [wDW] at hc
 | .c _ _ :: _,[],_,hc,_=>by simp [wDW] at hc
 | .t _ :: _,.cell _ _ :: _,_,hc,_=>by simp [wDW] at hc
 | .c _ _ :: _,.tmp _ :: _,_,hc,_=>by simp [wDW] at hc
theorem wPB {C:Chk} {l:List AR} {rs:Array ResultVar} {v:AV} (hE:EnvR μ σA σ) (S:Sim C P μ h w) (hc:wDW P l rs.toList=true) (hr:wMv σA h l=some (v,h')):h'=h/\∃ cv,Rv μ v cv/\(wCK rs σ).run P w=.ok cv w:=by
 unfold wMv at hr
 split at hr
 ·rename_i vs hvs
  cases hr
  refine ⟨rfl,?_⟩
  obtain ⟨VS,g1,g2⟩:=wJC hE S hc hvs
  have hrs:rs=rs.toList.toArray:=by simp
  unfold tupA
  split
  ·rename_i v
   obtain ⟨cv,ws,q1,q2,q3⟩:=g1
   cases q2
   subst q3
   refine ⟨cv,q1,?_⟩
   have hl:∃ r,rs=#[r]:=by
    cases hq:rs.toList with
    | nil=>rw [hq] at g2;exact g2.elim
    | cons r k =>
     cases k with
     | nil=>exact ⟨r,Array.ext' (by simpa using hq)⟩
     | cons r' k=>rw [hq] at g2;cases r <;> cases r' <;> exact g2.2.elim
   obtain ⟨r,rfl⟩:=hl
   exact wDv g2
  ·rename_i hne
   refine ⟨_,⟨VS,g1,rfl⟩,?_⟩
   rw [hrs]
   refine wHt g2 ?_
   have hl:=wCV g1
   cases hb:VS.length == 1 with
   | false=>rfl
   | true =>
    have:vs.length=1:=by rw [<- hl];exact eq_of_beq hb
    obtain ⟨v,hv⟩:=List.length_eq_one_iff.1 this
    exact absurd hv (hne v)
 ·cases hr
def wHR (P:Program) (tb:Tr AF):Prop:=∀ p af,tb.get p=some af->chkF P (p.nat - 1) af=true
theorem wMN (T:wHR P tb) {ex:Run} (HE:wGu P ex false):wFM (CC P) P tb ex:=by
 intro f args h v h' hr
 unfold wHx at hr
 split at hr
 ·rename_i af haf
  have hcf:=T f af haf
  unfold chkF at hcf
  split at hcf
  ·cases hcf
  ·rename_i fn hfn
   split at hcf
   ·cases hcf
   ·rename_i c hbody
    simp only [nB,Bool.not_eq_true'] at hcf
    obtain ⟨c1,c2,c3,c4⟩:=hcf
    refine ⟨fun a w=>?_,fun μ w vs S hv=>?_⟩
    ·have c3' : ¬ fn.name = "runtime.NumGoroutine" := by simpa using c3
     simp [callFunc,program,Sem.run,hfn,hbody,c3']
    ·split at hr
     ·rename_i hle
      have hle:=Nat.le_of_ble_eq_true hle
      have e1:=nA c1
      have key:∀ e σA' h1,ex af.body (wKS args .H .e) h=some (e,σA',h1)->(e=.nrm \/ e=.ret)->wMv σA' h1 af.res=some (v,h')->Gv P (f.nat - 1) vs w fun cv w'=>∃ μ',Ext μ h.fl.nat w μ' w'/\Sim (CC P) P μ' h' w'/\Rv μ' v cv/\h'.fl=h.fl:=by
       intro e σA' h1 hx he hres
       refine Gv.ofM hfn hbody rfl rfl (by rw [wCV hv,<- wDj,e1];exact hle) ?_
       refine (HE _ _ _ _ _ _ hx c fn.ntmps c4 none μ (wNn vs) w [] w.heap.size rfl S (wOY hv) (Mk.nil μ w _) (nJ _)).mono ?_
       rintro D' e' σ' w' ⟨rfl,μ',q1,q2,q3,q4,q5,_⟩
       obtain ⟨rbs,m1,m2,m3⟩:=q4
       have fin:∃ rbs:List Nat,D'=rbs.map mark/\rbs.Nodup/\(∀ rb ∈ rbs,Dfr w' rb)/\∀ w2,Keep w' w2 (· ∈ rbs)->w2.heap.size=w'.heap.size->∃ cv,(wCK fn.results σ').run P w2=.ok cv w2/\∃ μ',Ext μ h.fl.nat w μ' w2/\Sim (CC P) P μ' h' w2/\Rv μ' v cv/\h'.fl=h.fl:=by
        refine ⟨rbs,m1,m2,fun rb hrb=>(m3 rb hrb).1,fun w2 K hs=>?_⟩
        have S2:=q2.keepX K fun p c hp hm=>(m3 _ hm).2.2 p c hp rfl
        obtain ⟨rfl,cv,r1,r2⟩:=wPB q3 S2 c2 hres
        refine ⟨cv,r2,μ',⟨q1.mono,q1.new,?_⟩,S2,r1,q5⟩
        exact q1.keep.step K fun i hi hm=>absurd (m3 i hm).2.1 (Nat.not_le.2 hi)
       rcases he with rfl | rfl
       ·exact fin
       ·exact fin
      split at hr
      ·exact key _ _ _ (by assumption) (.inl rfl) hr
      ·exact key _ _ _ (by assumption) (.inr rfl) hr
      ·cases hr
     ·cases hr
 ·cases hr
theorem wNL {ex:Run} (HE:wGu P ex true):wEK (CC P) P ex:=by
 intro b args h v h' hr
 unfold wHy at hr
 split at hr
 ·rename_i σA t asg body hB
  intro μ w xv c S hx hc
  split at hr <;> first | (cases hr;done) | skip
  rename_i σS hset
  split at hr <;> first | (cases hr;done) | skip
  rename_i σ1 h1 hasg
  split at hr <;> first | (cases hr;done) | skip
  rename_i σx tx ax bx hB1
  split at hr <;> first | (cases hr;done) | skip
  rename_i h2 hput2
  split at hr <;> first | (cases hr;done) | skip
  rename_i e σ3 h3 hbody
  split at hr <;> first | (cases hr;done) | skip
  rename_i σy ty ay by_ hB3
  split at hr <;> first | (cases hr;done) | skip
  rename_i h4 hput4
  cases hr
  obtain ⟨c',g1,g2⟩:=S.at_ b _ hB
  rw [hc] at g1;cases g1
  have L:wKU (CC P) μ w c σA t asg body .ready:=g2
  obtain ⟨hSE,hSl⟩:=wJn hset L.ht hx L.env
  refine Yd.of L.at_ L.tN hSl fun σ0 hσ0=>?_
  have hE0:EnvR μ σS σ0:=by
   intro p
   rw [hσ0];exact hSE p
  refine (HE _ _ _ _ _ _ hasg c.g.ac c.g.N L.asg (some c.1) μ σ0 w [] 0 rfl S hE0 (Mk.nil μ w _) (nk _)).mono ?_
  rintro D' e' σ' w1 ⟨rfl,μ1,q1,q2,q3,q4,q5,q6⟩
  have hc1:=q1.mono b c hc
  obtain ⟨c',r1,r2⟩:=q2.at_ b _ hB1
  rw [hc1] at r1;cases r1
  have L1:wKU (CC P) μ1 w1 c σx tx ax bx .ready:=r2
  refine ⟨rfl,q6 rfl,L1.at_,fun w2 hl2 K hs=>?_⟩
  obtain ⟨s1,s2,s3⟩:=q2.put hput2 hB1 trivial hc1 K (B':=.loop σA t asg body .busy) ⟨hl2,L.env.mono q1.mono,L.ht,L.tN,L.asg,L.body⟩
  rw [q5] at s2 s3
  refine (HE _ _ _ _ _ _ hbody c.g.bc c.g.N L.body (some c.1) μ1 σ' w2 [] 0 rfl s1 q3 (Mk.nil μ1 w2 _) (nk _)).mono ?_
  rintro D'' e'' σ'' w3 ⟨rfl,μ3,t1,t2,t3,t4,t5,t6⟩
  rw [s3] at t1 t5
  have hc3:=t1.mono b c hc1
  obtain ⟨c',u1,u2⟩:=t2.at_ b _ hB3
  rw [hc3] at u1;cases u1
  have L3:wKU (CC P) μ3 w3 c σy ty ay by_ .busy:=u2
  have fin:∀ w4,LoopAt w4 c.1 c.g.N c.g.σ c.g.t c.g.ac c.g.bc c.g.rb c.g.fn (lsC e.done).1 (lsC e.done).2->Keep w3 w4 (·=c.1)->∃ μ',Ext μ h.fl.nat w μ' w4/\Sim (CC P) P μ' h' w4/\AV.bool e.go=.bool e.go/\h'.fl=h.fl:=by
   intro w4 hl4 K4
   obtain ⟨v1,v2,v3⟩:=t2.put hput4 hB3 trivial hc3 K4 (B':=.loop σA t asg body e.done) ⟨hl4,(L.env.mono q1.mono).mono t1.mono,L.ht,L.tN,L.asg,L.body⟩
   rw [t5] at v2 v3
   exact ⟨μ3,(q1.trans s2).trans (t1.trans v2),v1,rfl,v3⟩
  cases e with
  | nrm=>exact ⟨L3.at_,fun w4 hl K4 _=>fin w4 hl K4⟩
  | ret=>exact ⟨L3.at_,fun w4 hl K4 _=>fin w4 hl K4⟩
  | exit i=>exact ⟨L3.at_,fun w4 hl K4 _=>fin w4 hl K4⟩
 ·cases hr
end
end
end Go.KX
namespace Go.KX
open Go.RowKit Go.KL
theorem wJD (b:AC) (exR:Run) (e:Ex) (σ:Tr AV) (h:AH):seqK b exR (e,σ,h)=(match e with | .nrm=>exR b σ h | e=>some (e,σ,h)):=by cases e <;> rfl
theorem wPs {x:R} {k:Ex × Tr AV × AH->R} {r:Ex × Tr AV × AH} (hr:Option.rec (motive:=fun _=>R) none k x=some r):∃ y,x=some y/\k y=some r:=by
 cases x with
 | none=>cases hr
 | some y=>exact ⟨y,rfl,hr⟩
structure Fr (h h':AH):Prop where
 nx:h.nx.nat <= h'.nx.nat
 fl:h'.fl=h.fl
 get:∀ p,p.nat < h.fl.nat->p.nat < h.nx.nat->h'.m.get p=h.m.get p
theorem Fr.refl (h:AH):Fr h h:=⟨nJ _,rfl,fun _ _ _=>rfl⟩
theorem Fr.trans {a b c:AH} (h:Fr a b) (k:Fr b c):Fr a c :=
 ⟨na h.nx k.nx,k.fl.trans h.fl,fun p h1 h2=>(k.get p (by rw [h.fl];exact h1) (nu h2 h.nx)).trans (h.get p h1 h2)⟩
theorem Fr.push (h:AH) (B:AB):Fr h (h.push B):=by
 refine ⟨?_,rfl,fun p _ h2=>?_⟩
 ·show h.nx.nat <= h.nx.succ.nat
  rw [Pos.nat_succ];omega
 ·show (h.m.set h.nx B).get p=_
  rw [Tr.get_set,if_neg (fun e=>by subst e;omega)]
theorem Fr.put {h h':AH} {p:Pos} {B:AB} (hp:h.put p B=some h'):Fr h h':=by
 obtain ⟨h1,rfl⟩:=wHM hp
 refine ⟨nJ _,rfl,fun q h2 _=>?_⟩
 show (h.m.set p B).get q=_
 rw [Tr.get_set,if_neg (fun e=>by subst e;omega)]
theorem Fr.setAt {h h':AH} {b:Pos} {off:Nat} {vs:List AV} (hs:KX.setAt h b off vs=some h'):Fr h h':=by
 unfold KX.setAt at hs
 split at hs
 ·split at hs
  ·exact Fr.put hs
  ·cases hs
 ·split at hs
  ·exact Fr.put hs
  ·cases hs
 ·cases hs
theorem wPC {h h':AH} {o:Option AV} {v:AV} (hr:okV h o=some (v,h')):h'=h:=by
 cases o with
 | none=>cases hr
 | some x=>cases hr;rfl
theorem wGg {α:Type} {b:Bool} {x:Option α} {y:α} (hr:ifO b x=some y):x=some y:=by
 cases b with
 | true=>exact hr
 | false=>cases hr
section
variable {tb:Tr AF} {ex exY:Run} {σ:Tr AV} {h h':AH} {v:AV}
theorem wQg {T sz by_ m:Nat} {news:List AV} {x:AV} (hr:app h T sz by_ m news x=some (v,h')):Fr h h':=by
 unfold app at hr
 split at hr
 ·split at hr <;> first | (cases hr;exact Fr.refl _) | (cases hr;done)
 ·split at hr
  ·have hr:=wGg hr;cases hr;exact Fr.push _ _
  ·split at hr
   ·split at hr
    ·rename_i hs;cases hr;exact Fr.setAt hs
    ·cases hr
   ·have hr:=wGg hr
    split at hr
    ·cases hr;exact Fr.push _ _
    ·cases hr
  ·split at hr
   ·split at hr
    ·split at hr
     ·rename_i hs;cases hr;exact Fr.setAt hs
     ·cases hr
    ·have hr:=wGg hr
     split at hr
     ·rename_i hs;cases hr;exact (Fr.put hs).trans (Fr.push _ _)
     ·cases hr
   ·cases hr
  ·cases hr
theorem wOD {z:List AV} {b:Pos} {off n:Nat} (hr:clr h z b off n=some (v,h')):Fr h h':=by
 unfold clr at hr
 split at hr
 ·cases hr;exact Fr.refl _
 ·have hr:=wGg hr
  split at hr
  ·rename_i hs;cases hr;exact Fr.setAt hs
  ·cases hr
def FrX (ex:Run):Prop:=∀ c σ h e σ' h',ex c σ h=some (e,σ',h')->Fr h h'
theorem wOE {l:List AR} (hr:wMv σ h l=some (v,h')):Fr h h':=by
 unfold wMv at hr
 split at hr
 ·cases hr;exact Fr.refl _
 ·cases hr
theorem wMO (HE:FrX ex) {f:Pos} {args:List AV} (hr:wHx tb ex f args h=some (v,h')):Fr h h':=by
 unfold wHx at hr
 split at hr
 ·split at hr
  ·split at hr
   ·rename_i h1;exact (HE _ _ _ _ _ _ h1).trans (wOE hr)
   ·rename_i h1;exact (HE _ _ _ _ _ _ h1).trans (wOE hr)
   ·cases hr
  ·cases hr
 ·cases hr
theorem wNM (HY:FrX ex) {b:Pos} {args:List AV} (hr:wHy ex b args h=some (v,h')):Fr h h':=by
 unfold wHy at hr
 split at hr
 ·split at hr
  ·cases hr
  ·split at hr
   ·rename_i h1
    split at hr
    ·split at hr
     ·rename_i h2
      split at hr
      ·rename_i h3
       split at hr
       ·split at hr
        ·rename_i h4
         cases hr
         exact (HY _ _ _ _ _ _ h1).trans ((Fr.put h2).trans ((HY _ _ _ _ _ _ h3).trans (Fr.put h4)))
        ·cases hr
       ·cases hr
      ·cases hr
     ·cases hr
    ·cases hr
   ·cases hr
 ·cases hr
theorem wMP (HE:FrX ex) (HY:FrX exY) (op:AOp) (hr:opY op tb ex exY σ h=some (v,h')):Fr h h':=by
  cases op with
  | call x l =>
    have hr:wFK x l tb ex exY σ h=some (v,h'):=hr
    unfold wFK at hr
    split at hr
    · exact wMO HE hr
    · exact wNM HY hr
    · cases hr
  | new T z=>cases hr;exact Fr.push _ _
  | box T x=>cases hr;exact Fr.push _ _
  | mkm=>cases hr;exact Fr.push _ _
  | mks T sz b z x y =>
    have hr:wFq T sz b z x y σ h=some (v,h'):=hr
    unfold wFq at hr
    split at hr
    · have hr:=wGg hr;cases hr;exact Fr.push _ _
    · cases hr
  | blds T n z ps =>
    have hr:wDh T n z ps σ h=some (v,h'):=hr
    unfold wDh at hr
    split at hr
    · cases hr;exact Fr.push _ _
    · cases hr
  | st n x y =>
    have hr:wNt n x y σ h=some (v,h'):=hr
    unfold wNt at hr
    split at hr
    · split at hr
      · split at hr
        · rename_i hs;cases hr;exact Fr.setAt hs
        · cases hr
      · cases hr
    · cases hr
  | mput two k x y z =>
    have hr:wFI two k x y z σ h=some (v,h'):=hr
    unfold wFI at hr
    split at hr
    · split at hr
      · split at hr
        · split at hr
          · rename_i hs;cases hr;exact Fr.put hs
          · cases hr
        · cases hr
      · cases hr
    · cases hr
  | mdel two k x y =>
    have hr:wFJ two k x y σ h=some (v,h'):=hr
    unfold wFJ at hr
    split at hr
    · split at hr
      · split at hr
        · split at hr
          · rename_i hs;cases hr;exact Fr.put hs
          · cases hr
        · cases hr
      · cases hr
    · cases hr
  | app T sz b x y =>
    have hr:wHu T sz b x y σ h=some (v,h'):=hr
    unfold wHu at hr
    split at hr
    · exact wQg (wGg hr)
    · cases hr
  | cpy sz x y =>
    have hr:wHv sz x y σ h=some (v,h'):=hr
    unfold wHv at hr
    split at hr
    · split at hr
      · have hr:=wGg hr
        split at hr
        · rename_i hs;cases hr;exact Fr.setAt hs
        · cases hr
      · cases hr
    · cases hr
  | clr z x =>
    have hr:wHw z x σ h=some (v,h'):=hr
    unfold wHw at hr
    split at hr
    · exact wOD hr
    · exact wOD hr
    · cases hr;exact Fr.refl _
    · cases hr;exact Fr.refl _
    · cases hr
  | bad=>cases hr
  | apz T sz b z x y =>
    have hr:wHz T sz b z x y σ h=some (v,h'):=hr
    unfold wHz at hr
    split at hr
    · split at hr
      · cases hr;exact Fr.refl _
      · have hr:=wGg hr;cases hr;exact Fr.push _ _
    · cases hr
  | _ =>
    have e:h'=h:=by
      dsimp only [opY] at hr
      first
        | exact wPC hr
        | (simp only [wPo,wFo,wMt,wGf,wFp,wIf,wIg,wIh,wIi,wIj,wKR,wIk,wFr,wIl,wIm,wFs,wIn,wFt,wOV,wIo,wMu,wIp,wIq,wDy,wIr,wIs] at hr
           repeat' (split at hr)
           all_goals first
             | exact wPC hr
             | (cases hr;rfl)
             | (cases hr;done)
             | exact wPC (wGg hr)
             | (have hr2:=wGg hr;cases hr2;rfl))
    subst e
    exact Fr.refl _
theorem wOF (HE:FrX ex) (HY:FrX exY) (k:Nat) (op:AOp) (hr:opK k op tb ex exY σ h=some (v,h')):Fr h h':=by
 by_cases k2:nN k 2=true
 ·have hr:wNu op tb ex exY σ h=some (v,h'):=by
   have e:opK k op=wNu op:=by unfold opK;rw [k2]
   rw [e] at hr;exact hr
  unfold wNu at hr
  split at hr
  ·rename_i v0 h0 hq
   cases hr
   have F:=wMP HE HY op hq
   exact ⟨F.nx,rfl,fun p _ h2=>F.get p h2 h2⟩
  ·cases hr
 ·have e:opK k op=opY op:=by
   unfold opK
   cases hb:nN k 2 with
   | true=>exact absurd hb k2
   | false=>rfl
  rw [e] at hr
  exact wMP HE HY op hr
theorem wQh (HE:FrX ex) (HY:FrX exY) (op:AOp) (hr:wNu op tb ex exY σ h=some (v,h')):∀ p,p.nat < h.nx.nat->h'.m.get p=h.m.get p:=by
 unfold wNu at hr
 split at hr
 ·rename_i v0 h0 hq
  cases hr
  have F:=wMP HE HY op hq
  exact fun p h2=>F.get p h2 h2
 ·cases hr
theorem wGv (HE:FrX ex) (HY:FrX exY):∀ (l:List AO) (σ:Tr AV) (h:AH) (σ':Tr AV) (h':AH),wAY tb ex exY l σ h=some (σ',h')->Fr h h'
 | [],σ,h,σ',h',hr=>by
  rw [wAi] at hr;cases hr;exact Fr.refl _
 | o :: os,σ,h,σ',h',hr=>by
  rw [wAm] at hr
  split at hr
  ·split at hr
   ·rename_i r hq
    exact (wOF HE HY _ _ hq).trans (wGv HE HY os _ _ _ _ hr)
   ·cases hr
  ·exact wGv HE HY os _ _ _ _ hr
theorem wMQ {exR:Run} (HR:FrX exR) {b:AC} {r:Ex × Tr AV × AH} {e:Ex} {σ':Tr AV} (hr:seqK b exR r=some (e,σ',h')):Fr r.2.2 h':=by
 obtain ⟨e0,σ0,h0⟩:=r
 rw [wJD] at hr
 cases e0 with
 | nrm=>exact HR _ _ _ _ _ _ hr
 | exit i=>cases hr;exact Fr.refl _
 | ret=>cases hr;exact Fr.refl _
theorem wPD {exR:Run} (HE:FrX ex) (HY:FrX exY) (HR:FrX exR) (c:AC) (f:Bool) {e:Ex} {σ':Tr AV} (hr:step c f tb ex exY exR σ h=some (e,σ',h')):Fr h h':=by
 cases c with
 | skip=>cases hr;exact Fr.refl _
 | rg l =>
  have hr:sRg l tb ex exY exR σ h=some (e,σ',h'):=hr
  unfold sRg at hr
  cases hq:wAY tb ex exY l σ h with
  | none=>rw [hq] at hr;cases hr
  | some y =>
   rw [hq] at hr
   cases hr
   exact wGv HE HY l _ _ _ _ hq
 | seq a b =>
  have hr:wQI a b exR σ h=some (e,σ',h'):=hr
  unfold wQI at hr
  obtain ⟨y,h1,h2⟩:=wPs hr
  exact (HR _ _ _ _ _ _ h1).trans (wMQ HR h2)
 | cond c a b =>
  have hr:wLd c a b exR σ h=some (e,σ',h'):=hr
  unfold wLd at hr
  split at hr
  ·exact HR _ _ _ _ _ _ hr
  ·exact HR _ _ _ _ _ _ hr
  ·cases hr
 | block i a =>
  have hr:wJa i a exR σ h=some (e,σ',h'):=hr
  unfold wJa at hr
  obtain ⟨y,h1,h2⟩:=wPs hr
  obtain ⟨e0,σ0,h0⟩:=y
  refine (HR _ _ _ _ _ _ h1).trans ?_
  unfold wNw at h2
  cases e0 with
  | nrm=>cases h2;exact Fr.refl _
  | ret=>cases h2;exact Fr.refl _
  | exit j =>
   simp only at h2
   cases hb:nN j i with
   | true=>rw [hb] at h2;cases h2;exact Fr.refl _
   | false=>rw [hb] at h2;cases h2;exact Fr.refl _
 | loop a =>
  have hr:wLe a exR σ h=some (e,σ',h'):=hr
  unfold wLe at hr
  obtain ⟨y,h1,h2⟩:=wPs hr
  exact (HR _ _ _ _ _ _ h1).trans (wMQ HR h2)
 | rf g t asg body =>
  have hr:sRf f g t asg body tb ex σ h=some (e,σ',h'):=hr
  unfold sRf at hr
  split at hr
  ·split at hr
   ·rename_i h1
    have F:=(Fr.push h (.loop σ t asg body .ready)).trans (wMO HE h1)
    split at hr
    ·split at hr
     ·rename_i h2;cases hr;exact F.trans (Fr.put h2)
     ·cases hr
    ·split at hr
     ·rename_i h2;cases hr;exact F.trans (Fr.put h2)
     ·cases hr
    ·cases hr
   ·cases hr
  ·cases hr
 | exit i=>cases hr;exact Fr.refl _
 | scope a=>exact HR _ _ _ _ _ _ hr
 | ret=>cases hr;exact Fr.refl _
 | rl l =>
  have hr:sRl l tb ex exY σ h=some (e,σ',h'):=hr
  rw [wNv] at hr
  split at hr
  ·rename_i y hq
   cases hr
   exact wGv HE HY l _ _ _ _ (wJB _ _ _ _ hq).1
  ·cases hr
theorem wEN (tb:Tr AF):∀ (n:Nat) (r:Bool),FrX (exec tb n r)
 | 0,r=>fun c σ h e σ' h' hr=>by cases hr
 | n + 1,r=>fun c σ h e σ' h' hr=>by
  rw [wIA] at hr
  exact wPD (wEN tb n false) (wEN tb n true) (wEN tb n r) c _ hr
end
end Go.KX
namespace Go.KX
open Go.RowKit Go.KL
theorem wPE {a b:IntKind} (h:keq a b=true):a=b:=by
 cases a <;> cases b <;> first | rfl | (simp [keq] at h)
theorem wPF {a b:Int} (h:zeq a b=true):a=b:=by
 cases a with
 | ofNat a=>cases b with
  | ofNat b=>simp only [zeq] at h;rw [nA h]
  | negSucc b=>simp [zeq] at h
 | negSucc a=>cases b with
  | ofNat b=>simp [zeq] at h
  | negSucc b=>simp only [zeq] at h;rw [nA h]
mutual
theorem wJE:∀ {a b:AV},same a b=true->a=b
 | .int k n,.int k' n',h=>by simp only [same,nB] at h;rw [wPE h.1,wPF h.2]
 | .bool a,.bool b,h=>by simp only [same,beq_iff_eq] at h;rw [h]
 | .ptr b o,.ptr b' o',h=>by simp only [same,nB] at h;rw [Pos.beq_eq h.1,nA h.2]
 | .pnil,.pnil,_=>rfl
 | .sl b o n c,.sl b' o' n' c',h=>by simp only [same,nB] at h;rw [Pos.beq_eq h.1,nA h.2.1,nA h.2.2.1,nA h.2.2.2]
 | .rw b o n c,.rw b' o' n' c',h=>by simp only [same,nB] at h;rw [Pos.beq_eq h.1,nA h.2.1,nA h.2.2.1,nA h.2.2.2]
 | .snil,.snil,_=>rfl
 | .map b,.map b',h=>by simp only [same] at h;rw [Pos.beq_eq h]
 | .mnil,.mnil,_=>rfl
 | .fn f fi ca,.fn f' fi' ca',h=>by simp only [same,nB] at h;rw [Pos.beq_eq h.1,wDQ h.2.1,wDQ h.2.2]
 | .fnil,.fnil,_=>rfl
 | .agg l,.agg l',h=>by simp only [same] at h;rw [wDQ h]
 | .tup l,.tup l',h=>by simp only [same] at h;rw [wDQ h]
theorem wDQ:∀ {a b:List AV},wFu a b=true->a=b
 | [],[],_=>rfl
 | a :: l,b :: k,h=>by simp only [wFu,nB] at h;rw [wJE h.1,wDQ h.2]
 | [],_ :: _,h=>by simp [wFu] at h
 | _ :: _,[],h=>by simp [wFu] at h
end
section
variable {tb:Tr AF} {ex exY:Run} {σ:Tr AV} {h h':AH} {v:AV}
theorem wMR {o:Option AV} (hr:okV h o=some (v,h')) (h2:AH):okV h2 o=some (v,h2):=by
 cases o with
 | none=>cases hr
 | some x=>cases hr;rfl
end
section
variable {P:Program} {l:List Oper} {σ σ':Env} {o:Oper} {w:World}
def Agr (l:List Oper) (o:Oper) (σ σ':Env):Prop:=∀ d ∈ wDe l o,σ d=σ' d
theorem wQi (h:Agr l o σ σ'):∀ y ∈ o.op.operands,ev σ y=ev σ' y:=by
 intro y hy
 cases y with
 | tmp t=>exact h t (nb _ (kO.2 ⟨.tmp t,by simpa using hy,rfl⟩))
 | _=>rfl
theorem wBt (h:Agr l o σ σ'):wanted l σ o=wanted l σ' o:=by
 unfold wanted
 cases hg:o.guard with
 | none=>rfl
 | some g =>
  obtain ⟨j,b⟩:=g
  simp only
  cases hd:(l[j]?).bind (·.dst) with
  | none=>rfl
  | some t =>
   simp only
   rw [h t (by unfold wDe;rw [hg];simp only [hd];simp)]
theorem wMS (hs:wBU o=false) (h:Agr l o σ σ'):execOp (ev σ) o=execOp (ev σ') o:=execOp_congr o (wKt hs) (wQi h)
theorem Runs.agr (hs:wBU o=false) (h:Agr l o σ σ') {v:Value} {w':World}:Runs P σ w o v w' ↔ Runs P σ' w o v w':=by
 unfold Runs;rw [wMS hs h]
theorem Runs.det {v v':Value} {w1 w2:World} (h:Runs P σ w o v w1) (h':Runs P σ w o v' w2):v=v'/\w1=w2:=by
 have:=h.2.symm.trans h'.2
 simp only [Result.ok.injEq] at this
 obtain ⟨e,e2⟩:=this
 exact ⟨by simpa using e,e2⟩
theorem Step1.agr (hs:wBU o=false) (h:Agr l o σ σ') {R:Value->World->Prop} (hh:Step1 P l o σ w R):Step1 P l o σ' w R:=by
 have e:=wMS hs h
 have ew:=wBt h
 rcases hh with ⟨h1,⟨h2,w',h3,h4⟩ | ⟨v,w',h3,h4⟩ | ⟨f,args,R',h3,h4,h5⟩ | hy⟩ | ⟨h1,h2⟩
 ·exact .inl ⟨ew ▸ h1,.inl ⟨h2,w',by unfold Does at h3 ⊢;rw [<- e];exact h3,h4⟩⟩
 ·exact .inl ⟨ew ▸ h1,.inr (.inl ⟨v,w',by unfold Runs at h3 ⊢;rw [<- e];exact h3,h4⟩)⟩
 ·exact .inl ⟨ew ▸ h1,.inr (.inr (.inl ⟨f,args,R',by unfold Enters at h3 ⊢;rw [<- e];exact h3,h4,h5⟩))⟩
 ·exact .inl ⟨ew ▸ h1,.inr (.inr (.inr (by unfold Rounds at hy ⊢;rw [<- e];exact hy)))⟩
 ·exact .inr ⟨ew ▸ h1,h2⟩
end
end Go.KX
namespace Go.KX
open Go.RowKit Go.KL
section
variable {tb:Tr AF} {ex exY:Run} {C:Chk} {P:Program}
theorem wDB:∀ (l1 l2:List AO) (σ:Tr AV) (h:AH) (r:Tr AV × AH),wAY tb ex exY (l1 ++ l2) σ h=some r->∃ σ1 h1,wAY tb ex exY l1 σ h=some (σ1,h1)/\wAY tb ex exY l2 σ1 h1=some r
 | [],l2,σ,h,r,hr=>⟨σ,h,wAi _ _ _ _ _,hr⟩
 | a :: l1,l2,σ,h,r,hr=>by
  rw [nI,wAm] at hr
  rw [wAm]
  cases hw:wCN σ a.grd with
  | true =>
   rw [hw] at hr
   simp only at hr ⊢
   cases hq:opK a.kd a.op tb ex exY σ h with
   | none=>rw [hq] at hr;cases hr
   | some q =>
    rw [hq] at hr
    exact wDB l1 l2 _ _ r hr
  | false =>
   rw [hw] at hr
   exact wDB l1 l2 _ _ r hr
theorem wHS {d:Option Pos} {σ:Tr AV} {v:AV} {p:Pos}:evA (wFQ d σ v) (.t p)=if d=some p then v else evA σ (.t p):=by
 cases d with
 | none =>
  rw [if_neg (by simp)]
  rfl
 | some q =>
  show evA (σ.set q v) (.t p)=_
  rw [wIv,Tr.get_set]
  by_cases e:p=q
  ·subst e
   rw [if_pos rfl,if_pos rfl]
   rfl
  ·rw [if_neg e,if_neg (fun h=>e (by cases h;rfl)),wIv]
theorem wCW:∀ (l:List AO) (σ:Tr AV) (h:AH) (σ':Tr AV) (h':AH),wAY tb ex exY l σ h=some (σ',h')->∀ p,(∀ a ∈ l,a.dst ≠ some p)->evA σ' (.t p)=evA σ (.t p)
 | [],σ,h,σ',h',hr,p,_=>by
  rw [wAi] at hr
  cases hr
  rfl
 | a :: l,σ,h,σ',h',hr,p,hp=>by
  have hn:a.dst ≠ some p:=hp a (by simp)
  rw [wAm] at hr
  cases hw:wCN σ a.grd with
  | true =>
   rw [hw] at hr
   simp only at hr
   cases hq:opK a.kd a.op tb ex exY σ h with
   | none=>rw [hq] at hr;cases hr
   | some q =>
    rw [hq] at hr
    rw [wCW l _ _ _ _ hr p fun b hb=>hp b (by simp [hb]),wHS,if_neg hn]
  | false =>
   rw [hw] at hr
   rw [wCW l _ _ _ _ hr p fun b hb=>hp b (by simp [hb]),wHS,if_neg hn]
variable {μ μ':Mu} {h:AH} {w:World}
theorem Sim.adopt {c:Cl} {B:AB} (S:Sim C P μ h w) (hlt:c.1 < w.heap.size) (hn:∀ p d,μ p=some d->d.1 ≠ c.1) (hB:AbR C P (μ.add h.nx c) w c B):Sim C P (μ.add h.nx c) (h.push B) w:=by
 have hn0:=S.nx h.nx (nJ _)
 have hle:=Mu.add_le (c:=c) hn0
 refine ⟨?_,?_,?_,?_⟩
 ·intro p hp
  have hp:h.nx.succ.nat <= p.nat:=hp
  rw [Pos.nat_succ] at hp
  unfold Mu.add
  rw [if_neg (fun e=>by subst e;omega)]
  exact S.nx p (by omega)
 ·intro p d hd
  unfold Mu.add at hd
  split at hd
  ·cases hd;exact hlt
  ·exact S.lt p d hd
 ·intro p q a b d e hp hq la lb hd he hde
  simp only [AH.push,Tr.get_set] at hp hq
  unfold Mu.add at hd he
  split at hd <;> split at he
  ·rename_i h1 h2;rw [h1,h2]
  ·cases hd;exact absurd hde.symm (hn _ _ he)
  ·cases he;exact absurd hde (hn _ _ hd)
  ·rename_i h1 h2
   rw [if_neg h1] at hp
   rw [if_neg h2] at hq
   exact S.inj p q a b d e hp hq la lb hd he hde
 ·intro p b hb
  simp only [AH.push,Tr.get_set] at hb
  split at hb
  ·rename_i e
   subst e
   cases hb
   exact ⟨c,Mu.add_same _ _ _,hB⟩
  ·rename_i e
   obtain ⟨d,h1,h2⟩:=S.at_ p b hb
   exact ⟨d,hle _ _ h1,h2.mono hle⟩
end
end Go.KX
namespace Go.KX
open Go.RowKit Go.KL
theorem wEx:∀ {l:List AOd} {p:Pos},AOd.t p ∈ l->p ∈ wCL l
 | .t q :: l,p,h=>by
  rcases nH.1 h with h | h
  ·cases h;simp [wCL]
  ·simp only [wCL,nH];exact .inr (wEx h)
 | .c v :: l,p,h=>by
  rcases nH.1 h with h | h
  ·cases h
  ·show p ∈ wCL l
   exact wEx h
noncomputable def rst (σ:Tr AV):List Pos->Tr AV
 | []=>.e
 | p :: ps=>(rst σ ps).set p (evA σ (.t p))
theorem wGI (σ:Tr AV):∀ (ps:List Pos) (p:Pos),evA (rst σ ps) (.t p)=if p ∈ ps then evA σ (.t p) else u
 | [],p=>by rw [if_neg (by simp)];rfl
 | q :: ps,p=>by
  show evA ((rst σ ps).set q (evA σ (.t q))) (.t p)=_
  rw [wIv,Tr.get_set]
  by_cases e:p=q
  ·subst e
   rw [if_pos rfl,if_pos (by simp)]
   rfl
  ·rw [if_neg e,<- wIv,wGI σ ps p]
   simp [e]
open Classical in
noncomputable def rsl (σ:Env) (ps:List Pos):Env:=fun d=>if ∃ p ∈ ps,p.nat - 1=d then σ d else undef
theorem wGJ {μ:Mu} {σA:Tr AV} {σ:Env} {ps:List Pos} (h:∀ p ∈ ps,Rv μ (evA σA (.t p)) (σ (p.nat - 1))):EnvR μ (rst σA ps) (rsl σ ps):=by
 intro p
 rw [wGI]
 unfold rsl
 by_cases hp:p ∈ ps
 ·rw [if_pos hp,if_pos ⟨p,hp,rfl⟩]
  exact h p hp
 ·rw [if_neg hp,if_neg]
  ·exact wLk μ
  ·rintro ⟨q,hq,e⟩
   have h1:=q.nat_pos
   have h2:=p.nat_pos
   have:q=p:=Pos.nat_inj (by omega)
   exact hp (this ▸ hq)
section
variable {tb:Tr AF} {ex exY:Run} {C:Chk} {P:Program} {μ:Mu} {σA:Tr AV} {σ:Env} {h h':AH} {v:AV} {o:Oper} {a:AOp} {w:World}
theorem wJo (hr:opY a tb ex exY σA h=some (v,h')):opY a tb ex exY (rst σA (wCL (wBO a))) h=some (v,h'):=by
 rw [<- hr]
 refine wMK a (fun x hx=>?_) h
 cases x with
 | t p=>rw [wGI,if_pos (wEx hx)]
 | c v=>rfl
theorem wPG (hs:wBU o=false) (hb:Sub a o):execOp (ev (rsl σ (wCL (wBO a)))) o=execOp (ev σ) o:=by
 refine execOp_congr o (wKt hs) fun y hy=>?_
 cases y with
 | tmp t =>
  show rsl σ (wCL (wBO a)) t=σ t
  unfold rsl
  rw [if_pos (hb t hy)]
 | _=>rfl
theorem wHT (hs:wBU o=false) (hb:Sub a o) {v:Value} {w':World}:Runs P (rsl σ (wCL (wBO a))) w o v w' ↔ Runs P σ w o v w':=by
 unfold Runs;rw [wPG hs hb]
theorem wGK (hs:wBU o=false) (hb:Sub a o) (hk:kdA a=3) (hc:wGD P a o.op=true) (hr:opY a tb ex exY σA h=some (v,h')) (hv:∀ p ∈ wCL (wBO a),Rv μ (evA σA (.t p)) (σ (p.nat - 1))) :
  ∃ cv,Rv μ v cv/\∀ w,Runs P σ w o cv w:=by
 obtain ⟨_,h2⟩:=wGq (tb:=tb) (ex:=ex) (exY:=exY) hk hc _ _ _ _ (wJo hr)
 obtain ⟨cv,g1,g2⟩:=h2 μ _ (wGJ hv)
 exact ⟨cv,g1,fun w=>(wHT hs hb).1 (g2 o w rfl)⟩
theorem wMT (hs:wBU o=false) (hb:Sub a o) (hk:kdA a=1 \/ kdA a=3) (hc:wGD P a o.op=true) (hr:opY a tb ex exY σA h=some (v,h')) (S:Sim C P μ h w) (hv:∀ p ∈ wCL (wBO a),Rv μ (evA σA (.t p)) (σ (p.nat - 1))) :
  ∃ cv,Rv μ v cv/\Runs P σ w o cv w:=by
 obtain ⟨_,h2⟩:=wGr (C:=C) (tb:=tb) (ex:=ex) (exY:=exY) hk hc _ _ _ _ (wJo hr)
 obtain ⟨cv,g1,g2⟩:=h2 μ _ w (wGJ hv) S
 exact ⟨cv,g1,(wHT hs hb).1 (g2 o rfl w (Keep.refl w _))⟩
theorem wJp {op:Op} (hk:wKp a=true) (hc:wGD P a op=true):OkA C P op (opY a tb ex exY):=by
 cases a <;> first
  | (simp [wKp] at hk;done)
  | exact a_new hc | exact a_box hc | exact a_mkm hc | exact a_mks hc | exact wQe hc
theorem wKc (hs:wBU o=false) (hb:Sub a o) (hk:wKp a=true) (hc:wGD P a o.op=true) (hr:opY a tb ex exY σA h=some (v,h')) (hv:∀ p ∈ wCL (wBO a),Rv μ (evA σA (.t p)) (σ (p.nat - 1))) :
  ∃ (B:AB) (vf:Pos->AV) (ob:Obj) (val:Nat->Value),h'=h.push B/\v=vf h.nx/\wKV B/\(∀ w:World,Runs P σ w o (val w.heap.size) (w.alloc ob)) /\
   (∀ μ' (w:World) b,μ.Le μ'->w.heap[b]?=some ob->AbR C P μ' w ⟨b,0,g0⟩ B)/\∀ μ' p b,μ' p=some ⟨b,0,g0⟩->Rv μ' (vf p) (val b):=by
 obtain ⟨B,vf,e1,e2,_,e4,e5⟩:=wJp (C:=C) (tb:=tb) (ex:=ex) (exY:=exY) hk hc _ _ _ _ (wJo hr)
 obtain ⟨ob,val,g1,g2,g3⟩:=e5 μ _ (wGJ hv) o rfl
 exact ⟨B,vf,ob,val,e1,e2,e4,fun w=>(wHT hs hb).1 (g1 w),g2,g3⟩
end
end Go.KX
namespace Go.KX
open Go.RowKit Go.KL
section
variable {tb:Tr AF} {ex exY:Run} {P:Program}
theorem wJq {s t:List AO} {a:AO} {σ0:Tr AV} {h0:AH} {r:Tr AV × AH} (hr:wAY tb ex exY (s ++ a :: t) σ0 h0=some r) :
  ∃ σ1 h1,wAY tb ex exY s σ0 h0=some (σ1,h1) /\
   ((wCN σ1 a.grd=true/\∃ v h2,opK a.kd a.op tb ex exY σ1 h1=some (v,h2)/\wAY tb ex exY t (wFQ a.dst σ1 v) h2=some r) \/
    (wCN σ1 a.grd=false/\wAY tb ex exY t (wFQ a.dst σ1 u) h1=some r)):=by
 obtain ⟨σ1,h1,e1,e2⟩:=wDB s (a :: t) σ0 h0 r hr
 refine ⟨σ1,h1,e1,?_⟩
 rw [wAm] at e2
 cases hw:wCN σ1 a.grd with
 | true =>
  rw [hw] at e2
  simp only at e2
  cases hq:opK a.kd a.op tb ex exY σ1 h1 with
  | none=>rw [hq] at e2;cases e2
  | some q =>
   rw [hq] at e2
   exact .inl ⟨rfl,q.1,q.2,rfl,e2⟩
 | false =>
  rw [hw] at e2
  exact .inr ⟨rfl,e2⟩
theorem wDR {l:List Oper} {S:Nat->Bool} (hdc:∀ k,k < l.length->S k=true->∀ j ∈ prI l k,S j=true) {x i:Nat} (hp:∀ j ∈ prI l i,S j=true) (h:wJj l x i):S x=true:=h S hdc hp
variable {N:Nat} {l:List Oper} {os s t:List AO} {a:AO} {σ0 σ1 σf:Tr AV} {h0 h1 hf:AH}
theorem wJF (Z:ZOK P N l os) (e:os=s ++ a :: t) {v:AV} {σ2:Tr AV} {h2:AH} (hr:wAY tb ex exY t (wFQ a.dst σ2 v) h2=some (σf,hf)) {p:Pos} (hp:a.dst=some p):evA σf (.t p)=v:=by
 rw [wCW t _ _ _ _ hr p fun b hb=>Z.wr s a t e p hp b (nO _ hb),wHS,if_pos hp]
theorem wQj (Z:ZOK P N l os) (e:os=s ++ a :: t) (hr:wAY tb ex exY (a :: t) σ1 h1=some (σf,hf)) {p:Pos} (hp:p ∈ wBx a):evA σf (.t p)=evA σ1 (.t p) :=
 wCW (a :: t) _ _ _ _ hr p fun b hb=>Z.rd s a t e p hp b hb
end
end Go.KX
namespace Go.KX
open Go.RowKit Go.KL
section
variable {tb:Tr AF} {ex exY:Run} {P:Program} {N:Nat} {l:List Oper} {os s t:List AO} {a:AO} {σ0 σ1 σA σf:Tr AV} {h0 h h1 hf:AH} {μ μS:Mu} {σ σ':Env} {w:World} {o:Oper}
theorem wCX:∀ {s s' t t':List AO} {a:AO},(s ++ a :: t).Pairwise (fun a b=>a.ix ≠ b.ix)->s ++ a :: t=s' ++ a :: t'->s=s'/\t=t'
 | [],[],t,t',a,_,e=>by
  simp only [nS,nX,true_and] at e
  exact ⟨rfl,e⟩
 | [],b :: s',t,t',a,hp,e=>by
  simp only [nS,nI,nX] at e
  obtain ⟨rfl,rfl⟩:=e
  rw [nS] at hp
  exact absurd rfl ((nR.1 hp).1 a (by simp))
 | b :: s,[],t,t',a,hp,e=>by
  simp only [nS,nI,nX] at e
  obtain ⟨rfl,rfl⟩:=e
  rw [nI] at hp
  exact absurd rfl ((nR.1 hp).1 b (by simp))
 | b :: s,b' :: s',t,t',a,hp,e=>by
  simp only [nI,nX] at e
  rw [nI] at hp
  obtain ⟨h1,h2⟩:=wCX (nR.1 hp).2 e.2
  exact ⟨by rw [e.1,h1],h2⟩
theorem wDs (A:AOK P N l a o) (hs:Sub a.op o):∀ d ∈ wDe l o,∃ p ∈ wBx a,p.nat - 1=d:=by
 intro d hd
 unfold wDe at hd
 rcases nD.1 hd with hd | hd
 ·obtain ⟨y,h1,h2⟩:=kO.1 hd
  cases y with
  | tmp t =>
   simp only [kQ] at h2
   subst h2
   obtain ⟨p,h3,h4⟩:=hs t (by simpa using h1)
   exact ⟨p,nb _ h3,h4⟩
  | _=>simp at h2
 ·rcases A.grd with ⟨_,h2⟩ | ⟨p,b,j,d',h1,h2,h3,h4⟩
  ·rw [h2] at hd;simp at hd
  ·rw [h2] at hd
   simp only [h3,Option.toList_some,nh] at hd
   subst hd
   exact ⟨p,nO _ (by rw [h1];simp),h4.symm⟩
structure Pend (tb:Tr AF) (ex exY:Run) (P:Program) (l:List Oper) (os:List AO) (σ0:Tr AV) (h0:AH) (σf:Tr AV) (w0:World) (μ μS:Mu) (σ:Env) (w:World) (a:AO) (o:Oper) (p:Pos):Prop where
 get:l[a.ix]?=some o
 dst:a.dst=some p
 fact:(wanted l σ o=false/\σ (p.nat - 1)=undef/\evA σf (.t p)=u) \/ (wanted l σ o=true /\
  (((a.kd=1 \/ a.kd=3 \/ 8 <= a.kd)/\Rv μ (evA σf (.t p)) (σ (p.nat - 1))) \/
   (a.kd=6/\Rv μS (evA σf (.t p)) (σ (p.nat - 1))/\∃ w1 w2,Runs P σ w1 o (σ (p.nat - 1)) w2) \/
   (a.kd=4/\Rv μS (evA σf (.t p)) (σ (p.nat - 1))/\∃ w1 ob s1 t1 σ1 h1,Runs P σ w1 o (σ (p.nat - 1)) (w1.alloc ob)/\w.heap[w1.heap.size]?=some ob/\w0.heap.size <= w1.heap.size /\
    os=s1 ++ a :: t1/\wAY tb ex exY s1 σ0 h0=some (σ1,h1)/\μS h1.nx=some ⟨w1.heap.size,0,g0⟩/\∀ q c,μS q=some c->c.1=w1.heap.size->q=h1.nx)))
theorem wMU {tb:Tr AF} {ex exY:Run} {k:Nat} {op:AOp} {σ:Tr AV} {h h':AH} {v:AV} (hk:k ≠ 2) (hr:opK k op tb ex exY σ h=some (v,h')):opY op tb ex exY σ h=some (v,h'):=by
 have hb:nN k 2=false:=by
  cases hb:nN k 2 with
  | false=>rfl
  | true=>exact absurd (nA hb) hk
 have:opK k op=opY op:=by unfold opK;rw [hb]
 rwa [this] at hr
theorem wKd {k:Nat} (h:8 <= k):¬ wBr k=true:=by
 unfold wBr
 simp only [Bool.or_eq_true,not_or]
 exact ⟨fun e=>by have:=nA e;omega,fun e=>by have:=nA e;omega⟩
theorem wMV {w:World} {a b:Obj} (h:w.alloc a=w.alloc b):a=b:=by
 have h1:=heap_alloc_new w a
 rw [h,heap_alloc_new] at h1
 exact (nE h1).symm
theorem wQk (Z:ZOK P N l os) (e:os=s ++ a :: t) {μ0:Mu} {w0:World} {fl:Nat} (hs:wAY tb ex exY s σ0 h0=some (σA,h)) (hr:wAY tb ex exY (a :: t) σA h=some (σf,hf))
  (E:Ext μ0 fl w0 μ w) (S:Sim (CC P) P μ h w) (hE:EnvR μ σA σ') (hle:μ.Le μS) {p:Pos} (Pd:Pend tb ex exY P l os σ0 h0 σf w0 μ μS σ w a o p) (hag:∀ q ∈ wBx a,σ (q.nat - 1)=σ' (q.nat - 1)) :
  ∃ σB hB μB,wAY tb ex exY (s ++ [a]) σ0 h0=some (σB,hB)/\wAY tb ex exY t σB hB=some (σf,hf)/\μ.Le μB/\μB.Le μS/\Ext μ0 fl w0 μB w/\Sim (CC P) P μB hB w/\hB.fl=h.fl/\EnvR μB σB (upd σ' (p.nat - 1) (σ (p.nat - 1)))/\(a.kd=4->wanted l σ o=true->μB h.nx ≠ none):=by
 have ha:a ∈ os:=by rw [e];simp
 obtain ⟨o',A⟩:=wCc (Z.ao a ha)
 have eo:o'=o:=by have:=A.get;rw [Pd.get] at this;exact (nE this).symm
 subst eo
 have hsel:=Z.sel a ha _ A.get
 have hsub:=Z.sub a ha _ A.get
 have hagr:Agr l o' σ σ':=fun d hd=>by
  obtain ⟨q,h1,rfl⟩:=wDs A hsub d hd
  exact hag q h1
 have hw:=wHP A hE
 have hwσ:wanted l σ o'=wCN σA a.grd:=(wBt hagr).trans hw
 obtain ⟨pd,dd,d1,d2,d3,_⟩:∃ p d,a.dst=some p/\o'.dst=some d/\d=p.nat - 1/\d < N:=by
  rcases A.dst with ⟨h1,_⟩ | h
  ·rw [Pd.dst] at h1;cases h1
  ·exact h
 have ep:pd=p:=by rw [Pd.dst] at d1;exact (nE d1).symm
 subst ep
 have eput:∀ cv,put' σ' o' cv=upd σ' (pd.nat - 1) cv:=fun cv=>by unfold put';rw [d2,d3]
 obtain ⟨σx,hx,q1,q2⟩:=wJq (s:=[]) (a:=a) (t:=t) (σ0:=σA) (h0:=h) (by rw [nS];exact hr)
 rw [wAi] at q1
 cases q1
 have split1:∀ {σB hB},(match wCN σA a.grd with | true=>(match opK a.kd a.op tb ex exY σA h with | some r=>some (wFQ a.dst σA r.1,r.2) | none=>none) | false=>some (wFQ a.dst σA u,h))=some (σB,hB)->wAY tb ex exY (s ++ [a]) σ0 h0=some (σB,hB):=by
  intro σB hB hq
  have app:∀ (l1 l2:List AO) (x:Tr AV) (y:AH) (x1:Tr AV) (y1:AH),wAY tb ex exY l1 x y=some (x1,y1)->wAY tb ex exY (l1 ++ l2) x y=wAY tb ex exY l2 x1 y1:=by
   intro l1
   induction l1 with
   | nil=>intro l2 x y x1 y1 h;rw [wAi] at h;cases h;rfl
   | cons b l1 ih =>
    intro l2 x y x1 y1 h
    rw [nI,wAm]
    rw [wAm] at h
    cases hb:wCN x b.grd with
    | true =>
     rw [hb] at h
     simp only at h ⊢
     cases hq:opK b.kd b.op tb ex exY x y with
     | none=>rw [hq] at h;cases h
     | some r=>rw [hq] at h;exact ih l2 _ _ _ _ h
    | false =>
     rw [hb] at h
     exact ih l2 _ _ _ _ h
  rw [app s [a] _ _ _ _ hs,wAm]
  cases hb:wCN σA a.grd with
  | true =>
   rw [hb] at hq
   simp only at hq ⊢
   cases hk:opK a.kd a.op tb ex exY σA h with
   | none=>rw [hk] at hq;cases hq
   | some r =>
    rw [hk] at hq
    cases hq
    exact wAi _ _ _ _ _
  | false =>
   rw [hb] at hq
   cases hq
   rw [wAi]
 rcases q2 with ⟨g1,v,h2,g2,g3⟩ | ⟨g1,g3⟩
 ·have hv:evA σf (.t pd)=v:=wJF Z e g3 Pd.dst
  have hrun:=split1 (σB:=wFQ a.dst σA v) (hB:=h2) (by rw [g1];simp only;rw [g2])
  rcases Pd.fact with ⟨f1,_⟩ | ⟨_,⟨fk,f1⟩ | ⟨fk,f1,w1,w2,f2⟩ | ⟨fk,f1,w1,ob,s1,t1,σ1,h1,f2,f3,f4,f5,f6,f7,f8⟩⟩
  ·rw [hwσ,g1] at f1;cases f1
  ·have gY:opY a.op tb ex exY σA h=some (v,h2):=wMU (by omega) g2
   have hk:kdA a.op=1 \/ kdA a.op=3:=by
    rcases fk with fk | fk | fk
    ·exact A.k1 fk
    ·exact .inr (A.k3 fk)
    ·rcases Z.kd a ha with hh | ⟨_,hh | hh | hh | hh | hh⟩
     ·exact absurd hh (wKd fk)
     ·omega
     ·omega
     ·omega
     ·omega
     ·exact .inl hh.2
   obtain ⟨e1,_⟩:=wGr (C:=CC P) hk A.op _ _ _ _ gY
   subst e1
   rw [hv] at f1
   exact ⟨_,_,μ,hrun,g3,Mu.Le.refl μ,hle,E,S,rfl,by rw [<- eput];exact wDV A hE f1,fun h4 _=>by omega⟩
  ·have gY:opY a.op tb ex exY σA h=some (v,h2):=by rw [fk] at g2;exact g2
   have hk:kdA a.op=3:=by
    rcases Z.kd a ha with hh | ⟨_,hh | hh | hh | hh | hh⟩
    ·rw [fk] at hh;exact absurd hh (by decide)
    ·omega
    ·omega
    ·exact hh.2
    ·omega
    ·omega
   obtain ⟨e1,e2⟩:=wGq hk A.op _ _ _ _ gY
   subst e1
   obtain ⟨cv,c1,c2⟩:=e2 μ σ' hE
   have:=Runs.det ((Runs.agr hsel hagr).2 (c2 o' w1 rfl)) f2
   rw [<- eput,<- this.1]
   exact ⟨_,_,μ,hrun,g3,Mu.Le.refl μ,hle,E,S,rfl,wDV A hE c1,fun h4 _=>by omega⟩
  ·have gY:opY a.op tb ex exY σA h=some (v,h2):=by rw [fk] at g2;exact g2
   have hk:wKp a.op=true:=by
    rcases Z.kd a ha with hh | ⟨_,hh | hh | hh | hh | hh⟩
    ·rw [fk] at hh;exact absurd hh (by decide)
    ·omega
    ·omega
    ·omega
    ·exact hh.2
    ·omega
   obtain ⟨B,vf,e1,e2,_,_,e5⟩:=wJp (C:=CC P) hk A.op _ _ _ _ gY
   obtain ⟨ob',val,c1,c2,c3⟩:=e5 μ σ' hE o' rfl
   obtain ⟨k1,k2⟩:=Runs.det ((Runs.agr hsel hagr).2 (c1 w1)) f2
   have k2:=wMV k2
   subst k2
   have es:s1=s:=(wCX (f5 ▸ Z.one) (f5.symm.trans e)).1
   subst es
   rw [hs] at f6
   cases f6
   have hn0:=S.nx h.nx (nJ _)
   have hadd:=Mu.add_le (c:=(⟨w1.heap.size,0,g0⟩:Cl)) hn0
   have hlt:w1.heap.size < w.heap.size:=wAQ f3
   subst e1 e2
   have hv':Rv (μ.add h.nx ⟨w1.heap.size,0,g0⟩) (vf h.nx) (σ (pd.nat - 1)):=by
    rw [<- k1]
    exact c3 _ _ _ (Mu.add_same _ _ _)
   refine ⟨_,_,μ.add h.nx ⟨w1.heap.size,0,g0⟩,hrun,g3,hadd,?_,⟨E.mono.trans hadd,?_,E.keep⟩,S.adopt hlt ?_ (c2 _ w _ hadd f3),rfl,?_,fun _ _=>by rw [Mu.add_same];simp⟩
   ·intro q d hq
    unfold Mu.add at hq
    split at hq
    ·rename_i eq
     subst eq
     cases hq
     exact f7
    ·exact hle q d hq
   ·intro q c hq
    unfold Mu.add at hq
    split at hq
    ·cases hq
     exact .inr (.inr f4)
    ·exact E.new q c hq
   ·intro q d hq hd
    have:=f8 q d (hle q d hq) hd
    subst this
    rw [hn0] at hq
    cases hq
   ·rw [<- eput]
    exact wDV A (hE.mono hadd) hv'
 ·have hrun:=split1 (σB:=wFQ a.dst σA u) (hB:=h) (by rw [g1])
  rcases Pd.fact with ⟨_,f2,_⟩ | ⟨f1,_⟩
  ·refine ⟨_,_,μ,hrun,g3,Mu.Le.refl μ,hle,E,S,rfl,?_,fun _ hw'=>by rw [hwσ,g1] at hw';cases hw'⟩
   rw [f2,<- eput]
   exact wDV A hE (wLk μ)
  ·rw [hwσ,g1] at f1;cases f1
structure JS (tb:Tr AF) (ex exY:Run) (P:Program) (l:List Oper) (os:List AO) (σ0:Tr AV) (h0:AH) (σf:Tr AV) (hf:AH) (μ0:Mu) (w0:World) (S:Nat->Bool) (σ:Env) (w:World) (s t:List AO) (σA:Tr AV) (h:AH) (σ':Env) (μ μS:Mu):Prop where
 e:os=s ++ t
 hs:wAY tb ex exY s σ0 h0=some (σA,h)
 hr:wAY tb ex exY t σA h=some (σf,hf)
 inS:∀ a ∈ s,S a.ix=true
 free:∀ a ∈ t,S a.ix=true->wBr a.kd=false
 E:Ext μ0 h0.fl.nat w0 μ w
 sim:Sim (CC P) P μ h w
 fl:h.fl=h0.fl
 env:EnvR μ σA σ'
 ag:∀ q:Pos,(∀ a ∈ t,S a.ix=true->a.dst ≠ some q)->σ (q.nat - 1)=σ' (q.nat - 1)
 le:μ.Le μS
 nm:∀ q c,μS q=some c->μ q=some c \/ ∃ a o s1 t1 σ1 h1,a ∈ t/\S a.ix=true/\l[a.ix]?=some o/\wanted l σ o=true/\a.kd=4/\os=s1 ++ a :: t1/\wAY tb ex exY s1 σ0 h0=some (σ1,h1)/\q=h1.nx
 pd:∀ a ∈ t,S a.ix=true->∃ o p,Pend tb ex exY P l os σ0 h0 σf w0 μ μS σ w a o p
theorem Pend.mono {μB:Mu} {w0:World} {p:Pos} (h:Pend tb ex exY P l os σ0 h0 σf w0 μ μS σ w a o p) (hm:μ.Le μB):Pend tb ex exY P l os σ0 h0 σf w0 μB μS σ w a o p:=by
 refine ⟨h.get,h.dst,?_⟩
 rcases h.fact with f | ⟨f,⟨f1,f2⟩ | f1 | f1⟩
 ·exact .inl f
 ·exact .inr ⟨f,.inl ⟨f1,f2.mono hm⟩⟩
 ·exact .inr ⟨f,.inr (.inl f1)⟩
 ·exact .inr ⟨f,.inr (.inr f1)⟩
theorem JS.catch1 (Z:ZOK P N l os) {μ0:Mu} {w0:World} {S:Nat->Bool} (J:JS tb ex exY P l os σ0 h0 σf hf μ0 w0 S σ w s (a :: t) σA h σ' μ μS) (ha:S a.ix=true) :
  ∃ σB hB σ'' μB,JS tb ex exY P l os σ0 h0 σf hf μ0 w0 S σ w (s ++ [a]) t σB hB σ'' μB μS:=by
 obtain ⟨o,p,Pd⟩:=J.pd a (by simp) ha
 have hag:∀ q ∈ wBx a,σ (q.nat - 1)=σ' (q.nat - 1):=fun q hq=>J.ag q fun b hb _=>Z.rd s a t J.e q hq b hb
 obtain ⟨σB,hB,μB,c1,c2,c3,c4,c5,c6,c7,c8,c9⟩:=wQk Z J.e J.hs J.hr J.E J.sim J.env J.le Pd hag
 have hne:∀ b ∈ t,b.ix ≠ a.ix:=fun b hb e=>by
  have:=Z.one
  rw [J.e] at this
  exact (nR.1 (nT.1 this).2.1).1 b hb e.symm
 refine ⟨σB,hB,_,μB,by rw [J.e];simp,c1,c2,fun b hb=>?_,fun b hb=>J.free b (by simp [hb]),c5,c6,c7.trans J.fl,c8,fun q hq=>?_,c4,fun q c hq=>?_,fun b hb hS=>?_⟩
 ·rcases nD.1 hb with hb | hb
  ·exact J.inS b hb
  ·rw [nh.1 hb];exact ha
 ·by_cases e:q=p
  ·subst e
   rw [wBg]
  ·rw [wBe _ _ (fun h=>e (Pos.nat_inj (by have:=q.nat_pos;have:=p.nat_pos;omega)))]
   refine J.ag q fun b hb hS=>?_
   rcases nH.1 hb with rfl | hb
   ·rw [Pd.dst]
    intro h
    cases h
    exact e rfl
   ·exact hq b hb hS
 ·rcases J.nm q c hq with h1 | ⟨b,ob,s1,t1,σ1,h1,k1,k2,k3,k4,k5,k6,k7,k8⟩
  ·exact .inl (c3 _ _ h1)
  ·rcases nH.1 k1 with rfl | k1
   ·left
    have hs1:s1=s:=(wCX (k6 ▸ Z.one) (k6.symm.trans J.e)).1
    subst hs1
    rw [J.hs] at k7
    cases k7
    subst k8
    rw [Pd.get] at k3
    cases k3
    have:=c9 k5 k4
    cases hm:μB h.nx with
    | none=>exact absurd hm this
    | some c' =>
     have:=c4 _ _ hm
     rw [hq] at this
     exact this.symm
   ·exact .inr ⟨b,ob,s1,t1,σ1,h1,k1,k2,k3,k4,k5,k6,k7,k8⟩
 ·obtain ⟨o',p',h'⟩:=J.pd b (by simp [hb]) hS
  exact ⟨o',p',h'.mono c3⟩
end
end Go.KX
namespace Go.KX
open Go.RowKit Go.KL
section
variable {tb:Tr AF} {ex exY:Run} {P:Program} {N:Nat} {l:List Oper} {os s t:List AO} {a:AO} {σ0 σA σf:Tr AV} {h0 h hf:AH} {μ μS:Mu} {σ σ':Env} {w:World} {o:Oper}
theorem wDF:∀ (l1 l2:List AO) (x:Tr AV) (y:AH) (x1:Tr AV) (y1:AH),wAY tb ex exY l1 x y=some (x1,y1)->wAY tb ex exY (l1 ++ l2) x y=wAY tb ex exY l2 x1 y1
 | [],l2,x,y,x1,y1,h=>by rw [wAi] at h;cases h;rfl
 | b :: l1,l2,x,y,x1,y1,h=>by
  rw [nI,wAm]
  rw [wAm] at h
  cases hb:wCN x b.grd with
  | true =>
   rw [hb] at h
   simp only at h ⊢
   cases hq:opK b.kd b.op tb ex exY x y with
   | none=>rw [hq] at h;cases h
   | some r=>rw [hq] at h;exact wDF l1 l2 _ _ _ _ h
  | false =>
   rw [hb] at h
   exact wDF l1 l2 _ _ _ _ h
theorem wPH (HE:FrX ex) (HY:FrX exY) (Z:ZOK P N l os) (e:os=s ++ t) (hs:wAY tb ex exY s σ0 h0=some (σA,h)) {b:AO} (hb:b ∈ t) {s1 t1:List AO} {σ1:Tr AV} {h1:AH} (e1:os=s1 ++ b :: t1) (hr:wAY tb ex exY s1 σ0 h0=some (σ1,h1)):h.nx.nat <= h1.nx.nat:=by
 obtain ⟨r,r',rfl⟩:=nM hb
 have es:s1=s ++ r:=(wCX (e1 ▸ Z.one) (e1.symm.trans (e.trans (nK _ _ _).symm))).1
 subst es
 rw [wDF s r _ _ _ _ hs] at hr
 exact (wGv HE HY _ _ _ _ _ hr).nx
theorem wFb (Z:ZOK P N l os) {S:Nat->Bool} (hdc:∀ k,k < l.length->S k=true->∀ j ∈ prI l k,S j=true) (ha:a ∈ os) (hS:S a.ix=false) {b:AO} (hb:b ∈ os) (hbS:S b.ix=true) (A:AOK P N l a o) {ob:Oper} (hob:l[b.ix]?=some ob) (v:Value):Agr l ob σ (put' σ o v):=by
 obtain ⟨ob',B⟩:=wCc (Z.ao b hb)
 have eo:ob'=ob:=by have:=B.get;rw [hob] at this;exact (nE this).symm
 subst eo
 intro d hd
 obtain ⟨p,hp,rfl⟩:=wDs B (Z.sub b hb _ B.get) d hd
 symm
 refine wFg fun dd hdd e=>?_
 rcases A.dst with ⟨_,h2⟩ | ⟨q,d',h1,h2,h3,_⟩
 ·rw [h2] at hdd;cases hdd
 ·rw [h2] at hdd
  have hdd:=nE hdd
  have eq:q=p:=Pos.nat_inj (by have:=q.nat_pos;have:=p.nat_pos;have:q.nat - 1=p.nat - 1:=h3.symm.trans (hdd.trans e);omega)
  subst eq
  have:=Z.rdS b hb q hp a ha h1
  have hlt:b.ix < l.length:=(nP.1 hob).1
  have:=wDR hdc (hdc _ hlt hbS) this
  rw [hS] at this
  cases this
theorem JS.fixed (HC:wFM (CC P) P tb ex) (HY':wEK (CC P) P exY) (HE:FrX ex) (HY:FrX exY) (Z:ZOK P N l os) {μ0:Mu} {w0:World} {S:Nat->Bool} (J:JS tb ex exY P l os σ0 h0 σf hf μ0 w0 S σ w s (a :: t) σA h σ' μ μS) (hfix:wBr a.kd=true) (hS:S a.ix=false)
  (hdc:∀ k,k < l.length->S k=true->∀ j ∈ prI l k,S j=true) (A:AOK P N l a o) :
  Step1 P l o σ w fun v w'=>∃ σB hB σ'' μB μT,JS tb ex exY P l os σ0 h0 σf hf μ0 w0 (fun k=>k == a.ix || S k) (put' σ o v) w' (s ++ [a]) t σB hB σ'' μB μT:=by
 have ha:a ∈ os:=by rw [J.e];simp
 have hsel:=Z.sel a ha _ A.get
 have hag:∀ q ∈ wBx a,σ (q.nat - 1)=σ' (q.nat - 1):=fun q hq=>J.ag q fun b hb _=>Z.rd s a t J.e q hq b hb
 have hagr:Agr l o σ σ':=fun d hd=>by
  obtain ⟨q,h1,rfl⟩:=wDs A (Z.sub a ha _ A.get) d hd
  exact hag q h1
 have hw:=wHP A J.env
 have main:∀ (v:AV) (cv:Value) (hB:AH) (w':World) (μB:Mu),wAY tb ex exY (s ++ [a]) σ0 h0=some (wFQ a.dst σA v,hB)->wAY tb ex exY t (wFQ a.dst σA v) hB=some (σf,hf) ->
   Ext μ h.fl.nat w μB w'->Sim (CC P) P μB hB w'->EnvR μB (wFQ a.dst σA v) (put' σ' o cv)->hB.fl=h.fl ->
   ∃ σB hB σ'' μB μT,JS tb ex exY P l os σ0 h0 σf hf μ0 w0 (fun k=>k == a.ix || S k) (put' σ o cv) w' (s ++ [a]) t σB hB σ'' μB μT:=by
  intro v cv hB w' μB r1 r2 E' S' hE' hfl
  have hne:∀ b ∈ t,b.ix ≠ a.ix:=fun b hb e=>by
   have:=Z.one
   rw [J.e] at this
   exact (nR.1 (nT.1 this).2.1).1 b hb e.symm
  have hSb:∀ b ∈ t,(b.ix == a.ix || S b.ix)=true->S b.ix=true:=fun b hb h=>by
   have:=hne b hb
   simpa [this] using h
  have hbo:∀ b ∈ t,b ∈ os:=fun b hb=>by rw [J.e];simp [hb]
  have eB:os=(s ++ [a]) ++ t:=by rw [J.e];simp
  have hnm:∀ b ∈ t,∀ s1 t1 σ1 h1,os=s1 ++ b :: t1->wAY tb ex exY s1 σ0 h0=some (σ1,h1)->μB h1.nx=none/\μ h1.nx=none:=fun b hb s1 t1 σ1 h1 e1 hr=>by
   have g1:=wPH HE HY Z eB r1 hb e1 hr
   have g2:=wPH HE HY Z J.e J.hs (b:=b) (by simp [hb]) e1 hr
   exact ⟨S'.nx _ g1,J.sim.nx _ g2⟩
  let μT:Mu:=fun q=>match μB q with | some c=>some c | none=>μS q
  have hT:μB.Le μT:=fun q c hq=>by show (match μB q with | some c=>some c | none=>μS q)=_;rw [hq]
  have hST:μS.Le μT:=fun q c hq=>by
   show (match μB q with | some c=>some c | none=>μS q)=_
   cases hB:μB q with
   | none=>exact hq
   | some c' =>
    rcases J.nm q c hq with h1 | ⟨b,ob,s1,t1,σ1,h1,k1,k2,k3,k4,k5,k6,k7,k8⟩
    ·rw [E'.mono _ _ h1] at hB
     exact hB.symm ▸ rfl
    ·rcases nH.1 k1 with rfl | k1
     ·rw [hS] at k2;cases k2
     ·have:=(hnm b k1 s1 t1 σ1 h1 k6 k7).1
      rw [<- k8,hB] at this
      cases this
  refine ⟨_,hB,_,μB,μT,eB,r1,r2,fun b hb=>?_,fun b hb hh=>J.free b (by simp [hb]) (hSb b hb hh),?_,S',hfl.trans J.fl,hE',fun q hq=>?_,hT,fun q c hq=>?_,fun b hb hh=>?_⟩
  ·rcases nD.1 hb with hb | hb
   ·simp [J.inS b hb]
   ·rw [nh.1 hb];simp
  ·have:=J.E
   refine this.trans ?_
   rw [<- J.fl]
   exact E'
  ·have old:σ (q.nat - 1)=σ' (q.nat - 1) \/ a.dst=some q:=by
    by_cases hq':a.dst=some q
    ·exact .inr hq'
    ·exact .inl (J.ag q fun b hb h=>by
      rcases nH.1 hb with rfl | hb
      ·exact hq'
      ·exact hq b hb (by simp [h]))
   rcases A.dst with ⟨h1,h2⟩ | ⟨p,d,h1,h2,h3,_⟩
   ·unfold put'
    rw [h2]
    rcases old with old | old
    ·exact old
    ·rw [h1] at old;cases old
   ·unfold put'
    rw [h2]
    by_cases e:q.nat - 1=d
    ·simp only [e,wBg]
    ·simp only
     rw [wBe _ _ e,wBe _ _ e]
     rcases old with old | old
     ·exact old
     ·rw [h1] at old
      cases old
      exact absurd h3.symm e
  ·have hq:(match μB q with | some c=>some c | none=>μS q)=some c:=hq
   cases hB':μB q with
   | some c' =>
    rw [hB'] at hq
    exact .inl hq
   | none =>
    rw [hB'] at hq
    rcases J.nm q c hq with h1 | ⟨b,ob,s1,t1,σ1,h1,k1,k2,k3,k4,k5,k6,k7,k8⟩
    ·rw [E'.mono _ _ h1] at hB'
     cases hB'
    ·rcases nH.1 k1 with rfl | k1
     ·rw [hS] at k2;cases k2
     ·exact .inr ⟨b,ob,s1,t1,σ1,h1,k1,by simp [k2],k3,(wBt (wFb Z hdc ha hS (hbo b k1) k2 A k3 cv)).symm.trans k4,k5,k6,k7,k8⟩
  ·have hbS:=hSb b hb hh
   obtain ⟨ob,p,Pd⟩:=J.pd b (by simp [hb]) hbS
   have hA:=wFb (σ:=σ) Z hdc ha hS (hbo b hb) hbS A Pd.get cv
   have hp:put' σ o cv (p.nat - 1)=σ (p.nat - 1):=wFg fun d hd e=>by
    rcases A.dst with ⟨_,h2⟩ | ⟨q,d',h1,h2,h3,_⟩
    ·rw [h2] at hd;cases hd
    ·rw [h2] at hd
     have hd:=nE hd
     have eq:q=p:=Pos.nat_inj (by have:=q.nat_pos;have:=p.nat_pos;have:q.nat - 1=p.nat - 1:=h3.symm.trans (hd.trans e);omega)
     subst eq
     exact Z.wr s a t J.e q h1 b (nO _ hb) Pd.dst
   have hsb:=Z.sel b (hbo b hb) _ Pd.get
   refine ⟨ob,p,Pd.get,Pd.dst,?_⟩
   rw [hp,<- wBt hA]
   rcases Pd.fact with f | ⟨f,⟨f1,f2⟩ | ⟨f1,f2,w1,w2,f3⟩ | ⟨f1,f2,w1,o1,s1,t1,σ1,h1,f3,f4,f5,f6,f7,f8,f9⟩⟩
   ·exact .inl f
   ·exact .inr ⟨f,.inl ⟨f1,f2.mono E'.mono⟩⟩
   ·exact .inr ⟨f,.inr (.inl ⟨f1,f2.mono hST,w1,w2,(Runs.agr hsb hA).1 f3⟩)⟩
   ·obtain ⟨n1,n2⟩:=hnm b hb s1 t1 σ1 h1 f6 f7
    have nimg:¬ img μ h.fl.nat w1.heap.size:=by
     rintro ⟨q,d,g1,g2,_⟩
     have:=f9 q d (J.le _ _ g1) g2
     rw [this,n2] at g1
     cases g1
    refine .inr ⟨f,.inr (.inr ⟨f1,f2.mono hST,w1,o1,s1,t1,σ1,h1,(Runs.agr hsb hA).1 f3,(E'.keep.block _ (wAQ f4) nimg).trans f4,f5,f6,f7,hST _ _ f8,fun q c hq hc=>?_⟩)⟩
    have hq:(match μB q with | some c=>some c | none=>μS q)=some c:=hq
    cases hB':μB q with
    | none=>rw [hB'] at hq;exact f9 q c hq hc
    | some c' =>
     rw [hB'] at hq
     cases hq
     rcases E'.new q c hB' with g | g | g
     ·exact f9 q c (J.le _ _ g) hc
     ·rw [hc] at g;exact absurd g nimg
     ·have:=wAQ f4;omega
 obtain ⟨σx,hx,q1,q2⟩:=wJq (s:=[]) (a:=a) (t:=t) (σ0:=σA) (h0:=h) (by rw [nS];exact J.hr)
 rw [wAi] at q1
 cases q1
 refine Step1.agr hsel (fun d hd=>(hagr d hd).symm) ?_
 rcases q2 with ⟨g1,v,h2,g2,g3⟩ | ⟨g1,g3⟩
 ·refine (wQd HC HY' A (hw.trans g1) g2 J.env J.sim).mono ?_
  rintro cv w' ⟨_,μB,e1,e2,e3,e4⟩
  refine main v cv h2 w' μB ?_ g3 e1 e2 e3 e4
  rw [wDF s [a] _ _ _ _ J.hs,wAm,g1]
  simp only
  rw [g2]
  exact wAi _ _ _ _ _
 ·refine .inr ⟨hw.trans g1,?_⟩
  refine main u undef h w μ ?_ g3 (Ext.refl μ _ w) J.sim (wDV A J.env (wLk μ)) rfl
  rw [wDF s [a] _ _ _ _ J.hs,wAm,g1]
  exact wAi _ _ _ _ _
theorem JS.opnd (Z:ZOK P N l os) {μ0:Mu} {w0:World} {S:Nat->Bool} (J:JS tb ex exY P l os σ0 h0 σf hf μ0 w0 S σ w s t σA h σ' μ μS) (ha:a ∈ os) (hl:a.ix < l.length) (hp:∀ j ∈ prI l a.ix,S j=true)
  (hdc:∀ k,k < l.length->S k=true->∀ j ∈ prI l k,S j=true) {p:Pos} (hr:p ∈ wBx a):Rv μS (evA σf (.t p)) (σ (p.nat - 1))/\(a.kd=1 \/ a.kd=3 \/ 8 <= a.kd->Rv μ (evA σf (.t p)) (σ (p.nat - 1))):=by
 have base:(∀ b ∈ t,b.dst ≠ some p)->Rv μ (evA σf (.t p)) (σ (p.nat - 1)):=fun hn=>by
  rw [wCW t _ _ _ _ J.hr p hn,J.ag p fun b hb _=>hn b hb]
  exact J.env p
 by_cases hw:∃ b ∈ t,b.dst=some p
 ·obtain ⟨b,hb,hd⟩:=hw
  have hbo:b ∈ os:=by rw [J.e];simp [hb]
  have hanc:=Z.rdS a ha p hr b hbo hd
  have hS:=wDR hdc hp hanc
  obtain ⟨ob,p',Pd⟩:=J.pd b hb hS
  have ep:p'=p:=by have:=Pd.dst;rw [hd] at this;exact (nE this).symm
  subst ep
  rcases Pd.fact with ⟨_,f1,f2⟩ | ⟨_,⟨_,f1⟩ | ⟨f0,f1,_⟩ | ⟨f0,f1,_⟩⟩
  ·rw [f1,f2]
   exact ⟨wLk _,fun _=>wLk _⟩
  ·exact ⟨f1.mono J.le,fun _=>f1⟩
  ·exact ⟨f1,fun hk=>absurd f0 (Z.cl a ha hk p' hr b hbo hd).2⟩
  ·exact ⟨f1,fun hk=>absurd f0 (Z.cl a ha hk p' hr b hbo hd).1⟩
 ·have:=base fun b hb hd=>hw ⟨b,hb,hd⟩
  exact ⟨this.mono J.le,fun _=>this⟩
end
end Go.KX
namespace Go.KX
open Go.RowKit Go.KL
section
variable {tb:Tr AF} {ex exY:Run} {P:Program} {N:Nat} {l:List Oper} {os s t:List AO} {a:AO} {σ0 σA σf:Tr AV} {h0 h h1 h' hf:AH} {μ μS:Mu} {σ σ':Env} {w:World} {o:Oper} {v:AV}
theorem wNN {a:AOp} {op:Op} (hk:kdA a=1) (hc:wGD P a op=true) (hE:EnvR μ σA σ) (hm:∀ b c,μ b=some c->h.m.get b=h1.m.get b) (hr:opY a tb ex exY σA h1=some (v,h')):opY a tb ex exY σA h=some (v,h):=by
 have cel:∀ b c,μ b=some c->wCs h b=wCs h1 b:=fun b c hb=>by unfold wCs;rw [hm b c hb]
 cases a <;> first | (simp [kdA] at hk;done) | skip
 case ld x =>
  have hr:wMt x σA h1=some (v,h'):=hr
  show wMt x σA h=some (v,h)
  have hc:wQS P x op=true:=hc
  unfold wQS at hc
  split at hc
  ·simp only [nB] at hc
   have g:=wAJ hc.2 hE
   unfold wMt at hr ⊢
   split at hr
   ·rename_i b off hb
    rw [hb] at g
    obtain ⟨c,g1,_⟩:=g
    simp only [hb,cel b c g1]
    split at hr
    ·exact wMR hr h
    ·cases hr
   ·cases hr
  ·cases hc
 case ldA n x =>
  have hr:wGf n x σA h1=some (v,h'):=hr
  show wGf n x σA h=some (v,h)
  have hc:wLz P n x op=true:=hc
  unfold wLz at hc
  split at hc
  ·simp only [nB] at hc
   have g:=wAJ hc.2 hE
   unfold wGf at hr ⊢
   split at hr
   ·rename_i b off hb
    rw [hb] at g
    obtain ⟨c,g1,_⟩:=g
    simp only [hb,cel b c g1]
    split at hr
    ·exact wMR hr h
    ·cases hr
   ·cases hr
  ·cases hc
 case lk two k ok z x y =>
  have hr:wMu two k ok z x y σA h1=some (v,h'):=hr
  show wMu two k ok z x y σA h=some (v,h)
  have hc:wQW P two k ok z x y op=true:=hc
  unfold wQW at hc
  split at hc
  ·simp only [nB] at hc
   have g:=wAJ hc.2.2.1 hE
   unfold wMu at hr ⊢
   split at hr
   ·rename_i b hb
    rw [hb] at g
    obtain ⟨c,g1,_⟩:=g
    simp only [hb,hm b c g1]
    repeat' (split at hr)
    all_goals first | (cases hr;done) | (cases hr;rfl)
   ·cases hr
  ·cases hc
 case lenM x =>
  have hr:wDy x σA h1=some (v,h'):=hr
  show wDy x σA h=some (v,h)
  have hc:wIG P x op=true:=hc
  unfold wIG at hc
  split at hc
  ·split at hc
   ·simp only [nB] at hc
    obtain ⟨_,hc⟩:=hc
    split at hc
    ·simp only [nB] at hc
     have g:=wAJ hc.2 hE
     unfold wDy at hr ⊢
     split at hr
     ·rename_i hb
      cases hr
      simp_all
     ·rename_i b hb
      rw [hb] at g
      obtain ⟨c,g1,_⟩:=g
      simp only [hb,hm b c g1]
      repeat' (split at hr)
      all_goals first | (cases hr;done) | (cases hr;rfl)
     ·cases hr
    ·cases hc
   ·cases hc
  ·cases hc
theorem wHU (HE:FrX ex) (HY:FrX exY):∀ (r:List AO) (σ1:Tr AV) (h1:AH) (σ2:Tr AV) (h2:AH),wAY tb ex exY r σ1 h1=some (σ2,h2)->(∀ b ∈ r,wGE P N l b=true) ->
  (∀ b ∈ r,b.kd=2 \/ (b.kd=1 \/ b.kd=3 \/ (b.kd=6/\kdA b.op=3) \/ (b.kd=4/\wKp b.op=true) \/ (8 <= b.kd/\kdA b.op=1)))->h1.nx.nat <= h2.nx.nat/\∀ p:Pos,p.nat < h1.nx.nat->h2.m.get p=h1.m.get p
 | [],σ1,h1,σ2,h2,hr,_,_=>by
  rw [wAi] at hr
  cases hr
  exact ⟨nJ _,fun _ _=>rfl⟩
 | b :: r,σ1,h1,σ2,h2,hr,hc,hk=>by
  rw [wAm] at hr
  cases hw:wCN σ1 b.grd with
  | false =>
   rw [hw] at hr
   exact wHU HE HY r _ _ _ _ hr (fun c hcc=>hc c (by simp [hcc])) (fun c hcc=>hk c (by simp [hcc]))
  | true =>
   rw [hw] at hr
   simp only at hr
   cases hq:opK b.kd b.op tb ex exY σ1 h1 with
   | none=>rw [hq] at hr;cases hr
   | some q =>
    rw [hq] at hr
    obtain ⟨v,h3⟩:=q
    obtain ⟨g1,g2⟩:=wHU HE HY r _ _ _ _ hr (fun c hcc=>hc c (by simp [hcc])) (fun c hcc=>hk c (by simp [hcc]))
    obtain ⟨o,A⟩:=wCc (hc b (by simp))
    have one:h1.nx.nat <= h3.nx.nat/\∀ p:Pos,p.nat < h1.nx.nat->h3.m.get p=h1.m.get p:=by
     have same:h3=h1->h1.nx.nat <= h3.nx.nat/\∀ p:Pos,p.nat < h1.nx.nat->h3.m.get p=h1.m.get p:=fun e=>by subst e;exact ⟨nJ _,fun _ _=>rfl⟩
     rcases hk b (by simp) with k | k | k | ⟨k,k'⟩ | ⟨k,k'⟩ | ⟨k,k'⟩
     ·exact ⟨(wOF HE HY _ _ hq).nx,wQh HE HY b.op (by rw [k] at hq;exact hq)⟩
     ·rw [k] at hq
      exact same (wGr (C:=CC P) (A.k1 k) A.op _ _ _ _ hq).1
     ·rw [k] at hq
      exact same (wGq (A.k3 k) A.op _ _ _ _ hq).1
     ·rw [k] at hq
      exact same (wGq k' A.op _ _ _ _ hq).1
     ·rw [k] at hq
      obtain ⟨B,vf,e1,_⟩:=wJp (C:=CC P) k' A.op _ _ _ _ hq
      subst e1
      refine ⟨(Fr.push h1 B).nx,fun p hp=>?_⟩
      show (h1.m.set h1.nx B).get p=_
      rw [Tr.get_set,if_neg (fun e=>by subst e;omega)]
     ·exact same (wGr (C:=CC P) (.inl k') A.op _ _ _ _ (wMU (by omega) hq)).1
    exact ⟨na one.1 g1,fun p hp=>(g2 p (nu hp one.1)).trans (one.2 p hp)⟩
theorem JS.full {μ0:Mu} {w0:World} {S:Nat->Bool} (J:JS tb ex exY P l os σ0 h0 σf hf μ0 w0 S σ w s t σA h σ' μ μS):wAY tb ex exY os σ0 h0=some (σf,hf):=by
 rw [J.e,wDF s t _ _ _ _ J.hs]
 exact J.hr
theorem JS.frm (Z:ZOK P N l os) {μ0:Mu} {w0:World} {S:Nat->Bool} (J:JS tb ex exY P l os σ0 h0 σf hf μ0 w0 S σ w s t σA h σ' μ μS) (ha:a ∈ os) (hl:a.ix < l.length) (hp:∀ j ∈ prI l a.ix,S j=true)
  (hdc:∀ k,k < l.length->S k=true->∀ j ∈ prI l k,S j=true) (A:AOK P N l a o) {s1 t1:List AO} {σ1:Tr AV} (e1:os=s1 ++ a :: t1) (hr1:wAY tb ex exY s1 σ0 h0=some (σ1,h1)) :
  wanted l σ o=wCN σ1 a.grd/\∀ p ∈ wBx a,evA σf (.t p)=evA σ1 (.t p):=by
 have hf:=J.full
 have hrd:∀ p ∈ wBx a,evA σf (.t p)=evA σ1 (.t p):=fun p hp=>by
  rw [e1,wDF s1 _ _ _ _ _ hr1] at hf
  exact wQj Z e1 hf hp
 refine ⟨?_,hrd⟩
 have hE:EnvR μS (rst σf (wBx a)) (rsl σ (wBx a)):=wGJ fun p hpr=>(J.opnd Z ha hl hp hdc hpr).1
 have hw:=wHP A hE
 have hag:Agr l o (rsl σ (wBx a)) σ:=fun d hd=>by
  obtain ⟨p,h1,h2⟩:=wDs A (Z.sub a ha _ A.get) d hd
  unfold rsl
  rw [if_pos ⟨p,h1,h2⟩]
 rw [<- wBt hag,hw]
 cases hg:a.grd with
 | none=>rfl
 | some q =>
  obtain ⟨p,b⟩:=q
  show isB b (evA _ (.t p))=isB b (evA _ (.t p))
  have hpr:p ∈ wBx a:=nO _ (by rw [hg];simp)
  rw [wGI,if_pos hpr,hrd p hpr]
theorem wQl (HE:FrX ex) (HY:FrX exY) (Z:ZOK P N l os) {a b:AO} {s1 t1 s2 t2:List AO} {σ1 σ2:Tr AV} {h1 h2:AH} (e1:os=s1 ++ a :: t1) (e2:os=s2 ++ b :: t2) (r1:wAY tb ex exY s1 σ0 h0=some (σ1,h1)) (r2:wAY tb ex exY s2 σ0 h0=some (σ2,h2))
  (w1:wCN σ1 a.grd=true) (ka:a.kd=4) (la:wKp a.op=true) (hin:a ∈ s2):h1.nx.nat < h2.nx.nat:=by
 obtain ⟨o,A⟩:=wCc (Z.ao a (by rw [e1];simp))
 obtain ⟨r,r',rfl⟩:=nM hin
 have es:s1=r:=(wCX (e1 ▸ Z.one) (e1.symm.trans (e2.trans (by rw [nK,nI])))).1
 subst es
 rw [wDF s1 _ _ _ _ _ r1,wAm,w1] at r2
 simp only at r2
 cases hq:opK a.kd a.op tb ex exY σ1 h1 with
 | none=>rw [hq] at r2;cases r2
 | some q =>
  rw [hq] at r2
  obtain ⟨v,h3⟩:=q
  rw [ka] at hq
  obtain ⟨B,vf,q1,_⟩:=wJp (C:=CC P) la A.op _ _ _ _ hq
  subst q1
  have:=(wGv HE HY _ _ _ _ _ r2).nx
  have h3:(h1.push B).nx.nat=h1.nx.nat + 1:=Pos.nat_succ _
  simp only at this
  omega
theorem nm_ne (HE:FrX ex) (HY:FrX exY) (Z:ZOK P N l os) {a b:AO} {s1 t1 s2 t2:List AO} {σ1 σ2:Tr AV} {h1 h2:AH} (e1:os=s1 ++ a :: t1) (e2:os=s2 ++ b :: t2) (r1:wAY tb ex exY s1 σ0 h0=some (σ1,h1)) (r2:wAY tb ex exY s2 σ0 h0=some (σ2,h2))
  (w1:wCN σ1 a.grd=true) (w2:wCN σ2 b.grd=true) (ka:a.kd=4) (la:wKp a.op=true) (kb:b.kd=4) (lb:wKp b.op=true) (hne:a ≠ b):h1.nx ≠ h2.nx:=by
 have ha:a ∈ s2 ++ b :: t2:=by rw [<- e2,e1];simp
 rcases nD.1 ha with h | h
 ·intro e
  have:=wQl HE HY Z e1 e2 r1 r2 w1 ka la h
  rw [e] at this
  exact absurd this (kK _)
 ·rcases nH.1 h with h | h
  ·exact absurd h hne
  ·obtain ⟨r,r',rfl⟩:=nM h
   have es:s1=s2 ++ b :: r:=(wCX (e1 ▸ Z.one) (e1.symm.trans (e2.trans (by rw [nK,nI])))).1
   intro e
   have:=wQl HE HY Z e2 e1 r2 r1 w2 kb lb (by rw [es];simp)
   rw [e] at this
   exact absurd this (kK _)
end
end Go.KX
namespace Go.KX
open Go.RowKit Go.KL
section
variable {tb:Tr AF} {ex exY:Run} {P:Program} {N:Nat} {l:List Oper} {os s t:List AO} {a:AO} {σ0 σA σf:Tr AV} {h0 h h1 h' hf:AH} {μ μS:Mu} {σ σ':Env} {w:World} {o:Oper} {v:AV}
theorem wMW (Z:ZOK P N l os) {a b:AO} (ha:a ∈ os) (hb:b ∈ os) (e:b.ix=a.ix):b=a:=by
 obtain ⟨s,t,hs⟩:=nM ha
 have one:=Z.one
 rw [hs] at hb one
 rcases nD.1 hb with h | h
 ·exact absurd e ((nT.1 one).2.2 b h a (by simp))
 ·rcases nH.1 h with h | h
  ·exact h
  ·exact absurd e.symm ((nR.1 (nT.1 one).2.1).1 b h)
theorem wFc (A:AOK P N l a o) {q:Pos} (hn:a.dst ≠ some q) (cv:Value):put' σ o cv (q.nat - 1)=σ (q.nat - 1):=by
 refine wFg fun d hd e=>?_
 rcases A.dst with ⟨_,h2⟩ | ⟨p,d',h1,h2,h3,_⟩
 ·rw [h2] at hd;cases hd
 ·rw [h2] at hd
  have hd:=nE hd
  have:p=q:=Pos.nat_inj (by have:=q.nat_pos;have:=p.nat_pos;have:p.nat - 1=q.nat - 1:=h3.symm.trans (hd.trans e);omega)
  subst this
  exact hn h1
theorem JS.add (Z:ZOK P N l os) {μ0:Mu} {w0:World} {S:Nat->Bool} (J:JS tb ex exY P l os σ0 h0 σf hf μ0 w0 S σ w s t σA h σ' μ μS) (ha:a ∈ t) (hS:S a.ix=false) (hfree:wBr a.kd=false)
  (hdc:∀ k,k < l.length->S k=true->∀ j ∈ prI l k,S j=true) (A:AOK P N l a o) {cv:Value} {w':World} {μT:Mu} (K:Keep w w' Non) (hle:μS.Le μT)
  (hnew:∀ q c,μT q=some c->μS q=some c \/ (c.1=w.heap.size/\wanted l σ o=true/\a.kd=4/\∃ s1 t1 σ1 h1,os=s1 ++ a :: t1/\wAY tb ex exY s1 σ0 h0=some (σ1,h1)/\q=h1.nx))
  (hpa:∃ p,Pend tb ex exY P l os σ0 h0 σf w0 μ μT (put' σ o cv) w' a o p) :
  JS tb ex exY P l os σ0 h0 σf hf μ0 w0 (fun k=>k == a.ix || S k) (put' σ o cv) w' s t σA h σ' μ μT:=by
 have hao:a ∈ os:=by rw [J.e];simp [ha]
 have hbo:∀ b ∈ t,b ∈ os:=fun b hb=>by rw [J.e];simp [hb]
 obtain ⟨sa,ta,ea⟩:=nM hao
 have hself:Agr l o σ (put' σ o cv):=by
  intro d hd
  obtain ⟨p,hp,rfl⟩:=wDs A (Z.sub a hao _ A.get) d hd
  exact (wFc A (Z.rd sa a ta ea p hp a (by simp)) cv).symm
 refine ⟨J.e,J.hs,J.hr,fun b hb=>by simp [J.inS b hb],fun b hb hh=>?_,⟨J.E.mono,J.E.new,J.E.keep.step K fun _ _ hn=>hn.elim⟩,J.sim.keep K,J.fl,J.env,fun q hq=>?_,J.le.trans hle,fun q c hq=>?_,fun b hb hh=>?_⟩
 ·by_cases e:b.ix=a.ix
  ·rw [wMW Z hao (hbo b hb) e];exact hfree
  ·exact J.free b hb (by simpa [e] using hh)
 ·rw [wFc A (hq a ha (by simp))]
  exact J.ag q fun b hb hs=>hq b hb (by simp [hs])
 ·rcases hnew q c hq with h1 | ⟨_,h2,h3,s1,t1,σ1,h1,e1,e2,e3⟩
  ·rcases J.nm q c h1 with g | ⟨b,ob,s1,t1,σ1,h1,k1,k2,k3,k4,k5,k6,k7,k8⟩
   ·exact .inl g
   ·exact .inr ⟨b,ob,s1,t1,σ1,h1,k1,by simp [k2],k3,(wBt (wFb Z hdc hao hS (hbo b k1) k2 A k3 cv)).symm.trans k4,k5,k6,k7,k8⟩
  ·exact .inr ⟨a,o,s1,t1,σ1,h1,ha,by simp,A.get,(wBt hself).symm.trans h2,h3,e1,e2,e3⟩
 ·by_cases e:b.ix=a.ix
  ·have:=wMW Z hao (hbo b hb) e
   subst this
   exact ⟨o,hpa⟩
  ·have hbS:S b.ix=true:=by simpa [e] using hh
   obtain ⟨ob,p,Pd⟩:=J.pd b hb hbS
   have hA:=wFb (σ:=σ) Z hdc hao hS (hbo b hb) hbS A Pd.get cv
   have hp:put' σ o cv (p.nat - 1)=σ (p.nat - 1):=by
    refine wFc A (fun hd=>?_) cv
    have hb':=hbo b hb
    rw [ea] at hb'
    have hb'':b ∈ sa ++ ta:=by
     rcases nD.1 hb' with h | h
     ·exact nb _ h
     ·rcases nH.1 h with h | h
      ·exact absurd (by rw [h]) e
      ·exact nO _ h
    exact Z.wr sa a ta ea p hd b hb'' Pd.dst
   have hsb:=Z.sel b (hbo b hb) _ Pd.get
   refine ⟨ob,p,Pd.get,Pd.dst,?_⟩
   rw [hp,<- wBt hA]
   rcases Pd.fact with f | ⟨f,⟨f1,f2⟩ | ⟨f1,f2,w1,w2,f3⟩ | ⟨f1,f2,w1,o1,s1,t1,σ1,h1,f3,f4,f5,f6,f7,f8,f9⟩⟩
   ·exact .inl f
   ·exact .inr ⟨f,.inl ⟨f1,f2⟩⟩
   ·exact .inr ⟨f,.inr (.inl ⟨f1,f2.mono hle,w1,w2,(Runs.agr hsb hA).1 f3⟩)⟩
   ·refine .inr ⟨f,.inr (.inr ⟨f1,f2.mono hle,w1,o1,s1,t1,σ1,h1,(Runs.agr hsb hA).1 f3,(K.block _ (wAQ f4) id).trans f4,f5,f6,f7,hle _ _ f8,fun q c hq hc=>?_⟩)⟩
    rcases hnew q c hq with h1 | ⟨h1,_⟩
    ·exact f9 q c h1 hc
    ·have:=wAQ f4
     omega
theorem wGw:∀ (r:List AO),(∀ b ∈ r,b.kd ≠ 0) \/ ∃ x b y,r=x ++ b :: y/\b.kd=0/\∀ c ∈ x,c.kd ≠ 0
 | []=>.inl fun b hb=>by simp at hb
 | a :: r=>by
  by_cases h0:a.kd=0
  ·exact .inr ⟨[],a,r,rfl,h0,fun c hc=>by simp at hc⟩
  ·rcases wGw r with h | ⟨x,b,y,h1,h2,h3⟩
   ·refine .inl fun b hb=>?_
    rcases nH.1 hb with rfl | hb
    ·exact h0
    ·exact h b hb
   ·refine .inr ⟨a :: x,b,y,by rw [h1];rfl,h2,fun c hc=>?_⟩
    rcases nH.1 hc with rfl | hc
    ·exact h0
    ·exact h3 c hc
theorem JS.freeOp {σg:Tr AV} (HE:FrX ex) (HY:FrX exY) (Z:ZOK P N l os) (HL:LCK tb ex exY os σ0 h0 σg) (Hg:∀ a ∈ os,8 <= a.kd->∀ p,p ∈ wBx a \/ a.dst=some p->evA σf (.t p)=evA σg (.t p)) {μ0:Mu} {w0:World} {S:Nat->Bool} (J:JS tb ex exY P l os σ0 h0 σf hf μ0 w0 S σ w s t σA h σ' μ μS) (ha:a ∈ t) (hS:S a.ix=false) (hfree:wBr a.kd=false)
  (hp:∀ j ∈ prI l a.ix,S j=true) (hdc:∀ k,k < l.length->S k=true->∀ j ∈ prI l k,S j=true) (A:AOK P N l a o) :
  Step1 P l o σ w fun cv w'=>∃ μT,JS tb ex exY P l os σ0 h0 σf hf μ0 w0 (fun k=>k == a.ix || S k) (put' σ o cv) w' s t σA h σ' μ μT:=by
 have hao:a ∈ os:=by rw [J.e];simp [ha]
 have hl:a.ix < l.length:=(nP.1 A.get).1
 obtain ⟨r,r',et⟩:=nM ha
 have e1:os=(s ++ r) ++ a :: r':=by rw [J.e,et,nK]
 have hsel:=Z.sel a hao _ A.get
 have hsub:=Z.sub a hao _ A.get
 have hfull:=J.full
 rw [e1] at hfull
 obtain ⟨σ1,h1,r1,r2⟩:=wJq hfull
 obtain ⟨hw,hrd⟩:=J.frm Z hao hl hp hdc A e1 r1
 have hrr:wAY tb ex exY r σA h=some (σ1,h1):=by rw [<- wDF s r _ _ _ _ J.hs];exact r1
 have hself:∀ cv,Agr l o σ (put' σ o cv):=by
  intro cv d hd
  obtain ⟨p,hp,rfl⟩:=wDs A hsub d hd
  exact (wFc A (Z.rd _ a _ e1 p hp a (by simp)) cv).symm
 obtain ⟨hdn,hkd⟩:a.dst ≠ none/\(a.kd=1 \/ a.kd=3 \/ (a.kd=6/\kdA a.op=3) \/ (a.kd=4/\wKp a.op=true) \/ (8 <= a.kd/\kdA a.op=1)):=by
  rcases Z.kd a hao with h | h
  ·rw [hfree] at h;cases h
  ·exact h
 obtain ⟨p,d,d1,d2,d3,_⟩:∃ p d,a.dst=some p/\o.dst=some d/\d=p.nat - 1/\d < N:=by
  rcases A.dst with ⟨h1,_⟩ | h
  ·exact absurd h1 hdn
  ·exact h
 have eput:∀ cv,put' σ o cv (p.nat - 1)=cv:=fun cv=>by unfold put';rw [d2,d3];exact wBg _ _ _
 have hslot:∀ q ∈ wCL (wBO a.op),q ∈ wBx a:=fun q hq=>nb _ hq
 rcases r2 with ⟨g1,v,h2,g2,g3⟩ | ⟨g1,g3⟩
 ·have hv:evA σf (.t p)=v:=wJF Z e1 g3 d1
  have hw':wanted l σ o=true:=hw.trans g1
  have hwn:∀ cv,wanted l (put' σ o cv) o=true:=fun cv=>(wBt (hself cv)).symm.trans hw'
  have hvS:∀ q ∈ wCL (wBO a.op),Rv μS (evA σ1 (.t q)) (σ (q.nat - 1)):=fun q hq=>by
   rw [<- hrd q (hslot q hq)]
   exact (J.opnd Z hao hl hp hdc (hslot q hq)).1
  have clean:(a.kd=1 \/ a.kd=3 \/ 8 <= a.kd)->(∃ cv,Rv μ v cv/\Runs P σ w o cv w)->Step1 P l o σ w fun cv w'=>∃ μT,JS tb ex exY P l os σ0 h0 σf hf μ0 w0 (fun k=>k == a.ix || S k) (put' σ o cv) w' s t σA h σ' μ μT:=by
   rintro hk ⟨cv,c1,c2⟩
   refine .inl ⟨hw',.inr (.inl ⟨cv,w,c2,μS,J.add Z ha hS hfree hdc A (Keep.refl w _) (Mu.Le.refl _) (fun q c hq=>.inl hq) ⟨p,A.get,d1,.inr ⟨hwn cv,.inl ⟨hk,?_⟩⟩⟩⟩)⟩
   rw [hv,eput]
   exact c1
  have hvC:(a.kd=1 \/ a.kd=3 \/ 8 <= a.kd)->∀ q ∈ wCL (wBO a.op),Rv μ (evA σ1 (.t q)) (σ (q.nat - 1)):=fun hk q hq=>by
   rw [<- hrd q (hslot q hq)]
   exact (J.opnd Z hao hl hp hdc (hslot q hq)).2 hk
  have loadC:(a.kd=1 \/ a.kd=3 \/ 8 <= a.kd)->kdA a.op=1->∀ (x:List AO),(∀ b ∈ x,b ∈ t)->∀ {σ2:Tr AV} {h3 h4:AH} {σ3:Tr AV},wAY tb ex exY x σA h=some (σ2,h3)->opY a.op tb ex exY σ3 h3=some (v,h4)->(∀ b ∈ x,b.kd=0->False)->(∀ q ∈ wBx a,evA σf (.t q)=evA σ3 (.t q))->∃ cv,Rv μ v cv/\Runs P σ w o cv w:=by
   intro hk k x hx σ2 h3 h4 σ3 hrx gY hx0 hrd3
   have hv3:∀ q ∈ wCL (wBO a.op),Rv μ (evA σ3 (.t q)) (σ (q.nat - 1)):=fun q hq=>by
    rw [<- hrd3 q (hslot q hq)]
    exact (J.opnd Z hao hl hp hdc (hslot q hq)).2 hk
   have hrs:=wJo gY
   have henv:=wGJ hv3
   obtain ⟨_,hold⟩:=wHU HE HY x _ _ _ _ hrx (fun b hb=>Z.ao b (by rw [J.e];simp [hx b hb])) (fun b hb=>by
    rcases Z.kd b (by rw [J.e];simp [hx b hb]) with h | h
    ·unfold wBr at h
     simp only [Bool.or_eq_true] at h
     rcases h with h | h
     ·exact absurd (nA h) (hx0 b hb)
     ·exact .inl (nA h)
    ·exact .inr h.2)
   have hm:∀ b c,μ b=some c->h.m.get b=h3.m.get b:=fun b c hb=>by
    refine (hold b ?_).symm
    rcases np b.nat h.nx.nat with hlt | hge
    ·exact hlt
    ·rw [J.sim.nx b hge] at hb;cases hb
   have hld:=wNN k A.op henv hm hrs
   obtain ⟨cv,c1,c2⟩:=wMT (C:=CC P) hsel hsub (.inl k) A.op hld J.sim (fun q hq=>by rw [wGI,if_pos hq];exact hv3 q hq)
   exact ⟨cv,c1,c2⟩
  rcases hkd with hk | hk | ⟨hk,hk2⟩ | ⟨hk,hk2⟩ | ⟨hk,hk2⟩
  ·have gY:opY a.op tb ex exY σ1 h1=some (v,h2):=by rw [hk] at g2;exact g2
   refine clean (.inl hk) ?_
   rcases A.k1 hk with k | k
   ·exact loadC (.inl hk) k r (fun b hb=>by rw [et];simp [hb]) hrr gY (fun b hb h0=>by
     have:=wDR hdc hp (Z.ld _ a _ e1 hk b (by simp [hb]) h0)
     have:=J.free b (by rw [et];simp [hb]) this
     rw [h0] at this
     cases this) hrd
   ·obtain ⟨cv,c1,c2⟩:=wGK hsel hsub k A.op gY (hvC (.inl hk))
    exact ⟨cv,c1,c2 w⟩
  ·have gY:opY a.op tb ex exY σ1 h1=some (v,h2):=by rw [hk] at g2;exact g2
   obtain ⟨cv,c1,c2⟩:=wGK hsel hsub (A.k3 hk) A.op gY (hvC (.inr (.inl hk)))
   exact clean (.inr (.inl hk)) ⟨cv,c1,c2 w⟩
  ·have gY:opY a.op tb ex exY σ1 h1=some (v,h2):=by rw [hk] at g2;exact g2
   obtain ⟨cv,c1,c2⟩:=wGK hsel hsub hk2 A.op gY hvS
   refine .inl ⟨hw',.inr (.inl ⟨cv,w,c2 w,μS,J.add Z ha hS hfree hdc A (Keep.refl w _) (Mu.Le.refl _) (fun q c hq=>.inl hq) ⟨p,A.get,d1,.inr ⟨hwn cv,.inr (.inl ⟨hk,?_,w,w,?_⟩)⟩⟩⟩)⟩
   ·rw [hv,eput]
    exact c1
   ·rw [eput]
    exact (Runs.agr hsel (hself cv)).1 (c2 w)
  ·have gY:opY a.op tb ex exY σ1 h1=some (v,h2):=by rw [hk] at g2;exact g2
   obtain ⟨B,vf,ob,val,_,ev',_,c1,c2,c3⟩:=wKc (C:=CC P) hsel hsub hk2 A.op gY hvS
   have hno:μS h1.nx=none:=by
    cases hq:μS h1.nx with
    | none=>rfl
    | some c =>
     rcases J.nm _ c hq with g | ⟨b,ob',s2,t2,σ2,h3,k1,k2,k3,k4,k5,k6,k7,k8⟩
     ·have:=wPH HE HY Z J.e J.hs ha e1 r1
      rw [J.sim.nx _ this] at g
      cases g
     ·have hbo:b ∈ os:=by rw [J.e];simp [k1]
      have hne:a ≠ b:=fun e=>by subst e;rw [hS] at k2;cases k2
      obtain ⟨ob2,B2⟩:=wCc (Z.ao b hbo)
      have hb2:wKp b.op=true:=by
       rcases Z.kd b hbo with hh | ⟨_,hh | hh | hh | hh | hh⟩
       ·rw [k5] at hh;exact absurd hh (by decide)
       ·omega
       ·omega
       ·omega
       ·exact hh.2
       ·omega
      have hwb:wCN σ2 b.grd=true:=by
       have hlb:b.ix < l.length:=(nP.1 k3).1
       have eo:ob2=ob':=by have:=B2.get;rw [k3] at this;exact (nE this).symm
       subst eo
       have:=(J.frm Z hbo hlb (hdc _ hlb k2) hdc B2 k6 k7).1
       rw [<- this]
       exact k4
      exact absurd k8 (nm_ne HE HY Z e1 k6 r1 k7 g1 hwb hk hk2 k5 hb2 hne)
   have hadd:=Mu.add_le (c:=(⟨w.heap.size,0,g0⟩:Cl)) hno
   have hsz:∀ q c,μS q=some c->c.1 < w.heap.size:=fun q c hq=>by
    rcases J.nm q c hq with g | ⟨b,ob',s2,t2,σ2,h3,k1,k2,k3,k4,k5,k6,k7,k8⟩
    ·exact J.sim.lt q c g
    ·obtain ⟨ob2,p2,Pd⟩:=J.pd b k1 k2
     have eo:ob2=ob':=by have:=Pd.get;rw [k3] at this;exact (nE this).symm
     subst eo
     rcases Pd.fact with ⟨f,_⟩ | ⟨_,⟨f,_⟩ | ⟨f,_⟩ | ⟨_,_,w1,o1,s3,t3,σ3,h4,_,f4,_,f6,f7,f8,_⟩⟩
     ·rw [k4] at f;cases f
     ·omega
     ·omega
     ·have es:s3=s2:=(wCX (f6 ▸ Z.one) (f6.symm.trans k6)).1
      subst es
      rw [k7] at f7
      cases f7
      subst k8
      rw [hq] at f8
      cases f8
      exact wAQ f4
   refine .inl ⟨hw',.inr (.inl ⟨val w.heap.size,w.alloc ob,c1 w,μS.add h1.nx ⟨w.heap.size,0,g0⟩,J.add Z ha hS hfree hdc A (wAn w ob) hadd (fun q c hq=>?_) ⟨p,A.get,d1,.inr ⟨hwn _,.inr (.inr ⟨hk,?_,w,ob,s ++ r,r',σ1,h1,?_,heap_alloc_new w ob,J.E.keep.size,e1,r1,Mu.add_same _ _ _,fun q c hq hc=>?_⟩)⟩⟩⟩)⟩
   ·unfold Mu.add at hq
    split at hq
    ·rename_i eq
     cases hq
     exact .inr ⟨rfl,hw',hk,s ++ r,r',σ1,h1,e1,r1,eq⟩
    ·exact .inl hq
   ·rw [hv,eput,ev']
    exact c3 _ _ _ (Mu.add_same _ _ _)
   ·rw [eput]
    exact (Runs.agr hsel (hself _)).1 (c1 w)
   ·unfold Mu.add at hq
    split at hq
    ·rename_i eq
     exact eq
    ·have:=hsz q c hq
     omega
  ·have gY:opY a.op tb ex exY σ1 h1=some (v,h2):=wMU (by omega) g2
   refine clean (.inr (.inr hk)) ?_
   rcases wGw r with hz | ⟨x,b,y,er,hb0,hx0⟩
   ·exact loadC (.inr (.inr hk)) hk2 r (fun b hb=>by rw [et];simp [hb]) hrr gY (fun b hb h0=>hz b hb h0) hrd
   ·have e2:os=(s ++ x) ++ b :: (y ++ a :: r'):=by rw [J.e,et,er];simp
    have hfull2:=J.full
    rw [e2] at hfull2
    obtain ⟨σ2,h3,r3,_⟩:=wJq hfull2
    have hbt:b ∈ t:=by rw [et,er];simp
    have hanc:wMx y + 8 < a.kd:=by
     rcases Z.ld8 _ a _ e1 hk (s ++ x) b y (by rw [er];simp) hb0 with g | g
     ·have:=J.free b hbt (wDR hdc hp g)
      rw [hb0] at this
      cases this
     ·exact g
    have hlk:=HL _ b _ e2 hb0 _ _ r3
    have hsame:=wJA y a r' 0 hlk hfree (by omega)
    have hgf:wCN σg a.grd=true:=by
     rw [<- g1]
     cases hg:a.grd with
     | none=>rfl
     | some q =>
      obtain ⟨q,c⟩:=q
      show isB c (evA _ (.t q))=isB c (evA _ (.t q))
      have hqr:q ∈ wBx a:=nO _ (by rw [hg];simp)
      rw [<- Hg a hao hk q (.inl hqr),hrd q hqr]
    unfold wGn at hsame
    rw [d1] at hsame
    simp only [hgf] at hsame
    split at hsame
    ·rename_i v' h5 hq
     have hvv:=wJE hsame
     rw [<- Hg a hao hk p (.inr d1),hv] at hvv
     subst hvv
     have hrx:wAY tb ex exY x σA h=some (σ2,h3):=by rw [<- wDF s x _ _ _ _ J.hs];exact r3
     exact loadC (.inr (.inr hk)) hk2 x (fun b hb=>by rw [et,er];simp [hb]) hrx hq (fun b hb h0=>hx0 b hb h0) (fun q hq=>Hg a hao hk q (.inl hq))
    ·cases hsame
 ·refine .inr ⟨hw.trans g1,μS,J.add Z ha hS hfree hdc A (Keep.refl w _) (Mu.Le.refl _) (fun q c hq=>.inl hq) ⟨p,A.get,d1,.inl ⟨(wBt (hself _)).symm.trans (hw.trans g1),eput _,?_⟩⟩⟩
  exact wJF Z e1 (v:=u) g3 d1
theorem JS.catch (Z:ZOK P N l os) {μ0:Mu} {w0:World} {S:Nat->Bool}:∀ (r:List AO) {s t:List AO} {σA:Tr AV} {h:AH} {σ':Env} {μ:Mu},JS tb ex exY P l os σ0 h0 σf hf μ0 w0 S σ w s (r ++ t) σA h σ' μ μS->(∀ a ∈ r,S a.ix=true) ->
  ∃ σB hB σ'' μB,JS tb ex exY P l os σ0 h0 σf hf μ0 w0 S σ w (s ++ r) t σB hB σ'' μB μS
 | [],s,t,σA,h,σ',μ,J,_=>⟨σA,h,σ',μ,by rw [kA];exact J⟩
 | a :: r,s,t,σA,h,σ',μ,J,hS=>by
  obtain ⟨σB,hB,σ'',μB,J1⟩:=JS.catch1 (t:=r ++ t) Z J (hS a (by simp))
  obtain ⟨σC,hC,σ3,μC,J2⟩:=JS.catch Z r J1 fun b hb=>hS b (by simp [hb])
  exact ⟨σC,hC,σ3,μC,by rw [show s ++ a :: r=s ++ [a] ++ r by simp];exact J2⟩
theorem JS.anew {A B:List AO} {σm:Tr AV} {h2:AH} {μ0:Mu} {w0:World} {S:Nat->Bool} (J:JS tb ex exY P l A σ0 h0 σm h2 μ0 w0 S σ w s [] σA h σ' μ μS) (hr:wAY tb ex exY B σm h2=some (σf,hf)) (hB:∀ b ∈ B,S b.ix=false) :
  Ext μ0 h0.fl.nat w0 μ w/\h2.fl=h0.fl/\JS tb ex exY P l B σm h2 σf hf μ w S σ w [] B σm h2 σ' μ μ:=by
 have hr1:=J.hr
 rw [wAi] at hr1
 cases hr1
 exact ⟨J.E,J.fl,rfl,wAi _ _ _ _ _,hr,fun b hb=>(by simp at hb),fun b hb hS=>(by rw [hB b hb] at hS;cases hS),Ext.refl μ _ w,J.sim,rfl,J.env,fun q _=>J.ag q fun b hb=>(by simp at hb),Mu.Le.refl _,fun q c hq=>.inl hq,fun b hb hS=>(by rw [hB b hb] at hS;cases hS)⟩
theorem CK.lazy {rr:Option Nat} {Q:wCd} {D:List Deferred} {id:Nat} (hm:P.follows .mixedOrders=true) (HC:wFM (CC P) P tb ex) (HY':wEK (CC P) P exY) (HE:FrX ex) (HY:FrX exY) (ZZ:∃ A B,ZAll P N l os A B) (HL0:LCK tb ex exY os σ0 h0 σf)
  (hr:wAY tb ex exY os σ0 h0=some (σf,hf)) (S:Sim (CC P) P μ h0 w) (hE:EnvR μ σ0 σ)
  (hQ:∀ μ' w' σ',Ext μ h0.fl.nat w μ' w'->Sim (CC P) P μ' hf w'->EnvR μ' σf σ'->hf.fl=h0.fl->Q D .normal σ' w'):CK rr N P (.region id l.toArray true) Q D σ w:=by
 obtain ⟨A,B,ZZ⟩:=ZZ
 obtain ⟨σm,h2,hrA,hrB⟩:=wDB A B σ0 h0 _ (ZZ.eq ▸ hr)
 have HL:LCK tb ex exY A σ0 h0 σf/\LCK tb ex exY B σm h2 σf:=by
  refine ⟨fun s b t e k0 σ1 h1 hs=>?_,wJl ZZ.low⟩
  have:=HL0 s b (t ++ B) (by rw [ZZ.eq,e];simp) k0 σ1 h1 hs
  exact wHQ t B 0 this
 have Hg:∀ a ∈ A,8 <= a.kd->∀ p,p ∈ wBx a \/ a.dst=some p->evA σm (.t p)=evA σf (.t p):=fun a ha h8 p hp=>(wCW B _ _ _ _ hrB p fun b hb=>ZZ.far a ha h8 p hp b hb).symm
 have lt:∀ b ∈ os,b.ix < l.length:=fun b hb=>by
  rw [ZZ.eq] at hb
  rcases nD.1 hb with hb | hb
  ·obtain ⟨o,A⟩:=wCc (ZZ.za.ao b hb)
   exact (nP.1 A.get).1
  ·obtain ⟨o,A⟩:=wCc (ZZ.zb.ao b hb)
   exact (nP.1 A.get).1
 have stepB:∀ (S1:Nat->Bool) (a:AO) (σ1:Env) (w1:World) (μm:Mu) (wm:World) (s t:List AO) (σA:Tr AV) (h:AH) (σ':Env) (μ1 μS:Mu) (o:Oper),a ∈ B->S1 a.ix=false->(∀ j ∈ prI l a.ix,S1 j=true)->(∀ k,k < l.length->S1 k=true->∀ j ∈ prI l k,S1 j=true)->AOK P N l a o ->
   JS tb ex exY P l B σm h2 σf hf μm wm S1 σ1 w1 s t σA h σ' μ1 μS->Step1 P l o σ1 w1 fun v w'=>∃ s t σA h σ' μ1 μS,JS tb ex exY P l B σm h2 σf hf μm wm (fun k=>k == a.ix || S1 k) (put' σ1 o v) w' s t σA h σ' μ1 μS:=by
  intro S1 a σ1 w1 μm wm s t σA h σ' μ1 μS o ha hSi hpi hdc A J
  have hat:a ∈ t:=by
   have:=ha
   rw [J.e] at this
   rcases nD.1 this with h | h
   ·rw [J.inS a h] at hSi;cases hSi
   ·exact h
  cases hf:wBr a.kd with
  | true =>
   obtain ⟨r,r',et⟩:=nM hat
   rw [et] at J
   obtain ⟨σB,hB,σ'',μB,J1⟩:=JS.catch ZZ.zb r J fun b hb=>wDR hdc hpi (ZZ.zb.anc (s ++ r) a r' (by rw [J.e,nK]) hf b (by simp [hb]))
   refine (J1.fixed HC HY' HE HY ZZ.zb hf hSi hdc A).mono ?_
   rintro v w' ⟨σC,hC,σ3,μC,μT,J2⟩
   exact ⟨_,_,_,_,_,_,_,J2⟩
  | false =>
   refine (J.freeOp HE HY ZZ.zb HL.2 (fun _ _ _ _ _=>rfl) hat hSi hf hpi hdc A).mono ?_
   rintro v w' ⟨μT,J2⟩
   exact ⟨_,_,_,_,_,_,_,J2⟩
 have toB:∀ (S1:Nat->Bool) (σ1:Env) (w1:World) (s t:List AO) (σA:Tr AV) (h:AH) (σ':Env) (μ1 μS:Mu),(∀ a ∈ A,S1 a.ix=true)->(∀ b ∈ B,S1 b.ix=false)->JS tb ex exY P l A σ0 h0 σm h2 μ w S1 σ1 w1 s t σA h σ' μ1 μS ->
   ∃ μm σ',Ext μ h0.fl.nat w μm w1/\h2.fl=h0.fl/\JS tb ex exY P l B σm h2 σf hf μm w1 S1 σ1 w1 [] B σm h2 σ' μm μm:=by
  intro S1 σ1 w1 s t σA h σ' μ1 μS hA hB J
  have J0:JS tb ex exY P l A σ0 h0 σm h2 μ w S1 σ1 w1 s (t ++ []) σA h σ' μ1 μS:=by rw [kA];exact J
  obtain ⟨σB,hB',σ'',μB,J1⟩:=JS.catch ZZ.za t J0 fun b hb=>hA b (by rw [J.e];simp [hb])
  obtain ⟨g1,g2,g3⟩:=J1.anew hrB hB
  exact ⟨μB,σ'',g1,g2,g3⟩
 refine CK.anyRel hm ZZ.za.pr (fun S σ w1=>((∀ b ∈ B,S b.ix=false)/\∃ s t σA h σ' μ1 μS,JS tb ex exY P l A σ0 h0 σm h2 μ w S σ w1 s t σA h σ' μ1 μS) \/
  ((∀ a ∈ A,S a.ix=true)/\∃ μm wm,Ext μ h0.fl.nat w μm wm/\h2.fl=h0.fl/\∃ s t σA h σ' μ1 μS,JS tb ex exY P l B σm h2 σf hf μm wm S σ w1 s t σA h σ' μ1 μS)) ?_ ?_ ?_
 ·exact .inl ⟨fun b _=>rfl,[],A,σ0,h0,σ,μ,μ,rfl,wAi _ _ _ _ _,hrA,fun b hb=>(by simp at hb),fun b _ hb=>(by cases hb),Ext.drew μ _ w,S.keep (Keep.drew w),rfl,hE,fun _ _=>rfl,Mu.Le.refl _,fun q c hq=>.inl hq,fun b _ hb=>(by cases hb)⟩
 ·rintro S1 i σ1 w1 hi hSi hpi hdc hlt hI
  obtain ⟨a,ha,rfl⟩:=ZZ.all i hi
  rw [ZZ.eq] at ha
  rcases nD.1 ha with ha | ha
  ·obtain ⟨o,AK⟩:=wCc (ZZ.za.ao a ha)
   refine ⟨o,AK.get,wGs AK,?_⟩
   rcases hI with ⟨hB,s,t,σA,h,σ',μ1,μS,J⟩ | ⟨hA,_⟩
   ·have hB':∀ b ∈ B,(fun k=>k == a.ix || S1 k) b.ix=false:=fun b hb=>by
     have:=(ZZ.cross b hb a ha).1
     simp [hB b hb,Ne.symm this]
    have hat:a ∈ t:=by
     have:=ha
     rw [J.e] at this
     rcases nD.1 this with h | h
     ·rw [J.inS a h] at hSi;cases hSi
     ·exact h
    cases hf:wBr a.kd with
    | true =>
     obtain ⟨r,r',et⟩:=nM hat
     rw [et] at J
     obtain ⟨σB,hB2,σ'',μB,J1⟩:=JS.catch ZZ.za r J fun b hb=>wDR hdc hpi (ZZ.za.anc (s ++ r) a r' (by rw [J.e,nK]) hf b (by simp [hb]))
     refine (J1.fixed HC HY' HE HY ZZ.za hf hSi hdc AK).mono ?_
     rintro v w' ⟨σC,hC,σ3,μC,μT,J2⟩
     exact .inl ⟨hB',_,_,_,_,_,_,_,J2⟩
    | false =>
     refine (J.freeOp HE HY ZZ.za HL.1 Hg hat hSi hf hpi hdc AK).mono ?_
     rintro v w' ⟨μT,J2⟩
     exact .inl ⟨hB',_,_,_,_,_,_,_,J2⟩
   ·rw [hA a ha] at hSi
    cases hSi
  ·obtain ⟨o,AK⟩:=wCc (ZZ.zb.ao a ha)
   refine ⟨o,AK.get,wGs AK,?_⟩
   have hA:∀ c ∈ A,S1 c.ix=true:=fun c hc=>wDR hdc hpi (ZZ.cross a ha c hc).2
   rcases hI with ⟨hB,s,t,σA,h,σ',μ1,μS,J⟩ | ⟨_,μm,wm,g1,g2,s,t,σA,h,σ',μ1,μS,J⟩
   ·obtain ⟨μm,σ2,g1,g2,J1⟩:=toB S1 σ1 w1 s t σA h σ' μ1 μS hA hB J
    refine (stepB S1 a σ1 w1 _ _ _ _ _ _ _ _ _ o ha hSi hpi hdc AK J1).mono ?_
    rintro v w' ⟨s,t,σA,h,σ',μ1,μS,J2⟩
    exact .inr ⟨fun c hc=>by simp [hA c hc],_,_,g1,g2,_,_,_,_,_,_,_,J2⟩
   ·refine (stepB S1 a σ1 w1 _ _ _ _ _ _ _ _ _ o ha hSi hpi hdc AK J).mono ?_
    rintro v w' ⟨s,t,σA,h,σ',μ1,μS,J2⟩
    exact .inr ⟨fun c hc=>by simp [hA c hc],_,_,g1,g2,_,_,_,_,_,_,_,J2⟩
 ·rintro S1 σ1 w1 hall hI
  have hI2:∃ μm wm,Ext μ h0.fl.nat w μm wm/\h2.fl=h0.fl/\∃ s t σA h σ' μ1 μS,JS tb ex exY P l B σm h2 σf hf μm wm S1 σ1 w1 s t σA h σ' μ1 μS:=by
   rcases hI with ⟨hB,s,t,σA,h,σ',μ1,μS,J⟩ | ⟨_,hI⟩
   ·obtain ⟨μm,σ2,g1,g2,J1⟩:=toB S1 σ1 w1 s t σA h σ' μ1 μS (fun a ha=>hall _ (lt a (by rw [ZZ.eq];simp [ha]))) hB J
    exact ⟨_,_,g1,g2,_,_,_,_,_,_,_,J1⟩
   ·exact hI
  obtain ⟨μm,wm,g1,g2,s,t,σA,h,σ',μ1,μS,J⟩:=hI2
  have J0:JS tb ex exY P l B σm h2 σf hf μm wm S1 σ1 w1 s (t ++ []) σA h σ' μ1 μS:=by rw [kA];exact J
  obtain ⟨σB,hB,σ'',μB,J1⟩:=JS.catch ZZ.zb t J0 fun b hb=>hall _ (lt b (by rw [ZZ.eq,J.e];simp [hb]))
  have hr1:=J1.hr
  rw [wAi] at hr1
  cases hr1
  refine hQ μB w1 σ1 (g1.trans (g2 ▸ J1.E)) J1.sim (fun q=>?_) (J1.fl.trans g2)
  rw [J1.ag q fun b hb=>by simp at hb]
  exact J1.env q
end
end Go.KX
namespace Go.KX
open Go.RowKit Go.KL
section
variable {P:Program} {tb:Tr AF}
theorem wMX (hm:P.follows .mixedOrders=true) {ex exY:Run} (HC:wFM (CC P) P tb ex) (HY:wEK (CC P) P exY) (FE:FrX ex) (FY:FrX exY) {os:List AO} {σA σA':Tr AV} {h h':AH} (hr:wAY tb ex exY os σA h=some (σA',h')) {id N:Nat} {ops:Array Oper} {draw:Bool} (hc:chkR P N os ops.toList draw=true)
  {rr:Option Nat} {μ:Mu} {σ:Env} {w:World} {D:List Deferred} {n0:Nat} (S:Sim (CC P) P μ h w) (hE:EnvR μ σA σ) (M:Mk μ w n0 D):CK rr N P (.region id ops draw) (PostX P μ h.fl w n0 rr D .nrm σA' h') D σ w:=by
 unfold chkR at hc
 simp only [nB,nU] at hc
 obtain ⟨c1,c2⟩:=hc
 have hop:ops=ops.toList.toArray:=by simp
 have hcs:∀ a ∈ os,wGE P N ops.toList a=true/\kOf ((nj ops.toList.length).map fun i=>kdAt i os) a.ix=a.kd:=fun a ha=>⟨(c1 a ha).1,nA (c1 a ha).2⟩
 have post:∀ {w0:World},Ext μ h.fl.nat w μ w0->Sim (CC P) P μ h w0->OKS N P ops.toList (PostX P μ h.fl w n0 rr D .nrm σA' h') D ((nj ops.toList.length).map fun i=>kdAt i os) (wIH os) σ w0:=by
  intro w0 E0 S0
  refine wII HC HY os σA h σA' h' hr hcs μ σ w0 S0 hE fun μ' w' σ' q1 q2 q3 q4=>?_
  have E:=E0.trans q1
  exact ⟨rfl,μ',E,q2,q3,M.ext E,q4,fun _=>rfl⟩
 rw [hop]
 cases draw with
 | true =>
  simp only at c2
  split at c2
  ·simp only [nB,nU,Nat.blt_eq] at c2
   exact CK.lazy hm HC HY FE FY (wML (fun a ha=>(c1 a ha).1) c2.2) (wJl c2.1) hr S hE fun μ' w' σ' q1 q2 q3 q4=>⟨rfl,μ',q1,q2,q3,M.ext q1,q4,fun _=>rfl⟩
  ·exact CK.anyOrd hm _ _ c2 (post (Ext.drew μ _ w) (S.keep (Keep.drew w)))
 | false=>exact CK.reg _ c2 (post (Ext.refl μ _ w) S)
theorem wNO {ex:Run} (HC:wFM (CC P) P tb ex) {g:AOd} {t:List Pos} {asg body:AC} {g':Operand} {ps:Array Tmp} {asg' body':Code} {N:Nat} (hc:wEM P N (.rf g t asg body) (.rangeFunc g' ps asg' body')=true)
  {σA σA':Tr AV} {h h':AH} {e:Ex} (hr:sRf true g t asg body tb ex σA h=some (e,σA',h')) {μ:Mu} {σ:Env} {w:World} {D:List Deferred} {n0:Nat} (S:Sim (CC P) P μ h w) (hE:EnvR μ σA σ) (M:Mk μ w n0 D) (hn:n0 <= w.heap.size) :
  CK none N P (.rangeFunc g' ps asg' body') (PostX P μ h.fl w n0 none D e σA' h') D σ w:=by
 simp only [wEM,nB] at hc
 obtain ⟨c1,c2,c3,c4⟩:=hc
 obtain ⟨p,rfl⟩:∃ p:List Nat,ps=p.toArray:=⟨ps.toList,by simp⟩
 ·obtain ⟨ht,c6⟩:=wJm (by simpa using c2)
  unfold sRf at hr
  split at hr
  ·rename_i f fi ca hg
   have hx:=wAJ c1 hE
   rw [hg] at hx
   obtain ⟨fv,cv,g1,g2,g3⟩:=hx
   split at hr <;> first | (cases hr;done) | skip
   rename_i rv h2 hcall
   obtain ⟨hcf,hgv⟩:=HC _ _ _ _ _ hcall
   refine CK.rangeFunc (t:=p) g3 hcf fun fn l rb w1 e1 e2 hl hd K hs=>?_
   subst e1 e2
   have hle:=Mu.add_le (c:=(⟨w.heap.size + 1,0,⟨N,σ,p,asg',body',w.heap.size,fn⟩⟩:Cl)) (S.nx h.nx (nJ _))
   obtain ⟨s1,s2,s3,s4⟩:=S.push (w':=w1) (c:=⟨w.heap.size + 1,0,⟨N,σ,p,asg',body',w.heap.size,fn⟩⟩) (B:=.loop σA t asg body .ready) K (Nat.le_succ _) (by show w.heap.size + 1 < _;omega) ⟨hl,hE.mono hle,ht,c6,c3,c4⟩
   generalize hμ1:μ.add h.nx (⟨w.heap.size + 1,0,⟨N,σ,p,asg',body',w.heap.size,fn⟩⟩:Cl)=μ1 at *
   have M1:Mk μ1 w1 n0 (mark w.heap.size :: D):=by
    have M':=M.ext s2
    obtain ⟨rbs,m1,m2,m3⟩:=M'
    have hold:∀ rb ∈ rbs,rb < w.heap.size:=by
     obtain ⟨rbs0,k1,k2,k3⟩:=M
     intro rb hrb
     have hmm:rbs.map mark=rbs0.map mark:=by rw [<- m1,<- k1]
     have hinj:rbs=rbs0:=by
      have:∀ (a b:List Nat),a.map mark=b.map mark->a=b:=by
       intro a
       induction a with
       | nil=>intro b hb;cases b with
        | nil=>rfl
        | cons _ _=>simp at hb
       | cons x a ih=>intro b hb;cases b with
        | nil=>simp at hb
        | cons y b =>
         simp only [nv,nX] at hb
         have hxy:x=y:=by have:=hb.1;simp [mark] at this;exact this
         rw [hxy,ih b hb.2]
      exact this _ _ hmm
     exact (k3 rb (hinj ▸ hrb)).1.lt
    refine ⟨w.heap.size :: rbs,by rw [nv,<- m1],List.nodup_cons.2 ⟨fun hm=>absurd (hold _ hm) (kK _),m2⟩,fun rb hrb=>?_⟩
    rcases nH.1 hrb with rfl | hrb
    ·refine ⟨hd,hn,fun q c hq=>?_⟩
     rw [<- hμ1] at hq
     unfold Mu.add at hq
     split at hq
     ·cases hq;show w.heap.size + 1 ≠ _;omega
     ·have:=S.lt q c hq;omega
    ·exact m3 rb hrb
   have G:=hgv μ1 w1 (fv ++ (.func (.yield (w.heap.size + 1)) #[] #[] :: cv)) s1 (wDN (g1.mono s2.mono) (wBM ⟨_,s4,rfl⟩ (g2.mono s2.mono)))
   rw [nK]
   refine G.mono ?_
   rintro v3 w3 ⟨μ3,q1,q2,q3,q4⟩
   rw [s3] at q1 q4
   have E13:=s2.trans q1
   have hc3:=q1.mono _ _ s4
   have fin:∀ {B:AB} {h3:AH} (w4:World),h2.m.get h.nx=some B->wKV B->h2.put h.nx .dead=some h3->Keep w3 w4 (·=w.heap.size + 1)->w4.heap.size=w3.heap.size->∃ μ',Ext μ h.fl.nat w μ' w4/\Sim (CC P) P μ' h3 w4/\EnvR μ' σA σ/\Mk μ' w4 n0 (mark w.heap.size :: D)/\h3.fl=h.fl:=by
    intro B h3 w4 hB hlv hput K4 _
    obtain ⟨v1,v2,v3⟩:=q2.put hput hB hlv hc3 K4 (B':=.dead) trivial
    rw [q4] at v2 v3
    exact ⟨μ3,E13.trans v2,v1,hE.mono E13.mono,(M1.ext q1).ext v2,v3⟩
   split at hr
   ·rename_i sx tx ax bx hB
    split at hr <;> first | (cases hr;done) | skip
    rename_i h3 hput
    cases hr
    obtain ⟨c',u1,u2⟩:=q2.at_ _ _ hB
    rw [hc3] at u1;cases u1
    have L3:wKU (CC P) μ3 w3 ⟨w.heap.size + 1,0,⟨N,σ,p,asg',body',w.heap.size,fn⟩⟩ sx tx ax bx .ready:=u2
    refine .inl ⟨L3.at_,fun w4 K4 hs4=>?_⟩
    obtain ⟨μ',a1,a2,a3,a4,a5⟩:=fin w4 hB trivial hput K4 hs4
    exact ⟨rfl,μ',a1,a2,a3,a4,a5,fun hq=>by cases hq⟩
   ·rename_i sx tx ax bx ee hB
    split at hr <;> first | (cases hr;done) | skip
    rename_i h3 hput
    cases hr
    obtain ⟨c',u1,u2⟩:=q2.at_ _ _ hB
    rw [hc3] at u1;cases u1
    have L3:wKU (CC P) μ3 w3 ⟨w.heap.size + 1,0,⟨N,σ,p,asg',body',w.heap.size,fn⟩⟩ sx tx ax bx (.done e):=u2
    cases e with
    | nrm =>
     refine .inl ⟨L3.at_,fun w4 K4 hs4=>?_⟩
     obtain ⟨μ',a1,a2,a3,a4,a5⟩:=fin w4 hB trivial hput K4 hs4
     exact ⟨rfl,μ',a1,a2,a3,a4,a5,fun hq=>by cases hq⟩
    | ret =>
     refine .inr ⟨.ret,.inl rfl,L3.at_,fun w4 K4 hs4=>?_⟩
     obtain ⟨μ',a1,a2,a3,a4,a5⟩:=fin w4 hB trivial hput K4 hs4
     exact ⟨rfl,μ',a1,a2,a3,a4,a5,fun hq=>by cases hq⟩
    | exit i =>
     refine .inr ⟨.exit i,.inr ⟨i,rfl⟩,L3.at_,fun w4 K4 hs4=>?_⟩
     obtain ⟨μ',a1,a2,a3,a4,a5⟩:=fin w4 hB trivial hput K4 hs4
     exact ⟨rfl,μ',a1,a2,a3,a4,a5,fun hq=>by cases hq⟩
   ·cases hr
  ·cases hr
theorem CK.ofRounds {rr:Option Nat} {N:Nat} {c:Code} {Q:wCd} {D:List Deferred} {σ:Env} {w:World} (m:Nat) (hh:∀ a,Rep N D a σ->Code.roundsIn (WF rr) 0 P c (wHB N Q) m a w):CK rr N P (.loop c) Q D σ w :=
 fun a ha=>wpIn_loop_rounds m (hh a ha)
theorem wQm {exR:Run} {r:Bool} (HE:wGu P exR r) {a b:AC} {σA σA':Tr AV} {h h':AH} {e:Ex} (hr:wQI a b exR σA h=some (e,σA',h')) {c d:Code} {N:Nat} (hc1:wEM P N a c=true) (hc2:wEM P N b d=true)
  {rr:Option Nat} {μ:Mu} {σ:Env} {w:World} {D:List Deferred} {n0:Nat} (hrr:rr.isSome=r) (S:Sim (CC P) P μ h w) (hE:EnvR μ σA σ) (M:Mk μ w n0 D) (hn:n0 <= w.heap.size):CK rr N P (.seq c d) (PostX P μ h.fl w n0 rr D e σA' h') D σ w:=by
 obtain ⟨⟨e1,σ1,h1⟩,ha,hb⟩:=wPs hr
 rw [wJD] at hb
 refine CK.seq ((HE _ _ _ _ _ _ ha c N hc1 rr μ σ w D n0 hrr S hE M hn).mono ?_)
 intro D' e' σ' w' hp
 obtain ⟨rfl,μ1,q1,q2,q3,q4,q5,q6⟩:=hp
 cases e1 with
 | nrm =>
  refine (HE _ _ _ _ _ _ hb d N hc2 rr μ1 σ' w' D' n0 hrr q2 q3 q4 (na hn q1.keep.size)).mono ?_
  intro D'' e'' σ'' w'' hp
  rw [q5] at hp
  exact PostX.trans q1 q6 hp
 | ret=>cases hb;exact ⟨rfl,μ1,q1,q2,q3,q4,q5,q6⟩
 | exit i=>cases hb;exact ⟨rfl,μ1,q1,q2,q3,q4,q5,q6⟩
theorem wPI {exR:Run} {r:Bool} {m:Nat} (HE:wGu P exR r) (HL:wMM P exR r m) {a:AC} {σA σA':Tr AV} {h h':AH} {e:Ex} (hr:wLe a exR σA h=some (e,σA',h')) {c:Code} {N:Nat} (hc:wEM P N a c=true)
  {rr:Option Nat} {μ:Mu} {σ:Env} {w:World} {D:List Deferred} {n0:Nat} (hrr:rr.isSome=r) (S:Sim (CC P) P μ h w) (hE:EnvR μ σA σ) (M:Mk μ w n0 D) (hn:n0 <= w.heap.size):∀ act,Rep N D act σ->Code.roundsIn (WF rr) 0 P c (wHB N (PostX P μ h.fl w n0 rr D e σA' h')) (m + 1) act w:=by
 obtain ⟨⟨e1,σ1,h1⟩,ha,hb⟩:=wPs hr
 rw [wJD] at hb
 intro act hact
 rw [roundsIn_succ]
 refine wpIn_mono (HE _ _ _ _ _ _ ha c N hc rr μ σ w D n0 hrr S hE M hn act hact) ?_
 rintro e' act' w' ⟨σ',D',hrep,hp⟩
 obtain ⟨rfl,μ1,q1,q2,q3,q4,q5,q6⟩:=hp
 cases e1 with
 | nrm =>
  refine wGH ?_ m act' w' (HL _ _ _ _ _ _ hb c N hc rr μ1 σ' w' D' n0 hrr q2 q3 q4 (na hn q1.keep.size) act' hrep)
  rintro e'' act'' w'' ⟨σ'',D'',hrep',hp⟩
  rw [q5] at hp
  exact ⟨σ'',D'',hrep',PostX.trans q1 q6 hp⟩
 | ret=>cases hb;exact ⟨σ',D',hrep,rfl,μ1,q1,q2,q3,q4,q5,q6⟩
 | exit i=>cases hb;exact ⟨σ',D',hrep,rfl,μ1,q1,q2,q3,q4,q5,q6⟩
theorem wPJ (hm:P.follows .mixedOrders=true) (T:wHR P tb):∀ (n:Nat) (r:Bool),wGu P (exec tb n r) r/\wMM P (exec tb n r) r n:=by
 intro n
 induction n with
 | zero=>intro r;exact ⟨fun c σA h e σA' h' hr=>(by cases hr),fun c σA h e σA' h' hr=>(by cases hr)⟩
 | succ n ih =>
  intro r
  have HC:=wMN T (ih false).1
  have HY:=wNL (P:=P) (ih true).1
  obtain ⟨HE,HL⟩:=ih r
  have loop:wMM P (exec tb (n + 1) r) r (n + 1):=by
   intro c σA h e σA' h' hr code N hc rr μ σ w D n0 hrr S hE M hn
   have hr:wLe c (exec tb n r) σA h=some (e,σA',h'):=hr
   exact wPI HE HL hr hc hrr S hE M hn
  refine ⟨?_,loop⟩
  intro c σA h e σA' h' hr code N hc rr μ σ w D n0 hrr S hE M hn
  rw [wIA] at hr
  cases c with
  | skip =>
   have hr:sNrm σA h=some (e,σA',h'):=hr
   cases hr
   have fin:PostX P μ h.fl w n0 rr D .nrm σA h D .normal σ w:=⟨rfl,μ,Ext.refl μ _ w,S,hE,M,rfl,fun _=>rfl⟩
   cases code <;> simp only [wEM,nG] at hc
   ·exact CK.skip fin
   ·exact CK.label fin
  | rg os =>
   have hr:sRg os tb (exec tb n false) (exec tb n true) (exec tb n r) σA h=some (e,σA',h'):=hr
   unfold sRg at hr
   have:∃ y,wAY tb (exec tb n false) (exec tb n true) os σA h=some y/\some (Ex.nrm,y.1,y.2)=some (e,σA',h'):=by
    cases hq:wAY tb (exec tb n false) (exec tb n true) os σA h with
    | none=>rw [hq] at hr;cases hr
    | some y=>rw [hq] at hr;exact ⟨y,rfl,hr⟩
   obtain ⟨y,h1,h2⟩:=this
   cases h2
   cases code <;> simp only [wEM,nG] at hc
   exact wMX hm HC HY (wEN tb n false) (wEN tb n true) h1 hc S hE M
  | seq a b =>
   have hr:wQI a b (exec tb n r) σA h=some (e,σA',h'):=hr
   cases code <;> simp only [wEM,nG,nB] at hc
   exact wQm HE hr hc.1 hc.2 hrr S hE M hn
  | cond x a b =>
   have hr:wLd x a b (exec tb n r) σA h=some (e,σA',h'):=hr
   cases code <;> simp only [wEM,nG,nB] at hc
   have hx:=wAJ hc.1 hE
   unfold wLd at hr
   split at hr
   ·rename_i hb;rw [hb] at hx
    exact CK.condT hx (HE _ _ _ _ _ _ hr _ N hc.2.1 rr μ σ w D n0 hrr S hE M hn)
   ·rename_i hb;rw [hb] at hx
    exact CK.condF hx (HE _ _ _ _ _ _ hr _ N hc.2.2 rr μ σ w D n0 hrr S hE M hn)
   ·cases hr
  | block i a =>
   have hr:wJa i a (exec tb n r) σA h=some (e,σA',h'):=hr
   cases code <;> simp only [wEM,nG,nB] at hc
   rename_i j code
   have hij:=nA hc.1
   subst hij
   obtain ⟨⟨e1,σ1,h1⟩,ha,hb⟩:=wPs hr
   refine CK.block ((HE _ _ _ _ _ _ ha code N hc.2 rr μ σ w D n0 hrr S hE M hn).mono ?_)
   rintro D' e' σ' w' ⟨rfl,μ1,q1,q2,q3,q4,q5,q6⟩
   cases e1 with
   | nrm=>cases hb;exact ⟨rfl,μ1,q1,q2,q3,q4,q5,q6⟩
   | ret=>cases hb;exact ⟨rfl,μ1,q1,q2,q3,q4,q5,q6⟩
   | exit k =>
    have hb:Bool.rec (motive:=fun _=>R) (some (.exit k,σ1,h1)) (some (.nrm,σ1,h1)) (nN k i)=some (e,σA',h'):=hb
    cases hk:nN k i with
    | true =>
     rw [hk] at hb;cases hb
     have:=nA hk
     subst this
     exact wHD ⟨rfl,μ1,q1,q2,q3,q4,q5,q6⟩
    | false =>
     rw [hk] at hb;cases hb
     exact wMy ⟨rfl,μ1,q1,q2,q3,q4,q5,q6⟩ hk
  | loop a =>
   have hr':exec tb (n + 1) r (.loop a) σA h=some (e,σA',h'):=hr
   cases code <;> simp only [wEM,nG] at hc
   exact CK.ofRounds (n + 1) (loop _ _ _ _ _ _ hr' _ N hc rr μ σ w D n0 hrr S hE M hn)
  | rf g t asg body =>
   have hr:sRf (!r) g t asg body tb (exec tb n false) σA h=some (e,σA',h'):=hr
   cases r with
   | true=>unfold sRf at hr;simp at hr
   | false =>
    have hnone:rr=none:=by cases rr <;> first | rfl | cases hrr
    subst hnone
    cases code <;> first | (simp only [wEM,nG] at hc;done) | skip
    exact wNO HC hc hr S hE M hn
  | exit i =>
   have hr:some (Ex.exit i,σA,h)=some (e,σA',h'):=hr
   cases hr
   cases code <;> simp only [wEM,nG] at hc
   have:=nA hc
   subst this
   exact CK.exit ⟨rfl,μ,Ext.refl μ _ w,S,hE,M,rfl,fun _=>rfl⟩
  | scope a =>
   have hr:exec tb n r a σA h=some (e,σA',h'):=hr
   cases code <;> simp only [wEM,nG] at hc
   refine CK.scope ((HE _ _ _ _ _ _ hr _ N hc rr μ σ w D n0 hrr S hE M hn).mono ?_)
   rintro D' e' σ' w' ⟨rfl,q⟩
   cases e with
   | nrm=>exact ⟨rfl,q⟩
   | ret=>exact ⟨rfl,q⟩
   | exit k=>exact ⟨rfl,q⟩
  | ret =>
   have hr:some (Ex.ret,σA,h)=some (e,σA',h'):=hr
   cases hr
   cases code <;> simp only [wEM,nG] at hc
   exact CK.ret ⟨rfl,μ,Ext.refl μ _ w,S,hE,M,rfl,fun _=>rfl⟩
  | rl os =>
   have hr:sRl os tb (exec tb n false) (exec tb n true) σA h=some (e,σA',h'):=hr
   rw [wNv] at hr
   split at hr
   ·rename_i y hq
    cases hr
    obtain ⟨g1,g2⟩:=wJB _ _ _ _ hq
    cases code <;> simp only [wEM,nG,nB,nU] at hc
    rename_i id ops draw
    obtain ⟨rfl,c1,c2⟩:=hc
    have hop:ops=ops.toList.toArray:=by simp
    rw [hop]
    exact CK.lazy hm HC HY (wEN tb n false) (wEN tb n true) (wML c1 c2) g2 g1 S hE fun μ' w' σ' q1 q2 q3 q4=>⟨rfl,μ',q1,q2,q3,M.ext q1,q4,fun _=>rfl⟩
   ·cases hr
theorem Sim.empty (C:Chk) (P:Program) (w:World):Sim C P (fun _=>none) ⟨.e,.H,.H⟩ w :=
 ⟨fun _ _=>rfl,fun _ _ h=>(by cases h),fun _ _ _ _ _ _ h=>(by rw [Tr.get_e] at h;cases h),fun _ _ h=>(by rw [Tr.get_e] at h;cases h)⟩
def wMY (f:Nat->AF->Prop):Tr AF->(Nat->Nat)->Prop
 | .e,_=>True
 | .n l v r,g=>(match v with | none=>True | some a=>f (g 1) a)/\wMY f l (fun n=>g (2 * n))/\wMY f r (fun n=>g (2 * n + 1))
theorem wGL {f:Nat->AF->Prop}:∀ {t:Tr AF} {g:Nat->Nat},wMY f t g->∀ p a,t.get p=some a->f (g p.nat) a
 | .e,g,_,p,a,hq=>by rw [Tr.get_e] at hq;cases hq
 | .n l v r,g,⟨h1,h2,h3⟩,.H,a,hq=>by
  rw [Tr.get_H] at hq;subst hq;exact h1
 | .n l v r,g,⟨h1,h2,h3⟩,.O p,a,hq=>wGL h2 p a hq
 | .n l v r,g,⟨h1,h2,h3⟩,.I p,a,hq=>wGL h3 p a hq
theorem wQn (h:wMY (fun n a=>chkF P (n - 1) a=true) tb fun n=>n):wHR P tb:=fun p af hq=>wGL h p af hq
end
end Go.KX
namespace Go.KX
noncomputable section
open Go.RowKit Go.KL
section
variable {P:Program} {tb:Tr AF} {n:Nat} {σ σ1 σ':Tr AV} {h h1 h2 h':AH} {e:Ex} {c c1 c2:AC}
def RunOK (P:Program) (c:AC) (σA:Tr AV) (h:AH) (e:Ex) (σA':Tr AV) (h':AH):Prop:=∀ code N,wEM P N c code=true->∀ (μ:Mu) (σ:Env) (w:World) (D:List Deferred) (n0:Nat),
 Sim (CC P) P μ h w->EnvR μ σA σ->Mk μ w n0 D->n0 <= w.heap.size->CK none N P code (PostX P μ h.fl w n0 none D e σA' h') D σ w
theorem RunOK.exec (hm:P.follows .mixedOrders=true) (T:wHR P tb) (hr:exec tb n false c σ h=some (e,σ',h')):RunOK P c σ h e σ' h' :=
 fun code N hc μ σ w D n0 S hE M hn=>(wPJ hm T n false).1 _ _ _ _ _ _ hr code N hc none μ σ w D n0 rfl S hE M hn
theorem RunOK.seq (A:RunOK P c1 σ h .nrm σ1 h1) (B:RunOK P c2 σ1 h1 e σ' h'):RunOK P (.seq c1 c2) σ h e σ' h':=by
 intro code N hc μ σ w D n0 S hE M hn
 cases code <;> simp only [wEM,nG,nB] at hc
 refine CK.seq ((A _ N hc.1 μ σ w D n0 S hE M hn).mono ?_)
 rintro D' e' σ' w' ⟨rfl,μ1,q1,q2,q3,q4,q5,q6⟩
 refine (B _ N hc.2 μ1 σ' w' D' n0 q2 q3 q4 (na hn q1.keep.size)).mono ?_
 intro D'' e'' σ'' w'' hp
 rw [q5] at hp
 exact PostX.trans q1 q6 hp
theorem RunOK.less (A:RunOK P c σ h2 e σ' h') (hs:∀ p b,h2.m.get p=some b->h.m.get p=some b) (hn:h2.nx=h.nx) (hf:h2.fl=h.fl):RunOK P c σ h e σ' h':=by
 intro code N hc μ σ w D n0 S hE M hn0
 rw [<- hf]
 exact A code N hc μ σ w D n0 ⟨by rw [hn];exact S.nx,S.lt,fun p q a b c d hp hq=>S.inj p q a b c d (hs p a hp) (hs q b hq),fun p b hp=>S.at_ p b (hs p b hp)⟩ hE M hn0
def wEe:Nat->AC->AC
 | k + 1,.seq _ b=>wEe k b
 | _,c=>c
def wKe (tb:Tr AF) (n:Nat):Nat->AC->Tr AV->AH->Option (Tr AV × AH)
 | 0,_,σ,h=>some (σ,h)
 | k + 1,.seq a b,σ,h=>match KX.exec tb n false a σ h with
  | some (.nrm,σ1,h1)=>wKe tb n k b σ1 h1
  | _=>none
 | _ + 1,_,_,_=>none
theorem wJr (hm:P.follows .mixedOrders=true) (T:wHR P tb):∀ (k:Nat) (c:AC) (σ:Tr AV) (h:AH),wKe tb n k c σ h=some (σ1,h1)->RunOK P (wEe k c) σ1 h1 e σ' h'->RunOK P c σ h e σ' h'
 | 0,c,σ,h,hr,B=>by
  have hr:some (σ,h)=some (σ1,h1):=by simpa [wKe] using hr
  cases hr
  have hd:wEe 0 c=c:=by cases c <;> rfl
  rwa [hd] at B
 | k + 1,c,σ,h,hr,B=>by
  cases c <;> first | (simp only [wKe] at hr;cases hr;done) | skip
  rename_i a b
  rw [wKe] at hr
  split at hr
  ·rename_i σ2 h2 hq
   exact (RunOK.exec hm T hq).seq (wJr hm T k b σ2 h2 hr B)
  ·cases hr
def wGM:Tr AV->Tr AV->Bool
 | .e,.e=>true
 | .n l v r,.n l' v' r'=>(match v,v' with | none,none=>true | some a,some b=>same a b | _,_=>false) && (wGM l l' && wGM r r')
 | _,_=>false
theorem wGN:∀ {s t:Tr AV},wGM s t=true->s=t
 | .e,.e,_=>rfl
 | .n l v r,.n l' v' r',hs=>by
  simp only [wGM,nB] at hs
  obtain ⟨h1,h2,h3⟩:=hs
  rw [wGN h2,wGN h3]
  cases v <;> cases v' <;> simp only [nG] at h1
  ·rfl
  ·rw [wJE h1]
 | .e,.n _ _ _,hs=>by simp [wGM] at hs
 | .n _ _ _,.e,hs=>by simp [wGM] at hs
def wMZ:AB->AB->Bool
 | .cells T l,.cells T' l'=>nN T T' && wFu l l'
 | .row T s l,.row T' s' l'=>nN T T' && (nN s s' && wFu l l')
 | _,_=>false
theorem wMa {a b:AB} (hs:wMZ a b=true):a=b:=by
 unfold wMZ at hs
 split at hs
 ·simp only [nB] at hs
  rw [nA hs.1,wDQ hs.2]
 ·simp only [nB] at hs
  rw [nA hs.1,nA hs.2.1,wDQ hs.2.2]
 ·cases hs
def wKf:Tr AB->Tr AB->Bool
 | .e,_=>true
 | .n l v r,.n l' v' r'=>(match v,v' with | none,_=>true | some a,some b=>wMZ a b | _,_=>false) && (wKf l l' && wKf r r')
 | _,_=>false
theorem wGO:∀ {s t:Tr AB},wKf s t=true->∀ p b,s.get p=some b->t.get p=some b
 | .e,t,_,p,b,hg=>by rw [Tr.get_e] at hg;cases hg
 | .n l v r,.n l' v' r',hs,p,b,hg=>by
  simp only [wKf,nB] at hs
  obtain ⟨h1,h2,h3⟩:=hs
  cases p with
  | H =>
   rw [Tr.get_H] at hg ⊢
   subst hg
   cases v' <;> simp only [nG] at h1
   rw [wMa h1]
  | O p=>rw [Tr.get_O] at hg ⊢;exact wGO h2 p b hg
  | I p=>rw [Tr.get_I] at hg ⊢;exact wGO h3 p b hg
 | .n _ _ _,.e,hs,_,_,_=>by simp [wKf] at hs
def stg (tb:Tr AF) (n k:Nat) (c:AC) (σ:Tr AV) (h:AH) (σ1:Tr AV) (h2:AH):Bool:=match wKe tb n k c σ h with
 | some (σ',h')=>wGM σ' σ1 && (h2.nx.beq h'.nx && (h2.fl.beq h'.fl && wKf h2.m h'.m))
 | none=>false
theorem wJs (hm:P.follows .mixedOrders=true) (T:wHR P tb) (k:Nat) (hs:stg tb n k c σ h σ1 h2=true) (B:RunOK P (wEe k c) σ1 h2 e σ' h'):RunOK P c σ h e σ' h':=by
 unfold stg at hs
 split at hs
 ·rename_i σ2 h3 hq
  simp only [nB] at hs
  obtain ⟨g1,g2,g3,g4⟩:=hs
  have:=wGN g1
  subst this
  exact wJr hm T k c σ h hq (B.less (wGO g4) (Pos.beq_eq g2) (Pos.beq_eq g3))
 ·cases hs
def stgB (tb:Tr AF) (n:Nat) (c:AC) (σ:Tr AV) (h:AH) (rs:List AR) (b:Bool):Bool:=match KX.exec tb n false c σ h with
 | some (.ret,σ',h')=>(match wMv σ' h' rs with
  | some (.bool b',_)=>b' == b
  | _=>false)
 | _=>false
theorem wPK (hm:P.follows .mixedOrders=true) (T:wHR P tb) {rs:List AR} {b:Bool} (hs:stgB tb n c σ h rs b=true):∃ σ' h' h3,RunOK P c σ h .ret σ' h'/\wMv σ' h' rs=some (.bool b,h3):=by
 unfold stgB at hs
 split at hs
 ·rename_i σ' h' hq
  split at hs
  ·rename_i b' h3 hq2
   have:=eq_of_beq hs
   subst this
   exact ⟨σ',h',h3,RunOK.exec hm T hq,hq2⟩
  ·cases hs
 ·cases hs
open Classical in
def wJt (c0:AC) (σ0:Tr AV) (h0:AH) (r:Ex × Tr AV × AH):Run:=fun c σ h=>if c=c0/\σ=σ0/\h=h0 then some r else none
theorem wKg (T:wHR P tb) (f:Pos) (k:Nat) (hk:f.nat=k + 1) {af:AF} (hf:tb.get f=some af) {b:Bool} (hr:∃ σ' h' h3,RunOK P af.body .e ⟨.e,.H,.H⟩ .ret σ' h'/\wMv σ' h' af.res=some (.bool b,h3)) (w:World) :
  Gv P k [] w fun cv w'=>cv=.bool b/\Keep w w' Non:=by
 obtain ⟨σ',h',h3,R,hres⟩:=hr
 have HE:wGu P (wJt af.body .e ⟨.e,.H,.H⟩ (.ret,σ',h')) false:=by
  intro c σA h e σA' h1 hx code N hc rr μ σ w D n0 hrr S hE M hn
  unfold wJt at hx
  split at hx
  ·rename_i hq
   obtain ⟨rfl,rfl,rfl⟩:=hq
   cases hx
   have:rr=none:=by cases rr <;> first | rfl | cases hrr
   subst this
   exact R code N hc μ σ w D n0 S hE M hn
  ·cases hx
 have hcall:wHx tb (wJt af.body .e ⟨.e,.H,.H⟩ (.ret,σ',h')) f [] ⟨.e,.H,.H⟩=some (.bool b,h3):=by
  unfold wHx
  rw [hf]
  have hle:Nat.ble (len ([]:List AV)) af.n=true:=by rw [Nat.ble_eq];exact nk _
  simp only [hle]
  have hi:wKS [] Pos.H .e=.e:=rfl
  rw [hi]
  unfold wJt
  rw [if_pos ⟨rfl,rfl,rfl⟩]
  exact hres
 obtain ⟨_,hg⟩:=wMN T HE f [] _ _ _ hcall
 have:=hg _ w [] (Sim.empty _ _ w) rfl
 rw [hk] at this
 refine this.mono ?_
 rintro cv w' ⟨μ',h1,h2,h3,_⟩
 exact ⟨h3,h1.keep.weak fun i _ ⟨p,d,hp,_⟩=>by cases hp⟩
end
end
end Go.KX
namespace Go.KL
variable {S S' B B' α:Type}
theorem wJu {body:Nat->S->Option (S ⊕ B)} (I:Nat->S->Prop) (Z:B->Prop):∀ (m k:Nat) (s:S),I k s ->
  (∀ i s,k <= i->i < k + m->I i s->(∃ s',body i s=some (.inl s')/\I (i + 1) s') \/ ∃ b,body i s=some (.inr b)/\Z b) ->
  (∃ s',forN body m k s=some (.inl s')/\I (k + m) s') \/ ∃ b,forN body m k s=some (.inr b)/\Z b
 | 0,k,s,h,_=>.inl ⟨s,rfl,h⟩
 | m + 1,k,s,h,hb=>by
  simp only [forN]
  rcases hb k s (nJ _) (by omega) h with ⟨s',h1,h2⟩ | ⟨b,h1,h2⟩
  ·rw [h1]
   have:=wJu I Z m (k + 1) s' h2 fun i s h2 h3 h4=>hb i s (by omega) (by omega) h4
   rwa [show k + 1 + m=k + (m + 1) from by omega] at this
  ·rw [h1];exact .inr ⟨b,rfl,h2⟩
theorem wEi {body:Nat->S->Option S} (I:Nat->S->Prop):∀ (m k:Nat) (s:S),I k s ->
  (∀ i s,k <= i->i < k + m->I i s->∃ s',body i s=some s'/\I (i + 1) s')->∃ s',forN' body m k s=some s'/\I (k + m) s'
 | 0,k,s,h,_=>⟨s,rfl,h⟩
 | m + 1,k,s,h,hb=>by
  simp only [forN']
  obtain ⟨s',h1,h2⟩:=hb k s (nJ _) (by omega) h
  rw [h1]
  have:=wEi I m (k + 1) s' h2 fun i s h2 h3 h4=>hb i s (by omega) (by omega) h4
  rwa [show k + 1 + m=k + (m + 1) from by omega] at this
theorem wEj {body:Nat->S->Option (S ⊕ B)} {n:Nat} {s:S} (hn:n <= 9223372036854775807):wDu 0 (n:Int) body s=forN body n 0 s:=by
 unfold wDu
 rw [if_pos (by omega),show ((n:Int) - 0).toNat=n from by omega]
theorem wDt {body:Nat->S->Option S} {n:Nat} {s:S} (hn:n <= 9223372036854775807):wCv 0 (n:Int) body s=forN' body n 0 s:=by
 unfold wCv
 rw [if_pos (by omega),show ((n:Int) - 0).toNat=n from by omega]
def first (p:α->Bool):List α->Nat->Int
 | [],_=>-1
 | a :: l,k=>if p a then (k:Int) else first p l (k + 1)
theorem wEk (p:α->Bool):∀ (l:List α) (k:Nat),decide (0 <= first p l k)=l.any p
 | [],k=>by simp [first]
 | a :: l,k=>by
  rw [first,kL]
  by_cases h:p a
  ·simp [h]
  ·simp [h,wEk p l (k + 1)]
theorem wFA {R:Type} {l:List α} {f:α->Option Bool} {p:α->Bool} (hf:∀ a ∈ l,f a=some (p a)) (hn:l.length <= 9223372036854775807) (z:Int->R) :
  (jn (wDu 0 (↑l.length:Int) (fun k2 (_:Unit)=>(idx l (↑k2:Int)).bind fun x=>(f x).bind fun y=>if y=true then esc (some (z (↑k2:Int))) else some (.inl ())) ()) fun _=>some (z (-1)))=some (z (first p l 0)):=by
 rw [wEj hn]
 have key:∀ (m k:Nat),k + m=l.length->(jn (forN (fun k2 (_:Unit)=>(idx l (↑k2:Int)).bind fun x=>(f x).bind fun y=>if y=true then esc (some (z (↑k2:Int))) else some (.inl ())) m k ()) fun _=>some (z (-1)))=some (z (first p (l.drop k) k)):=by
  intro m
  induction m with
  | zero=>intro k hk;rw [nl (by omega)];rfl
  | succ m ih =>
   intro k hk
   have hlt:k < l.length:=by omega
   rw [nf hlt,first,forN,wIY,nQ hlt]
   simp only [hH,hf _ (List.getElem_mem hlt)]
   by_cases h:p l[k]=true
   ·simp [h]
   ·simp only [h,if_false,nG]
    exact ih (k + 1) (by omega)
 exact key l.length 0 (by omega)
theorem wCR {bytes:Nat} {l m:List α} (h:(l.length + m.length) * bytes <= 140737488355328):app bytes l m=some (l ++ m):=if_pos h
end Go.KL
namespace Go.Proofs.YtnbcoenjobdplaaGreat
open Go.KL
def inB (n lo hi:Int):Bool:=decide (lo <= n/\n <= hi)
theorem wGT (n lo hi:Int):wBK n lo hi=some (inB n lo hi):=by
 unfold wBK inB
 by_cases h:lo <= n
 ·rw [if_pos h];simp [h]
 ·rw [if_neg h];simp [h]
def wBf:List Bool->Nat->Option Nat
 | [],k=>some k
 | b :: l,k=>if k=5 then none else wBf l (k + if b=true then 1 else 0)
theorem wEl:∀ (l:List Bool) (k m:Nat),k <= 5->wBf l k=some m->k <= m/\m <= 5
 | [],k,m,hk,h=>by cases h;omega
 | b :: l,k,m,hk,h=>by
  rw [wBf] at h
  split at h
  ·cases h
  ·have:=wEl l _ m (by split <;> omega) h
   split at this <;> omega
theorem wGU {l:List Bool} {R:Type} (z:R) (K:Int->Option R):∀ (m k h:Nat),k + m=l.length->h <= 5 ->
  jn (forN (fun k23 (x22:Int)=>(idx l (↑k23:Int)).bind fun x45=>if x22=0 then esc (some z) else if x45=true then some (.inl (w64 (x22 - 1))) else some (.inl x22)) m k (5 - (h:Int))) K =
   (match wBf (l.drop k) h with | none=>some z | some m=>K (5 - (m:Int)))
 | 0,k,h,hk,_=>by rw [nl (by omega)];rfl
 | m + 1,k,h,hk,h5=>by
  have hlt:k < l.length:=by omega
  rw [nf hlt,wBf,forN,wIY,nQ hlt]
  simp only [hH]
  by_cases hz:h=5
  ·rw [if_pos (by omega),if_pos hz];rfl
  ·rw [if_neg (by omega),if_neg hz]
   by_cases hb:l[k]=true
   ·rw [if_pos hb,if_pos hb,wAU (by omega) (by omega)]
    have:=wGU (l:=l) z K m (k + 1) (h + 1) (by omega) (by omega)
    rw [show (5:Int) - ((h + 1:Nat):Int)=5 - (h:Int) - 1 by omega] at this
    exact this
   ·rw [if_neg hb,if_neg hb]
    exact wGU (l:=l) z K m (k + 1) h (by omega) h5
def okB (b:List Bool):Prop:=5 <= b.length/\b.length <= 8/\∃ m,wBf b 0=some m
def wCA (b:List Bool):Nat:=(wBf b 0).getD 0
theorem wJv (b:List Bool):wCA b <= 5:=by
 unfold wCA
 cases h:wBf b 0 with
 | none=>exact nk _
 | some m=>exact (wEl b 0 m (by omega) h).2
theorem wJJ {l:List Bool} (h:okB l):wBo l=some (⟨(l.length:Int) - 5,5 - (wCA l:Int),if wCA l < 5 then 8 - (l.length:Int) else 0⟩,0):=by
 obtain ⟨h1,h2,m,hq⟩:=h
 have hn:wCA l=m:=by unfold wCA;rw [hq];rfl
 rw [hn]
 unfold wBo
 have hi:inB l.length 5 8=true:=by unfold inB;simp;omega
 rw [wGT,hH,hi,if_pos rfl,wEj (by omega)]
 have:=wGU (l:=l) (R:=wAd × Int) ((⟨0,0,0⟩:wAd),8) (fun y72=>if 0 < y72 then
   some ((⟨w64 ((↑l.length:Int) - 5),y72,w64 (8 - (↑l.length:Int))⟩:wAd),0)
  else
   some ((⟨w64 ((↑l.length:Int) - 5),y72,0⟩:wAd),0)) l.length 0 0 (by omega) (by omega)
 rw [List.drop_zero] at this
 have e:(5:Int) - ((0:Nat):Int)=5:=by omega
 rw [e] at this
 rw [this,hq]
 have:=wEl l 0 m (by omega) hq
 simp only
 rw [wAU (by omega) (by omega),wAU (by omega) (by omega)]
 by_cases hm:m < 5
 ·rw [if_pos (by omega),if_pos hm]
 ·rw [if_neg (by omega),if_neg hm]
end Go.Proofs.YtnbcoenjobdplaaGreat
namespace Go.KL
variable {S B R α β:Type}
theorem wJw {body:Nat->S->Option (S ⊕ B)} (s:Nat->S):∀ (m k:Nat),(∀ i,k <= i->i < k + m->body i (s i)=some (.inl (s (i + 1))))->forN body m k (s k)=some (.inl (s (k + m)))
 | 0,_,_=>rfl
 | m + 1,k,h=>by
  rw [forN,h k (nJ _) (by omega)]
  have:=wJw s m (k + 1) fun i h1 h2=>h i (by omega) (by omega)
  rw [show k + 1 + m=k + (m + 1) by omega] at this
  exact this
theorem wIL {body:Nat->S->Option S} (s:Nat->S):∀ (m k:Nat),(∀ i,k <= i->i < k + m->body i (s i)=some (s (i + 1)))->forN' body m k (s k)=some (s (k + m))
 | 0,_,_=>rfl
 | m + 1,k,h=>by
  rw [forN',h k (nJ _) (by omega)]
  have:=wIL s m (k + 1) fun i h1 h2=>h i (by omega) (by omega)
  rw [show k + 1 + m=k + (m + 1) by omega] at this
  exact this
theorem wCh {body:Nat->S->Option S} {n:Nat} {s0:S} (s:Nat->S) (h0:s 0=s0) (hn:n <= 9223372036854775807) (h:∀ i,i < n->body i (s i)=some (s (i + 1))):wCv 0 (n:Int) body s0=some (s n):=by
 rw [wDt hn,<- h0]
 have:=wIL s n 0 fun i _ hi=>h i (by omega)
 rwa [ni] at this
theorem wNT {body:Nat->S->Option (S ⊕ B)} {n:Nat} {s0:S} (s:Nat->S) (h0:s 0=s0) (hn:n <= 9223372036854775807) (h:∀ i,i < n->body i (s i)=some (.inl (s (i + 1)))):wDu 0 (n:Int) body s0=some (.inl (s n)):=by
 rw [wEj hn,<- h0]
 have:=wJw s n 0 fun i _ hi=>h i (by omega)
 rwa [ni] at this
theorem wCS {body:Nat->Unit->Option (Unit ⊕ B)} {n:Nat} (hn:n <= 9223372036854775807) (h:∀ i,i < n->body i ()=some (.inl ())):wDu 0 (n:Int) body ()=some (.inl ()):=wNT (fun _=>()) rfl hn h
theorem wAt [Inhabited α] {l:List α} {k:Nat} (h:k < l.length):idx l (k:Int)=some (gd l k):=by
 rw [wIY]
 exact wDZ h
theorem wBJ [Inhabited α] {l:List α} {k:Nat} (h:k < l.length):gd l k ∈ l:=List.mem_of_getElem? (wDZ h)
theorem wEQ [Inhabited α] {l:List α} {k:Nat} (h:k < l.length):l.take (k + 1)=l.take k ++ [gd l k]:=by
 rw [List.take_add_one,wDZ h]
 rfl
theorem wMg [Inhabited α] {l:List α} {k:Nat} (h:k < l.length):l.drop k=gd l k :: l.drop (k + 1):=by
 have:=wDZ h
 rw [nQ h] at this
 rw [nf h,nE this]
theorem wEm [Inhabited α] {l m:List α} {k:Nat} (h:k < l.length):gd (l ++ m) k=gd l k:=by
 have h1:=wDZ (xs:=l ++ m) (k:=k) (by rw [nY];omega)
 rw [List.getElem?_append_left h,wDZ h] at h1
 exact (nE h1).symm
theorem wJx [Inhabited α] (l m:List α) (x:α):gd (l ++ x :: m) l.length=x:=by
 have h1:=wDZ (xs:=l ++ x :: m) (k:=l.length) (by simp)
 rw [nw (nJ _),Nat.sub_self] at h1
 exact (nE h1).symm
theorem wFB [Inhabited α] [Inhabited β] (f:α->β) {l:List α} {k:Nat} (h:k < l.length):gd (l.map f) k=f (gd l k):=by
 have h1:=wDZ (xs:=l.map f) (k:=k) (by simpa using h)
 rw [List.getElem?_map,wDZ h] at h1
 exact (nE h1).symm
theorem wOH [Inhabited α] {l m:List α} (h:l.length=m.length) (hk:∀ k,k < l.length->gd l k=gd m k):l=m:=by
 apply List.ext_getElem?
 intro k
 rcases np k l.length with h1 | h1
 ·rw [wDZ h1,wDZ (by omega),hk k h1]
 ·rw [kC h1,kC (by omega)]
end Go.KL
namespace Go.Proofs.YtnbcoenjobdplaaGreat
open Go.KL
structure wDC (p:wAC):Prop where
 n:1 <= p.Classes.length/\p.Classes.length <= 4
 cls:∀ c ∈ p.Classes,0 <= c/\c <= 3
 each:1 <= p.Each/\p.Each <= 4
 laps:1 <= p.Laps/\p.Laps <= 5
 spare:0 <= p.Spare/\p.Spare <= 600
 loop:0 <= p.Loop/\p.Loop <= 600
 unused:0 <= p.Unused/\p.Unused <= 6000
structure wDc (p:wAC) (t:wAD) (l:wAB):Prop where
 le:(l.Loops.length:Int) <= p.Laps
 bouts:l.Bouts.length=l.Loops.length - 1
 loops:∀ n ∈ l.Loops,1 <= n/\n <= 9000
 skier:0 <= l.Skier/\l.Skier < t.Classes.length
 ok:∀ b ∈ l.Bouts,okB b
structure wMh (p:wAC) (t:wAD):Prop where
 bib:1 <= t.Bib/\t.Bib <= 999
 n:1 <= t.Classes.length/\t.Classes.length <= 8
 cls:∀ c ∈ t.Classes,0 <= c/\c <= 3
 legs:t.Legs.length <= p.Classes.length
 full:∀ k,k + 1 < t.Legs.length->((gd t.Legs k).Loops.length:Int)=p.Laps
 leg:∀ l ∈ t.Legs,wDc p t l
structure wFC (r:wAF):Prop where
 rules:wDC r.Rules
 n:1 <= r.Teams.length/\r.Teams.length <= 12
 start:0 <= r.Start/\r.Start <= 36000
 team:∀ t ∈ r.Teams,wMh r.Rules t
 bibs:(r.Teams.map (·.Bib)).Nodup
theorem wBy {n lo hi:Int} (h1:lo <= n) (h2:n <= hi):inB n lo hi=true:=by unfold inB;simp [h1,h2]
theorem wJK {l:List Int} {f:Int->Option Bool} {p:Int->Bool} (hf:∀ a,f a=some (p a)) (hn:l.length <= 9223372036854775807):wBb l f=some (l.all p):=by
 unfold wBb wAq wBG wBL
 have:=wFA (R:=Int) (l:=l) (f:=fun x=>(f x).bind fun x5=>some (!x5)) (p:=fun a=>!p a) (fun a _=>by rw [hf];rfl) hn id
 simp only [id] at this
 rw [this]
 simp only [hH,wEk]
 congr 1
 clear this hn
 induction l with
 | nil=>rfl
 | cons a l ih=>rw [kL,kM,<- ih];cases p a <;> simp
theorem wPQ {l:List wAH} {f:wAH->Option Bool} {p:wAH->Bool} (hf:∀ a ∈ l,f a=some (p a)) (hn:l.length <= 9223372036854775807):wAu l f=some (l.all p):=by
 unfold wAu wAR wAV wAb
 have:=wFA (R:=Int) (l:=l) (f:=fun x=>(f x).bind fun x5=>some (!x5)) (p:=fun a=>!p a) (fun a ha=>by rw [hf a ha];rfl) hn id
 simp only [id] at this
 rw [this]
 simp only [hH,wEk]
 congr 1
 clear this hn hf
 induction l with
 | nil=>rfl
 | cons a l ih=>rw [kL,kM,<- ih];cases p a <;> simp
theorem wJy {l:List wAD} {f:wAD->Option Bool} (hf:∀ a ∈ l,f a=some true) (hn:l.length <= 9223372036854775807):wAk l f=some true:=by
 unfold wAk wAS wAW wAe
 have:=wFA (R:=Int) (l:=l) (f:=fun x=>(f x).bind fun x5=>some (!x5)) (p:=fun _=>false) (fun a ha=>by rw [hf a ha];rfl) hn id
 simp only [id] at this
 rw [this]
 simp only [hH,wEk]
 simp
theorem wNU {p:wAC} (g:wDC p):wBc p=some 0:=by
 unfold wBc
 have h1:=g.n
 have h2:=g.each;have h3:=g.laps;have h4:=g.spare;have h5:=g.loop;have h6:=g.unused
 rw [wGT,hH,wBy (by omega) (by omega),if_pos rfl]
 have hc:wBV p.Classes=some true:=by
  unfold wBV
  rw [wJK (f:=wAj) (p:=fun n=>inB n 0 3) (fun a=>by unfold wAj;rw [wGT];rfl) (by omega),hH]
  exact congrArg some (nU.2 fun c hc=>wBy (g.cls c hc).1 (g.cls c hc).2)
 rw [hc,hH,if_pos rfl]
 unfold wCb
 rw [hH,wPQ (p:=fun a=>match a.of p with | some x=>inB x a.lo a.hi | none=>true) (fun a ha=>by
  unfold wAy
  simp only [nH,no,or_false] at ha
  rcases ha with rfl | rfl | rfl | rfl | rfl <;> simp [wBA,wBB,wBC,wBD,wBE,wGT]) (by simp)]
 simp only [hH,kM,List.all_nil,Bool.and_true,wBA,wBB,wBC,wBD,wBE]
 rw [wBy h2.1 h2.2,wBy h3.1 h3.2,wBy h4.1 h4.2,wBy h5.1 h5.2,wBy h6.1 h6.2]
 rfl
theorem wNV {p:wAC} (gp:wDC p) {t:wAD} (g:wMh p t):wAr p t=some true:=by
 unfold wAr
 have h1:=g.n;have h2:=g.legs;have h3:=gp.n;have h4:=gp.laps
 rw [wGT,hH,wBy (by omega) (by omega),if_pos rfl,if_neg (by omega)]
 rw [wCS (by omega) fun k hk=>?_]
 ·rfl
 ·have gl:=g.leg _ (wBJ hk)
  have b1:=gl.le;have b2:=gl.bouts
  rw [wAt hk,hH,if_neg (by omega)]
  have hb:((gd t.Legs k).Bouts.length:Int)=max 0 (w64 (((gd t.Legs k).Loops.length:Int) - 1)):=by
   rw [wAU (by omega) (by omega)]
   omega
  rw [wAU (x:=(t.Legs.length:Int) - 1) (by omega) (by omega)]
  by_cases hl:(k:Int) < (t.Legs.length:Int) - 1
  ·rw [if_pos hl,if_neg (by have:=g.full k (by omega);omega),if_pos hb]
  ·rw [if_neg hl,if_pos hb]
theorem wJL {E:Type} {f:Unit->(wAD × wAB)->Option (Unit ⊕ E)} {r:wAF} (hn:r.Teams.length <= 1000) (hl:∀ t ∈ r.Teams,t.Legs.length <= 1000) (h:∀ t ∈ r.Teams,∀ l ∈ t.Legs,f () (t,l)=some (.inl ())):wAs f () r=some (.inl ()):=by
 unfold wAs
 rw [wCS (by omega) fun k hk=>?_]
 ·rfl
 ·have ht:=wBJ hk
  rw [wAt hk,hH,wCS (by have:=hl _ ht;omega) fun j hj=>?_]
  ·rfl
  ·rw [wAt hj,hH,h _ ht _ (wBJ hj)]
   rfl
theorem wNW {l:List (Int × Bool)} {x:Int} {v:Bool} (h:∀ q ∈ l,q.1 ≠ x):mput l x v=l ++ [(x,v)]:=by
 induction l with
 | nil=>rfl
 | cons a l ih =>
  obtain ⟨y,u⟩:=a
  have:=h (y,u) (by simp)
  rw [mput,if_neg (fun e=>this e.symm),ih fun q hq=>h q (by simp [hq])]
  rfl
theorem wKj {l:List Int} (h:l.Nodup) {k:Nat} (hk:k < l.length):∀ a ∈ l.take k,a ≠ gd l k:=by
 intro a ha e
 rw [<- kD k l,wMg hk,kR] at h
 exact h.2.2 a ha _ (List.mem_cons_self ..) e
theorem wNX {r:wAF} (g:wFC r):wCO r=some 0:=by
 unfold wCO
 have h1:=g.n;have h2:=g.start
 have hl:∀ t ∈ r.Teams,t.Legs.length <= 1000:=fun t ht=>by have:=(g.team t ht).legs;have:=g.rules.n;omega
 rw [wNU g.rules,hH,if_pos rfl,wGT,hH,wBy (by omega) (by omega),if_pos rfl,wJy (fun t ht=>wNV g.rules (g.team t ht)) (by omega),hH,if_pos rfl,
  wGT,hH,wBy h2.1 h2.2,if_pos rfl,wJy (fun t ht=>?_) (by omega),hH,if_pos rfl]
 ·unfold wBT
  rw [hH,wJL (by omega) hl fun t ht l hm=>?_,hH]
  ·simp only [hH]
   rw [wJL (by omega) hl fun t ht l hm=>?_,hH]
   ·simp only [hH]
    rw [wJL (by omega) hl fun t ht l hm=>?_,hH]
    ·simp only
     have:=wCh (S:=List (Int × Bool)) (n:=r.Teams.length) (body:=fun k640 l637=>(idx r.Teams (↑k640:Int)).bind fun x664=>some (mput l637 x664.Bib true)) (fun k=>(r.Teams.take k).map fun t=>(t.Bib,true)) (s0:=[]) rfl (by omega) fun k hk=>by
      rw [wAt hk,hH,wEQ hk,nZ,wNW fun q hq=>?_]
      ·rfl
      ·obtain ⟨t,ht,rfl⟩:=nz.1 hq
       have:=wKj g.bibs (k:=k) (by simpa using hk) t.Bib (by rw [<- List.map_take];exact nz.2 ⟨t,ht,rfl⟩)
       rw [wFB _ hk] at this
       exact this
     rw [this,hH,if_neg (by simp)]
    ·have gl:=(g.team t ht).leg l hm
     have hb:=gl.bouts;have hle:=gl.le;have:=g.rules.laps
     simp only
     rw [wCS (by omega) fun k hk=>?_]
     ·rfl
     ·rw [wAt hk,hH,wJJ (gl.ok _ (wBJ hk))]
      rfl
   ·have gl:=(g.team t ht).leg l hm
    have:=gl.skier;have:=(g.team t ht).n
    simp only
    rw [wGT,hH,wAU (by omega) (by omega),wBy (by omega) (by omega),if_pos rfl]
  ·have gl:=(g.team t ht).leg l hm
   have hle:=gl.le;have:=g.rules.laps
   simp only
   rw [wJK (f:=wBW) (p:=fun n=>inB n 1 9000) (fun a=>by unfold wBW;rw [wGT];rfl) (by omega),hH,if_pos]
   exact nU.2 fun n hn=>wBy (gl.loops n hn).1 (gl.loops n hn).2
 ·have gt:=g.team t ht
  have:=gt.n
  unfold wBi
  rw [wGT,hH,wBy gt.bib.1 gt.bib.2,if_pos rfl]
  unfold wBV
  rw [wJK (f:=wAj) (p:=fun n=>inB n 0 3) (fun a=>by unfold wAj;rw [wGT];rfl) (by omega),hH,hH]
  exact congrArg some (nU.2 fun c hc=>wBy (gt.cls c hc).1 (gt.cls c hc).2)
def bc (p:wAC) (b:List Bool):Int:=((b.length:Int) - 5) * p.Spare + (5 - (wCA b:Int)) * p.Loop
def tAt (p:wAC) (l:wAB) (x:Int):Nat->Int
 | 0=>x
 | k + 1=>tAt p l x k + gd l.Loops k + if 0 < k then bc p (gd l.Bouts (k - 1)) else 0
def wIM (p:wAC) (l:wAB) (x:Int):List Int:=(nj l.Loops.length).map fun k=>tAt p l x (k + 1)
def wHj (p:wAC) (l:wAB) (x:Int):Int:=tAt p l x l.Loops.length
def wFD (p:wAC):List wAB->Int->Int
 | [],x=>x
 | l :: r,x=>wFD p r (wHj p l x)
def wBq (p:wAC):List wAB->Int->List Int
 | [],_=>[]
 | l :: r,x=>wIM p l x ++ wBq p r (wHj p l x)
theorem wJz {p:wAC} (g:wDC p) {b:List Bool} (h:okB b):0 <= ((b.length:Int) - 5) * p.Spare/\((b.length:Int) - 5) * p.Spare <= 1800/\0 <= (5 - (wCA b:Int)) * p.Loop/\(5 - (wCA b:Int)) * p.Loop <= 3000:=by
 obtain ⟨h1,h2,_⟩:=h
 have h3:=wJv b
 have a1:=g.spare;have a2:=g.loop
 refine ⟨kE (by omega) a1.1,?_,kE (by omega) a2.1,?_⟩
 ·exact Int.le_trans (kG (show (b.length:Int) - 5 <= 3 by omega) a1.2 a1.1 (by omega)) (by omega)
 ·exact Int.le_trans (kG (show 5 - (wCA b:Int) <= 5 by omega) a2.2 a2.1 (by omega)) (by omega)
theorem wKA {p:wAC} (gp:wDC p) {t:wAD} {l:wAB} (g:wDc p t l) (x:Int) {k:Nat} (hk:k < l.Loops.length):tAt p l x k + 1 <= tAt p l x (k + 1)/\tAt p l x (k + 1) <= tAt p l x k + 13800:=by
 have h1:=g.loops _ (wBJ hk)
 rw [tAt]
 by_cases h:0 < k
 ·have hb:=g.bouts
  have:=wJz gp (g.ok _ (wBJ (k:=k - 1) (by omega)))
  rw [if_pos h]
  unfold bc
  omega
 ·rw [if_neg h];omega
theorem wGV {p:wAC} (gp:wDC p) {t:wAD} {l:wAB} (g:wDc p t l) (x:Int):∀ k,k <= l.Loops.length->x + k <= tAt p l x k/\tAt p l x k <= x + 13800 * k
 | 0,_=>by simp [tAt]
 | k + 1,hk=>by
  have:=wKA gp g x (k:=k) (by omega)
  have:=wGV gp g x k (by omega)
  omega
theorem wGy {p:wAC} (gp:wDC p) {t:wAD} {l:wAB} (g:wDc p t l) (x:Int):x <= wHj p l x/\wHj p l x <= x + 69000:=by
 have:=wGV gp g x l.Loops.length (nJ _)
 have:=g.le;have:=gp.laps
 unfold wHj
 omega
theorem wPR {p:wAC} (gp:wDC p) {t:wAD} {l:wAB} (g:wDc p t l) {x:Int} (hx:0 <= x/\x <= 1000000) {k:Nat} (hk:k < l.Loops.length) :
  (0 < k->idx l.Bouts (w64 ((k:Int) - 1))=some (gd l.Bouts (k - 1))/\okB (gd l.Bouts (k - 1)) /\
   w64 ((w64 (tAt p l x k + gd l.Loops k)) + (w64 ((w64 ((((gd l.Bouts (k - 1)).length:Int) - 5) * p.Spare)) + (w64 ((5 - (wCA (gd l.Bouts (k - 1)):Int)) * p.Loop)))))=tAt p l x (k + 1)) /\
  (¬ 0 < k->w64 (tAt p l x k + gd l.Loops k)=tAt p l x (k + 1)):=by
 have h1:=g.loops _ (wBJ hk)
 have h2:=wGV gp g x k (by omega)
 have h3:=g.le;have h4:=gp.laps;have hb:=g.bouts
 refine ⟨fun h=>?_,fun h=>?_⟩
 ·have ho:=g.ok _ (wBJ (k:=k - 1) (by omega))
  have:=wJz gp ho
  refine ⟨?_,ho,?_⟩
  ·rw [wAU (by omega) (by omega),show (k:Int) - 1=((k - 1:Nat):Int) by omega]
   exact wAt (by omega)
  ·rw [tAt,if_pos h]
   unfold bc
   rw [wAU (x:=tAt p l x k + gd l.Loops k) (by omega) (by omega),wAU (x:=(((gd l.Bouts (k - 1)).length:Int) - 5) * p.Spare) (by omega) (by omega),wAU (x:=(5 - (wCA (gd l.Bouts (k - 1)):Int)) * p.Loop) (by omega) (by omega),wAU (x:=(((gd l.Bouts (k - 1)).length:Int) - 5) * p.Spare + (5 - (wCA (gd l.Bouts (k - 1)):Int)) * p.Loop) (by omega) (by omega),wAU (by omega) (by omega)]
 ·rw [tAt,if_neg h,wAU (by omega) (by omega),Int.add_zero]
theorem wIN (p:wAC) (l:wAB) (x:Int) (k:Nat):(nj (k + 1)).map (fun i=>tAt p l x (i + 1))=(nj k).map (fun i=>tAt p l x (i + 1)) ++ [tAt p l x (k + 1)]:=by
 rw [List.range_succ,nZ]
 rfl
theorem wFE (p:wAC) (a:wAB):∀ (l:List wAB) (x:Int),wBq p (l ++ [a]) x=wBq p l x ++ wIM p a (wFD p l x)/\wFD p (l ++ [a]) x=wHj p a (wFD p l x)
 | [],x=>by simp [wBq,wFD]
 | b :: l,x=>by
  have:=wFE p a l (wHj p b x)
  exact ⟨by rw [nI,wBq,wBq,this.1,nK];rfl,this.2⟩
theorem wGW {p:wAC} (gp:wDC p) {t:wAD}:∀ (l:List wAB) (x:Int),(∀ a ∈ l,wDc p t a)->x <= wFD p l x/\wFD p l x <= x + 69000 * (l.length:Int)
 | [],x,_=>by simp [wFD]
 | a :: l,x,h=>by
  have h1:=wGy gp (h a (by simp)) x
  have h2:=wGW gp l (wHj p a x) fun b hb=>h b (by simp [hb])
  rw [wFD]
  simp only [nV]
  omega
def after (r:wAF):List (List Int):=r.Teams.map fun t=>wBq r.Rules t.Legs r.Start
theorem wDK {p:wAC} (gp:wDC p) {t:wAD}:∀ (l:List wAB) (x:Int),(∀ a ∈ l,wDc p t a)->(wBq p l x).length <= 5 * l.length
 | [],x,_=>by simp [wBq]
 | a :: l,x,h=>by
  have h1:=(h a (by simp)).le
  have h2:=wDK gp l (wHj p a x) fun b hb=>h b (by simp [hb])
  have:=gp.laps
  rw [wBq,nY]
  simp only [wIM,kB,List.length_range,nV]
  omega
theorem wNY {r:wAF} (g:wFC r):wCP r=some (some ⟨r,after r⟩,0):=by
 unfold wCP
 rw [wNX g,hH,if_pos rfl]
 have hn:=g.n;have hs:=g.start
 rw [wCh (S:=List (List Int)) (n:=r.Teams.length) (fun k=>(r.Teams.take k).map fun t=>wBq r.Rules t.Legs r.Start) (s0:=[]) rfl (by omega) fun k hk=>?_]
 ·rw [hH,nW]
  rfl
 ·have gt:=g.team _ (wBJ hk)
  have hleg:=gt.legs;have hc:=g.rules.n
  rw [wAt hk,hH]
  rw [wCh (S:=Int × List Int) (n:=(gd r.Teams k).Legs.length) (fun j=>(wFD r.Rules ((gd r.Teams k).Legs.take j) r.Start,wBq r.Rules ((gd r.Teams k).Legs.take j) r.Start)) (s0:=(r.Start,[])) rfl (by omega) fun j hj=>?_]
  ·simp only [hH,nW]
   have hlen:=wDK g.rules (gd r.Teams k).Legs r.Start gt.leg
   rw [wCR (by simp;omega),hH,wEQ hk,nZ]
   rfl
  ·have gl:=gt.leg _ (wBJ hj)
   have hE:=wGW g.rules ((gd r.Teams k).Legs.take j) r.Start fun a ha=>gt.leg a (kJ ha)
   have hL:=wDK g.rules ((gd r.Teams k).Legs.take j) r.Start fun a ha=>gt.leg a (kJ ha)
   rw [List.length_take] at hE hL
   have hx:0 <= wFD r.Rules ((gd r.Teams k).Legs.take j) r.Start/\wFD r.Rules ((gd r.Teams k).Legs.take j) r.Start <= 1000000:=by omega
   generalize hX:wFD r.Rules ((gd r.Teams k).Legs.take j) r.Start=X at hx
   generalize hY:wBq r.Rules ((gd r.Teams k).Legs.take j) r.Start=Y at hL
   have hlap:=g.rules.laps;have hle:=gl.le
   simp only
   rw [wAt hj,hH]
   rw [wCh (S:=Int × List Int) (n:=(gd (gd r.Teams k).Legs j).Loops.length) (fun i=>(tAt r.Rules (gd (gd r.Teams k).Legs j) X i,Y ++ (nj i).map fun q=>tAt r.Rules (gd (gd r.Teams k).Legs j) X (q + 1))) (s0:=(X,Y)) (by simp [tAt]) (by omega) fun i hi=>?_]
   ·simp only [hH]
    rw [wEQ hj,(wFE _ _ _ _).1,(wFE _ _ _ _).2,hX,hY]
    rfl
   ·obtain ⟨l1,l2⟩:=wPR g.rules gl hx hi
    simp only
    rw [wAt hi,hH]
    by_cases h0:0 < i
    ·obtain ⟨e1,e2,e3⟩:=l1 h0
     rw [if_pos (by omega),e1,hH,wJJ e2]
     simp only [hH]
     rw [e3,wCR (by simp;omega),hH,wIN,nK]
    ·rw [if_neg (by omega),l2 h0,wCR (by simp;omega),hH,wIN,nK]
def wMi (r:wAF):wBn:=⟨(r.Rules.Classes.length:Int) * r.Rules.Laps,r.Teams.map (·.Bib),after r⟩
theorem wPS {r:wAF} (g:wFC r):wBj ⟨r,after r⟩=some (wMi r):=by
 unfold wBj
 have hn:=g.n
 simp only
 rw [wCh (S:=List Int × List (List Int)) (n:=r.Teams.length) (fun k=>((r.Teams.take k).map (·.Bib),(r.Teams.take k).map fun t=>wBq r.Rules t.Legs r.Start)) (s0:=([],[])) rfl (by omega) fun k hk=>?_]
 ·simp only [hH,nW]
  have h1:=g.rules.n;have h2:=g.rules.laps
  have h3:0 <= (r.Rules.Classes.length:Int) * r.Rules.Laps:=kE (by omega) (by omega)
  have h4:(r.Rules.Classes.length:Int) * r.Rules.Laps <= 4 * 5:=kG (by omega) h2.2 (by omega) (by omega)
  rw [wAU (by omega) (by omega)]
  rfl
 ·have gt:=g.team _ (wBJ hk)
  have hlen:=wDK g.rules (gd r.Teams k).Legs r.Start gt.leg
  have hc:=g.rules.n;have hleg:=gt.legs
  simp only
  rw [wAt hk,hH,wCR (by simp;omega),hH]
  unfold after
  rw [wAt (by simpa using hk),hH,wFB _ hk]
  unfold wBY
  rw [wCR (by simp;omega)]
  simp only [hH,nS]
  rw [wCR (by simp;omega),hH,wEQ hk,nZ,nZ]
  rfl
end Go.Proofs.YtnbcoenjobdplaaGreat
namespace Go.Proofs.YtnbcoenjobdplaaGreat
open Go.KL
theorem wKB {a b:Int} (h0:0 <= a) (hb:0 < b):∃ x,rem a b=some x/\0 <= x/\x < b:=by
 refine ⟨a.tmod b,if_neg (by omega),?_,?_⟩
 ·rw [ny h0];exact Int.emod_nonneg _ (by omega)
 ·rw [ny h0];exact Int.emod_lt_of_pos _ hb
theorem wJM (x:Int):0 <= wDd x:=by unfold wDd;omega
theorem wPT (x:Int):wDd x < 4294967296:=by unfold wDd;omega
theorem w64u (x:Int):w64 (wDd x)=wDd x:=by
 have:=wJM x
 have:=wPT x
 exact wAU (by omega) (by omega)
theorem wNZ (a:Int) {b:Int} (hb:b ≠ 0):∃ x,quo a b=some x:=⟨_,if_neg hb⟩
theorem wMj (d:wAA) (n:Int) (h0:0 <= d.next) (h1:d.next <= 1000000):∃ x d',wAE d n=some (x,d')/\0 <= d'.next/\d'.next <= d.next + 1/\0 <= x/\(x < n \/ (n <= 1/\x=0)):=by
 unfold wAE
 by_cases hn:n <= 1
 ·exact ⟨0,d,by rw [if_pos hn],h0,by omega,by omega,.inr ⟨hn,rfl⟩⟩
 rw [if_neg hn]
 by_cases hl:(d.bytes.length:Int)=0
 ·exact ⟨0,d,by rw [if_pos hl],h0,by omega,by omega,.inl (by omega)⟩
 rw [if_neg hl]
 obtain ⟨r,e1,r0,r1⟩:=wKB h0 (show (0:Int) < d.bytes.length by omega)
 obtain ⟨b,e2⟩:∃ b,idx d.bytes r=some b:=by
  unfold idx
  rw [if_pos r0,nQ (by omega)]
  exact ⟨_,rfl⟩
 obtain ⟨q,e3⟩:=wNZ d.next (b:=d.bytes.length) hl
 obtain ⟨st,e4,_,_⟩:=wKB (wJM ((wDd ((wDd ((wDd (d.state * 45)) + (wDd b))) + (wDd (77 * (wDd q))))) + 1)) (b:=65519) (by decide)
 rw [e1,hH,e2,hH,e3,hH,e4,hH,wAU (x:=d.next + 1) (by omega) (by omega)]
 have fin:∀ z:Int,∃ x d',((rem (w64 (wDd z)) n).bind fun x=>some (x,(⟨d.bytes,d.next + 1,st⟩:wAA)))=some (x,d')/\0 <= d'.next/\d'.next <= d.next + 1/\0 <= x/\(x < n \/ (n <= 1/\x=0)):=by
  intro z
  obtain ⟨x,e5,x0,x1⟩:=wKB (a:=w64 (wDd z)) (b:=n) (by rw [w64u];exact wJM z) (by omega)
  exact ⟨x,_,by rw [e5];rfl,by show 0 <= d.next + 1;omega,by show d.next + 1 <= _;omega,x0,.inl x1⟩
 by_cases c1:wDd q=0
 ·rw [if_pos c1]
  by_cases c2:n <= 256
  ·rw [if_pos c2];exact fin _
  ·rw [if_neg c2];exact fin _
 ·rw [if_neg c1];exact fin _
theorem wPU (d:wAA) (a b:Int) (h0:0 <= d.next) (h1:d.next <= 1000000) (ha:-1000000 <= a) (hab:a <= b) (hb:b <= 1000000):∃ x d',wAK d a b=some (x,d')/\0 <= d'.next/\d'.next <= d.next + 1/\a <= x/\x <= b:=by
 unfold wAK
 rw [wAU (x:=b - a) (by omega) (by omega),wAU (x:=b - a + 1) (by omega) (by omega)]
 obtain ⟨x,d',e,n0,n1,x0,x1⟩:=wMj d (b - a + 1) h0 h1
 refine ⟨a + x,d',?_,n0,n1,by omega,by omega⟩
 rw [e,hH]
 simp only
 rw [wAU (by omega) (by omega)]
end Go.Proofs.YtnbcoenjobdplaaGreat
namespace Go.KL
variable {S B α:Type}
theorem wHf {body:S->Option (S ⊕ B)} (I:Nat->S->Prop) (Z:B->Prop) (m:Nat) (step:∀ i s,i <= m->I i s->(i < m/\∃ s',body s=some (.inl s')/\I (i + 1) s') \/ ∃ b,body s=some (.inr b)/\Z b) {s0:S} (h0:I 0 s0) (hm:m < 1000000):∃ b,iter body big s0=some b/\Z b:=by
 have key:∀ (d i:Nat) (s:S),i + d=m->I i s->∀ F,d < F->∃ b,iter body F s=some b/\Z b:=by
  intro d
  induction d with
  | zero =>
   intro i s hi hI F hF
   obtain ⟨F,rfl⟩:∃ G,F=G + 1:=⟨F - 1,by omega⟩
   rcases step i s (by omega) hI with ⟨h,_⟩ | ⟨b,h1,h2⟩
   ·omega
   ·exact ⟨b,by rw [iter,h1],h2⟩
  | succ d ih =>
   intro i s hi hI F hF
   obtain ⟨F,rfl⟩:∃ G,F=G + 1:=⟨F - 1,by omega⟩
   rcases step i s (by omega) hI with ⟨_,s',h1,h2⟩ | ⟨b,h1,h2⟩
   ·obtain ⟨b,h3,h4⟩:=ih (i + 1) s' (by omega) h2 F (by omega)
    exact ⟨b,by rw [iter,h1];exact h3,h4⟩
   ·exact ⟨b,by rw [iter,h1],h2⟩
 exact key m 0 s0 (by omega) h0 big (by unfold big;omega)
theorem wIO [Inhabited α] {l:List α} {i k:Nat} {x:α} (hi:i < l.length) (hk:k < l.length):gd (l.set i x) k=if k=i then x else gd l k:=by
 have h1:=wDZ (xs:=l.set i x) (k:=k) (by rw [nL];exact hk)
 rw [List.getElem?_set] at h1
 by_cases e:i=k
 ·subst e
  rw [if_pos rfl,if_pos hi] at h1
  rw [if_pos rfl]
  exact (nE h1).symm
 ·rw [if_neg e,wDZ hk] at h1
  rw [if_neg (fun h=>e h.symm)]
  exact (nE h1).symm
theorem gd_is [Inhabited α] {l:List α} {k:Nat} (h:k < l.length):gd l k=l[k]:=by
 have:=wDZ h
 rw [nQ h] at this
 exact (nE this).symm
end Go.KL
namespace Go.Proofs.YtnbcoenjobdplaaGreat
open Go.KL
def wBX (d:wAA) (n:Int):Prop:=0 <= d.next/\d.next <= n
theorem wEn {d:wAA} {N:Int} (h:wBX d N) (hN:N <= 1000000) (n:Int):∃ x d',wAE d n=some (x,d')/\wBX d' (N + 1)/\0 <= x/\(x < n \/ (n <= 1/\x=0)):=by
 obtain ⟨x,d',e,a,b,c⟩:=wMj d n h.1 (by have:=h.2;omega)
 exact ⟨x,d',e,⟨a,by have:=h.2;omega⟩,c⟩
theorem wGX {d:wAA} {N:Int} (h:wBX d N) (hN:N <= 1000000) {a b:Int} (ha:-1000000 <= a) (hab:a <= b) (hb:b <= 1000000):∃ x d',wAK d a b=some (x,d')/\wBX d' (N + 1)/\a <= x/\x <= b:=by
 obtain ⟨x,d',e,c,c2,c3⟩:=wPU d a b h.1 (by have:=h.2;omega) ha hab hb
 exact ⟨x,d',e,⟨c,by have:=h.2;omega⟩,c3⟩
theorem wKC {d:wAA} {N:Int} (h:wBX d N) (hN:N <= 1000000) (n:Int):∃ x d',wAO d n=some (x,d')/\wBX d' (N + 1):=by
 obtain ⟨x,d',e,c,_⟩:=wEn h hN n
 exact ⟨decide (x=0),d',by unfold wAO;rw [e];rfl,c⟩
theorem wER (b:Bool):∀ (l:List Bool) (k:Nat),wBf (l ++ [b]) k=(wBf l k).bind fun m=>if m=5 then none else some (m + if b=true then 1 else 0)
 | [],k=>rfl
 | c :: l,k=>by
  rw [nI,wBf,wBf]
  split
  ·rfl
  ·exact wER b l _
theorem wGz:∀ (l:List Bool) (k m:Nat),wBf l k=some m->m <= k + l.length
 | [],k,m,h=>by cases h;simp
 | b :: l,k,m,h=>by
  rw [wBf] at h
  split at h
  ·cases h
  ·have:=wGz l _ m h
   simp only [nV]
   split at this <;> omega
theorem wNa {d:wAA} {N:Int} (h:wBX d N) (hN:N <= 900000):∃ l d',wAP d=some (l,d')/\wBX d' (N + 18)/\okB l:=by
 unfold wAP
 obtain ⟨⟨l,d'⟩,e,z1,z2⟩:=wHf (S:=List Int × Int × Int × List Bool × Int) (B:=List Bool × wAA) (body:=fun (l31,x34,x35,l36,x40) =>
  if x40 < 5 then
   if (↑l36.length:Int) < 5 then
    (wAO (⟨l31,x34,x35⟩:wAA) 4).bind fun (x61,x62) =>
    (app 1 l36 [!x61]).bind fun x80 =>
    if x61=true then
     some (.inl (x62.bytes,x62.next,x62.state,x80,x40))
    else
     some (.inl (x62.bytes,x62.next,x62.state,x80,w64 (x40 + 1)))
   else
    if (↑l36.length:Int) < 8 then
     (wAO (⟨l31,x34,x35⟩:wAA) 6).bind fun (x112,x113) =>
     if x112=true then
      esc (some (l36,x113))
     else
      (wAO x113 4).bind fun (x132,x133) =>
      (app 1 l36 [!x132]).bind fun x151 =>
      if x132=true then
       some (.inl (x133.bytes,x133.next,x133.state,x151,x40))
      else
       some (.inl (x133.bytes,x133.next,x133.state,x151,w64 (x40 + 1)))
    else
     esc (some (l36,(⟨l31,x34,x35⟩:wAA)))
  else
   esc (some (l36,(⟨l31,x34,x35⟩:wAA))))
  (fun i s=>wBX ⟨s.1,s.2.1,s.2.2.1⟩ (N + 2 * (i:Int))/\s.2.2.2.1.length=i/\∃ m:Nat,wBf s.2.2.2.1 0=some m/\s.2.2.2.2=m) (fun b=>wBX b.2 (N + 18)/\okB b.1) 8
  (by
   rintro i ⟨B,x,s,l,t⟩ hi ⟨h1,h2,m,h3,h4⟩
   simp only at h1 h2 h3 h4 ⊢
   subst h4
   have hm:=(wEl l 0 m (by omega) h3).2
   have hml:=wGz l 0 m h3
   have done:(5 <= l.length)->wBX ⟨B,x,s⟩ (N + 18)/\okB l:=fun h5=>⟨⟨h1.1,by have:=h1.2;omega⟩,h5,by omega,m,h3⟩
   have grow:∀ (c:Bool) (d2:wAA),wBX d2 (N + 2 * ((i + 1:Nat):Int))->m < 5->i < 8 ->
     ∃ s',(if c=true then (some (.inl (d2.bytes,d2.next,d2.state,l ++ [!c],(m:Int))):Option ((List Int × Int × Int × List Bool × Int) ⊕ (List Bool × wAA))) else some (.inl (d2.bytes,d2.next,d2.state,l ++ [!c],w64 ((m:Int) + 1))))=some (.inl s')/\wBX ⟨s'.1,s'.2.1,s'.2.2.1⟩ (N + 2 * ((i + 1:Nat):Int))/\s'.2.2.2.1.length=i + 1/\∃ m':Nat,wBf s'.2.2.2.1 0=some m'/\s'.2.2.2.2=m':=by
    intro c d2 hd h5 h8
    cases c with
    | true=>exact ⟨_,if_pos rfl,hd,by simp [h2],m,by show wBf (l ++ _) 0=_;rw [wER,h3,hH,if_neg (by omega)];rfl,rfl⟩
    | false=>exact ⟨_,if_neg (by decide),hd,by simp [h2],m + 1,by show wBf (l ++ _) 0=_;rw [wER,h3,hH,if_neg (by omega)];rfl,by show w64 _=_;rw [wAU (by omega) (by omega)];omega⟩
   by_cases c1:(m:Int) < 5
   ·rw [if_pos c1]
    by_cases c2:(l.length:Int) < 5
    ·rw [if_pos c2]
     left
     refine ⟨by omega,?_⟩
     obtain ⟨c,d2,e1,g1⟩:=wKC h1 (by omega) 4
     rw [e1,hH]
     simp only
     rw [wCR (by simp;omega),hH]
     exact grow c d2 ⟨g1.1,by have:=g1.2;omega⟩ (by omega) (by omega)
    ·rw [if_neg c2]
     by_cases c3:(l.length:Int) < 8
     ·rw [if_pos c3]
      obtain ⟨c,d2,e1,g1⟩:=wKC h1 (by omega) 6
      rw [e1,hH]
      simp only
      cases c with
      | true =>
       right
       rw [if_pos rfl]
       refine ⟨_,rfl,⟨g1.1,by have:=g1.2;simp only;omega⟩,(done (by omega)).2⟩
      | false =>
       left
       refine ⟨by omega,?_⟩
       rw [if_neg (by decide)]
       obtain ⟨c,d3,e2,g2⟩:=wKC g1 (by omega) 4
       rw [e2,hH]
       simp only
       rw [wCR (by simp;omega),hH]
       exact grow c d3 ⟨g2.1,by have:=g2.2;omega⟩ (by omega) (by omega)
     ·rw [if_neg c3]
      right
      exact ⟨_,rfl,done (by omega)⟩
   ·rw [if_neg c1]
    right
    exact ⟨_,rfl,done (by omega)⟩) (s0:=(d.bytes,d.next,d.state,[],0)) ⟨⟨h.1,by have:=h.2;simp only;omega⟩,rfl,0,rfl,rfl⟩ (by omega)
 exact ⟨l,d',e,z1,z2⟩
theorem wNb {p:wAC} {L:Nat} (hL:p.Laps=L) (h0:0 < L) (h3:L <= 3) {pace:Int} (hp:300 <= pace/\pace <= 900) {t:wAD} {sk:Int} (hsk:0 <= sk/\sk < t.Classes.length) {legs:List wAB} (hlegs:legs.length <= 10) {d:wAA} {N:Int} (h:wBX d N) (hN:N <= 800000) {T:Nat} (hT:0 < T) (hT2:T <= 100) :
    ∃ (s':List Int × Int × Int × List wAB × Int) (l:wAB) (i:Nat),iter (S:=List Int × List (List Bool) × List Int × Int × Int × Int × Int) (B:=(List Int × Int × Int × List wAB × Int) ⊕ (List Int × Int × Int × List wAB)) (fun (l1152,l1156,l1161,x1164,x1165,x1166,x1167) =>
            if x1167 < p.Laps then
              if 0 < x1166 then
                (wAE (⟨l1161,x1164,x1165⟩:wAA) 200).bind fun (x1233,x1234) =>
                (app 8 l1152 [w64 (pace + x1233)]).bind fun x1253 =>
                if 0 < x1167 then
                  (wAP x1234).bind fun (x1315,x1316) =>
                  (app 24 l1156 [x1315]).bind fun x1344 =>
                  some (.inl (x1253,x1344,x1316.bytes,x1316.next,x1316.state,w64 (x1166 - 1),w64 (x1167 + 1)))
                else
                  some (.inl (x1253,l1156,x1234.bytes,x1234.next,x1234.state,w64 (x1166 - 1),w64 (x1167 + 1)))
              else
                esc ((app 56 legs [(⟨sk,l1152,l1156⟩:wAB)]).bind fun x1413 =>
                some (.inl (l1161,x1164,x1165,x1413,x1166)))
            else
              esc ((app 56 legs [(⟨sk,l1152,l1156⟩:wAB)]).bind fun x1464 =>
              some (.inl (l1161,x1164,x1165,x1464,x1166)))) big ([],[],d.bytes,d.next,d.state,(T:Int),0)=some (.inl s')/\wBX ⟨s'.1,s'.2.1,s'.2.2.1⟩ (N + 60)/\s'.2.2.2.1=legs ++ [l]/\wDc p t l/\l.Loops.length=i/\i <= L/\0 < i/\i <= T/\s'.2.2.2.2=((T - i:Nat):Int)/\(i=L \/ i=T):=by
  obtain ⟨b,e,s',l,i,rfl,z⟩:=wHf (S:=List Int × List (List Bool) × List Int × Int × Int × Int × Int) (B:=(List Int × Int × Int × List wAB × Int) ⊕ (List Int × Int × Int × List wAB)) (body:=fun (l1152,l1156,l1161,x1164,x1165,x1166,x1167) =>
            if x1167 < p.Laps then
              if 0 < x1166 then
                (wAE (⟨l1161,x1164,x1165⟩:wAA) 200).bind fun (x1233,x1234) =>
                (app 8 l1152 [w64 (pace + x1233)]).bind fun x1253 =>
                if 0 < x1167 then
                  (wAP x1234).bind fun (x1315,x1316) =>
                  (app 24 l1156 [x1315]).bind fun x1344 =>
                  some (.inl (x1253,x1344,x1316.bytes,x1316.next,x1316.state,w64 (x1166 - 1),w64 (x1167 + 1)))
                else
                  some (.inl (x1253,l1156,x1234.bytes,x1234.next,x1234.state,w64 (x1166 - 1),w64 (x1167 + 1)))
              else
                esc ((app 56 legs [(⟨sk,l1152,l1156⟩:wAB)]).bind fun x1413 =>
                some (.inl (l1161,x1164,x1165,x1413,x1166)))
            else
              esc ((app 56 legs [(⟨sk,l1152,l1156⟩:wAB)]).bind fun x1464 =>
              some (.inl (l1161,x1164,x1165,x1464,x1166))))
    (fun i s=>wBX ⟨s.2.2.1,s.2.2.2.1,s.2.2.2.2.1⟩ (N + 20 * (i:Int))/\s.1.length=i/\s.2.1.length=i - 1/\(∀ n ∈ s.1,1 <= n/\n <= 9000)/\(∀ b ∈ s.2.1,okB b)/\i <= T/\i <= L/\s.2.2.2.2.2.1=((T - i:Nat):Int)/\s.2.2.2.2.2.2=(i:Int))
    (fun b=>∃ s' l i,b=.inl s'/\wBX ⟨s'.1,s'.2.1,s'.2.2.1⟩ (N + 60)/\s'.2.2.2.1=legs ++ [l]/\wDc p t l/\l.Loops.length=i/\i <= L/\0 < i/\i <= T/\s'.2.2.2.2=((T - i:Nat):Int)/\(i=L \/ i=T)) L
    (by
      rintro i ⟨lo,bo,B,x,s,td,lp⟩ hi ⟨h1,h2,h4,h5,h6,h7,h8,h9,h10⟩
      simp only at h1 h2 h4 h5 h6 h9 h10 ⊢
      subst h9 h10
      have h1b:x <= N + 20 * (i:Int):=h1.2
      have done:0 < i->(i=L \/ i=T)->∃ b,(esc ((app 56 legs [(⟨sk,lo,bo⟩:wAB)]).bind fun x1413=>(some (.inl (B,x,s,x1413,((T - i:Nat):Int))):Option ((List Int × Int × Int × List wAB × Int) ⊕ (List Int × Int × Int × List wAB)))):Option ((List Int × List (List Bool) × List Int × Int × Int × Int × Int) ⊕ ((List Int × Int × Int × List wAB × Int) ⊕ (List Int × Int × Int × List wAB))))=some (.inr b)/\∃ s' l i,b=.inl s'/\wBX ⟨s'.1,s'.2.1,s'.2.2.1⟩ (N + 60)/\s'.2.2.2.1=legs ++ [l]/\wDc p t l/\l.Loops.length=i/\i <= L/\0 < i/\i <= T/\s'.2.2.2.2=((T - i:Nat):Int)/\(i=L \/ i=T):=by
        intro hi0 hiL
        rw [wCR (by simp;omega),hH]
        exact ⟨_,rfl,_,⟨sk,lo,bo⟩,i,rfl,⟨h1.1,by show x <= _;omega⟩,rfl,⟨by simp only;omega,by simp only;omega,h5,hsk,h6⟩,h2,h8,hi0,h7,rfl,hiL⟩
      rw [hL]
      by_cases c1:(i:Int) < (L:Int)
      · rw [if_pos c1]
        by_cases c2:(0:Int) < ((T - i:Nat):Int)
        · rw [if_pos c2]
          left
          refine ⟨by omega,?_⟩
          obtain ⟨n,d2,e1,g1,n0,n1⟩:=wEn h1 (by omega) 200
          rw [e1,hH]
          simp only
          rw [wAU (x:=pace + n) (by omega) (by omega),wCR (by simp;omega),hH,wAU (x:=((T - i:Nat):Int) - 1) (by omega) (by omega),wAU (x:=(i:Int) + 1) (by omega) (by omega)]
          have hlo:∀ q ∈ lo ++ [pace + n],1 <= q/\q <= 9000:=fun q hq=>by
            rcases nD.1 hq with hq | hq
            · exact h5 q hq
            · simp at hq
              omega
          by_cases c3:(0:Int) < (i:Int)
          · rw [if_pos c3]
            obtain ⟨f,d3,e2,g2,g3⟩:=wNa g1 (by omega)
            rw [e2,hH]
            simp only
            rw [wCR (by simp;omega),hH]
            refine ⟨_,rfl,⟨g2.1,by have:=g2.2;simp only;omega⟩,by simp [h2],by clear done;simp only [nY,nV,List.length_nil];omega,hlo,fun b hb=>?_,by omega,by omega,by simp only;omega,by simp only;omega⟩
            rcases nD.1 hb with hb | hb
            · exact h6 b hb
            · simp at hb
              subst hb
              exact g3
          · rw [if_neg c3]
            exact ⟨_,rfl,⟨g1.1,by have:=g1.2;simp only;omega⟩,by simp [h2],by simp only;omega,hlo,h6,by omega,by omega,by simp only;omega,by simp only;omega⟩
        · rw [if_neg c2]
          right
          exact done (by omega) (by omega)
      · rw [if_neg c1]
        right
        exact done (by omega) (by omega)) (s0:=([],[],d.bytes,d.next,d.state,(T:Int),0)) ⟨⟨h.1,by have:=h.2;simp only;omega⟩,rfl,rfl,fun n hn=>by simp at hn,fun b hb=>by simp at hb,by omega,by omega,by simp,rfl⟩ (by omega)
  exact ⟨s',l,i,e,z⟩
theorem wIP {p:wAC} {L C:Nat} (hL:p.Laps=L) (h0:0 < L) (h3:L <= 3) (hC:C <= 4) {pace:Int} (hp:300 <= pace/\pace <= 900) {t:wAD} {n:Nat} (hn:t.Classes.length=n) (hn1:1 <= n) {d:wAA} {N:Int} (h:wBX d N) (hN:N <= 700000) {T:Nat} (hT:T <= C * L) :
    ∃ s':List Int × Int × Int × List wAB,iter (S:=List Int × Int × Int × List wAB × Int) (B:=List Int × Int × Int × List wAB) (fun (l1029,x1032,x1033,l1034,x1039) =>
        if 0 < x1039 then
          (wAE (⟨l1029,x1032,x1033⟩:wAA) (n:Int)).bind fun (x1064,x1065) =>
          iter (fun (l1152,l1156,l1161,x1164,x1165,x1166,x1167) =>
            if x1167 < p.Laps then
              if 0 < x1166 then
                (wAE (⟨l1161,x1164,x1165⟩:wAA) 200).bind fun (x1233,x1234) =>
                (app 8 l1152 [w64 (pace + x1233)]).bind fun x1253 =>
                if 0 < x1167 then
                  (wAP x1234).bind fun (x1315,x1316) =>
                  (app 24 l1156 [x1315]).bind fun x1344 =>
                  some (.inl (x1253,x1344,x1316.bytes,x1316.next,x1316.state,w64 (x1166 - 1),w64 (x1167 + 1)))
                else
                  some (.inl (x1253,l1156,x1234.bytes,x1234.next,x1234.state,w64 (x1166 - 1),w64 (x1167 + 1)))
              else
                esc ((app 56 l1034 [(⟨x1064,l1152,l1156⟩:wAB)]).bind fun x1413 =>
                some (.inl (l1161,x1164,x1165,x1413,x1166)))
            else
              esc ((app 56 l1034 [(⟨x1064,l1152,l1156⟩:wAB)]).bind fun x1464 =>
              some (.inl (l1161,x1164,x1165,x1464,x1166)))) big ([],[],x1065.bytes,x1065.next,x1065.state,x1039,0)
        else
          esc (some (l1029,x1032,x1033,l1034))) big (d.bytes,d.next,d.state,[],(T:Int))=some s'/\wBX ⟨s'.1,s'.2.1,s'.2.2.1⟩ (N + 300)/\s'.2.2.2.length <= C/\(∀ k,k + 1 < s'.2.2.2.length->((gd s'.2.2.2 k).Loops.length:Int)=p.Laps)/\∀ l ∈ s'.2.2.2,wDc p t l:=by
  have hT12:T <= 12:=na hT (na (kH hC h3) (by omega))
  obtain ⟨b,e,z⟩:=wHf (S:=List Int × Int × Int × List wAB × Int) (B:=List Int × Int × Int × List wAB) (body:=fun (l1029,x1032,x1033,l1034,x1039) =>
        if 0 < x1039 then
          (wAE (⟨l1029,x1032,x1033⟩:wAA) (n:Int)).bind fun (x1064,x1065) =>
          iter (fun (l1152,l1156,l1161,x1164,x1165,x1166,x1167) =>
            if x1167 < p.Laps then
              if 0 < x1166 then
                (wAE (⟨l1161,x1164,x1165⟩:wAA) 200).bind fun (x1233,x1234) =>
                (app 8 l1152 [w64 (pace + x1233)]).bind fun x1253 =>
                if 0 < x1167 then
                  (wAP x1234).bind fun (x1315,x1316) =>
                  (app 24 l1156 [x1315]).bind fun x1344 =>
                  some (.inl (x1253,x1344,x1316.bytes,x1316.next,x1316.state,w64 (x1166 - 1),w64 (x1167 + 1)))
                else
                  some (.inl (x1253,l1156,x1234.bytes,x1234.next,x1234.state,w64 (x1166 - 1),w64 (x1167 + 1)))
              else
                esc ((app 56 l1034 [(⟨x1064,l1152,l1156⟩:wAB)]).bind fun x1413 =>
                some (.inl (l1161,x1164,x1165,x1413,x1166)))
            else
              esc ((app 56 l1034 [(⟨x1064,l1152,l1156⟩:wAB)]).bind fun x1464 =>
              some (.inl (l1161,x1164,x1165,x1464,x1166)))) big ([],[],x1065.bytes,x1065.next,x1065.state,x1039,0)
        else
          esc (some (l1029,x1032,x1033,l1034)))
    (fun j s=>wBX ⟨s.1,s.2.1,s.2.2.1⟩ (N + 61 * (j:Int))/\s.2.2.2.1.length=j/\j <= C/\(∀ l ∈ s.2.2.2.1,wDc p t l)/\∃ td:Nat,s.2.2.2.2=(td:Int)/\td <= T/\(0 < td->j * L + td=T)/\(∀ k,k + 1 < j->((gd s.2.2.2.1 k).Loops.length:Int)=p.Laps)/\(0 < td->∀ k,k < j->((gd s.2.2.2.1 k).Loops.length:Int)=p.Laps))
    (fun s'=>wBX ⟨s'.1,s'.2.1,s'.2.2.1⟩ (N + 300)/\s'.2.2.2.length <= C/\(∀ k,k + 1 < s'.2.2.2.length->((gd s'.2.2.2 k).Loops.length:Int)=p.Laps)/\∀ l ∈ s'.2.2.2,wDc p t l) C
    (by
      rintro j ⟨B,x,s,legs,td0⟩ hj ⟨h1,h2,h4,h5,td,h6,h7,h8,h9,h10⟩
      simp only at h1 h2 h5 h6 h9 h10 ⊢
      subst h6
      by_cases c1:(0:Int) < (td:Int)
      · rw [if_pos c1]
        left
        have c1':0 < td:=by omega
        have hjC:j < C:=by
          have:=h8 c1'
          exact Nat.lt_of_mul_lt_mul_right (a:=L) (by omega)
        refine ⟨hjC,?_⟩
        obtain ⟨sk,d2,e1,g1,k0,k1⟩:=wEn h1 (by omega) (n:Int)
        rw [e1,hH]
        simp only
        obtain ⟨s',l,i,f1,f2,f3,f4,f5,f6,f7,f8,f9,f10⟩:=wNb (p:=p) hL h0 h3 hp (t:=t) (sk:=sk) ⟨k0,by omega⟩ (legs:=legs) (by omega) g1 (by omega) c1' (by omega)
        refine ⟨s',f1,⟨f2.1,by have:=f2.2;omega⟩,by rw [f3];simp [h2],by omega,fun a ha=>?_,td - i,f9,by omega,fun hq=>?_,fun k hk=>?_,fun hq k hk=>?_⟩
        · rw [f3] at ha
          rcases nD.1 ha with ha | ha
          · exact h5 a ha
          · simp at ha
            subst ha
            exact f4
        · have:=h8 c1'
          have hiL:i=L:=by omega
          rw [Nat.add_mul]
          omega
        · rw [f3,wEm (by omega)]
          exact h10 c1' k (by omega)
        · have hiL:i=L:=by omega
          rw [f3]
          rcases np k j with hk2 | hk2
          · rw [wEm (by omega)]
            exact h10 c1' k hk2
          · have:k=legs.length:=by omega
            subst this
            rw [wJx]
            omega
      · rw [if_neg c1]
        right
        have h1b:x <= N + 61 * (j:Int):=h1.2
        exact ⟨_,rfl,⟨h1.1,by show x <= _;omega⟩,by simp only;omega,fun k hk=>h9 k (by simp only at hk;omega),h5⟩) (s0:=(d.bytes,d.next,d.state,[],(T:Int))) ⟨⟨h.1,by have:=h.2;simp only;omega⟩,rfl,by omega,fun l hl=>by simp at hl,T,rfl,nJ _,fun _=>by omega,fun k hk=>by omega,fun _ k hk=>by omega⟩ (by omega)
  exact ⟨b,e,z⟩
end Go.Proofs.YtnbcoenjobdplaaGreat
namespace Go.Proofs.YtnbcoenjobdplaaGreat
open Go.KL
theorem wKD {N:Int} {n:Nat} (hn:n <= 10) {d:wAA} (h:wBX d N) (hN:N <= 900000):∃ s':List Int × Int × Int × List Int,(wCv 0 (n:Int) (fun (k204:Nat) ((l195,x198,x199,l200):List Int × Int × Int × List Int) =>
      (wAE (⟨l195,x198,x199⟩:wAA) 2).bind fun (x269,x270) =>
      (app 8 l200 [x269]).bind fun x288 =>
      some (x270.bytes,x270.next,x270.state,x288)) (d.bytes,d.next,d.state,[]))=some s'/\wBX ⟨s'.1,s'.2.1,s'.2.2.1⟩ (N + 10)/\s'.2.2.2.length=n/\∀ c ∈ s'.2.2.2,0 <= c/\c <= 3:=by
  rw [wDt (by omega)]
  obtain ⟨s',e,i1,i2,i3⟩:=wEi (S:=List Int × Int × Int × List Int) (body:=fun (k204:Nat) ((l195,x198,x199,l200):List Int × Int × Int × List Int) =>
      (wAE (⟨l195,x198,x199⟩:wAA) 2).bind fun (x269,x270) =>
      (app 8 l200 [x269]).bind fun x288 =>
      some (x270.bytes,x270.next,x270.state,x288)) (fun k s=>wBX ⟨s.1,s.2.1,s.2.2.1⟩ (N + (k:Int))/\s.2.2.2.length=k/\∀ c ∈ s.2.2.2,0 <= c/\c <= 3) n 0 (d.bytes,d.next,d.state,[]) ⟨⟨h.1,by have:=h.2;simp only;omega⟩,rfl,fun c hc=>by simp at hc⟩
    (by
      rintro k ⟨B,x,s,l⟩ _ hk ⟨i1,i2,i3⟩
      simp only at i1 i2 i3 ⊢
      obtain ⟨c,d2,e1,g1,c0,c1⟩:=wEn i1 (by omega) 2
      rw [e1,hH]
      simp only
      rw [wCR (by simp;omega),hH]
      refine ⟨_,rfl,⟨g1.1,by have:=g1.2;simp only;omega⟩,by simp [i2],fun a ha=>?_⟩
      rcases nD.1 ha with ha | ha
      · exact i3 a ha
      · simp at ha
        omega)
  rw [ni] at i1 i2
  exact ⟨s',e,⟨i1.1,by have:=i1.2;omega⟩,i2,i3⟩
theorem wNc {d:wAA} {N:Int} (h:wBX d N) (hN:N <= 800000) {m:Int} (hm:1 <= m/\m <= 4):∃ p d',wBP d m=some (p,d')/\wBX d' (N + 16)/\wDC p/\p.Laps <= 3/\(p.Classes.length:Int) <= m:=by
 unfold wBP
 obtain ⟨a1,d1,e1,g1,u1,v1⟩:=wGX h (by omega) (a:=1) (b:=2) (by omega) (by omega) (by omega)
 rw [e1,hH];simp only
 obtain ⟨a2,d2,e2,g2,u2,v2⟩:=wGX g1 (by omega) (a:=1) (b:=3) (by omega) (by omega) (by omega)
 rw [e2,hH];simp only
 obtain ⟨a3,d3,e3,g3,u3,v3⟩:=wEn g2 (by omega) 100
 rw [e3,hH];simp only
 obtain ⟨a4,d4,e4,g4,u4,v4⟩:=wEn g3 (by omega) 100
 rw [e4,hH];simp only
 obtain ⟨a5,d5,e5,g5,u5,v5⟩:=wEn g4 (by omega) 13
 rw [e5,hH];simp only
 obtain ⟨a6,d6,e6,g6,u6,v6⟩:=wGX g5 (by omega) (a:=1) (b:=m) (by omega) (by omega) (by omega)
 rw [e6,hH];simp only
 obtain ⟨n,rfl⟩:∃ n:Nat,a6=n:=⟨a6.toNat,by omega⟩
 obtain ⟨⟨sB,sx,ss,sl⟩,e7,g7,i2,i3⟩:=wKD (n:=n) (by omega) g6 (by omega)
 simp only at g7 i2 i3
 rw [e7,hH];simp only
 rw [wAU (x:=200 + a4) (by omega) (by omega),wAU (x:=100 * a5) (by omega) (by omega)]
 refine ⟨_,_,rfl,⟨g7.1,by have:=g7.2;omega⟩,⟨by simp only;omega,i3,by simp only;omega,by simp only;omega,by simp only;omega,by simp only;omega,by simp only;omega⟩,by simp only;omega,by simp only;omega⟩
theorem wPV {d:wAA} {N:Int} (h:wBX d N) (hN:N <= 1000) {m q:Int} (hm:1 <= m/\m <= 8) (hq:1 <= q/\q <= 4):∃ r d',wBI d m q=some (r,d')/\wFC r/\r.Rules.Laps <= 3/\(r.Teams.length:Int) <= m:=by
 unfold wBI
 obtain ⟨p,d1,e1,g1,gp,hl3,_⟩:=wNc h (by omega) hq
 rw [e1,hH];simp only
 obtain ⟨st,d2,e2,g2,u2,v2⟩:=wEn g1 (by omega) 50
 rw [e2,hH];simp only
 obtain ⟨nt,d3,e3,g3,u3,v3⟩:=wGX g2 (by omega) (a:=1) (b:=m) (by omega) (by omega) (by omega)
 rw [e3,hH];simp only
 obtain ⟨n,rfl⟩:∃ n:Nat,nt=n:=⟨nt.toNat,by omega⟩
 have hlap:=gp.laps;have hcl:=gp.n
 obtain ⟨L,hL⟩:∃ L:Nat,p.Laps=L:=⟨p.Laps.toNat,by omega⟩
 rw [wDt (by omega)]
 obtain ⟨s',e,i1,i2,i3,i4,i5⟩:=wEi (S:=List Int × Int × Int × List wAD) (body:=fun k102 (l92,x95,x96,l97) =>
  (wAK (⟨l92,x95,x96⟩:wAA) 1 9).bind fun (x131,x132) =>
  (wAK x132 1 5).bind fun (x152,x153) =>
  (wCv 0 x152 (fun k204 (l195,x198,x199,l200) =>
   (wAE (⟨l195,x198,x199⟩:wAA) 2).bind fun (x269,x270) =>
   (app 8 l200 [x269]).bind fun x288 =>
   some (x270.bytes,x270.next,x270.state,x288)) (x153.bytes,x153.next,x153.state,[])).bind fun (y209,y210,y211,y212) =>
  (wAK (⟨y209,y210,y211⟩:wAA) 300 900).bind fun (x355,x356) =>
  (wAO x356 4).bind fun (x369,x370) =>
  if x369=true then
   (wAE x370 (w64 ((w64 ((↑p.Classes.length:Int) * p.Laps)) + 1))).bind fun (x385,x386) =>
   (iter (fun (l443,x446,x447,l448,x453) =>
    if 0 < x453 then
     (wAE (⟨l443,x446,x447⟩:wAA) (↑y212.length:Int)).bind fun (x478,x479) =>
     iter (fun (l566,l570,l575,x578,x579,x580,x581) =>
      if x581 < p.Laps then
       if 0 < x580 then
        (wAE (⟨l575,x578,x579⟩:wAA) 200).bind fun (x647,x648) =>
        (app 8 l566 [w64 (x355 + x647)]).bind fun x667 =>
        if 0 < x581 then
         (wAP x648).bind fun (x729,x730) =>
         (app 24 l570 [x729]).bind fun x758 =>
         some (.inl (x667,x758,x730.bytes,x730.next,x730.state,w64 (x580 - 1),w64 (x581 + 1)))
        else
         some (.inl (x667,l570,x648.bytes,x648.next,x648.state,w64 (x580 - 1),w64 (x581 + 1)))
       else
        esc ((app 56 l448 [(⟨x478,l566,l570⟩:wAB)]).bind fun x827 =>
        some (.inl (l575,x578,x579,x827,x580)))
      else
       esc ((app 56 l448 [(⟨x478,l566,l570⟩:wAB)]).bind fun x878 =>
       some (.inl (l575,x578,x579,x878,x580)))) big ([],[],x479.bytes,x479.next,x479.state,x453,0)
    else
     esc (some (l443,x446,x447,l448))) big (x386.bytes,x386.next,x386.state,[],x385)).bind fun (l399,x402,x403,l404) =>
   (app 56 l97 [(⟨w64 ((w64 (9 * (↑k102:Int))) + x131),y212,l404⟩:wAD)]).bind fun x951 =>
   some (l399,x402,x403,x951)
  else
   (iter (fun (l1029,x1032,x1033,l1034,x1039) =>
    if 0 < x1039 then
     (wAE (⟨l1029,x1032,x1033⟩:wAA) (↑y212.length:Int)).bind fun (x1064,x1065) =>
     iter (fun (l1152,l1156,l1161,x1164,x1165,x1166,x1167) =>
      if x1167 < p.Laps then
       if 0 < x1166 then
        (wAE (⟨l1161,x1164,x1165⟩:wAA) 200).bind fun (x1233,x1234) =>
        (app 8 l1152 [w64 (x355 + x1233)]).bind fun x1253 =>
        if 0 < x1167 then
         (wAP x1234).bind fun (x1315,x1316) =>
         (app 24 l1156 [x1315]).bind fun x1344 =>
         some (.inl (x1253,x1344,x1316.bytes,x1316.next,x1316.state,w64 (x1166 - 1),w64 (x1167 + 1)))
        else
         some (.inl (x1253,l1156,x1234.bytes,x1234.next,x1234.state,w64 (x1166 - 1),w64 (x1167 + 1)))
       else
        esc ((app 56 l1034 [(⟨x1064,l1152,l1156⟩:wAB)]).bind fun x1413 =>
        some (.inl (l1161,x1164,x1165,x1413,x1166)))
      else
       esc ((app 56 l1034 [(⟨x1064,l1152,l1156⟩:wAB)]).bind fun x1464 =>
       some (.inl (l1161,x1164,x1165,x1464,x1166)))) big ([],[],x1065.bytes,x1065.next,x1065.state,x1039,0)
    else
     esc (some (l1029,x1032,x1033,l1034))) big (x370.bytes,x370.next,x370.state,[],w64 ((↑p.Classes.length:Int) * p.Laps))).bind fun (l985,x988,x989,l990) =>
   (app 56 l97 [(⟨w64 ((w64 (9 * (↑k102:Int))) + x131),y212,l990⟩:wAD)]).bind fun x1537 =>
   some (l985,x988,x989,x1537)) (fun k s=>wBX ⟨s.1,s.2.1,s.2.2.1⟩ (N + 20 + 400 * (k:Int))/\s.2.2.2.length=k/\(∀ t ∈ s.2.2.2,wMh p t)/\(s.2.2.2.map (·.Bib)).Nodup/\∀ t ∈ s.2.2.2,t.Bib <= 9 * (k:Int)) n 0 (d3.bytes,d3.next,d3.state,[]) ⟨⟨g3.1,by have:=g3.2;simp only;omega⟩,rfl,fun t ht=>by simp at ht,by simp,fun t ht=>by simp at ht⟩
  (by
   rintro k ⟨B,x,s,tm⟩ _ hk ⟨i1,i2,i3,i4,i5⟩
   simp only at i1 i2 i3 i4 i5 ⊢
   obtain ⟨b,f1,q1,y1,y2,y3⟩:=wGX i1 (by omega) (a:=1) (b:=9) (by omega) (by omega) (by omega)
   rw [q1,hH];simp only
   obtain ⟨nc,f2,q2,y4,y5,y6⟩:=wGX y1 (by omega) (a:=1) (b:=5) (by omega) (by omega) (by omega)
   rw [q2,hH];simp only
   obtain ⟨nn,rfl⟩:∃ n:Nat,nc=n:=⟨nc.toNat,by omega⟩
   obtain ⟨cs,q3,y7,y8,y9⟩:=wKD (n:=nn) (by omega) y4 (by omega)
   obtain ⟨cB,cx,cst,cl⟩:=cs
   simp only at y7 y8 y9
   rw [q3,hH];simp only
   obtain ⟨pace,f4,q4,z1,z2,z3⟩:=wGX y7 (by omega) (a:=300) (b:=900) (by omega) (by omega) (by omega)
   rw [q4,hH];simp only
   obtain ⟨coin,f5,q5,z4⟩:=wKC z1 (by omega) 4
   rw [q5,hH];simp only
   rw [y8]
   have hCL:w64 ((p.Classes.length:Int) * p.Laps)=((p.Classes.length * L:Nat):Int)/\p.Classes.length * L <= 12:=by
    have:p.Classes.length * L <= 4 * 3:=kH hcl.2 (by omega)
    rw [hL,show (p.Classes.length:Int) * (L:Int)=((p.Classes.length * L:Nat):Int) by rw [Int.natCast_mul],wAU (by omega) (by omega)]
    exact ⟨rfl,by omega⟩
   have fin:∀ (lg:List wAB) (d6:wAA),wBX d6 (N + 20 + 400 * ((k + 1:Nat):Int))->lg.length <= p.Classes.length->(∀ q,q + 1 < lg.length->((gd lg q).Loops.length:Int)=p.Laps)->(∀ l ∈ lg,wDc p ⟨9 * (k:Int) + b,cl,lg⟩ l) ->
     ∃ s',((app 56 tm [(⟨w64 ((w64 (9 * (↑k:Int))) + b),cl,lg⟩:wAD)]).bind fun x951=>some (d6.bytes,d6.next,d6.state,x951))=some s'/\wBX ⟨s'.1,s'.2.1,s'.2.2.1⟩ (N + 20 + 400 * ((k + 1:Nat):Int))/\s'.2.2.2.length=k + 1/\(∀ t ∈ s'.2.2.2,wMh p t)/\(s'.2.2.2.map (·.Bib)).Nodup/\∀ t ∈ s'.2.2.2,t.Bib <= 9 * ((k + 1:Nat):Int):=by
    intro lg d6 hd hlen hfull hgood
    rw [wAU (x:=9 * (k:Int)) (by omega) (by omega),wAU (by omega) (by omega),wCR (by simp;omega),hH]
    refine ⟨_,rfl,hd,by simp [i2],fun t ht=>?_,?_,fun t ht=>?_⟩
    ·rcases nD.1 ht with ht | ht
     ·exact i3 t ht
     ·simp only [nH,no,or_false] at ht
      subst ht
      exact ⟨by simp only;omega,by simp only;omega,y9,hlen,hfull,hgood⟩
    ·simp only [nZ,nv,List.map_nil]
     rw [kR]
     refine ⟨i4,by simp,fun a ha c hc=>?_⟩
     obtain ⟨t,ht,rfl⟩:=nz.1 ha
     simp only [nH,no,or_false] at hc
     have:=i5 t ht
     omega
    ·rcases nD.1 ht with ht | ht
     ·have:=i5 t ht
      omega
     ·simp only [nH,no,or_false] at ht
      subst ht
      simp only
      omega
   cases coin with
   | true =>
    rw [if_pos rfl,hCL.1,wAU (by omega) (by omega)]
    obtain ⟨td,f6,q6,z5,t0,t1⟩:=wEn z4 (by omega) (((p.Classes.length * L:Nat):Int) + 1)
    rw [q6,hH];simp only
    obtain ⟨T,rfl⟩:∃ T:Nat,td=T:=⟨td.toNat,by omega⟩
    obtain ⟨⟨wB,wx,ws,lg⟩,q7,w1,w2,w3,w4⟩:=wIP (p:=p) (C:=p.Classes.length) hL (by omega) (by omega) hcl.2 (pace:=pace) ⟨z2,z3⟩ (t:=⟨9 * (k:Int) + b,cl,[]⟩) (n:=nn) y8 (by omega) z5 (by omega) (T:=T) (by omega)
    rw [q7,hH];simp only at w1 w2 w3 w4 ⊢
    exact fin lg ⟨wB,wx,ws⟩ ⟨w1.1,by have:=w1.2;simp only at this ⊢;omega⟩ w2 w3 fun l hl=>⟨(w4 l hl).le,(w4 l hl).bouts,(w4 l hl).loops,(w4 l hl).skier,(w4 l hl).ok⟩
   | false =>
    rw [if_neg (by decide),hCL.1]
    obtain ⟨⟨wB,wx,ws,lg⟩,q7,w1,w2,w3,w4⟩:=wIP (p:=p) (C:=p.Classes.length) hL (by omega) (by omega) hcl.2 (pace:=pace) ⟨z2,z3⟩ (t:=⟨9 * (k:Int) + b,cl,[]⟩) (n:=nn) y8 (by omega) z4 (by omega) (T:=p.Classes.length * L) (nJ _)
    rw [q7,hH];simp only at w1 w2 w3 w4 ⊢
    exact fin lg ⟨wB,wx,ws⟩ ⟨w1.1,by have:=w1.2;simp only at this ⊢;omega⟩ w2 w3 fun l hl=>⟨(w4 l hl).le,(w4 l hl).bouts,(w4 l hl).loops,(w4 l hl).skier,(w4 l hl).ok⟩)
 obtain ⟨sB,sx,ss,tm⟩:=s'
 rw [e,hH];simp only at i1 i2 i3 i4 i5 ⊢
 exact ⟨_,_,rfl,⟨gp,by simp only;omega,by simp only;omega,i3,i4⟩,hl3,by simp only;omega⟩
end Go.Proofs.YtnbcoenjobdplaaGreat
namespace Go.Proofs.YtnbcoenjobdplaaGreat
open Go.KL
theorem wGY {l:List Int} (h:l.length <= 1000):wAg l=some l:=by
 unfold wAg
 rw [wCR (by simp;omega)]
 rfl
theorem wKk {l:List Bool} (h:l.length <= 1000):wAx l=some l:=by
 unfold wAx
 rw [wCR (by simp;omega)]
 rfl
theorem wMk {l:List (List Bool)} (h:l.length <= 1000) (hb:∀ b ∈ l,b.length <= 1000):wAl l=some l:=by
 unfold wAl
 rw [wCh (fun k=>l.take k) (s0:=[]) (by simp) (by omega) fun k hk=>?_]
 ·rw [nW];rfl
 ·rw [wAt hk,hH,wKk (hb _ (wBJ hk)),hH,wCR (by simp;omega),hH,wEQ hk]
theorem wJN {p:wAC} (h:p.Classes.length <= 1000):wAp p=some p:=by
 unfold wAp
 rw [wGY h]
 rfl
theorem wNd {r:wAF} (g:wFC r):wAf r=some r:=by
 unfold wAf
 have hn:=g.n;have hc:=g.rules.n;have hL:=g.rules.laps
 rw [wJN (by omega),hH,hH]
 simp only
 rw [wCh (fun k=>r.Teams.take k) (s0:=[]) (by simp) (by omega) fun i hi=>?_]
 ·rw [nW];rfl
 ·have ht:=g.team _ (wBJ hi)
  have h1:=ht.n;have h2:=ht.legs
  rw [wAt hi,hH,wGY (by omega),hH,hH,wCh (fun k=>(gd r.Teams i).Legs.take k) (s0:=[]) (by simp) (by omega) fun k hk=>?_]
  ·rw [hH,nW,wCR (by simp;omega),hH,wEQ hi]
  ·have hl:=ht.leg _ (wBJ hk)
   have g1:=hl.le;have g2:=hl.bouts
   rw [wAt hk,hH,wGY (by omega),hH,wMk (by omega) (fun b hb=>by have:=(hl.ok b hb).2.1;omega),hH,wCR (by simp;omega),hH,wEQ hk]
end Go.Proofs.YtnbcoenjobdplaaGreat
namespace Go.Proofs.YtnbcoenjobdplaaGreat
open Go.KL
theorem wJO {r:wAF} (g:wFC r):wBF r=some (wMi r,0):=by
 unfold wBF
 rw [wNY g]
 simp only [hH,if_true]
 rw [wPS g,hH]
end Go.Proofs.YtnbcoenjobdplaaGreat
namespace Go.Proofs.YtnbcoenjobdplaaGreat
open Go.KL
def cnt:List Bool->Nat
 | []=>0
 | b :: l=>(if b=true then 1 else 0) + cnt l
theorem wKE:∀ {l:List Bool} {k m:Nat},wBf l k=some m->m=k + cnt l
 | [],k,m,h=>by cases h;simp [cnt]
 | b :: l,k,m,h=>by
  rw [wBf] at h
  split at h
  ·cases h
  ·have:=wKE h
   rw [cnt];omega
theorem wHg:∀ {l:List Bool} {k:Nat},k + cnt l <= 4->wBf l k=some (k + cnt l)
 | [],k,_=>by simp [wBf,cnt]
 | b :: l,k,h=>by
  rw [cnt] at h
  rw [wBf,if_neg (by omega),wHg (l:=l) (by omega),cnt]
  congr 1;omega
theorem wMl:∀ a b:List Bool,cnt (a ++ b)=cnt a + cnt b
 | [],b=>by simp [cnt]
 | x :: a,b=>by rw [nI,cnt,cnt,wMl a b];omega
theorem wMm:∀ {l:List Bool} {k:Nat},k < l.length->gd l k=false->cnt (l.set k true)=cnt l + 1
 | [],k,h,_=>by simp at h
 | b :: l,0,_,h=>by
  have:b=false:=h
  subst this
  simp [cnt];omega
 | b :: l,k + 1,h,e=>by
  have:=wMm (l:=l) (k:=k) (by simpa using h) e
  rw [kP,cnt,cnt,this];omega
theorem wIQ:∀ (l:List Bool) (b:Bool) (k:Nat),wBf (l ++ [b]) k=(wBf l k).bind fun m=>if m=5 then none else some (m + if b=true then 1 else 0)
 | [],b,k=>rfl
 | a :: l,b,k=>by
  rw [nI,wBf,wBf]
  split
  ·rfl
  ·exact wIQ l b _
theorem wQp {b:List Bool} (h:okB b) {m:Nat} (hm:m < b.length) (hf:gd b m=false) (hc:1 < 5 - (wCA b:Int) \/ 5 - (wCA b:Int)=1/\m=b.length - 1):okB (b.set m true)/\wCA (b.set m true)=wCA b + 1:=by
 obtain ⟨h1,h2,q,hq⟩:=h
 have hn:wCA b=q:=by unfold wCA;rw [hq];rfl
 have hcq:=wKE hq
 have hs:=wMm hm hf
 rw [hn] at hc ⊢
 have key:wBf (b.set m true) 0=some (q + 1):=by
  rcases hc with hc | ⟨hc,hl⟩
  ·rw [wHg (by omega),hs];congr 1;omega
  ·have e:b=b.take m ++ [false]:=by
    have:=kD m b
    rw [wMg hm,hf,nl (by omega)] at this
    exact this.symm
   have e2:b.set m true=b.take m ++ [true]:=by
    refine wOH (by simp;omega) fun k hk=>?_
    rw [nL] at hk
    have ht:(b.take m).length=m:=by simp;omega
    rw [wIO hm hk]
    by_cases c:k=m
    ·subst c
     rw [if_pos rfl]
     have:=wJx (b.take k) [] true
     rw [ht] at this
     exact this.symm
    ·rw [if_neg c,wEm (by omega)]
     have:=wEm (l:=b.take m) (m:=[false]) (k:=k) (by omega)
     rw [<- e] at this
     exact this
   have hct:cnt (b.take m)=4:=by
    have:=congrArg cnt e
    rw [wMl] at this
    simp [cnt] at this
    omega
   rw [e2,wIQ,wHg (by omega),hH,if_neg (by omega)]
   simp;omega
 exact ⟨⟨by simpa using h1,by simpa using h2,_,key⟩,by unfold wCA;rw [key];rfl⟩
theorem wQq {p:wAC} {b b':List Bool} (hl:b'.length=b.length) (hh:wCA b'=wCA b + 1):bc p b'=bc p b - p.Loop:=by
 unfold bc
 rw [hl,hh]
 have e:(5 - ((wCA b + 1:Nat):Int))=(5 - (wCA b:Int)) - 1:=by omega
 have e2:=Int.sub_mul (5 - (wCA b:Int)) 1 p.Loop
 rw [Int.one_mul] at e2
 rw [e,e2]
 omega
def Sh (c:Int) (f:Nat) (a b:List Int):Prop:=b.length=a.length/\∀ q,q < a.length->gd b q=gd a q - if f <= q then c else 0
theorem wHh {a b:List Int} {q:Nat} (h:q < a.length + b.length):gd (a ++ b) q=if q < a.length then gd a q else gd b (q - a.length):=by
 by_cases c:q < a.length
 ·rw [if_pos c];exact wEm c
 ·rw [if_neg c]
  have h1:=wDZ (xs:=a ++ b) (k:=q) (by simpa using h)
  rw [nw (by omega),wDZ (by omega)] at h1
  exact (nE h1).symm
theorem Sh.app {c:Int} {f g:Nat} {a b a' b':List Int} (h:Sh c f a a') (h':Sh c g b b') (hf:g=0/\f <= a.length \/ f=a.length + g):Sh c f (a ++ b) (a' ++ b'):=by
 refine ⟨by simp [h.1,h'.1],fun q hq=>?_⟩
 rw [nY] at hq
 rw [wHh hq,wHh (by rw [h.1,h'.1];exact hq),h.1]
 by_cases c1:q < a.length
 ·rw [if_pos c1,if_pos c1,h.2 q c1]
 ·rw [if_neg c1,if_neg c1,h'.2 _ (by omega)]
  have:(g <= q - a.length) ↔ f <= q:=by omega
  simp only [this]
theorem Sh.refl {c:Int} {f:Nat} {a:List Int} (h:a.length <= f):Sh c f a a:=⟨rfl,fun q hq=>by rw [if_neg (by omega)];omega⟩
theorem wJP (p:wAC) (l:wAB) (x c:Int):∀ k,tAt p l (x - c) k=tAt p l x k - c
 | 0=>rfl
 | k + 1=>by rw [tAt,tAt,wJP p l x c k];omega
theorem wCT (p:wAC) (l:wAB) (x:Int):(wIM p l x).length=l.Loops.length:=by simp [wIM]
theorem wFF {p:wAC} {l:wAB} {x:Int} {q:Nat} (h:q < l.Loops.length):gd (wIM p l x) q=tAt p l x (q + 1):=by
 unfold wIM
 rw [wFB _ (by simpa using h),gd_is (by simpa using h)]
 simp
theorem wIR (p:wAC) (c:Int):∀ (l:List wAB) (x:Int),Sh c 0 (wBq p l x) (wBq p l (x - c))
 | [],x=>⟨rfl,fun q hq=>by simp [wBq] at hq⟩
 | a :: l,x=>by
  rw [wBq,wBq]
  have h1:Sh c 0 (wIM p a x) (wIM p a (x - c)):=⟨by rw [wCT,wCT],fun q hq=>by
   rw [wCT] at hq
   rw [wFF hq,wFF hq,wJP,if_pos (nk _)]⟩
  have h2:wHj p a (x - c)=wHj p a x - c:=wJP p a x c _
  rw [h2]
  exact h1.app (wIR p c l _) (.inl ⟨rfl,nk _⟩)
structure wPw (p:wAC) (n:Nat) (l l':wAB):Prop where
 loops:l'.Loops=l.Loops
 nn:n + 1 < l.Loops.length
 same:∀ k,k ≠ n->k + 1 < l.Loops.length->gd l'.Bouts k=gd l.Bouts k
 hit:bc p (gd l'.Bouts n)=bc p (gd l.Bouts n) - p.Loop
theorem wJQ {p:wAC} {n:Nat} {l l':wAB} (h:wPw p n l l') (x:Int):∀ k,k <= l.Loops.length->tAt p l' x k=tAt p l x k - if n + 2 <= k then p.Loop else 0
 | 0,_=>by rw [if_neg (by omega)];simp [tAt]
 | k + 1,hk=>by
  rw [tAt,tAt,wJQ h x k (by omega),h.loops]
  by_cases c:k=n + 1
  ·subst c
   rw [if_neg (by omega),if_pos (by omega),if_pos (by omega),if_pos (by omega),Nat.add_sub_cancel,h.hit]
   omega
  ·by_cases c0:0 < k
   ·rw [if_pos c0,if_pos c0,h.same (k - 1) (by omega) (by omega)]
    by_cases c2:n + 2 <= k
    ·rw [if_pos c2,if_pos (by omega)];omega
    ·rw [if_neg c2,if_neg (by omega)];omega
   ·rw [if_neg c0,if_neg c0,if_neg (by omega),if_neg (by omega)];omega
theorem wNe {p:wAC} {n:Nat} {l l':wAB} (h:wPw p n l l') (x:Int):Sh p.Loop (n + 1) (wIM p l x) (wIM p l' x):=⟨by rw [wCT,wCT,h.loops],fun q hq=>by
 rw [wCT] at hq
 rw [wFF hq,wFF (by rw [h.loops];exact hq),wJQ h x (q + 1) (by omega)]
 have:(n + 2 <= q + 1) ↔ n + 1 <= q:=by omega
 simp only [this]⟩
theorem wNf {p:wAC} {n:Nat} {l l':wAB} (h:wPw p n l l') (x:Int):wHj p l' x=wHj p l x - p.Loop:=by
 have hn:=h.nn
 unfold wHj
 rw [h.loops,wJQ h x _ (nJ _),if_pos (by omega)]
theorem wKF {p:wAC} {n L:Nat} {l':wAB}:∀ {legs:List wAB} {k:Nat} (x:Int),k < legs.length->(∀ j,j < k->(gd legs j).Loops.length=L)->wPw p n (gd legs k) l'->Sh p.Loop (k * L + n + 1) (wBq p legs x) (wBq p (legs.set k l') x)
 | [],k,x,hk,_,_=>by simp at hk
 | a :: legs,0,x,_,_,h=>by
  have h:wPw p n a l':=h
  rw [List.set_cons_zero,wBq,wBq,wNf h,Nat.zero_mul,ni]
  have hn:=h.nn
  exact (wNe h x).app (wIR p p.Loop legs _) (.inl ⟨rfl,by rw [wCT];omega⟩)
 | a :: legs,k + 1,x,hk,hf,h=>by
  rw [kP,wBq,wBq]
  have ha:a.Loops.length=L:=hf 0 (by omega)
  have ih:=wKF (legs:=legs) (k:=k) (wHj p a x) (by simpa using hk) (fun j hj=>hf (j + 1) (by omega)) h
  have e:(k + 1) * L + n + 1=(wIM p a x).length + (k * L + n + 1):=by rw [wCT,ha,Nat.succ_mul];omega
  rw [e]
  exact (Sh.refl (by omega)).app ih (.inr rfl)
def LeL (a b:List Int):Prop:=a.length=b.length/\∀ q,q < a.length->gd a q <= gd b q
theorem LeL.app {a b c d:List Int} (h:LeL a b) (h':LeL c d):LeL (a ++ c) (b ++ d):=by
 refine ⟨by simp [h.1,h'.1],fun q hq=>?_⟩
 rw [nY] at hq
 rw [wHh hq,wHh (by rw [<- h.1,<- h'.1];exact hq),<- h.1]
 by_cases c1:q < a.length
 ·rw [if_pos c1,if_pos c1];exact h.2 q c1
 ·rw [if_neg c1,if_neg c1];exact h'.2 _ (by omega)
structure wNg (p' p:wAC):Prop where
 laps:p'.Laps=p.Laps
 spare:p'.Spare <= p.Spare
 loop:p'.Loop <= p.Loop
theorem wNh {p' p:wAC} (h:wNg p' p) {b:List Bool} (hb:okB b):bc p' b <= bc p b:=by
 unfold bc
 have h1:=hb.1
 have h2:=wJv b
 have a1:=nq h.spare (show 0 <= (b.length:Int) - 5 by omega)
 have a2:=nq h.loop (show 0 <= 5 - (wCA b:Int) by omega)
 omega
theorem wGZ {p' p:wAC} (h:wNg p' p) {l:wAB} (hb:∀ k,k + 1 < l.Loops.length->okB (gd l.Bouts k)) {x y:Int} (hx:x <= y):∀ k,k <= l.Loops.length->tAt p' l x k <= tAt p l y k
 | 0,_=>hx
 | k + 1,hk=>by
  have:=wGZ h hb hx k (by omega)
  rw [tAt,tAt]
  by_cases c:0 < k
  ·have:=wNh h (hb (k - 1) (by omega))
   rw [if_pos c,if_pos c];omega
  ·rw [if_neg c,if_neg c];omega
theorem wHA {p' p:wAC} (h:wNg p' p):∀ (l:List wAB) {x y:Int},(∀ a ∈ l,∀ k,k + 1 < a.Loops.length->okB (gd a.Bouts k))->x <= y->LeL (wBq p' l x) (wBq p l y)
 | [],_,_,_,_=>⟨rfl,fun q hq=>by simp [wBq] at hq⟩
 | a :: l,x,y,hb,hx=>by
  rw [wBq,wBq]
  have h1:LeL (wIM p' a x) (wIM p a y):=⟨by rw [wCT,wCT],fun q hq=>by
   rw [wCT] at hq
   rw [wFF hq,wFF hq]
   exact wGZ h (hb a (by simp)) hx _ (by omega)⟩
  exact h1.app (wHA h l (fun b hb'=>hb b (by simp [hb'])) (wGZ h (hb a (by simp)) hx _ (nJ _)))
end Go.Proofs.YtnbcoenjobdplaaGreat
namespace Go.Proofs.YtnbcoenjobdplaaGreat
open Go.KL
theorem wFd {p:wAC} (gp:wDC p) {t:wAD} {l:wAB} (g:wDc p t l) (x:Int) {i:Nat}:∀ (j:Nat),i < j->j <= l.Loops.length->tAt p l x i < tAt p l x j
 | 0,h,_=>by omega
 | j + 1,h,hj=>by
  have h1:=wKA gp g x (k:=j) (by omega)
  rcases np i j with hi | hi
  ·have:=wFd gp g x j hi (by omega)
   omega
  ·have:i=j:=by omega
   subst this
   omega
theorem wPW {p:wAC} (gp:wDC p) {t:wAD} {l:wAB} (g:wDc p t l) (x:Int):(wIM p l x).Pairwise (· < ·)/\∀ a ∈ wIM p l x,x < a/\a <= wHj p l x:=by
 unfold wIM
 refine ⟨?_,fun a ha=>?_⟩
 ·rw [List.pairwise_map]
  refine List.Pairwise.imp_of_mem ?_ List.pairwise_lt_range
  intro i j hi hj hij
  exact wFd gp g x _ (by omega) (by have:=List.mem_range.1 hj;omega)
 ·obtain ⟨i,hi,rfl⟩:=nz.1 ha
  have hi:=List.mem_range.1 hi
  have:=wFd gp g x (i:=0) (i + 1) (by omega) (by omega)
  refine ⟨this,?_⟩
  unfold wHj
  rcases np (i + 1) l.Loops.length with h | h
  ·have:=wFd gp g x (i:=i + 1) l.Loops.length h (nJ _)
   omega
  ·have:i + 1=l.Loops.length:=by omega
   rw [this]
   exact Int.le_refl _
theorem wKG {p:wAC} (gp:wDC p) {t:wAD}:∀ (l:List wAB) (x:Int),(∀ a ∈ l,wDc p t a)->(wBq p l x).Pairwise (· < ·)/\∀ a ∈ wBq p l x,x < a/\a <= x + 69000 * (l.length:Int)
 | [],x,_=>by simp [wBq]
 | b :: l,x,h=>by
  obtain ⟨h1,h2⟩:=wPW gp (h b (by simp)) x
  obtain ⟨h3,h4⟩:=wKG gp l (wHj p b x) fun c hc=>h c (by simp [hc])
  have h5:=wGy gp (h b (by simp)) x
  rw [wBq]
  refine ⟨nT.2 ⟨h1,h3,fun a ha c hc=>?_⟩,fun a ha=>?_⟩
  ·have:=(h2 a ha).2
   have:=(h4 c hc).1
   omega
  ·simp only [nV]
   rcases nD.1 ha with ha | ha
   ·have:=h2 a ha
    omega
   ·have:=h4 a ha
    omega
end Go.Proofs.YtnbcoenjobdplaaGreat
namespace Go.Proofs.YtnbcoenjobdplaaGreat
open Go.KL
theorem wQr (v:Int) {n:Int} (h1:1 <= n) (h2:n <= 100000):∃ x,wAv v n=some x/\0 <= x/\x < n:=by
 unfold wAv
 rw [if_neg (by omega),rem,if_neg (by omega),hH]
 have a1:=Int.lt_tmod_of_pos v (show 0 < n by omega)
 have a2:=Int.tmod_lt_of_pos v (show 0 < n by omega)
 rw [wAU (by omega) (by omega)]
 obtain ⟨x,e,x0,x1⟩:=wKB (a:=v.tmod n + n) (b:=n) (by omega) (by omega)
 rw [e]
 exact ⟨x,rfl,x0,x1⟩
theorem wGa {S B:Type} {body:Nat->S->Option (S ⊕ B)} {n:Nat} {s0:S} (I:Nat->S->Prop) (hn:n <= 1000) (h0:I 0 s0) (h:∀ i s,i < n->I i s->∃ s',body i s=some (.inl s')/\I (i + 1) s'):∃ s,wDu 0 (n:Int) body s0=some (.inl s)/\I n s:=by
 rw [wEj (by omega)]
 rcases wJu (body:=body) I (fun _=>False) n 0 s0 h0 (fun i s _ h2 h3=>.inl (h i s (by omega) h3)) with ⟨s',e,h⟩ | ⟨_,_,h⟩
 ·rw [ni] at h
  exact ⟨s',e,h⟩
 ·exact h.elim
theorem wKl {S:Type} {body:Nat->S->Option S} {n:Nat} {s0:S} (I:Nat->S->Prop) (hn:n <= 1000) (h0:I 0 s0) (h:∀ i s,i < n->I i s->∃ s',body i s=some s'/\I (i + 1) s'):∃ s,wCv 0 (n:Int) body s0=some s/\I n s:=by
 rw [wDt (by omega)]
 have:=wEi (body:=body) I n 0 s0 h0 fun i s _ h2 h3=>h i s (by omega) h3
 rwa [ni] at this
def leU (x254 x268:List Int) (k294:Nat) (_:Unit):Option (Unit ⊕ (Unit ⊕ Bool)) :=
                (idx x254 (↑k294:Int)).bind fun x331 =>
                (idx x268 (↑k294:Int)).bind fun x348 =>
                if x348 < x331 then
                  esc (esc (some false))
                else
                  some (.inl ())
def leT (x57 x179:List (List Int)) (k230:Nat) (_:Unit):Option (Unit ⊕ Bool) :=
            (idx x179 (↑k230:Int)).bind fun x254 =>
            (idx x57 (↑k230:Int)).bind fun x268 =>
            if (↑x254.length:Int)=(↑x268.length:Int) then
              jn (wDu 0 (↑x268.length:Int) (leU x254 x268) ()) fun _ =>
              some (.inl ())
            else
              esc (some false)
def msR (k416 k487 k551:Nat) (x582:List Bool) (x595:wAd) (k629:Nat) (l626:List wAG):Option (List wAG) :=
                    (idx x582 (↑k629:Int)).bind fun x667 =>
                    (if x667=true then
                      some false
                    else
                      if 1 < x595.Loops then
                        some true
                      else
                        if x595.Loops=1 then
                          some (decide ((↑k629:Int)=(w64 ((↑x582.length:Int) - 1))))
                        else
                          some false).bind fun b676 =>
                    if b676=true then
                      (app 32 l626 [(⟨(↑k416:Int),(↑k487:Int),(↑k551:Int),(↑k629:Int)⟩:wAG)]).bind fun x728 =>
                      some x728
                    else
                      some l626
def msB (k416 k487:Nat) (x514:wAB) (k551:Nat) (l548:List wAG):Option (List wAG ⊕ (List wAG ⊕ (List wAG ⊕ Bool))) :=
                (idx x514.Bouts (↑k551:Int)).bind fun x582 =>
                (wBo x582).bind fun (x595,x596) =>
                if x596=0 then
                  (wCv 0 (↑x582.length:Int) (msR k416 k487 k551 x582 x595) l548).bind fun y634 =>
                  some (.inl y634)
                else
                  esc (esc (esc (some false)))
def msL (k416:Nat) (x441:wAD) (k487:Nat) (l484:List wAG):Option (List wAG ⊕ (List wAG ⊕ Bool)) :=
              (idx x441.Legs (↑k487:Int)).bind fun x514 =>
              jn (wDu 0 (↑x514.Bouts.length:Int) (msB k416 k487 x514) l484) fun y793 =>
              some (.inl y793)
def msT (r:wAF) (k416:Nat) (l412:List wAG):Option (List wAG ⊕ Bool) :=
            (idx r.Teams (↑k416:Int)).bind fun x441 =>
            jn (wDu 0 (↑x441.Legs.length:Int) (msL k416 x441) l412) fun y822 =>
            some (.inl y822)
def afU (r:wAF) (x:wAG) (k1102:Nat) (x1127 x1140:List Int) (k1174:Nat) (_:Unit):Option (Unit ⊕ (Unit ⊕ Bool)) :=
                      (idx x1140 (↑k1174:Int)).bind fun x1210 =>
                      if (↑k1102:Int)=(x.team) then
                        if (w64 ((w64 ((w64 ((x.leg) * r.Rules.Laps)) + (x.bout))) + 1)) <= (↑k1174:Int) then
                          (idx x1127 (↑k1174:Int)).bind fun x1231 =>
                          if x1231=(w64 (x1210 - r.Rules.Loop)) then
                            some (.inl ())
                          else
                            esc (esc (some false))
                        else
                          (idx x1127 (↑k1174:Int)).bind fun x1258 =>
                          if x1258=x1210 then
                            some (.inl ())
                          else
                            esc (esc (some false))
                      else
                        (idx x1127 (↑k1174:Int)).bind fun x1285 =>
                        if x1285=x1210 then
                          some (.inl ())
                        else
                          esc (esc (some false))
def afT (r:wAF) (x:wAG) (x57 x1057:List (List Int)) (k1102:Nat) (_:Unit):Option (Unit ⊕ Bool) :=
                  (idx x1057 (↑k1102:Int)).bind fun x1127 =>
                  (idx x57 (↑k1102:Int)).bind fun x1140 =>
                  if (↑x1127.length:Int)=(↑x1140.length:Int) then
                    jn (wDu 0 (↑x1140.length:Int) (afU r x k1102 x1127 x1140) ()) fun _ =>
                    some (.inl ())
                  else
                    esc (some false)
def wQs (l:wAB) (n m:Nat):wAB:=⟨l.Skier,l.Loops,l.Bouts.set n ((gd l.Bouts n).set m true)⟩
def wPX (t:wAD) (k n m:Nat):wAD:=⟨t.Bib,t.Classes,t.Legs.set k (wQs (gd t.Legs k) n m)⟩
def wKm (r:wAF) (i k n m:Nat):wAF:=⟨r.Rules,r.Start,r.Teams.set i (wPX (gd r.Teams i) k n m)⟩
def wDY (r:wAF) (b:Int):wAF:=⟨⟨r.Rules.Classes,r.Rules.Each,r.Rules.Laps,max 0 (w64 (r.Rules.Spare - b)),max 0 (w64 (r.Rules.Loop - b)),r.Rules.Unused⟩,r.Start,r.Teams⟩
theorem wKn (p0:List Int) (p1 p2:Int):wBR p0 p1 p2 =
 (wCB p0).bind fun x1 =>
 (wBI x1 5 3).bind fun (x16,_) =>
 (wBF x16).bind fun (x57,x58) =>
 if x58=0 then
  if (↑x57.Times.length:Int)=(↑x16.Teams.length:Int) then
   (wAf x16).bind fun x89 =>
   (wAv p2 200).bind fun x114 =>
   (some ()).bind fun _ =>
   (wBF (⟨(⟨x89.Rules.Classes,x89.Rules.Each,x89.Rules.Laps,max 0 (w64 (x16.Rules.Spare - x114)),max 0 (w64 (x16.Rules.Loop - x114)),x89.Rules.Unused⟩:wAC),x89.Start,x89.Teams⟩:wAF)).bind fun (x179,x180) =>
   if x180=0 then
    if (↑x179.Times.length:Int)=(↑x16.Teams.length:Int) then
     jn (wDu 0 (↑x57.Times.length:Int) (leT x57.Times x179.Times) ()) fun _ =>
     jn (wDu 0 (↑x16.Teams.length:Int) (msT x16) []) fun y847 =>
     if (↑y847.length:Int)=0 then
      (wAz).bind fun x863 =>
      some x863
     else
      (wAv p1 (↑y847.length:Int)).bind fun x874 =>
      (chk x874 y847.length).bind fun _ =>
      (wAf x16).bind fun x918 =>
      (idx x918.Teams ((gd y847 x874.toNat).team)).bind fun x957 =>
      (idx x957.Legs ((gd y847 x874.toNat).leg)).bind fun x979 =>
      (idx x979.Bouts ((gd y847 x874.toNat).bout)).bind fun x1001 =>
      (chk ((gd y847 x874.toNat).round) x1001.length).bind fun _ =>
      (wBF (⟨x918.Rules,x918.Start,(nr x918.Teams ((gd y847 x874.toNat).team).toNat (⟨x957.Bib,x957.Classes,(nr x957.Legs ((gd y847 x874.toNat).leg).toNat (⟨x979.Skier,x979.Loops,(nr x979.Bouts ((gd y847 x874.toNat).bout).toNat (nr x1001 ((gd y847 x874.toNat).round).toNat true))⟩:wAB))⟩:wAD))⟩:wAF)).bind fun (x1057,x1058) =>
      if x1058=0 then
       if (↑x1057.Times.length:Int)=(↑x57.Times.length:Int) then
        jn (wDu 0 (↑x57.Times.length:Int) (afT x16 (gd y847 x874.toNat) x57.Times x1057.Times) ()) fun _ =>
        (wAz).bind fun x1338 =>
        some x1338
       else
        some false
      else
       some false
    else
     some false
   else
    some false
  else
   some false
 else
  some false:=rfl
theorem wKH {r:wAF} (g:wFC r) {b:Int} (hb:0 <= b/\b <= 200):wFC (wDY r b)/\wNg (wDY r b).Rules r.Rules:=by
 have h1:=g.rules.spare;have h2:=g.rules.loop
 have e1:(wDY r b).Rules.Spare=max 0 (r.Rules.Spare - b):=by show max 0 (w64 _)=_;rw [wAU (by omega) (by omega)]
 have e2:(wDY r b).Rules.Loop=max 0 (r.Rules.Loop - b):=by show max 0 (w64 _)=_;rw [wAU (by omega) (by omega)]
 refine ⟨⟨⟨g.rules.n,g.rules.cls,g.rules.each,g.rules.laps,by rw [e1];omega,by rw [e2];omega,g.rules.unused⟩,g.n,g.start,fun t ht=>?_,g.bibs⟩,rfl,by rw [e1];omega,by rw [e2];omega⟩
 have gt:=g.team t ht
 exact ⟨gt.bib,gt.n,gt.cls,gt.legs,gt.full,fun l hl=>⟨(gt.leg l hl).le,(gt.leg l hl).bouts,(gt.leg l hl).loops,(gt.leg l hl).skier,(gt.leg l hl).ok⟩⟩
structure wPY (r:wAF) (i k n m:Nat):Prop where
 hi:i < r.Teams.length
 hk:k < (gd r.Teams i).Legs.length
 hn:n < (gd (gd r.Teams i).Legs k).Bouts.length
 hm:m < (gd (gd (gd r.Teams i).Legs k).Bouts n).length
 miss:gd (gd (gd (gd r.Teams i).Legs k).Bouts n) m=false
 can:1 < 5 - (wCA (gd (gd (gd r.Teams i).Legs k).Bouts n):Int) \/ 5 - (wCA (gd (gd (gd r.Teams i).Legs k).Bouts n):Int)=1/\m=(gd (gd (gd r.Teams i).Legs k).Bouts n).length - 1
def okM (r:wAF) (x:wAG):Prop:=∃ i k n m:Nat,x=⟨(i:Int),(k:Int),(n:Int),(m:Int)⟩/\wPY r i k n m
theorem wOI {r:wAF} (g:wFC r) {i k n m:Nat} (M:wPY r i k n m):wFC (wKm r i k n m)/\wPw r.Rules n (gd (gd r.Teams i).Legs k) (wQs (gd (gd r.Teams i).Legs k) n m):=by
 have gt:=g.team _ (wBJ M.hi)
 have gl:=gt.leg _ (wBJ M.hk)
 have hb:=gl.bouts
 have hn:=M.hn
 have ob:=gl.ok _ (wBJ M.hn)
 obtain ⟨o1,o2⟩:=wQp ob M.hm M.miss M.can
 have hset:∀ q,q < (gd (gd r.Teams i).Legs k).Bouts.length->gd (wQs (gd (gd r.Teams i).Legs k) n m).Bouts q=if q=n then (gd (gd (gd r.Teams i).Legs k).Bouts n).set m true else gd (gd (gd r.Teams i).Legs k).Bouts q:=fun q hq=>wIO M.hn hq
 have glN:wDc r.Rules (wPX (gd r.Teams i) k n m) (wQs (gd (gd r.Teams i).Legs k) n m):=by
  refine ⟨gl.le,by show (nr _ _ _).length=_;rw [nL];exact gl.bouts,gl.loops,gl.skier,fun b hb'=>?_⟩
  rcases ng hb' with h | h
  ·exact gl.ok b h
  ·rw [h];exact o1
 have gtN:wMh r.Rules (wPX (gd r.Teams i) k n m):=by
  refine ⟨gt.bib,gt.n,gt.cls,by show (nr _ _ _).length <= _;rw [nL];exact gt.legs,fun j hj=>?_,fun l hl=>?_⟩
  ·have hj':j + 1 < (gd r.Teams i).Legs.length:=by
    have:(wPX (gd r.Teams i) k n m).Legs.length=(gd r.Teams i).Legs.length:=nL
    omega
   have e:gd (wPX (gd r.Teams i) k n m).Legs j=if j=k then wQs (gd (gd r.Teams i).Legs k) n m else gd (gd r.Teams i).Legs j:=wIO M.hk (by omega)
   rw [e]
   by_cases c:j=k
   ·subst c
    rw [if_pos rfl]
    exact gt.full j hj'
   ·rw [if_neg c]
    exact gt.full j hj'
  ·rcases ng hl with h | h
   ·have q:=gt.leg l h
    exact ⟨q.le,q.bouts,q.loops,q.skier,q.ok⟩
   ·rw [h];exact glN
 refine ⟨⟨g.rules,by have e:(wKm r i k n m).Teams.length=r.Teams.length:=nL;rw [e];exact g.n,g.start,fun t ht=>?_,?_⟩,⟨rfl,by omega,fun q hq hq2=>?_,?_⟩⟩
 ·rcases ng ht with h | h
  ·exact g.team t h
  ·rw [h];exact gtN
 ·have e:(wKm r i k n m).Teams.map (·.Bib)=r.Teams.map (·.Bib):=by
   show (nr _ _ _).map _=_
   refine wOH (by simp) fun q hq=>?_
   rw [kB,nL] at hq
   rw [wFB _ (by rw [nL];exact hq),wFB _ hq,wIO M.hi hq]
   by_cases c:q=i
   ·subst c;rw [if_pos rfl];rfl
   ·rw [if_neg c]
  rw [e]
  exact g.bibs
 ·rw [hset q (by omega),if_neg hq]
 ·rw [hset n M.hn,if_pos rfl]
  exact wQq (by simp) o2
theorem wFe {r:wAF} {i:Nat} (hi:i < r.Teams.length):gd (after r) i=wBq r.Rules (gd r.Teams i).Legs r.Start:=by unfold after;exact wFB _ hi
theorem wBv (r:wAF):(after r).length=r.Teams.length:=by unfold after;rw [kB]
theorem wQt {r:wAF} {i k n:Nat} (hi:i < r.Teams.length) (hk:k < (gd r.Teams i).Legs.length) (hn:n < (gd (gd r.Teams i).Legs k).Bouts.length) (ok:okB (gd (gd (gd r.Teams i).Legs k).Bouts n)) {l:List wAG} (hl:∀ x ∈ l,okM r x) (hlen:l.length <= 100000) :
  ∃ l',wCv 0 (↑(gd (gd (gd r.Teams i).Legs k).Bouts n).length:Int) (msR i k n (gd (gd (gd r.Teams i).Legs k).Bouts n) ⟨((gd (gd (gd r.Teams i).Legs k).Bouts n).length:Int) - 5,5 - (wCA (gd (gd (gd r.Teams i).Legs k).Bouts n):Int),if wCA (gd (gd (gd r.Teams i).Legs k).Bouts n) < 5 then 8 - ((gd (gd (gd r.Teams i).Legs k).Bouts n).length:Int) else 0⟩) l=some l'/\(∀ x ∈ l',okM r x)/\l'.length <= l.length + 8:=by
 have h8:=ok.2.1
 obtain ⟨l',e,h1,h2⟩:=wKl (n:=(gd (gd (gd r.Teams i).Legs k).Bouts n).length) (s0:=l) (body:=msR i k n (gd (gd (gd r.Teams i).Legs k).Bouts n) ⟨((gd (gd (gd r.Teams i).Legs k).Bouts n).length:Int) - 5,5 - (wCA (gd (gd (gd r.Teams i).Legs k).Bouts n):Int),if wCA (gd (gd (gd r.Teams i).Legs k).Bouts n) < 5 then 8 - ((gd (gd (gd r.Teams i).Legs k).Bouts n).length:Int) else 0⟩)
  (fun q s=>(∀ x ∈ s,okM r x)/\s.length <= l.length + q) (by omega) ⟨hl,by omega⟩ (fun q s hq ⟨i1,i2⟩=>by
   unfold msR
   rw [wAt hq,hH]
   simp only
   have stay:∃ s',some s=some s'/\(∀ x ∈ s',okM r x)/\s'.length <= l.length + (q + 1):=⟨s,rfl,i1,by omega⟩
   have add:gd (gd (gd (gd r.Teams i).Legs k).Bouts n) q=false->(1 < 5 - (wCA (gd (gd (gd r.Teams i).Legs k).Bouts n):Int) \/ 5 - (wCA (gd (gd (gd r.Teams i).Legs k).Bouts n):Int)=1/\q=(gd (gd (gd r.Teams i).Legs k).Bouts n).length - 1) ->
     ∃ s',((app 32 s [(⟨(↑i:Int),(↑k:Int),(↑n:Int),(↑q:Int)⟩:wAG)]).bind fun x728=>some x728)=some s'/\(∀ x ∈ s',okM r x)/\s'.length <= l.length + (q + 1):=fun hf hc=>by
    rw [wCR (by simp only [nV,List.length_nil];omega),hH]
    refine ⟨_,rfl,fun x hx=>?_,by simp;omega⟩
    rcases nD.1 hx with hx | hx
    ·exact i1 x hx
    ·rw [nh] at hx
     exact ⟨i,k,n,q,hx,⟨hi,hk,hn,hq,hf,hc⟩⟩
   by_cases c:gd (gd (gd (gd r.Teams i).Legs k).Bouts n) q=true
   ·rw [if_pos c,hH,if_neg (by decide)];exact stay
   ·have cf:gd (gd (gd (gd r.Teams i).Legs k).Bouts n) q=false:=by simpa using c
    rw [if_neg c]
    by_cases c1:1 < 5 - (wCA (gd (gd (gd r.Teams i).Legs k).Bouts n):Int)
    ·rw [if_pos c1,hH,if_pos rfl];exact add cf (.inl c1)
    ·rw [if_neg c1]
     by_cases c2:5 - (wCA (gd (gd (gd r.Teams i).Legs k).Bouts n):Int)=1
     ·rw [if_pos c2,hH,wAU (by omega) (by omega)]
      by_cases c3:(q:Int)=((gd (gd (gd r.Teams i).Legs k).Bouts n).length:Int) - 1
      ·rw [if_pos (decide_eq_true c3)];exact add cf (.inr ⟨c2,by omega⟩)
      ·rw [if_neg (by rw [decide_eq_false c3];decide)];exact stay
     ·rw [if_neg c2,hH,if_neg (by decide)];exact stay)
 exact ⟨l',e,h1,by omega⟩
theorem wMn {r:wAF} (g:wFC r):∃ l,wDu 0 (↑r.Teams.length:Int) (msT r) []=some (.inl l)/\(∀ x ∈ l,okM r x)/\l.length <= 12000:=by
 have hn:=g.n;have hc:=g.rules.n;have hL:=g.rules.laps
 obtain ⟨l,e,h1,h2⟩:=wGa (B:=Bool) (n:=r.Teams.length) (s0:=[]) (body:=msT r) (fun i s=>(∀ x ∈ s,okM r x)/\s.length <= 1000 * i) (by omega) ⟨fun x hx=>(by cases hx),by simp⟩ (fun i s hi ⟨i1,i2⟩=>by
  have gt:=g.team _ (wBJ hi)
  have hlg:=gt.legs
  unfold msT
  rw [wAt hi,hH]
  obtain ⟨s1,e1,j1,j2⟩:=wGa (B:=List wAG ⊕ Bool) (n:=(gd r.Teams i).Legs.length) (s0:=s) (body:=msL i (gd r.Teams i)) (fun k s=>(∀ x ∈ s,okM r x)/\s.length <= 1000 * i + 100 * k) (by omega) ⟨i1,by omega⟩ (fun k s hk ⟨k1,k2⟩=>by
   have gl:=gt.leg _ (wBJ hk)
   have hle:=gl.le;have hb:=gl.bouts
   unfold msL
   rw [wAt hk,hH]
   obtain ⟨s2,e2,m1,m2⟩:=wGa (B:=List wAG ⊕ (List wAG ⊕ Bool)) (n:=(gd (gd r.Teams i).Legs k).Bouts.length) (s0:=s) (body:=msB i k (gd (gd r.Teams i).Legs k)) (fun n s=>(∀ x ∈ s,okM r x)/\s.length <= 1000 * i + 100 * k + 8 * n) (by omega) ⟨k1,by omega⟩ (fun n s hn' ⟨n1,n2⟩=>by
    have ob:=gl.ok _ (wBJ hn')
    unfold msB
    rw [wAt hn',hH,wJJ ob,hH]
    simp only
    rw [if_pos trivial]
    obtain ⟨s3,e3,q1,q2⟩:=wQt hi hk hn' ob n1 (by omega)
    rw [e3,hH]
    exact ⟨_,rfl,q1,by omega⟩)
   rw [e2,wCp]
   exact ⟨_,rfl,m1,by omega⟩)
  rw [e1,wCp]
  exact ⟨_,rfl,j1,by omega⟩)
 exact ⟨l,e,h1,by omega⟩
theorem le_is {r:wAF} (g:wFC r) {b:Int} (hb:0 <= b/\b <= 200):wDu 0 (↑(after r).length:Int) (leT (after r) (after (wDY r b))) ()=some (.inl ()):=by
 have hn:=g.n
 obtain ⟨g',C⟩:=wKH g hb
 have hc:=g.rules.n;have hL:=g.rules.laps
 rw [wBv]
 refine wCS (by omega) fun i hi=>?_
 have gt:=g.team _ (wBJ hi)
 have hlg:=gt.legs
 have hlen:=wDK g.rules (gd r.Teams i).Legs r.Start gt.leg
 have T:LeL (wBq (wDY r b).Rules (gd r.Teams i).Legs r.Start) (wBq r.Rules (gd r.Teams i).Legs r.Start):=wHA C _ (fun a ha k hk=>by
  have gl:=gt.leg a ha
  exact gl.ok _ (wBJ (by have:=gl.bouts;omega))) (Int.le_refl _)
 unfold leT
 rw [wAt (by rw [wBv];exact hi),hH,wAt (by rw [wBv];exact hi),hH,wFe hi,wFe (r:=wDY r b) hi]
 show (if _ then _ else _)=_
 have hs:(wDY r b).Start=r.Start:=rfl
 have ht:(wDY r b).Teams=r.Teams:=rfl
 rw [hs,ht]
 rw [if_pos (by rw [T.1]),wCS (by omega) fun q hq=>?_]
 ·rfl
 ·have:=T.2 q (by rw [T.1];exact hq)
  unfold leU
  rw [wAt (by rw [T.1];exact hq),hH,wAt hq,hH,if_neg (by omega)]
theorem af_is {r:wAF} (g:wFC r) {i k n m:Nat} (M:wPY r i k n m):wDu 0 (↑(after r).length:Int) (afT r ⟨(i:Int),(k:Int),(n:Int),(m:Int)⟩ (after r) (after (wKm r i k n m))) ()=some (.inl ()):=by
 have hn:=g.n
 obtain ⟨g',H⟩:=wOI g M
 have hc:=g.rules.n;have hL:=g.rules.laps;have hlp:=g.rules.loop
 obtain ⟨L,eL⟩:=Int.eq_ofNat_of_zero_le (show 0 <= r.Rules.Laps by omega)
 have gti:=g.team _ (wBJ M.hi)
 have hli:=gti.legs
 have hki:=M.hk
 have gli:=gti.leg _ (wBJ M.hk)
 have hbi:=gli.bouts;have hlei:=gli.le;have hni:=M.hn
 have hkL:k * L <= 4 * 5:=kH (by omega) (by omega)
 have ef:w64 ((w64 ((w64 ((k:Int) * r.Rules.Laps)) + (n:Int))) + 1)=((k * L + n + 1:Nat):Int):=by
  rw [eL,show (k:Int) * (L:Int)=((k * L:Nat):Int) by rw [Int.natCast_mul],wAU (x:=((k * L:Nat):Int)) (by omega) (by omega),wAU (x:=((k * L:Nat):Int) + (n:Int)) (by omega) (by omega),wAU (by omega) (by omega)]
  omega
 have hN:(wKm r i k n m).Teams.length=r.Teams.length:=nL
 rw [wBv]
 refine wCS (by omega) fun j hj=>?_
 have gt:=g.team _ (wBJ hj)
 have hlg:=gt.legs
 have hlen:=wDK g.rules (gd r.Teams j).Legs r.Start gt.leg
 have hpos:=(wKG g.rules (gd r.Teams j).Legs r.Start gt.leg).2
 have hst:=g.start
 unfold afT
 rw [wAt (by rw [wBv,hN];exact hj),hH,wAt (by rw [wBv];exact hj),hH,wFe hj,wFe (r:=wKm r i k n m) (by rw [hN];exact hj)]
 have hs:(wKm r i k n m).Start=r.Start:=rfl
 have hr:(wKm r i k n m).Rules=r.Rules:=rfl
 have ht:gd (wKm r i k n m).Teams j=if j=i then wPX (gd r.Teams i) k n m else gd r.Teams j:=wIO M.hi hj
 rw [hs,hr,ht]
 by_cases c:j=i
 ·subst c
  rw [if_pos rfl]
  have T:Sh r.Rules.Loop (k * L + n + 1) (wBq r.Rules (gd r.Teams j).Legs r.Start) (wBq r.Rules (wPX (gd r.Teams j) k n m).Legs r.Start):=wKF r.Start M.hk (fun q hq=>by have:=gt.full q (by omega);omega) H
  rw [if_pos (by rw [T.1]),wCS (by omega) fun q hq=>?_]
  ·rfl
  ·have tq:=T.2 q hq
   have pq:=hpos _ (wBJ hq)
   unfold afU
   rw [wAt hq,hH]
   simp only
   rw [if_pos trivial,ef]
   by_cases cf:k * L + n + 1 <= q
   ·rw [if_pos cf] at tq
    rw [if_pos (by omega),wAt (by rw [T.1];exact hq),hH,wAU (by omega) (by omega),if_pos tq]
   ·rw [if_neg cf] at tq
    rw [if_neg (by omega),wAt (by rw [T.1];exact hq),hH,if_pos (by omega)]
 ·rw [if_neg c,if_pos rfl,wCS (by omega) fun q hq=>?_]
  ·rfl
  ·unfold afU
   rw [wAt hq,hH]
   simp only
   rw [if_neg (by omega),hH,if_pos rfl]
theorem wPZ (p0:List Int) (p1 p2:Int) (_:-9223372036854775808 <= p1) (_:p1 <= 9223372036854775807) (_:-9223372036854775808 <= p2) (_:p2 <= 9223372036854775807):wBR p0 p1 p2=some true:=by
 rw [wKn]
 have aw:wAz=some true:=rfl
 unfold wCB
 rw [hH]
 obtain ⟨r,d',e0,g,_,_⟩:=wPV (d:=(⟨p0,0,17⟩:wAA)) (N:=0) ⟨by simp,by simp⟩ (by omega) (m:=5) (q:=3) (by omega) (by omega)
 rw [e0,hH]
 simp only
 rw [wJO g,hH]
 simp only
 have hT:(wMi r).Times=after r:=rfl
 rw [if_pos trivial,hT,if_pos (by rw [wBv]),wNd g,hH]
 obtain ⟨b,e1,b0,b1⟩:=wQr p2 (n:=200) (by omega) (by omega)
 rw [e1,hH,hH]
 obtain ⟨g',_⟩:=wKH g (b:=b) ⟨b0,by omega⟩
 show ((wBF (wDY r b)).bind _)=_
 rw [wJO g',hH]
 simp only
 have hT':(wMi (wDY r b)).Times=after (wDY r b):=rfl
 rw [if_pos trivial,hT',if_pos (by rw [wBv];rfl),le_is g ⟨b0,by omega⟩,wCp]
 obtain ⟨l,e2,h1,h2⟩:=wMn g
 rw [e2,wCp]
 by_cases c:(l.length:Int)=0
 ·rw [if_pos c,aw];rfl
 ·rw [if_neg c]
  obtain ⟨q,e3,q0,q1⟩:=wQr p1 (n:=(l.length:Int)) (by omega) (by omega)
  rw [e3,hH,wNq q0 (by omega),hH,hH]
  obtain ⟨i,k,n,m,ex,M⟩:=h1 _ (wBJ (l:=l) (k:=q.toNat) (by omega))
  rw [ex]
  simp only
  obtain ⟨gN,_⟩:=wOI g M
  rw [wAt M.hi,hH,wAt M.hk,hH,wAt M.hn,hH,wNq (by omega) (by have:=M.hm;omega),hH]
  simp only [Int.toNat_natCast]
  show ((wBF (wKm r i k n m)).bind _)=_
  rw [wJO gN,hH]
  simp only
  have hTN:(wMi (wKm r i k n m)).Times=after (wKm r i k n m):=rfl
  have hN:(wKm r i k n m).Teams.length=r.Teams.length:=nL
  rw [if_pos trivial,hTN,if_pos (by rw [wBv,wBv,hN]),af_is g M,wCp,aw]
  rfl
end Go.Proofs.YtnbcoenjobdplaaGreat
