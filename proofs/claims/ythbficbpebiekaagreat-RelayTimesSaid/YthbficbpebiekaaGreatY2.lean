import Derived.Test.YthbficbpebiekaaGreatY1
import Derived.Test.YthbficbpebiekaaGreatY0
set_option linter.all false
open Option renaming bind_some->nA,isSome_some->kJ,getD_none->kR
open Bool renaming and_eq_true->nB,false_eq_true->nG,true_and->nT,not_eq_true'->ny
open Nat renaming eq_of_beq_eq_true->nD,le_refl->nI,beq->nV,le_trans->nc,zero_le->nt,lt_of_lt_of_le->nu,lt_irrefl->kD,zero_add->kH
open List renaming mem_cons->nE,take_length->nJ,append_assoc->nK,mem_append->nL,map_append->nM,cons_append->nN,range->nO,drop_eq_nil_of_le->nP,nil_append->nQ,append_of_mem->nR,getElem?_eq_getElem->nS,all_eq_true->nU,mem_append_right->nW,pairwise_cons->nX,mem_singleton->nY,getElem?_eq_some_iff->nZ,drop_eq_getElem_cons->na,pairwise_append->nb,length_map->ng,mem_append_left->nh,mem_of_mem_take->ni,length_take->nj,map_cons->nk,all_cons->nl,length_cons->no,append_nil->np,mem_map->nq,drop_zero->nr,length_append->nv,any_cons->nw,range_succ->nz,getElem?_eq_none->kA,getElem_of_mem->kE,mem_filterMap->kG,map_singleton->kK,getElem?_map->kM,nodup_append->kO,length_range->kP
open Option.some renaming inj->nH,injEq->kL
open List.cons renaming injEq->nf,inj->kS
open Int renaming mul_nonneg->kB,mul_le_mul->kC
open List.Pairwise renaming nil->kQ
namespace Go.KX
noncomputable section
open Go.RowKit Go.KL
def kdAt (i:Nat):List AO->Nat
 | []=>0
 | a :: os=>match nV a.ix i with
  | true=>a.kd
  | false=>kdAt i os
def lazyA (os:List AO):Bool:=os.any fun a=>Nat.blt 3 a.kd
def chkR (P:Program) (N:Nat) (os:List AO) (l:List Oper) (draw:Bool):Bool :=
 let ks:=(nO l.length).map fun i=>kdAt i os
 os.all (fun a=>wHh P N l a && nV (kOf ks a.ix) a.kd) && (match draw with
  | true=>(match lazyA os with
   | true=>os.all (fun a=>Nat.blt a.kd 8) && chkZ l os
   | false=>wNO l ks (wKG os))
  | false=>inOrder 0 (wKG os) l.length)
def wMo (N:Nat):List Pos->List Nat->Bool
 | [],[]=>true
 | t :: ts,p :: ps=>(nV t.nat (p + 1) && Nat.blt p N) && wMo N ts ps
 | _,_=>false
theorem wLs {N:Nat}:∀ {ts:List Pos} {ps:List Nat},wMo N ts ps=true->ts.map Pos.nat=ps.map (· + 1)/\∀ x ∈ ps,x < N
 | [],[],_=>by simp
 | t :: ts,p :: ps,h=>by
  simp only [wMo,nB,Nat.blt_eq] at h
  obtain ⟨⟨h1,h2⟩,h3⟩:=h
  obtain ⟨h4,h5⟩:=wLs h3
  refine ⟨by simp [h4,nD h1],?_⟩
  intro x hx
  rcases nE.1 hx with rfl | hx
  ·exact h2
  ·exact h5 x hx
 | [],_ :: _,h=>by simp [wMo] at h
 | _ :: _,[],h=>by simp [wMo] at h
theorem wLt {μ:Mu}:∀ {ts:List Pos} {ns:List Nat} {σA σB:Tr AV} {σ:Env} {as:List AV} {vs:List Value},wRJ σA ts as=some σB->ts.map Pos.nat=ns.map (· + 1)->RvL μ as vs->EnvR μ σA σ->EnvR μ σB (wPf σ ns vs)/\ns.length=vs.length
 | [],ns,σA,σB,σ,as,vs,hs,hn,hv,hE=>by
  cases ns with
  | cons _ _=>simp at hn
  | nil =>
   cases as with
   | cons _ _=>simp [wRJ] at hs
   | nil=>cases hv;simp only [wRJ,kL] at hs;subst hs;exact ⟨hE,rfl⟩
 | t :: ts,ns,σA,σB,σ,as,vs,hs,hn,hv,hE=>by
  cases ns with
  | nil=>simp at hn
  | cons n ns =>
   cases as with
   | nil=>simp [wRJ] at hs
   | cons a as =>
    obtain ⟨v,ws,h1,h2,rfl⟩:=hv
    simp only [nk,nf] at hn
    have hp:=hE.put (p:=t) h1
    have e:t.nat - 1=n:=by omega
    rw [e] at hp
    obtain ⟨g1,g2⟩:=wLt (ts:=ts) (ns:=ns) (σA:=σA.set t a) (σ:=upd σ n v) (by simpa [wRJ] using hs) hn.2 h2 hp
    exact ⟨g1,by simp [g2]⟩
def wFS (P:Program) (N:Nat):AC->Code->Bool
 | .skip,.skip=>true
 | .skip,.label _=>true
 | .rg os,.region _ ops draw=>chkR P N os ops.toList draw
 | .rl os,.region _ ops draw=>draw && (os.all (fun a=>wHh P N ops.toList a) && chkZ ops.toList os)
 | .seq a b,.seq c d=>wFS P N a c && wFS P N b d
 | .cond x a b,.cond y c d=>wCR x y && (wFS P N a c && wFS P N b d)
 | .block i a,.block j c=>nV i j && wFS P N a c
 | .loop a,.loop c=>wFS P N a c
 | .scope a,.scope c=>wFS P N a c
 | .rf g t asg body,.rangeFunc g' ps asg' body'=>wCR g g' && (wMo N t ps.toList && (wFS P N asg asg' && wFS P N body body'))
 | .exit i,.exit j=>nV i j
 | .ret,.ret=>true
 | _,_=>false
def CC (P:Program):Chk:=fun a c N=>wFS P N a c=true
section
variable {P:Program} {tb:Tr AF} {μ μ' μ'':Mu} {w w' w'':World} {h h' h'':AH} {σ:Env} {σA:Tr AV}
def Mk (μ:Mu) (w:World) (n0:Nat) (D:List Deferred):Prop:=∃ rbs:List Nat,D=rbs.map mark/\rbs.Nodup/\∀ rb ∈ rbs,Dfr w rb/\n0 <= rb/\∀ p c,μ p=some c->c.1 ≠ rb
theorem Mk.nil (μ:Mu) (w:World) (n0:Nat):Mk μ w n0 []:=⟨[],rfl,by simp,by simp⟩
theorem Mk.ext {n0 fl:Nat} {D:List Deferred} (M:Mk μ w n0 D) (E:Ext μ fl w μ' w'):Mk μ' w' n0 D:=by
 obtain ⟨rbs,h1,h2,h3⟩:=M
 refine ⟨rbs,h1,h2,fun rb hrb=>?_⟩
 obtain ⟨g1,g2,g3⟩:=h3 rb hrb
 refine ⟨g1.keep E.keep fun ⟨p,d,q1,q2,_⟩=>g3 p d q1 q2,g2,fun p c hp=>?_⟩
 rcases E.new p c hp with q | ⟨p',d,q1,q2,_⟩ | q
 ·exact g3 p c q
 ·rw [<- q2];exact g3 p' d q1
 ·have:=g1.lt;omega
def PostX (P:Program) (μ:Mu) (fl:Pos) (w:World) (n0:Nat) (rr:Option Nat) (D:List Deferred) (e:Ex) (σA':Tr AV) (h':AH):wDf:=fun D' e' σ' w' =>
 e'=exC e/\∃ μ',Ext μ fl.nat w μ' w'/\Sim (CC P) P μ' h' w'/\EnvR μ' σA' σ'/\Mk μ' w' n0 D'/\h'.fl=fl/\(rr.isSome=true->D'=D)
def wIo (P:Program) (ex:Run) (r:Bool):Prop:=∀ c σA h e σA' h',ex c σA h=some (e,σA',h')->∀ code N,wFS P N c code=true->∀ (rr:Option Nat) (μ:Mu) (σ:Env) (w:World) (D:List Deferred) (n0:Nat),
 rr.isSome=r->Sim (CC P) P μ h w->EnvR μ σA σ->Mk μ w n0 D->n0 <= w.heap.size->CK rr N P code (PostX P μ h.fl w n0 rr D e σA' h') D σ w
def wOd (P:Program) (ex:Run) (r:Bool) (m:Nat):Prop:=∀ c σA h e σA' h',ex (.loop c) σA h=some (e,σA',h')->∀ code N,wFS P N c code=true->∀ (rr:Option Nat) (μ:Mu) (σ:Env) (w:World) (D:List Deferred) (n0:Nat),
 rr.isSome=r->Sim (CC P) P μ h w->EnvR μ σA σ->Mk μ w n0 D->n0 <= w.heap.size->∀ a,Rep N D a σ->Code.roundsIn (WF rr) 0 P code (wIw N (PostX P μ h.fl w n0 rr D e σA' h')) m a w
theorem PostX.trans {fl:Pos} {n0:Nat} {rr:Option Nat} {D D1 D':List Deferred} {e:Ex} {e':Exit} {σA':Tr AV} {σ':Env} (E:Ext μ fl.nat w μ' w') (hD:rr.isSome=true->D1=D) (hP:PostX P μ' fl w' n0 rr D1 e σA' h' D' e' σ' w''):PostX P μ fl w n0 rr D e σA' h' D' e' σ' w'':=by
 obtain ⟨h1,μ2,h2,h3,h4,h5,h6,h7⟩:=hP
 exact ⟨h1,μ2,E.trans h2,h3,h4,h5,h6,fun hr=>(h7 hr).trans (hD hr)⟩
theorem wHk {F:Fence} {n:Nat} {c:Code} {Q Q':Exit->Act->World->Prop} (hQ:∀ e a w,Q e a w->Q' e a w):∀ (m:Nat) (a:Act) (w:World),Code.roundsIn F n P c Q m a w->Code.roundsIn F n P c Q' m a w
 | 0,_,_,h=>h.elim
 | m + 1,a,w,h=>by
  rw [roundsIn_succ] at h ⊢
  refine wpIn_mono h fun e a w q=>?_
  cases e with
  | normal=>exact wHk hQ m a w q
  | _=>exact hQ _ _ _ q
theorem Ext.drew (μ:Mu) (fl:Nat) (w:World):Ext μ fl w μ { w with drawn:=w.drawn + 1 }:=⟨Mu.Le.refl μ,fun _ _ h=>.inl h,(Keep.drew w).weak fun _ _ h=>h.elim⟩
theorem Sim.keepX {C:Chk} {X:Nat->Prop} (S:Sim C P μ h w) (K:Keep w w' X) (hX:∀ p c,μ p=some c->¬ X c.1):Sim C P μ h w' :=
 ⟨S.nx,fun p c hp=>nu (S.lt p c hp) K.size,S.inj,fun p b hb=>let ⟨c,h1,h2⟩:=S.at_ p b hb;⟨c,h1,h2.keep K (hX p c h1)⟩⟩
def wEZ (P:Program):List AR->List ResultVar->Bool
 | [],[]=>true
 | .t p :: l,.tmp t :: k=>nV p.nat (t + 1) && wEZ P l k
 | .c p n :: l,.cell a t :: k=>nV p.nat (a + 1) && ((match n with | none=>wPr P t false | some n=>wPr P t true && szT P t n) && wEZ P l k)
 | _,_=>false
def chkF (P:Program) (k:Nat) (af:AF):Bool:=match P.funcs[k]? with
 | none=>false
 | some fn=>match fn.body with
  | none=>false
  | some c => nV fn.ntmps af.n && (wEZ P af.res fn.results.toList && (!(fn.name == "runtime.NumGoroutine") && wFS P fn.ntmps af.body c))
theorem wLA {C:Chk} (hE:EnvR μ σA σ) (S:Sim C P μ h w):∀ {l:List AR} {k:List ResultVar} {vs:List AV},wEZ P l k=true->wSa σA h l=some vs->∃ VS,RvL μ vs VS/\wSY P w σ k VS
 | [],[],vs,_,hr=>by simp only [wSa] at hr;cases hr;exact ⟨[],rfl,trivial⟩
 | .t p :: l,.tmp t :: k,vs,hc,hr=>by
  simp only [wEZ,nB] at hc
  simp only [wSa,res1] at hr
  split at hr
  ·rename_i vs' hvs
   cases hr
   obtain ⟨VS,g1,g2⟩:=wLA hE S hc.2 hvs
   have e:=nD hc.1
   have g:=hE p
   rw [e] at g
   exact ⟨_,wBl g g1,rfl,g2⟩
  ·cases hr
 | .c p n :: l,.cell a t :: k,vs,hc,hr=>by
  simp only [wEZ,nB] at hc
  obtain ⟨c1,c2,c3⟩:=hc
  have e:=nD c1
  have g:=hE p
  rw [e] at g
  rw [wSa] at hr
  split at hr
  ·rename_i v hv
   split at hr
   ·rename_i vs' hvs
    cases hr
    obtain ⟨VS,g1,g2⟩:=wLA hE S c3 hvs
    simp only [res1] at hv
    split at hv
    ·rename_i b off hb
     split at hv
     ·rename_i cl hcl
      obtain ⟨c,ws,q1,q2,q3⟩:=wEv hcl S
      rw [hb] at g
      obtain ⟨c',k1,k2⟩:=g
      rw [q1] at k1;cases k1
      have k2:σ a=.pointer (some ⟨c.1,off,none⟩):=k2
      split at hv
      ·rw [wGb] at hv
       obtain ⟨cv,r1,r2⟩:=wFL q2 hv
       refine ⟨_,wBl r2 g1,⟨_,k2,?_⟩,g2⟩
       simp [loadVar,wEj c2,load,Sem.run,q3 w (Keep.refl w _) _ _ r1]
      ·rename_i n
       simp only [nB] at c2
       obtain ⟨r,hr3,rfl⟩:=wDb hv
       obtain ⟨r1,r2⟩:=wFM hr3 q2
       refine ⟨_,wBl ⟨_,r1,rfl⟩ g1,⟨_,k2,?_⟩,g2⟩
       have:=KL.run_loadCells (P:=P) (w:=w) (b:=c.1) (off:=off) (n:=n) ((ws.drop off).take n) (by simp;omega) fun j u hu=>q3 w (Keep.refl w _) _ _ (wFj rfl j u hu)
       simp [loadVar,wEj c2.1,wDk c2.2,this]
     ·cases hv
    ·cases hv
   ·cases hr
  ·cases hr
 | [],_ :: _,_,hc,_=>by simp [wEZ] at hc
 | .t _ :: _,[],_,hc,_=>by simp [wEZ] at hc
 | .c _ _ :: _,[],_,hc,_=>by simp [wEZ] at hc
 | .t _ :: _,.cell _ _ :: _,_,hc,_=>by simp [wEZ] at hc
 | .c _ _ :: _,.tmp _ :: _,_,hc,_=>by simp [wEZ] at hc
theorem wRo {C:Chk} {l:List AR} {rs:Array ResultVar} {v:AV} (hE:EnvR μ σA σ) (S:Sim C P μ h w) (hc:wEZ P l rs.toList=true) (hr:wPe σA h l=some (v,h')):h'=h/\∃ cv,Rv μ v cv/\(wCl rs σ).run P w=.ok cv w:=by
 unfold wPe at hr
 split at hr
 ·rename_i vs hvs
  cases hr
  refine ⟨rfl,?_⟩
  obtain ⟨VS,g1,g2⟩:=wLA hE S hc hvs
  have hrs:rs=rs.toList.toArray:=by simp
  unfold tupA
  split
  ·rename_i v
   obtain ⟨cv,ws,q1,q2,q3⟩:=g1
   cases q2
   subst q3
   refine ⟨cv,q1,?_⟩
   have hl:∃ r,rs=#[r]:=by
    cases hq:rs.toList with
    | nil=>rw [hq] at g2;exact g2.elim
    | cons r k =>
     cases k with
     | nil=>exact ⟨r,Array.ext' (by simpa using hq)⟩
     | cons r' k=>rw [hq] at g2;cases r <;> cases r' <;> exact g2.2.elim
   obtain ⟨r,rfl⟩:=hl
   exact wFI g2
  ·rename_i hne
   refine ⟨_,⟨VS,g1,rfl⟩,?_⟩
   rw [hrs]
   refine wFk g2 ?_
   have hl:=wDD g1
   cases hb:VS.length == 1 with
   | false=>rfl
   | true =>
    have:vs.length=1:=by rw [<- hl];exact eq_of_beq hb
    obtain ⟨v,hv⟩:=List.length_eq_one_iff.1 this
    exact absurd hv (hne v)
 ·cases hr
def wJN (P:Program) (tb:Tr AF):Prop:=∀ p af,tb.get p=some af->chkF P (p.nat - 1) af=true
theorem wOe (T:wJN P tb) {ex:Run} (HE:wIo P ex false):wGc (CC P) P tb ex:=by
 intro f args h v h' hr
 unfold wJw at hr
 split at hr
 ·rename_i af haf
  have hcf:=T f af haf
  unfold chkF at hcf
  split at hcf
  ·cases hcf
  ·rename_i fn hfn
   split at hcf
   ·cases hcf
   ·rename_i c hbody
    simp only [nB,ny] at hcf
    obtain ⟨c1,c2,c3,c4⟩:=hcf
    refine ⟨fun a w=>?_,fun μ w vs S hv=>?_⟩
    ·have c3' : ¬ fn.name = "runtime.NumGoroutine" := by simpa using c3
     simp [callFunc,program,Sem.run,hfn,hbody,c3']
    ·split at hr
     ·rename_i hle
      have hle:=Nat.le_of_ble_eq_true hle
      have e1:=nD c1
      have key:∀ e σA' h1,ex af.body (wMf args .H .e) h=some (e,σA',h1)->(e=.nrm \/ e=.ret)->wPe σA' h1 af.res=some (v,h')->Gv P (f.nat - 1) vs w fun cv w'=>∃ μ',Ext μ h.fl.nat w μ' w'/\Sim (CC P) P μ' h' w'/\Rv μ' v cv/\h'.fl=h.fl:=by
       intro e σA' h1 hx he hres
       refine Gv.ofM hfn hbody rfl rfl (by rw [wDD hv,<- wEi,e1];exact hle) ?_
       refine (HE _ _ _ _ _ _ hx c fn.ntmps c4 none μ (wQX vs) w [] w.heap.size rfl S (wRL hv) (Mk.nil μ w _) (nI _)).mono ?_
       rintro D' e' σ' w' ⟨rfl,μ',q1,q2,q3,q4,q5,_⟩
       obtain ⟨rbs,m1,m2,m3⟩:=q4
       have fin:∃ rbs:List Nat,D'=rbs.map mark/\rbs.Nodup/\(∀ rb ∈ rbs,Dfr w' rb)/\∀ w2,Keep w' w2 (· ∈ rbs)->w2.heap.size=w'.heap.size->∃ cv,(wCl fn.results σ').run P w2=.ok cv w2/\∃ μ',Ext μ h.fl.nat w μ' w2/\Sim (CC P) P μ' h' w2/\Rv μ' v cv/\h'.fl=h.fl:=by
        refine ⟨rbs,m1,m2,fun rb hrb=>(m3 rb hrb).1,fun w2 K hs=>?_⟩
        have S2:=q2.keepX K fun p c hp hm=>(m3 _ hm).2.2 p c hp rfl
        obtain ⟨rfl,cv,r1,r2⟩:=wRo q3 S2 c2 hres
        refine ⟨cv,r2,μ',⟨q1.mono,q1.new,?_⟩,S2,r1,q5⟩
        exact q1.keep.step K fun i hi hm=>absurd (m3 i hm).2.1 (Nat.not_le.2 hi)
       rcases he with rfl | rfl
       ·exact fin
       ·exact fin
      split at hr
      ·exact key _ _ _ (by assumption) (.inl rfl) hr
      ·exact key _ _ _ (by assumption) (.inr rfl) hr
      ·cases hr
     ·cases hr
 ·cases hr
theorem wPx {ex:Run} (HE:wIo P ex true):wFQ (CC P) P ex:=by
 intro b args h v h' hr
 unfold wJx at hr
 split at hr
 ·rename_i σA t asg body hB
  intro μ w xv c S hx hc
  split at hr <;> first | (cases hr;done) | skip
  rename_i σS hset
  split at hr <;> first | (cases hr;done) | skip
  rename_i σ1 h1 hasg
  split at hr <;> first | (cases hr;done) | skip
  rename_i σx tx ax bx hB1
  split at hr <;> first | (cases hr;done) | skip
  rename_i h2 hput2
  split at hr <;> first | (cases hr;done) | skip
  rename_i e σ3 h3 hbody
  split at hr <;> first | (cases hr;done) | skip
  rename_i σy ty ay by_ hB3
  split at hr <;> first | (cases hr;done) | skip
  rename_i h4 hput4
  cases hr
  obtain ⟨c',g1,g2⟩:=S.at_ b _ hB
  rw [hc] at g1;cases g1
  have L:wMh (CC P) μ w c σA t asg body .ready:=g2
  obtain ⟨hSE,hSl⟩:=wLt hset L.ht hx L.env
  refine Yd.of L.at_ L.tN hSl fun σ0 hσ0=>?_
  have hE0:EnvR μ σS σ0:=by
   intro p
   rw [hσ0];exact hSE p
  refine (HE _ _ _ _ _ _ hasg c.g.ac c.g.N L.asg (some c.1) μ σ0 w [] 0 rfl S hE0 (Mk.nil μ w _) (nt _)).mono ?_
  rintro D' e' σ' w1 ⟨rfl,μ1,q1,q2,q3,q4,q5,q6⟩
  have hc1:=q1.mono b c hc
  obtain ⟨c',r1,r2⟩:=q2.at_ b _ hB1
  rw [hc1] at r1;cases r1
  have L1:wMh (CC P) μ1 w1 c σx tx ax bx .ready:=r2
  refine ⟨rfl,q6 rfl,L1.at_,fun w2 hl2 K hs=>?_⟩
  obtain ⟨s1,s2,s3⟩:=q2.put hput2 hB1 trivial hc1 K (B':=.loop σA t asg body .busy) ⟨hl2,L.env.mono q1.mono,L.ht,L.tN,L.asg,L.body⟩
  rw [q5] at s2 s3
  refine (HE _ _ _ _ _ _ hbody c.g.bc c.g.N L.body (some c.1) μ1 σ' w2 [] 0 rfl s1 q3 (Mk.nil μ1 w2 _) (nt _)).mono ?_
  rintro D'' e'' σ'' w3 ⟨rfl,μ3,t1,t2,t3,t4,t5,t6⟩
  rw [s3] at t1 t5
  have hc3:=t1.mono b c hc1
  obtain ⟨c',u1,u2⟩:=t2.at_ b _ hB3
  rw [hc3] at u1;cases u1
  have L3:wMh (CC P) μ3 w3 c σy ty ay by_ .busy:=u2
  have fin:∀ w4,LoopAt w4 c.1 c.g.N c.g.σ c.g.t c.g.ac c.g.bc c.g.rb c.g.fn (lsC e.done).1 (lsC e.done).2->Keep w3 w4 (·=c.1)->∃ μ',Ext μ h.fl.nat w μ' w4/\Sim (CC P) P μ' h' w4/\AV.bool e.go=.bool e.go/\h'.fl=h.fl:=by
   intro w4 hl4 K4
   obtain ⟨v1,v2,v3⟩:=t2.put hput4 hB3 trivial hc3 K4 (B':=.loop σA t asg body e.done) ⟨hl4,(L.env.mono q1.mono).mono t1.mono,L.ht,L.tN,L.asg,L.body⟩
   rw [t5] at v2 v3
   exact ⟨μ3,(q1.trans s2).trans (t1.trans v2),v1,rfl,v3⟩
  cases e with
  | nrm=>exact ⟨L3.at_,fun w4 hl K4 _=>fin w4 hl K4⟩
  | ret=>exact ⟨L3.at_,fun w4 hl K4 _=>fin w4 hl K4⟩
  | exit i=>exact ⟨L3.at_,fun w4 hl K4 _=>fin w4 hl K4⟩
 ·cases hr
end
end
end Go.KX
namespace Go.KX
open Go.RowKit Go.KL
theorem wLB (b:AC) (exR:Run) (e:Ex) (σ:Tr AV) (h:AH):seqK b exR (e,σ,h)=(match e with | .nrm=>exR b σ h | e=>some (e,σ,h)):=by cases e <;> rfl
theorem wSd {x:R} {k:Ex × Tr AV × AH->R} {r:Ex × Tr AV × AH} (hr:Option.rec (motive:=fun _=>R) none k x=some r):∃ y,x=some y/\k y=some r:=by
 cases x with
 | none=>cases hr
 | some y=>exact ⟨y,rfl,hr⟩
structure Fr (h h':AH):Prop where
 nx:h.nx.nat <= h'.nx.nat
 fl:h'.fl=h.fl
 get:∀ p,p.nat < h.fl.nat->p.nat < h.nx.nat->h'.m.get p=h.m.get p
theorem Fr.refl (h:AH):Fr h h:=⟨nI _,rfl,fun _ _ _=>rfl⟩
theorem Fr.trans {a b c:AH} (h:Fr a b) (k:Fr b c):Fr a c :=
 ⟨nc h.nx k.nx,k.fl.trans h.fl,fun p h1 h2=>(k.get p (by rw [h.fl];exact h1) (nu h2 h.nx)).trans (h.get p h1 h2)⟩
theorem Fr.push (h:AH) (B:AB):Fr h (h.push B):=by
 refine ⟨?_,rfl,fun p _ h2=>?_⟩
 ·show h.nx.nat <= h.nx.succ.nat
  rw [Pos.nat_succ];omega
 ·show (h.m.set h.nx B).get p=_
  rw [Tr.get_set,if_neg (fun e=>by subst e;omega)]
theorem Fr.put {h h':AH} {p:Pos} {B:AB} (hp:h.put p B=some h'):Fr h h':=by
 obtain ⟨h1,rfl⟩:=wJI hp
 refine ⟨nI _,rfl,fun q h2 _=>?_⟩
 show (h.m.set p B).get q=_
 rw [Tr.get_set,if_neg (fun e=>by subst e;omega)]
theorem Fr.setAt {h h':AH} {b:Pos} {off:Nat} {vs:List AV} (hs:KX.setAt h b off vs=some h'):Fr h h':=by
 unfold KX.setAt at hs
 split at hs
 ·split at hs
  ·exact Fr.put hs
  ·cases hs
 ·split at hs
  ·exact Fr.put hs
  ·cases hs
 ·cases hs
theorem wRp {h h':AH} {o:Option AV} {v:AV} (hr:okV h o=some (v,h')):h'=h:=by
 cases o with
 | none=>cases hr
 | some x=>cases hr;rfl
theorem wIV {α:Type} {b:Bool} {x:Option α} {y:α} (hr:ifO b x=some y):x=some y:=by
 cases b with
 | true=>exact hr
 | false=>cases hr
section
variable {tb:Tr AF} {ex exY:Run} {σ:Tr AV} {h h':AH} {v:AV}
theorem wTR {T sz by_ m:Nat} {news:List AV} {x:AV} (hr:app h T sz by_ m news x=some (v,h')):Fr h h':=by
 unfold app at hr
 split at hr
 ·split at hr <;> first | (cases hr;exact Fr.refl _) | (cases hr;done)
 ·split at hr
  ·have hr:=wIV hr;cases hr;exact Fr.push _ _
  ·split at hr
   ·split at hr
    ·rename_i hs;cases hr;exact Fr.setAt hs
    ·cases hr
   ·have hr:=wIV hr
    split at hr
    ·cases hr;exact Fr.push _ _
    ·cases hr
  ·split at hr
   ·split at hr
    ·split at hr
     ·rename_i hs;cases hr;exact Fr.setAt hs
     ·cases hr
    ·have hr:=wIV hr
     split at hr
     ·rename_i hs;cases hr;exact (Fr.put hs).trans (Fr.push _ _)
     ·cases hr
   ·cases hr
  ·cases hr
theorem wQp {z:List AV} {b:Pos} {off n:Nat} (hr:clr h z b off n=some (v,h')):Fr h h':=by
 unfold clr at hr
 split at hr
 ·cases hr;exact Fr.refl _
 ·have hr:=wIV hr
  split at hr
  ·rename_i hs;cases hr;exact Fr.setAt hs
  ·cases hr
def FrX (ex:Run):Prop:=∀ c σ h e σ' h',ex c σ h=some (e,σ',h')->Fr h h'
theorem wQq {l:List AR} (hr:wPe σ h l=some (v,h')):Fr h h':=by
 unfold wPe at hr
 split at hr
 ·cases hr;exact Fr.refl _
 ·cases hr
theorem wOf (HE:FrX ex) {f:Pos} {args:List AV} (hr:wJw tb ex f args h=some (v,h')):Fr h h':=by
 unfold wJw at hr
 split at hr
 ·split at hr
  ·split at hr
   ·rename_i h1;exact (HE _ _ _ _ _ _ h1).trans (wQq hr)
   ·rename_i h1;exact (HE _ _ _ _ _ _ h1).trans (wQq hr)
   ·cases hr
  ·cases hr
 ·cases hr
theorem wPy (HY:FrX ex) {b:Pos} {args:List AV} (hr:wJx ex b args h=some (v,h')):Fr h h':=by
 unfold wJx at hr
 split at hr
 ·split at hr
  ·cases hr
  ·split at hr
   ·rename_i h1
    split at hr
    ·split at hr
     ·rename_i h2
      split at hr
      ·rename_i h3
       split at hr
       ·split at hr
        ·rename_i h4
         cases hr
         exact (HY _ _ _ _ _ _ h1).trans ((Fr.put h2).trans ((HY _ _ _ _ _ _ h3).trans (Fr.put h4)))
        ·cases hr
       ·cases hr
      ·cases hr
     ·cases hr
    ·cases hr
   ·cases hr
 ·cases hr
theorem wOg (HE:FrX ex) (HY:FrX exY) (op:AOp) (hr:opY op tb ex exY σ h=some (v,h')):Fr h h':=by
  cases op with
  | call x l =>
    have hr:wGa x l tb ex exY σ h=some (v,h'):=hr
    unfold wGa at hr
    split at hr
    · exact wOf HE hr
    · exact wPy HY hr
    · cases hr
  | new T z=>cases hr;exact Fr.push _ _
  | box T x=>cases hr;exact Fr.push _ _
  | mkm=>cases hr;exact Fr.push _ _
  | mks T sz b z x y =>
    have hr:wHT T sz b z x y σ h=some (v,h'):=hr
    unfold wHT at hr
    split at hr
    · have hr:=wIV hr;cases hr;exact Fr.push _ _
    · cases hr
  | blds T n z ps =>
    have hr:wEg T n z ps σ h=some (v,h'):=hr
    unfold wEg at hr
    split at hr
    · cases hr;exact Fr.push _ _
    · cases hr
  | st n x y =>
    have hr:wQe n x y σ h=some (v,h'):=hr
    unfold wQe at hr
    split at hr
    · split at hr
      · split at hr
        · rename_i hs;cases hr;exact Fr.setAt hs
        · cases hr
      · cases hr
    · cases hr
  | mput two k x y z =>
    have hr:wGY two k x y z σ h=some (v,h'):=hr
    unfold wGY at hr
    split at hr
    · split at hr
      · split at hr
        · split at hr
          · rename_i hs;cases hr;exact Fr.put hs
          · cases hr
        · cases hr
      · cases hr
    · cases hr
  | mdel two k x y =>
    have hr:wGZ two k x y σ h=some (v,h'):=hr
    unfold wGZ at hr
    split at hr
    · split at hr
      · split at hr
        · split at hr
          · rename_i hs;cases hr;exact Fr.put hs
          · cases hr
        · cases hr
      · cases hr
    · cases hr
  | app T sz b x y =>
    have hr:wJt T sz b x y σ h=some (v,h'):=hr
    unfold wJt at hr
    split at hr
    · exact wTR (wIV hr)
    · cases hr
  | cpy sz x y =>
    have hr:wJu sz x y σ h=some (v,h'):=hr
    unfold wJu at hr
    split at hr
    · split at hr
      · have hr:=wIV hr
        split at hr
        · rename_i hs;cases hr;exact Fr.setAt hs
        · cases hr
      · cases hr
    · cases hr
  | clr z x =>
    have hr:wJv z x σ h=some (v,h'):=hr
    unfold wJv at hr
    split at hr
    · exact wQp hr
    · exact wQp hr
    · cases hr;exact Fr.refl _
    · cases hr;exact Fr.refl _
    · cases hr
  | bad=>cases hr
  | apz T sz b z x y =>
    have hr:wJy T sz b z x y σ h=some (v,h'):=hr
    unfold wJy at hr
    split at hr
    · split at hr
      · cases hr;exact Fr.refl _
      · have hr:=wIV hr;cases hr;exact Fr.push _ _
    · cases hr
  | _ =>
    have e:h'=h:=by
      dsimp only [opY] at hr
      first
        | exact wRp hr
        | (simp only [wSZ,wHR,wPc,wIU,wHS,wKc,wKd,wKe,wKf,wKg,wMe,wKh,wHU,wKi,wKj,wHV,wKk,wHW,wRI,wKl,wPd,wKm,wKn,wFC,wKo,wKp] at hr
           repeat' (split at hr)
           all_goals first
             | exact wRp hr
             | (cases hr;rfl)
             | (cases hr;done)
             | exact wRp (wIV hr)
             | (have hr2:=wIV hr;cases hr2;rfl))
    subst e
    exact Fr.refl _
theorem wQr (HE:FrX ex) (HY:FrX exY) (k:Nat) (op:AOp) (hr:opK k op tb ex exY σ h=some (v,h')):Fr h h':=by
 by_cases k2:nV k 2=true
 ·have hr:wQf op tb ex exY σ h=some (v,h'):=by
   have e:opK k op=wQf op:=by unfold opK;rw [k2]
   rw [e] at hr;exact hr
  unfold wQf at hr
  split at hr
  ·rename_i v0 h0 hq
   cases hr
   have F:=wOg HE HY op hq
   exact ⟨F.nx,rfl,fun p _ h2=>F.get p h2 h2⟩
  ·cases hr
 ·have e:opK k op=opY op:=by
   unfold opK
   cases hb:nV k 2 with
   | true=>exact absurd hb k2
   | false=>rfl
  rw [e] at hr
  exact wOg HE HY op hr
theorem wTS (HE:FrX ex) (HY:FrX exY) (op:AOp) (hr:wQf op tb ex exY σ h=some (v,h')):∀ p,p.nat < h.nx.nat->h'.m.get p=h.m.get p:=by
 unfold wQf at hr
 split at hr
 ·rename_i v0 h0 hq
  cases hr
  have F:=wOg HE HY op hq
  exact fun p h2=>F.get p h2 h2
 ·cases hr
theorem wIp (HE:FrX ex) (HY:FrX exY):∀ (l:List AO) (σ:Tr AV) (h:AH) (σ':Tr AV) (h':AH),wAf tb ex exY l σ h=some (σ',h')->Fr h h'
 | [],σ,h,σ',h',hr=>by
  rw [wBG] at hr;cases hr;exact Fr.refl _
 | o :: os,σ,h,σ',h',hr=>by
  rw [wBJ] at hr
  split at hr
  ·split at hr
   ·rename_i r hq
    exact (wQr HE HY _ _ hq).trans (wIp HE HY os _ _ _ _ hr)
   ·cases hr
  ·exact wIp HE HY os _ _ _ _ hr
theorem wOh {exR:Run} (HR:FrX exR) {b:AC} {r:Ex × Tr AV × AH} {e:Ex} {σ':Tr AV} (hr:seqK b exR r=some (e,σ',h')):Fr r.2.2 h':=by
 obtain ⟨e0,σ0,h0⟩:=r
 rw [wLB] at hr
 cases e0 with
 | nrm=>exact HR _ _ _ _ _ _ hr
 | exit i=>cases hr;exact Fr.refl _
 | ret=>cases hr;exact Fr.refl _
theorem wRq {exR:Run} (HE:FrX ex) (HY:FrX exY) (HR:FrX exR) (c:AC) (f:Bool) {e:Ex} {σ':Tr AV} (hr:step c f tb ex exY exR σ h=some (e,σ',h')):Fr h h':=by
 cases c with
 | skip=>cases hr;exact Fr.refl _
 | rg l =>
  have hr:sRg l tb ex exY exR σ h=some (e,σ',h'):=hr
  unfold sRg at hr
  cases hq:wAf tb ex exY l σ h with
  | none=>rw [hq] at hr;cases hr
  | some y =>
   rw [hq] at hr
   cases hr
   exact wIp HE HY l _ _ _ _ hq
 | seq a b =>
  have hr:wSu a b exR σ h=some (e,σ',h'):=hr
  unfold wSu at hr
  obtain ⟨y,h1,h2⟩:=wSd hr
  exact (HR _ _ _ _ _ _ h1).trans (wOh HR h2)
 | cond c a b =>
  have hr:wNv c a b exR σ h=some (e,σ',h'):=hr
  unfold wNv at hr
  split at hr
  ·exact HR _ _ _ _ _ _ hr
  ·exact HR _ _ _ _ _ _ hr
  ·cases hr
 | block i a =>
  have hr:wLg i a exR σ h=some (e,σ',h'):=hr
  unfold wLg at hr
  obtain ⟨y,h1,h2⟩:=wSd hr
  obtain ⟨e0,σ0,h0⟩:=y
  refine (HR _ _ _ _ _ _ h1).trans ?_
  unfold wQh at h2
  cases e0 with
  | nrm=>cases h2;exact Fr.refl _
  | ret=>cases h2;exact Fr.refl _
  | exit j =>
   simp only at h2
   cases hb:nV j i with
   | true=>rw [hb] at h2;cases h2;exact Fr.refl _
   | false=>rw [hb] at h2;cases h2;exact Fr.refl _
 | loop a =>
  have hr:wNw a exR σ h=some (e,σ',h'):=hr
  unfold wNw at hr
  obtain ⟨y,h1,h2⟩:=wSd hr
  exact (HR _ _ _ _ _ _ h1).trans (wOh HR h2)
 | rf g t asg body =>
  have hr:sRf f g t asg body tb ex σ h=some (e,σ',h'):=hr
  unfold sRf at hr
  split at hr
  ·split at hr
   ·rename_i h1
    have F:=(Fr.push h (.loop σ t asg body .ready)).trans (wOf HE h1)
    split at hr
    ·split at hr
     ·rename_i h2;cases hr;exact F.trans (Fr.put h2)
     ·cases hr
    ·split at hr
     ·rename_i h2;cases hr;exact F.trans (Fr.put h2)
     ·cases hr
    ·cases hr
   ·cases hr
  ·cases hr
 | exit i=>cases hr;exact Fr.refl _
 | scope a=>exact HR _ _ _ _ _ _ hr
 | ret=>cases hr;exact Fr.refl _
 | rl l =>
  have hr:sRl l tb ex exY σ h=some (e,σ',h'):=hr
  rw [wQg] at hr
  split at hr
  ·rename_i y hq
   cases hr
   exact wIp HE HY l _ _ _ _ (wKz _ _ _ _ hq).1
  ·cases hr
theorem wFT (tb:Tr AF):∀ (n:Nat) (r:Bool),FrX (exec tb n r)
 | 0,r=>fun c σ h e σ' h' hr=>by cases hr
 | n + 1,r=>fun c σ h e σ' h' hr=>by
  rw [wJz] at hr
  exact wRq (wFT tb n false) (wFT tb n true) (wFT tb n r) c _ hr
end
end Go.KX
namespace Go.KX
open Go.RowKit Go.KL
theorem wRr {a b:IntKind} (h:keq a b=true):a=b:=by
 cases a <;> cases b <;> first | rfl | (simp [keq] at h)
theorem wRs {a b:Int} (h:zeq a b=true):a=b:=by
 cases a with
 | ofNat a=>cases b with
  | ofNat b=>simp only [zeq] at h;rw [nD h]
  | negSucc b=>simp [zeq] at h
 | negSucc a=>cases b with
  | ofNat b=>simp [zeq] at h
  | negSucc b=>simp only [zeq] at h;rw [nD h]
mutual
theorem wLC:∀ {a b:AV},same a b=true->a=b
 | .int k n,.int k' n',h=>by simp only [same,nB] at h;rw [wRr h.1,wRs h.2]
 | .bool a,.bool b,h=>by simp only [same,beq_iff_eq] at h;rw [h]
 | .ptr b o,.ptr b' o',h=>by simp only [same,nB] at h;rw [Pos.beq_eq h.1,nD h.2]
 | .pnil,.pnil,_=>rfl
 | .sl b o n c,.sl b' o' n' c',h=>by simp only [same,nB] at h;rw [Pos.beq_eq h.1,nD h.2.1,nD h.2.2.1,nD h.2.2.2]
 | .rw b o n c,.rw b' o' n' c',h=>by simp only [same,nB] at h;rw [Pos.beq_eq h.1,nD h.2.1,nD h.2.2.1,nD h.2.2.2]
 | .snil,.snil,_=>rfl
 | .map b,.map b',h=>by simp only [same] at h;rw [Pos.beq_eq h]
 | .mnil,.mnil,_=>rfl
 | .fn f fi ca,.fn f' fi' ca',h=>by simp only [same,nB] at h;rw [Pos.beq_eq h.1,wER h.2.1,wER h.2.2]
 | .fnil,.fnil,_=>rfl
 | .agg l,.agg l',h=>by simp only [same] at h;rw [wER h]
 | .tup l,.tup l',h=>by simp only [same] at h;rw [wER h]
theorem wER:∀ {a b:List AV},wHX a b=true->a=b
 | [],[],_=>rfl
 | a :: l,b :: k,h=>by simp only [wHX,nB] at h;rw [wLC h.1,wER h.2]
 | [],_ :: _,h=>by simp [wHX] at h
 | _ :: _,[],h=>by simp [wHX] at h
end
section
variable {tb:Tr AF} {ex exY:Run} {σ:Tr AV} {h h':AH} {v:AV}
theorem wOi {o:Option AV} (hr:okV h o=some (v,h')) (h2:AH):okV h2 o=some (v,h2):=by
 cases o with
 | none=>cases hr
 | some x=>cases hr;rfl
end
section
variable {P:Program} {l:List Oper} {σ σ':Env} {o:Oper} {w:World}
def Agr (l:List Oper) (o:Oper) (σ σ':Env):Prop:=∀ d ∈ wEe l o,σ d=σ' d
theorem wTT (h:Agr l o σ σ'):∀ y ∈ o.op.operands,ev σ y=ev σ' y:=by
 intro y hy
 cases y with
 | tmp t=>exact h t (nh _ (kG.2 ⟨.tmp t,by simpa using hy,rfl⟩))
 | _=>rfl
theorem wCc (h:Agr l o σ σ'):wanted l σ o=wanted l σ' o:=by
 unfold wanted
 cases hg:o.guard with
 | none=>rfl
 | some g =>
  obtain ⟨j,b⟩:=g
  simp only
  cases hd:(l[j]?).bind (·.dst) with
  | none=>rfl
  | some t =>
   simp only
   rw [h t (by unfold wEe;rw [hg];simp only [hd];simp)]
theorem wOj (hs:wBt o=false) (h:Agr l o σ σ'):execOp (ev σ) o=execOp (ev σ') o:=execOp_congr o (wNN hs) (wTT h)
theorem Runs.agr (hs:wBt o=false) (h:Agr l o σ σ') {v:Value} {w':World}:Runs P σ w o v w' ↔ Runs P σ' w o v w':=by
 unfold Runs;rw [wOj hs h]
theorem Runs.det {v v':Value} {w1 w2:World} (h:Runs P σ w o v w1) (h':Runs P σ w o v' w2):v=v'/\w1=w2:=by
 have:=h.2.symm.trans h'.2
 simp only [Result.ok.injEq] at this
 obtain ⟨e,e2⟩:=this
 exact ⟨by simpa using e,e2⟩
theorem Step1.agr (hs:wBt o=false) (h:Agr l o σ σ') {R:Value->World->Prop} (hh:Step1 P l o σ w R):Step1 P l o σ' w R:=by
 have e:=wOj hs h
 have ew:=wCc h
 rcases hh with ⟨h1,⟨h2,w',h3,h4⟩ | ⟨v,w',h3,h4⟩ | ⟨f,args,R',h3,h4,h5⟩ | hy⟩ | ⟨h1,h2⟩
 ·exact .inl ⟨ew ▸ h1,.inl ⟨h2,w',by unfold Does at h3 ⊢;rw [<- e];exact h3,h4⟩⟩
 ·exact .inl ⟨ew ▸ h1,.inr (.inl ⟨v,w',by unfold Runs at h3 ⊢;rw [<- e];exact h3,h4⟩)⟩
 ·exact .inl ⟨ew ▸ h1,.inr (.inr (.inl ⟨f,args,R',by unfold Enters at h3 ⊢;rw [<- e];exact h3,h4,h5⟩))⟩
 ·exact .inl ⟨ew ▸ h1,.inr (.inr (.inr (by unfold Rounds at hy ⊢;rw [<- e];exact hy)))⟩
 ·exact .inr ⟨ew ▸ h1,h2⟩
end
end Go.KX
namespace Go.KX
open Go.RowKit Go.KL
section
variable {tb:Tr AF} {ex exY:Run} {C:Chk} {P:Program}
theorem wDm:∀ (l1 l2:List AO) (σ:Tr AV) (h:AH) (r:Tr AV × AH),wAf tb ex exY (l1 ++ l2) σ h=some r->∃ σ1 h1,wAf tb ex exY l1 σ h=some (σ1,h1)/\wAf tb ex exY l2 σ1 h1=some r
 | [],l2,σ,h,r,hr=>⟨σ,h,wBG _ _ _ _ _,hr⟩
 | a :: l1,l2,σ,h,r,hr=>by
  rw [nN,wBJ] at hr
  rw [wBJ]
  cases hw:wCx σ a.grd with
  | true =>
   rw [hw] at hr
   simp only at hr ⊢
   cases hq:opK a.kd a.op tb ex exY σ h with
   | none=>rw [hq] at hr;cases hr
   | some q =>
    rw [hq] at hr
    exact wDm l1 l2 _ _ r hr
  | false =>
   rw [hw] at hr
   exact wDm l1 l2 _ _ r hr
theorem wJO {d:Option Pos} {σ:Tr AV} {v:AV} {p:Pos}:evA (wGi d σ v) (.t p)=if d=some p then v else evA σ (.t p):=by
 cases d with
 | none =>
  rw [if_neg (by simp)]
  rfl
 | some q =>
  show evA (σ.set q v) (.t p)=_
  rw [wKt,Tr.get_set]
  by_cases e:p=q
  ·subst e
   rw [if_pos rfl,if_pos rfl]
   rfl
  ·rw [if_neg e,if_neg (fun h=>e (by cases h;rfl)),wKt]
theorem wDE:∀ (l:List AO) (σ:Tr AV) (h:AH) (σ':Tr AV) (h':AH),wAf tb ex exY l σ h=some (σ',h')->∀ p,(∀ a ∈ l,a.dst ≠ some p)->evA σ' (.t p)=evA σ (.t p)
 | [],σ,h,σ',h',hr,p,_=>by
  rw [wBG] at hr
  cases hr
  rfl
 | a :: l,σ,h,σ',h',hr,p,hp=>by
  have hn:a.dst ≠ some p:=hp a (by simp)
  rw [wBJ] at hr
  cases hw:wCx σ a.grd with
  | true =>
   rw [hw] at hr
   simp only at hr
   cases hq:opK a.kd a.op tb ex exY σ h with
   | none=>rw [hq] at hr;cases hr
   | some q =>
    rw [hq] at hr
    rw [wDE l _ _ _ _ hr p fun b hb=>hp b (by simp [hb]),wJO,if_neg hn]
  | false =>
   rw [hw] at hr
   rw [wDE l _ _ _ _ hr p fun b hb=>hp b (by simp [hb]),wJO,if_neg hn]
variable {μ μ':Mu} {h:AH} {w:World}
theorem Sim.adopt {c:Cl} {B:AB} (S:Sim C P μ h w) (hlt:c.1 < w.heap.size) (hn:∀ p d,μ p=some d->d.1 ≠ c.1) (hB:AbR C P (μ.add h.nx c) w c B):Sim C P (μ.add h.nx c) (h.push B) w:=by
 have hn0:=S.nx h.nx (nI _)
 have hle:=Mu.add_le (c:=c) hn0
 refine ⟨?_,?_,?_,?_⟩
 ·intro p hp
  have hp:h.nx.succ.nat <= p.nat:=hp
  rw [Pos.nat_succ] at hp
  unfold Mu.add
  rw [if_neg (fun e=>by subst e;omega)]
  exact S.nx p (by omega)
 ·intro p d hd
  unfold Mu.add at hd
  split at hd
  ·cases hd;exact hlt
  ·exact S.lt p d hd
 ·intro p q a b d e hp hq la lb hd he hde
  simp only [AH.push,Tr.get_set] at hp hq
  unfold Mu.add at hd he
  split at hd <;> split at he
  ·rename_i h1 h2;rw [h1,h2]
  ·cases hd;exact absurd hde.symm (hn _ _ he)
  ·cases he;exact absurd hde (hn _ _ hd)
  ·rename_i h1 h2
   rw [if_neg h1] at hp
   rw [if_neg h2] at hq
   exact S.inj p q a b d e hp hq la lb hd he hde
 ·intro p b hb
  simp only [AH.push,Tr.get_set] at hb
  split at hb
  ·rename_i e
   subst e
   cases hb
   exact ⟨c,Mu.add_same _ _ _,hB⟩
  ·rename_i e
   obtain ⟨d,h1,h2⟩:=S.at_ p b hb
   exact ⟨d,hle _ _ h1,h2.mono hle⟩
end
end Go.KX
namespace Go.KX
open Go.RowKit Go.KL
theorem wGO:∀ {l:List AOd} {p:Pos},AOd.t p ∈ l->p ∈ wCw l
 | .t q :: l,p,h=>by
  rcases nE.1 h with h | h
  ·cases h;simp [wCw]
  ·simp only [wCw,nE];exact .inr (wGO h)
 | .c v :: l,p,h=>by
  rcases nE.1 h with h | h
  ·cases h
  ·show p ∈ wCw l
   exact wGO h
noncomputable def rst (σ:Tr AV):List Pos->Tr AV
 | []=>.e
 | p :: ps=>(rst σ ps).set p (evA σ (.t p))
theorem wHl (σ:Tr AV):∀ (ps:List Pos) (p:Pos),evA (rst σ ps) (.t p)=if p ∈ ps then evA σ (.t p) else u
 | [],p=>by rw [if_neg (by simp)];rfl
 | q :: ps,p=>by
  show evA ((rst σ ps).set q (evA σ (.t q))) (.t p)=_
  rw [wKt,Tr.get_set]
  by_cases e:p=q
  ·subst e
   rw [if_pos rfl,if_pos (by simp)]
   rfl
  ·rw [if_neg e,<- wKt,wHl σ ps p]
   simp [e]
open Classical in
noncomputable def rsl (σ:Env) (ps:List Pos):Env:=fun d=>if ∃ p ∈ ps,p.nat - 1=d then σ d else undef
theorem wHm {μ:Mu} {σA:Tr AV} {σ:Env} {ps:List Pos} (h:∀ p ∈ ps,Rv μ (evA σA (.t p)) (σ (p.nat - 1))):EnvR μ (rst σA ps) (rsl σ ps):=by
 intro p
 rw [wHl]
 unfold rsl
 by_cases hp:p ∈ ps
 ·rw [if_pos hp,if_pos ⟨p,hp,rfl⟩]
  exact h p hp
 ·rw [if_neg hp,if_neg]
  ·exact wOB μ
  ·rintro ⟨q,hq,e⟩
   have h1:=q.nat_pos
   have h2:=p.nat_pos
   have:q=p:=Pos.nat_inj (by omega)
   exact hp (this ▸ hq)
section
variable {tb:Tr AF} {ex exY:Run} {C:Chk} {P:Program} {μ:Mu} {σA:Tr AV} {σ:Env} {h h':AH} {v:AV} {o:Oper} {a:AOp} {w:World}
theorem wLu (hr:opY a tb ex exY σA h=some (v,h')):opY a tb ex exY (rst σA (wCw (wBo a))) h=some (v,h'):=by
 rw [<- hr]
 refine wOb a (fun x hx=>?_) h
 cases x with
 | t p=>rw [wHl,if_pos (wGO hx)]
 | c v=>rfl
theorem wRt (hs:wBt o=false) (hb:Sub a o):execOp (ev (rsl σ (wCw (wBo a)))) o=execOp (ev σ) o:=by
 refine execOp_congr o (wNN hs) fun y hy=>?_
 cases y with
 | tmp t =>
  show rsl σ (wCw (wBo a)) t=σ t
  unfold rsl
  rw [if_pos (hb t hy)]
 | _=>rfl
theorem wJP (hs:wBt o=false) (hb:Sub a o) {v:Value} {w':World}:Runs P (rsl σ (wCw (wBo a))) w o v w' ↔ Runs P σ w o v w':=by
 unfold Runs;rw [wRt hs hb]
theorem wHn (hs:wBt o=false) (hb:Sub a o) (hk:kdA a=3) (hc:wHg P a o.op=true) (hr:opY a tb ex exY σA h=some (v,h')) (hv:∀ p ∈ wCw (wBo a),Rv μ (evA σA (.t p)) (σ (p.nat - 1))) :
  ∃ cv,Rv μ v cv/\∀ w,Runs P σ w o cv w:=by
 obtain ⟨_,h2⟩:=wIk (tb:=tb) (ex:=ex) (exY:=exY) hk hc _ _ _ _ (wLu hr)
 obtain ⟨cv,g1,g2⟩:=h2 μ _ (wHm hv)
 exact ⟨cv,g1,fun w=>(wJP hs hb).1 (g2 o w rfl)⟩
theorem wOk (hs:wBt o=false) (hb:Sub a o) (hk:kdA a=1 \/ kdA a=3) (hc:wHg P a o.op=true) (hr:opY a tb ex exY σA h=some (v,h')) (S:Sim C P μ h w) (hv:∀ p ∈ wCw (wBo a),Rv μ (evA σA (.t p)) (σ (p.nat - 1))) :
  ∃ cv,Rv μ v cv/\Runs P σ w o cv w:=by
 obtain ⟨_,h2⟩:=wIl (C:=C) (tb:=tb) (ex:=ex) (exY:=exY) hk hc _ _ _ _ (wLu hr)
 obtain ⟨cv,g1,g2⟩:=h2 μ _ w (wHm hv) S
 exact ⟨cv,g1,(wJP hs hb).1 (g2 o rfl w (Keep.refl w _))⟩
theorem wLv {op:Op} (hk:wNI a=true) (hc:wHg P a op=true):OkA C P op (opY a tb ex exY):=by
 cases a <;> first
  | (simp [wNI] at hk;done)
  | exact a_new hc | exact a_box hc | exact a_mkm hc | exact a_mks hc | exact wTP hc
theorem wMp (hs:wBt o=false) (hb:Sub a o) (hk:wNI a=true) (hc:wHg P a o.op=true) (hr:opY a tb ex exY σA h=some (v,h')) (hv:∀ p ∈ wCw (wBo a),Rv μ (evA σA (.t p)) (σ (p.nat - 1))) :
  ∃ (B:AB) (vf:Pos->AV) (ob:Obj) (val:Nat->Value),h'=h.push B/\v=vf h.nx/\wMi B/\(∀ w:World,Runs P σ w o (val w.heap.size) (w.alloc ob)) /\
   (∀ μ' (w:World) b,μ.Le μ'->w.heap[b]?=some ob->AbR C P μ' w ⟨b,0,g0⟩ B)/\∀ μ' p b,μ' p=some ⟨b,0,g0⟩->Rv μ' (vf p) (val b):=by
 obtain ⟨B,vf,e1,e2,_,e4,e5⟩:=wLv (C:=C) (tb:=tb) (ex:=ex) (exY:=exY) hk hc _ _ _ _ (wLu hr)
 obtain ⟨ob,val,g1,g2,g3⟩:=e5 μ _ (wHm hv) o rfl
 exact ⟨B,vf,ob,val,e1,e2,e4,fun w=>(wJP hs hb).1 (g1 w),g2,g3⟩
end
end Go.KX
namespace Go.KX
open Go.RowKit Go.KL
section
variable {tb:Tr AF} {ex exY:Run} {P:Program}
theorem wLw {s t:List AO} {a:AO} {σ0:Tr AV} {h0:AH} {r:Tr AV × AH} (hr:wAf tb ex exY (s ++ a :: t) σ0 h0=some r) :
  ∃ σ1 h1,wAf tb ex exY s σ0 h0=some (σ1,h1) /\
   ((wCx σ1 a.grd=true/\∃ v h2,opK a.kd a.op tb ex exY σ1 h1=some (v,h2)/\wAf tb ex exY t (wGi a.dst σ1 v) h2=some r) \/
    (wCx σ1 a.grd=false/\wAf tb ex exY t (wGi a.dst σ1 u) h1=some r)):=by
 obtain ⟨σ1,h1,e1,e2⟩:=wDm s (a :: t) σ0 h0 r hr
 refine ⟨σ1,h1,e1,?_⟩
 rw [wBJ] at e2
 cases hw:wCx σ1 a.grd with
 | true =>
  rw [hw] at e2
  simp only at e2
  cases hq:opK a.kd a.op tb ex exY σ1 h1 with
  | none=>rw [hq] at e2;cases e2
  | some q =>
   rw [hq] at e2
   exact .inl ⟨rfl,q.1,q.2,rfl,e2⟩
 | false =>
  rw [hw] at e2
  exact .inr ⟨rfl,e2⟩
theorem wES {l:List Oper} {S:Nat->Bool} (hdc:∀ k,k < l.length->S k=true->∀ j ∈ prI l k,S j=true) {x i:Nat} (hp:∀ j ∈ prI l i,S j=true) (h:wLp l x i):S x=true:=h S hdc hp
variable {N:Nat} {l:List Oper} {os s t:List AO} {a:AO} {σ0 σ1 σf:Tr AV} {h0 h1 hf:AH}
theorem wLD (Z:ZOK P N l os) (e:os=s ++ a :: t) {v:AV} {σ2:Tr AV} {h2:AH} (hr:wAf tb ex exY t (wGi a.dst σ2 v) h2=some (σf,hf)) {p:Pos} (hp:a.dst=some p):evA σf (.t p)=v:=by
 rw [wDE t _ _ _ _ hr p fun b hb=>Z.wr s a t e p hp b (nW _ hb),wJO,if_pos hp]
theorem wTU (Z:ZOK P N l os) (e:os=s ++ a :: t) (hr:wAf tb ex exY (a :: t) σ1 h1=some (σf,hf)) {p:Pos} (hp:p ∈ wCe a):evA σf (.t p)=evA σ1 (.t p) :=
 wDE (a :: t) _ _ _ _ hr p fun b hb=>Z.rd s a t e p hp b hb
end
end Go.KX
namespace Go.KX
open Go.RowKit Go.KL
section
variable {tb:Tr AF} {ex exY:Run} {P:Program} {N:Nat} {l:List Oper} {os s t:List AO} {a:AO} {σ0 σ1 σA σf:Tr AV} {h0 h h1 hf:AH} {μ μS:Mu} {σ σ':Env} {w:World} {o:Oper}
theorem wDF:∀ {s s' t t':List AO} {a:AO},(s ++ a :: t).Pairwise (fun a b=>a.ix ≠ b.ix)->s ++ a :: t=s' ++ a :: t'->s=s'/\t=t'
 | [],[],t,t',a,_,e=>by
  simp only [nQ,nf,true_and] at e
  exact ⟨rfl,e⟩
 | [],b :: s',t,t',a,hp,e=>by
  simp only [nQ,nN,nf] at e
  obtain ⟨rfl,rfl⟩:=e
  rw [nQ] at hp
  exact absurd rfl ((nX.1 hp).1 a (by simp))
 | b :: s,[],t,t',a,hp,e=>by
  simp only [nQ,nN,nf] at e
  obtain ⟨rfl,rfl⟩:=e
  rw [nN] at hp
  exact absurd rfl ((nX.1 hp).1 b (by simp))
 | b :: s,b' :: s',t,t',a,hp,e=>by
  simp only [nN,nf] at e
  rw [nN] at hp
  obtain ⟨h1,h2⟩:=wDF (nX.1 hp).2 e.2
  exact ⟨by rw [e.1,h1],h2⟩
theorem wEw (A:AOK P N l a o) (hs:Sub a.op o):∀ d ∈ wEe l o,∃ p ∈ wCe a,p.nat - 1=d:=by
 intro d hd
 unfold wEe at hd
 rcases nL.1 hd with hd | hd
 ·obtain ⟨y,h1,h2⟩:=kG.1 hd
  cases y with
  | tmp t =>
   simp only [kL] at h2
   subst h2
   obtain ⟨p,h3,h4⟩:=hs t (by simpa using h1)
   exact ⟨p,nh _ h3,h4⟩
  | _=>simp at h2
 ·rcases A.grd with ⟨_,h2⟩ | ⟨p,b,j,d',h1,h2,h3,h4⟩
  ·rw [h2] at hd;simp at hd
  ·rw [h2] at hd
   simp only [h3,Option.toList_some,nY] at hd
   subst hd
   exact ⟨p,nW _ (by rw [h1];simp),h4.symm⟩
structure Pend (tb:Tr AF) (ex exY:Run) (P:Program) (l:List Oper) (os:List AO) (σ0:Tr AV) (h0:AH) (σf:Tr AV) (w0:World) (μ μS:Mu) (σ:Env) (w:World) (a:AO) (o:Oper) (p:Pos):Prop where
 get:l[a.ix]?=some o
 dst:a.dst=some p
 fact:(wanted l σ o=false/\σ (p.nat - 1)=undef/\evA σf (.t p)=u) \/ (wanted l σ o=true /\
  (((a.kd=1 \/ a.kd=3 \/ 8 <= a.kd)/\Rv μ (evA σf (.t p)) (σ (p.nat - 1))) \/
   (a.kd=6/\Rv μS (evA σf (.t p)) (σ (p.nat - 1))/\∃ w1 w2,Runs P σ w1 o (σ (p.nat - 1)) w2) \/
   (a.kd=4/\Rv μS (evA σf (.t p)) (σ (p.nat - 1))/\∃ w1 ob s1 t1 σ1 h1,Runs P σ w1 o (σ (p.nat - 1)) (w1.alloc ob)/\w.heap[w1.heap.size]?=some ob/\w0.heap.size <= w1.heap.size /\
    os=s1 ++ a :: t1/\wAf tb ex exY s1 σ0 h0=some (σ1,h1)/\μS h1.nx=some ⟨w1.heap.size,0,g0⟩/\∀ q c,μS q=some c->c.1=w1.heap.size->q=h1.nx)))
theorem wOl {tb:Tr AF} {ex exY:Run} {k:Nat} {op:AOp} {σ:Tr AV} {h h':AH} {v:AV} (hk:k ≠ 2) (hr:opK k op tb ex exY σ h=some (v,h')):opY op tb ex exY σ h=some (v,h'):=by
 have hb:nV k 2=false:=by
  cases hb:nV k 2 with
  | false=>rfl
  | true=>exact absurd (nD hb) hk
 have:opK k op=opY op:=by unfold opK;rw [hb]
 rwa [this] at hr
theorem wMq {k:Nat} (h:8 <= k):¬ wCa k=true:=by
 unfold wCa
 simp only [Bool.or_eq_true,not_or]
 exact ⟨fun e=>by have:=nD e;omega,fun e=>by have:=nD e;omega⟩
theorem wOm {w:World} {a b:Obj} (h:w.alloc a=w.alloc b):a=b:=by
 have h1:=heap_alloc_new w a
 rw [h,heap_alloc_new] at h1
 exact (nH h1).symm
theorem wTV (Z:ZOK P N l os) (e:os=s ++ a :: t) {μ0:Mu} {w0:World} {fl:Nat} (hs:wAf tb ex exY s σ0 h0=some (σA,h)) (hr:wAf tb ex exY (a :: t) σA h=some (σf,hf))
  (E:Ext μ0 fl w0 μ w) (S:Sim (CC P) P μ h w) (hE:EnvR μ σA σ') (hle:μ.Le μS) {p:Pos} (Pd:Pend tb ex exY P l os σ0 h0 σf w0 μ μS σ w a o p) (hag:∀ q ∈ wCe a,σ (q.nat - 1)=σ' (q.nat - 1)) :
  ∃ σB hB μB,wAf tb ex exY (s ++ [a]) σ0 h0=some (σB,hB)/\wAf tb ex exY t σB hB=some (σf,hf)/\μ.Le μB/\μB.Le μS/\Ext μ0 fl w0 μB w/\Sim (CC P) P μB hB w/\hB.fl=h.fl/\EnvR μB σB (upd σ' (p.nat - 1) (σ (p.nat - 1)))/\(a.kd=4->wanted l σ o=true->μB h.nx ≠ none):=by
 have ha:a ∈ os:=by rw [e];simp
 obtain ⟨o',A⟩:=wDK (Z.ao a ha)
 have eo:o'=o:=by have:=A.get;rw [Pd.get] at this;exact (nH this).symm
 subst eo
 have hsel:=Z.sel a ha _ A.get
 have hsub:=Z.sub a ha _ A.get
 have hagr:Agr l o' σ σ':=fun d hd=>by
  obtain ⟨q,h1,rfl⟩:=wEw A hsub d hd
  exact hag q h1
 have hw:=wJL A hE
 have hwσ:wanted l σ o'=wCx σA a.grd:=(wCc hagr).trans hw
 obtain ⟨pd,dd,d1,d2,d3,_⟩:∃ p d,a.dst=some p/\o'.dst=some d/\d=p.nat - 1/\d < N:=by
  rcases A.dst with ⟨h1,_⟩ | h
  ·rw [Pd.dst] at h1;cases h1
  ·exact h
 have ep:pd=p:=by rw [Pd.dst] at d1;exact (nH d1).symm
 subst ep
 have eput:∀ cv,put' σ' o' cv=upd σ' (pd.nat - 1) cv:=fun cv=>by unfold put';rw [d2,d3]
 obtain ⟨σx,hx,q1,q2⟩:=wLw (s:=[]) (a:=a) (t:=t) (σ0:=σA) (h0:=h) (by rw [nQ];exact hr)
 rw [wBG] at q1
 cases q1
 have split1:∀ {σB hB},(match wCx σA a.grd with | true=>(match opK a.kd a.op tb ex exY σA h with | some r=>some (wGi a.dst σA r.1,r.2) | none=>none) | false=>some (wGi a.dst σA u,h))=some (σB,hB)->wAf tb ex exY (s ++ [a]) σ0 h0=some (σB,hB):=by
  intro σB hB hq
  have app:∀ (l1 l2:List AO) (x:Tr AV) (y:AH) (x1:Tr AV) (y1:AH),wAf tb ex exY l1 x y=some (x1,y1)->wAf tb ex exY (l1 ++ l2) x y=wAf tb ex exY l2 x1 y1:=by
   intro l1
   induction l1 with
   | nil=>intro l2 x y x1 y1 h;rw [wBG] at h;cases h;rfl
   | cons b l1 ih =>
    intro l2 x y x1 y1 h
    rw [nN,wBJ]
    rw [wBJ] at h
    cases hb:wCx x b.grd with
    | true =>
     rw [hb] at h
     simp only at h ⊢
     cases hq:opK b.kd b.op tb ex exY x y with
     | none=>rw [hq] at h;cases h
     | some r=>rw [hq] at h;exact ih l2 _ _ _ _ h
    | false =>
     rw [hb] at h
     exact ih l2 _ _ _ _ h
  rw [app s [a] _ _ _ _ hs,wBJ]
  cases hb:wCx σA a.grd with
  | true =>
   rw [hb] at hq
   simp only at hq ⊢
   cases hk:opK a.kd a.op tb ex exY σA h with
   | none=>rw [hk] at hq;cases hq
   | some r =>
    rw [hk] at hq
    cases hq
    exact wBG _ _ _ _ _
  | false =>
   rw [hb] at hq
   cases hq
   rw [wBG]
 rcases q2 with ⟨g1,v,h2,g2,g3⟩ | ⟨g1,g3⟩
 ·have hv:evA σf (.t pd)=v:=wLD Z e g3 Pd.dst
  have hrun:=split1 (σB:=wGi a.dst σA v) (hB:=h2) (by rw [g1];simp only;rw [g2])
  rcases Pd.fact with ⟨f1,_⟩ | ⟨_,⟨fk,f1⟩ | ⟨fk,f1,w1,w2,f2⟩ | ⟨fk,f1,w1,ob,s1,t1,σ1,h1,f2,f3,f4,f5,f6,f7,f8⟩⟩
  ·rw [hwσ,g1] at f1;cases f1
  ·have gY:opY a.op tb ex exY σA h=some (v,h2):=wOl (by omega) g2
   have hk:kdA a.op=1 \/ kdA a.op=3:=by
    rcases fk with fk | fk | fk
    ·exact A.k1 fk
    ·exact .inr (A.k3 fk)
    ·rcases Z.kd a ha with hh | ⟨_,hh | hh | hh | hh | hh⟩
     ·exact absurd hh (wMq fk)
     ·omega
     ·omega
     ·omega
     ·omega
     ·exact .inl hh.2
   obtain ⟨e1,_⟩:=wIl (C:=CC P) hk A.op _ _ _ _ gY
   subst e1
   rw [hv] at f1
   exact ⟨_,_,μ,hrun,g3,Mu.Le.refl μ,hle,E,S,rfl,by rw [<- eput];exact wEY A hE f1,fun h4 _=>by omega⟩
  ·have gY:opY a.op tb ex exY σA h=some (v,h2):=by rw [fk] at g2;exact g2
   have hk:kdA a.op=3:=by
    rcases Z.kd a ha with hh | ⟨_,hh | hh | hh | hh | hh⟩
    ·rw [fk] at hh;exact absurd hh (by decide)
    ·omega
    ·omega
    ·exact hh.2
    ·omega
    ·omega
   obtain ⟨e1,e2⟩:=wIk hk A.op _ _ _ _ gY
   subst e1
   obtain ⟨cv,c1,c2⟩:=e2 μ σ' hE
   have:=Runs.det ((Runs.agr hsel hagr).2 (c2 o' w1 rfl)) f2
   rw [<- eput,<- this.1]
   exact ⟨_,_,μ,hrun,g3,Mu.Le.refl μ,hle,E,S,rfl,wEY A hE c1,fun h4 _=>by omega⟩
  ·have gY:opY a.op tb ex exY σA h=some (v,h2):=by rw [fk] at g2;exact g2
   have hk:wNI a.op=true:=by
    rcases Z.kd a ha with hh | ⟨_,hh | hh | hh | hh | hh⟩
    ·rw [fk] at hh;exact absurd hh (by decide)
    ·omega
    ·omega
    ·omega
    ·exact hh.2
    ·omega
   obtain ⟨B,vf,e1,e2,_,_,e5⟩:=wLv (C:=CC P) hk A.op _ _ _ _ gY
   obtain ⟨ob',val,c1,c2,c3⟩:=e5 μ σ' hE o' rfl
   obtain ⟨k1,k2⟩:=Runs.det ((Runs.agr hsel hagr).2 (c1 w1)) f2
   have k2:=wOm k2
   subst k2
   have es:s1=s:=(wDF (f5 ▸ Z.one) (f5.symm.trans e)).1
   subst es
   rw [hs] at f6
   cases f6
   have hn0:=S.nx h.nx (nI _)
   have hadd:=Mu.add_le (c:=(⟨w1.heap.size,0,g0⟩:Cl)) hn0
   have hlt:w1.heap.size < w.heap.size:=wAR f3
   subst e1 e2
   have hv':Rv (μ.add h.nx ⟨w1.heap.size,0,g0⟩) (vf h.nx) (σ (pd.nat - 1)):=by
    rw [<- k1]
    exact c3 _ _ _ (Mu.add_same _ _ _)
   refine ⟨_,_,μ.add h.nx ⟨w1.heap.size,0,g0⟩,hrun,g3,hadd,?_,⟨E.mono.trans hadd,?_,E.keep⟩,S.adopt hlt ?_ (c2 _ w _ hadd f3),rfl,?_,fun _ _=>by rw [Mu.add_same];simp⟩
   ·intro q d hq
    unfold Mu.add at hq
    split at hq
    ·rename_i eq
     subst eq
     cases hq
     exact f7
    ·exact hle q d hq
   ·intro q c hq
    unfold Mu.add at hq
    split at hq
    ·cases hq
     exact .inr (.inr f4)
    ·exact E.new q c hq
   ·intro q d hq hd
    have:=f8 q d (hle q d hq) hd
    subst this
    rw [hn0] at hq
    cases hq
   ·rw [<- eput]
    exact wEY A (hE.mono hadd) hv'
 ·have hrun:=split1 (σB:=wGi a.dst σA u) (hB:=h) (by rw [g1])
  rcases Pd.fact with ⟨_,f2,_⟩ | ⟨f1,_⟩
  ·refine ⟨_,_,μ,hrun,g3,Mu.Le.refl μ,hle,E,S,rfl,?_,fun _ hw'=>by rw [hwσ,g1] at hw';cases hw'⟩
   rw [f2,<- eput]
   exact wEY A hE (wOB μ)
  ·rw [hwσ,g1] at f1;cases f1
structure JS (tb:Tr AF) (ex exY:Run) (P:Program) (l:List Oper) (os:List AO) (σ0:Tr AV) (h0:AH) (σf:Tr AV) (hf:AH) (μ0:Mu) (w0:World) (S:Nat->Bool) (σ:Env) (w:World) (s t:List AO) (σA:Tr AV) (h:AH) (σ':Env) (μ μS:Mu):Prop where
 e:os=s ++ t
 hs:wAf tb ex exY s σ0 h0=some (σA,h)
 hr:wAf tb ex exY t σA h=some (σf,hf)
 inS:∀ a ∈ s,S a.ix=true
 free:∀ a ∈ t,S a.ix=true->wCa a.kd=false
 E:Ext μ0 h0.fl.nat w0 μ w
 sim:Sim (CC P) P μ h w
 fl:h.fl=h0.fl
 env:EnvR μ σA σ'
 ag:∀ q:Pos,(∀ a ∈ t,S a.ix=true->a.dst ≠ some q)->σ (q.nat - 1)=σ' (q.nat - 1)
 le:μ.Le μS
 nm:∀ q c,μS q=some c->μ q=some c \/ ∃ a o s1 t1 σ1 h1,a ∈ t/\S a.ix=true/\l[a.ix]?=some o/\wanted l σ o=true/\a.kd=4/\os=s1 ++ a :: t1/\wAf tb ex exY s1 σ0 h0=some (σ1,h1)/\q=h1.nx
 pd:∀ a ∈ t,S a.ix=true->∃ o p,Pend tb ex exY P l os σ0 h0 σf w0 μ μS σ w a o p
theorem Pend.mono {μB:Mu} {w0:World} {p:Pos} (h:Pend tb ex exY P l os σ0 h0 σf w0 μ μS σ w a o p) (hm:μ.Le μB):Pend tb ex exY P l os σ0 h0 σf w0 μB μS σ w a o p:=by
 refine ⟨h.get,h.dst,?_⟩
 rcases h.fact with f | ⟨f,⟨f1,f2⟩ | f1 | f1⟩
 ·exact .inl f
 ·exact .inr ⟨f,.inl ⟨f1,f2.mono hm⟩⟩
 ·exact .inr ⟨f,.inr (.inl f1)⟩
 ·exact .inr ⟨f,.inr (.inr f1)⟩
theorem JS.catch1 (Z:ZOK P N l os) {μ0:Mu} {w0:World} {S:Nat->Bool} (J:JS tb ex exY P l os σ0 h0 σf hf μ0 w0 S σ w s (a :: t) σA h σ' μ μS) (ha:S a.ix=true) :
  ∃ σB hB σ'' μB,JS tb ex exY P l os σ0 h0 σf hf μ0 w0 S σ w (s ++ [a]) t σB hB σ'' μB μS:=by
 obtain ⟨o,p,Pd⟩:=J.pd a (by simp) ha
 have hag:∀ q ∈ wCe a,σ (q.nat - 1)=σ' (q.nat - 1):=fun q hq=>J.ag q fun b hb _=>Z.rd s a t J.e q hq b hb
 obtain ⟨σB,hB,μB,c1,c2,c3,c4,c5,c6,c7,c8,c9⟩:=wTV Z J.e J.hs J.hr J.E J.sim J.env J.le Pd hag
 have hne:∀ b ∈ t,b.ix ≠ a.ix:=fun b hb e=>by
  have:=Z.one
  rw [J.e] at this
  exact (nX.1 (nb.1 this).2.1).1 b hb e.symm
 refine ⟨σB,hB,_,μB,by rw [J.e];simp,c1,c2,fun b hb=>?_,fun b hb=>J.free b (by simp [hb]),c5,c6,c7.trans J.fl,c8,fun q hq=>?_,c4,fun q c hq=>?_,fun b hb hS=>?_⟩
 ·rcases nL.1 hb with hb | hb
  ·exact J.inS b hb
  ·rw [nY.1 hb];exact ha
 ·by_cases e:q=p
  ·subst e
   rw [wCJ]
  ·rw [wCH _ _ (fun h=>e (Pos.nat_inj (by have:=q.nat_pos;have:=p.nat_pos;omega)))]
   refine J.ag q fun b hb hS=>?_
   rcases nE.1 hb with rfl | hb
   ·rw [Pd.dst]
    intro h
    cases h
    exact e rfl
   ·exact hq b hb hS
 ·rcases J.nm q c hq with h1 | ⟨b,ob,s1,t1,σ1,h1,k1,k2,k3,k4,k5,k6,k7,k8⟩
  ·exact .inl (c3 _ _ h1)
  ·rcases nE.1 k1 with rfl | k1
   ·left
    have hs1:s1=s:=(wDF (k6 ▸ Z.one) (k6.symm.trans J.e)).1
    subst hs1
    rw [J.hs] at k7
    cases k7
    subst k8
    rw [Pd.get] at k3
    cases k3
    have:=c9 k5 k4
    cases hm:μB h.nx with
    | none=>exact absurd hm this
    | some c' =>
     have:=c4 _ _ hm
     rw [hq] at this
     exact this.symm
   ·exact .inr ⟨b,ob,s1,t1,σ1,h1,k1,k2,k3,k4,k5,k6,k7,k8⟩
 ·obtain ⟨o',p',h'⟩:=J.pd b (by simp [hb]) hS
  exact ⟨o',p',h'.mono c3⟩
end
end Go.KX
namespace Go.KX
open Go.RowKit Go.KL
section
variable {tb:Tr AF} {ex exY:Run} {P:Program} {N:Nat} {l:List Oper} {os s t:List AO} {a:AO} {σ0 σA σf:Tr AV} {h0 h hf:AH} {μ μS:Mu} {σ σ':Env} {w:World} {o:Oper}
theorem wDt:∀ (l1 l2:List AO) (x:Tr AV) (y:AH) (x1:Tr AV) (y1:AH),wAf tb ex exY l1 x y=some (x1,y1)->wAf tb ex exY (l1 ++ l2) x y=wAf tb ex exY l2 x1 y1
 | [],l2,x,y,x1,y1,h=>by rw [wBG] at h;cases h;rfl
 | b :: l1,l2,x,y,x1,y1,h=>by
  rw [nN,wBJ]
  rw [wBJ] at h
  cases hb:wCx x b.grd with
  | true =>
   rw [hb] at h
   simp only at h ⊢
   cases hq:opK b.kd b.op tb ex exY x y with
   | none=>rw [hq] at h;cases h
   | some r=>rw [hq] at h;exact wDt l1 l2 _ _ _ _ h
  | false =>
   rw [hb] at h
   exact wDt l1 l2 _ _ _ _ h
theorem wRu (HE:FrX ex) (HY:FrX exY) (Z:ZOK P N l os) (e:os=s ++ t) (hs:wAf tb ex exY s σ0 h0=some (σA,h)) {b:AO} (hb:b ∈ t) {s1 t1:List AO} {σ1:Tr AV} {h1:AH} (e1:os=s1 ++ b :: t1) (hr:wAf tb ex exY s1 σ0 h0=some (σ1,h1)):h.nx.nat <= h1.nx.nat:=by
 obtain ⟨r,r',rfl⟩:=nR hb
 have es:s1=s ++ r:=(wDF (e1 ▸ Z.one) (e1.symm.trans (e.trans (nK _ _ _).symm))).1
 subst es
 rw [wDt s r _ _ _ _ hs] at hr
 exact (wIp HE HY _ _ _ _ _ hr).nx
theorem wGu (Z:ZOK P N l os) {S:Nat->Bool} (hdc:∀ k,k < l.length->S k=true->∀ j ∈ prI l k,S j=true) (ha:a ∈ os) (hS:S a.ix=false) {b:AO} (hb:b ∈ os) (hbS:S b.ix=true) (A:AOK P N l a o) {ob:Oper} (hob:l[b.ix]?=some ob) (v:Value):Agr l ob σ (put' σ o v):=by
 obtain ⟨ob',B⟩:=wDK (Z.ao b hb)
 have eo:ob'=ob:=by have:=B.get;rw [hob] at this;exact (nH this).symm
 subst eo
 intro d hd
 obtain ⟨p,hp,rfl⟩:=wEw B (Z.sub b hb _ B.get) d hd
 symm
 refine wHF fun dd hdd e=>?_
 rcases A.dst with ⟨_,h2⟩ | ⟨q,d',h1,h2,h3,_⟩
 ·rw [h2] at hdd;cases hdd
 ·rw [h2] at hdd
  have hdd:=nH hdd
  have eq:q=p:=Pos.nat_inj (by have:=q.nat_pos;have:=p.nat_pos;have:q.nat - 1=p.nat - 1:=h3.symm.trans (hdd.trans e);omega)
  subst eq
  have:=Z.rdS b hb q hp a ha h1
  have hlt:b.ix < l.length:=(nZ.1 hob).1
  have:=wES hdc (hdc _ hlt hbS) this
  rw [hS] at this
  cases this
theorem JS.fixed (HC:wGc (CC P) P tb ex) (HY':wFQ (CC P) P exY) (HE:FrX ex) (HY:FrX exY) (Z:ZOK P N l os) {μ0:Mu} {w0:World} {S:Nat->Bool} (J:JS tb ex exY P l os σ0 h0 σf hf μ0 w0 S σ w s (a :: t) σA h σ' μ μS) (hfix:wCa a.kd=true) (hS:S a.ix=false)
  (hdc:∀ k,k < l.length->S k=true->∀ j ∈ prI l k,S j=true) (A:AOK P N l a o) :
  Step1 P l o σ w fun v w'=>∃ σB hB σ'' μB μT,JS tb ex exY P l os σ0 h0 σf hf μ0 w0 (fun k=>k == a.ix || S k) (put' σ o v) w' (s ++ [a]) t σB hB σ'' μB μT:=by
 have ha:a ∈ os:=by rw [J.e];simp
 have hsel:=Z.sel a ha _ A.get
 have hag:∀ q ∈ wCe a,σ (q.nat - 1)=σ' (q.nat - 1):=fun q hq=>J.ag q fun b hb _=>Z.rd s a t J.e q hq b hb
 have hagr:Agr l o σ σ':=fun d hd=>by
  obtain ⟨q,h1,rfl⟩:=wEw A (Z.sub a ha _ A.get) d hd
  exact hag q h1
 have hw:=wJL A J.env
 have main:∀ (v:AV) (cv:Value) (hB:AH) (w':World) (μB:Mu),wAf tb ex exY (s ++ [a]) σ0 h0=some (wGi a.dst σA v,hB)->wAf tb ex exY t (wGi a.dst σA v) hB=some (σf,hf) ->
   Ext μ h.fl.nat w μB w'->Sim (CC P) P μB hB w'->EnvR μB (wGi a.dst σA v) (put' σ' o cv)->hB.fl=h.fl ->
   ∃ σB hB σ'' μB μT,JS tb ex exY P l os σ0 h0 σf hf μ0 w0 (fun k=>k == a.ix || S k) (put' σ o cv) w' (s ++ [a]) t σB hB σ'' μB μT:=by
  intro v cv hB w' μB r1 r2 E' S' hE' hfl
  have hne:∀ b ∈ t,b.ix ≠ a.ix:=fun b hb e=>by
   have:=Z.one
   rw [J.e] at this
   exact (nX.1 (nb.1 this).2.1).1 b hb e.symm
  have hSb:∀ b ∈ t,(b.ix == a.ix || S b.ix)=true->S b.ix=true:=fun b hb h=>by
   have:=hne b hb
   simpa [this] using h
  have hbo:∀ b ∈ t,b ∈ os:=fun b hb=>by rw [J.e];simp [hb]
  have eB:os=(s ++ [a]) ++ t:=by rw [J.e];simp
  have hnm:∀ b ∈ t,∀ s1 t1 σ1 h1,os=s1 ++ b :: t1->wAf tb ex exY s1 σ0 h0=some (σ1,h1)->μB h1.nx=none/\μ h1.nx=none:=fun b hb s1 t1 σ1 h1 e1 hr=>by
   have g1:=wRu HE HY Z eB r1 hb e1 hr
   have g2:=wRu HE HY Z J.e J.hs (b:=b) (by simp [hb]) e1 hr
   exact ⟨S'.nx _ g1,J.sim.nx _ g2⟩
  let μT:Mu:=fun q=>match μB q with | some c=>some c | none=>μS q
  have hT:μB.Le μT:=fun q c hq=>by show (match μB q with | some c=>some c | none=>μS q)=_;rw [hq]
  have hST:μS.Le μT:=fun q c hq=>by
   show (match μB q with | some c=>some c | none=>μS q)=_
   cases hB:μB q with
   | none=>exact hq
   | some c' =>
    rcases J.nm q c hq with h1 | ⟨b,ob,s1,t1,σ1,h1,k1,k2,k3,k4,k5,k6,k7,k8⟩
    ·rw [E'.mono _ _ h1] at hB
     exact hB.symm ▸ rfl
    ·rcases nE.1 k1 with rfl | k1
     ·rw [hS] at k2;cases k2
     ·have:=(hnm b k1 s1 t1 σ1 h1 k6 k7).1
      rw [<- k8,hB] at this
      cases this
  refine ⟨_,hB,_,μB,μT,eB,r1,r2,fun b hb=>?_,fun b hb hh=>J.free b (by simp [hb]) (hSb b hb hh),?_,S',hfl.trans J.fl,hE',fun q hq=>?_,hT,fun q c hq=>?_,fun b hb hh=>?_⟩
  ·rcases nL.1 hb with hb | hb
   ·simp [J.inS b hb]
   ·rw [nY.1 hb];simp
  ·have:=J.E
   refine this.trans ?_
   rw [<- J.fl]
   exact E'
  ·have old:σ (q.nat - 1)=σ' (q.nat - 1) \/ a.dst=some q:=by
    by_cases hq':a.dst=some q
    ·exact .inr hq'
    ·exact .inl (J.ag q fun b hb h=>by
      rcases nE.1 hb with rfl | hb
      ·exact hq'
      ·exact hq b hb (by simp [h]))
   rcases A.dst with ⟨h1,h2⟩ | ⟨p,d,h1,h2,h3,_⟩
   ·unfold put'
    rw [h2]
    rcases old with old | old
    ·exact old
    ·rw [h1] at old;cases old
   ·unfold put'
    rw [h2]
    by_cases e:q.nat - 1=d
    ·simp only [e,wCJ]
    ·simp only
     rw [wCH _ _ e,wCH _ _ e]
     rcases old with old | old
     ·exact old
     ·rw [h1] at old
      cases old
      exact absurd h3.symm e
  ·have hq:(match μB q with | some c=>some c | none=>μS q)=some c:=hq
   cases hB':μB q with
   | some c' =>
    rw [hB'] at hq
    exact .inl hq
   | none =>
    rw [hB'] at hq
    rcases J.nm q c hq with h1 | ⟨b,ob,s1,t1,σ1,h1,k1,k2,k3,k4,k5,k6,k7,k8⟩
    ·rw [E'.mono _ _ h1] at hB'
     cases hB'
    ·rcases nE.1 k1 with rfl | k1
     ·rw [hS] at k2;cases k2
     ·exact .inr ⟨b,ob,s1,t1,σ1,h1,k1,by simp [k2],k3,(wCc (wGu Z hdc ha hS (hbo b k1) k2 A k3 cv)).symm.trans k4,k5,k6,k7,k8⟩
  ·have hbS:=hSb b hb hh
   obtain ⟨ob,p,Pd⟩:=J.pd b (by simp [hb]) hbS
   have hA:=wGu (σ:=σ) Z hdc ha hS (hbo b hb) hbS A Pd.get cv
   have hp:put' σ o cv (p.nat - 1)=σ (p.nat - 1):=wHF fun d hd e=>by
    rcases A.dst with ⟨_,h2⟩ | ⟨q,d',h1,h2,h3,_⟩
    ·rw [h2] at hd;cases hd
    ·rw [h2] at hd
     have hd:=nH hd
     have eq:q=p:=Pos.nat_inj (by have:=q.nat_pos;have:=p.nat_pos;have:q.nat - 1=p.nat - 1:=h3.symm.trans (hd.trans e);omega)
     subst eq
     exact Z.wr s a t J.e q h1 b (nW _ hb) Pd.dst
   have hsb:=Z.sel b (hbo b hb) _ Pd.get
   refine ⟨ob,p,Pd.get,Pd.dst,?_⟩
   rw [hp,<- wCc hA]
   rcases Pd.fact with f | ⟨f,⟨f1,f2⟩ | ⟨f1,f2,w1,w2,f3⟩ | ⟨f1,f2,w1,o1,s1,t1,σ1,h1,f3,f4,f5,f6,f7,f8,f9⟩⟩
   ·exact .inl f
   ·exact .inr ⟨f,.inl ⟨f1,f2.mono E'.mono⟩⟩
   ·exact .inr ⟨f,.inr (.inl ⟨f1,f2.mono hST,w1,w2,(Runs.agr hsb hA).1 f3⟩)⟩
   ·obtain ⟨n1,n2⟩:=hnm b hb s1 t1 σ1 h1 f6 f7
    have nimg:¬ img μ h.fl.nat w1.heap.size:=by
     rintro ⟨q,d,g1,g2,_⟩
     have:=f9 q d (J.le _ _ g1) g2
     rw [this,n2] at g1
     cases g1
    refine .inr ⟨f,.inr (.inr ⟨f1,f2.mono hST,w1,o1,s1,t1,σ1,h1,(Runs.agr hsb hA).1 f3,(E'.keep.block _ (wAR f4) nimg).trans f4,f5,f6,f7,hST _ _ f8,fun q c hq hc=>?_⟩)⟩
    have hq:(match μB q with | some c=>some c | none=>μS q)=some c:=hq
    cases hB':μB q with
    | none=>rw [hB'] at hq;exact f9 q c hq hc
    | some c' =>
     rw [hB'] at hq
     cases hq
     rcases E'.new q c hB' with g | g | g
     ·exact f9 q c (J.le _ _ g) hc
     ·rw [hc] at g;exact absurd g nimg
     ·have:=wAR f4;omega
 obtain ⟨σx,hx,q1,q2⟩:=wLw (s:=[]) (a:=a) (t:=t) (σ0:=σA) (h0:=h) (by rw [nQ];exact J.hr)
 rw [wBG] at q1
 cases q1
 refine Step1.agr hsel (fun d hd=>(hagr d hd).symm) ?_
 rcases q2 with ⟨g1,v,h2,g2,g3⟩ | ⟨g1,g3⟩
 ·refine (wTO HC HY' A (hw.trans g1) g2 J.env J.sim).mono ?_
  rintro cv w' ⟨_,μB,e1,e2,e3,e4⟩
  refine main v cv h2 w' μB ?_ g3 e1 e2 e3 e4
  rw [wDt s [a] _ _ _ _ J.hs,wBJ,g1]
  simp only
  rw [g2]
  exact wBG _ _ _ _ _
 ·refine .inr ⟨hw.trans g1,?_⟩
  refine main u undef h w μ ?_ g3 (Ext.refl μ _ w) J.sim (wEY A J.env (wOB μ)) rfl
  rw [wDt s [a] _ _ _ _ J.hs,wBJ,g1]
  exact wBG _ _ _ _ _
theorem JS.opnd (Z:ZOK P N l os) {μ0:Mu} {w0:World} {S:Nat->Bool} (J:JS tb ex exY P l os σ0 h0 σf hf μ0 w0 S σ w s t σA h σ' μ μS) (ha:a ∈ os) (hl:a.ix < l.length) (hp:∀ j ∈ prI l a.ix,S j=true)
  (hdc:∀ k,k < l.length->S k=true->∀ j ∈ prI l k,S j=true) {p:Pos} (hr:p ∈ wCe a):Rv μS (evA σf (.t p)) (σ (p.nat - 1))/\(a.kd=1 \/ a.kd=3 \/ 8 <= a.kd->Rv μ (evA σf (.t p)) (σ (p.nat - 1))):=by
 have base:(∀ b ∈ t,b.dst ≠ some p)->Rv μ (evA σf (.t p)) (σ (p.nat - 1)):=fun hn=>by
  rw [wDE t _ _ _ _ J.hr p hn,J.ag p fun b hb _=>hn b hb]
  exact J.env p
 by_cases hw:∃ b ∈ t,b.dst=some p
 ·obtain ⟨b,hb,hd⟩:=hw
  have hbo:b ∈ os:=by rw [J.e];simp [hb]
  have hanc:=Z.rdS a ha p hr b hbo hd
  have hS:=wES hdc hp hanc
  obtain ⟨ob,p',Pd⟩:=J.pd b hb hS
  have ep:p'=p:=by have:=Pd.dst;rw [hd] at this;exact (nH this).symm
  subst ep
  rcases Pd.fact with ⟨_,f1,f2⟩ | ⟨_,⟨_,f1⟩ | ⟨f0,f1,_⟩ | ⟨f0,f1,_⟩⟩
  ·rw [f1,f2]
   exact ⟨wOB _,fun _=>wOB _⟩
  ·exact ⟨f1.mono J.le,fun _=>f1⟩
  ·exact ⟨f1,fun hk=>absurd f0 (Z.cl a ha hk p' hr b hbo hd).2⟩
  ·exact ⟨f1,fun hk=>absurd f0 (Z.cl a ha hk p' hr b hbo hd).1⟩
 ·have:=base fun b hb hd=>hw ⟨b,hb,hd⟩
  exact ⟨this.mono J.le,fun _=>this⟩
end
end Go.KX
namespace Go.KX
open Go.RowKit Go.KL
section
variable {tb:Tr AF} {ex exY:Run} {P:Program} {N:Nat} {l:List Oper} {os s t:List AO} {a:AO} {σ0 σA σf:Tr AV} {h0 h h1 h' hf:AH} {μ μS:Mu} {σ σ':Env} {w:World} {o:Oper} {v:AV}
theorem wPz {a:AOp} {op:Op} (hk:kdA a=1) (hc:wHg P a op=true) (hE:EnvR μ σA σ) (hm:∀ b c,μ b=some c->h.m.get b=h1.m.get b) (hr:opY a tb ex exY σA h1=some (v,h')):opY a tb ex exY σA h=some (v,h):=by
 have cel:∀ b c,μ b=some c->wDa h b=wDa h1 b:=fun b c hb=>by unfold wDa;rw [hm b c hb]
 cases a <;> first | (simp [kdA] at hk;done) | skip
 case ld x =>
  have hr:wPc x σA h1=some (v,h'):=hr
  show wPc x σA h=some (v,h)
  have hc:wTD P x op=true:=hc
  unfold wTD at hc
  split at hc
  ·simp only [nB] at hc
   have g:=wAJ hc.2 hE
   unfold wPc at hr ⊢
   split at hr
   ·rename_i b off hb
    rw [hb] at g
    obtain ⟨c,g1,_⟩:=g
    simp only [hb,cel b c g1]
    split at hr
    ·exact wOi hr h
    ·cases hr
   ·cases hr
  ·cases hc
 case ldA n x =>
  have hr:wIU n x σA h1=some (v,h'):=hr
  show wIU n x σA h=some (v,h)
  have hc:wOQ P n x op=true:=hc
  unfold wOQ at hc
  split at hc
  ·simp only [nB] at hc
   have g:=wAJ hc.2 hE
   unfold wIU at hr ⊢
   split at hr
   ·rename_i b off hb
    rw [hb] at g
    obtain ⟨c,g1,_⟩:=g
    simp only [hb,cel b c g1]
    split at hr
    ·exact wOi hr h
    ·cases hr
   ·cases hr
  ·cases hc
 case lk two k ok z x y =>
  have hr:wPd two k ok z x y σA h1=some (v,h'):=hr
  show wPd two k ok z x y σA h=some (v,h)
  have hc:wTH P two k ok z x y op=true:=hc
  unfold wTH at hc
  split at hc
  ·simp only [nB] at hc
   have g:=wAJ hc.2.2.1 hE
   unfold wPd at hr ⊢
   split at hr
   ·rename_i b hb
    rw [hb] at g
    obtain ⟨c,g1,_⟩:=g
    simp only [hb,hm b c g1]
    repeat' (split at hr)
    all_goals first | (cases hr;done) | (cases hr;rfl)
   ·cases hr
  ·cases hc
 case lenM x =>
  have hr:wFC x σA h1=some (v,h'):=hr
  show wFC x σA h=some (v,h)
  have hc:wKF P x op=true:=hc
  unfold wKF at hc
  split at hc
  ·split at hc
   ·simp only [nB] at hc
    obtain ⟨_,hc⟩:=hc
    split at hc
    ·simp only [nB] at hc
     have g:=wAJ hc.2 hE
     unfold wFC at hr ⊢
     split at hr
     ·rename_i hb
      cases hr
      simp_all
     ·rename_i b hb
      rw [hb] at g
      obtain ⟨c,g1,_⟩:=g
      simp only [hb,hm b c g1]
      repeat' (split at hr)
      all_goals first | (cases hr;done) | (cases hr;rfl)
     ·cases hr
    ·cases hc
   ·cases hc
  ·cases hc
theorem wJQ (HE:FrX ex) (HY:FrX exY):∀ (r:List AO) (σ1:Tr AV) (h1:AH) (σ2:Tr AV) (h2:AH),wAf tb ex exY r σ1 h1=some (σ2,h2)->(∀ b ∈ r,wHh P N l b=true) ->
  (∀ b ∈ r,b.kd=2 \/ (b.kd=1 \/ b.kd=3 \/ (b.kd=6/\kdA b.op=3) \/ (b.kd=4/\wNI b.op=true) \/ (8 <= b.kd/\kdA b.op=1)))->h1.nx.nat <= h2.nx.nat/\∀ p:Pos,p.nat < h1.nx.nat->h2.m.get p=h1.m.get p
 | [],σ1,h1,σ2,h2,hr,_,_=>by
  rw [wBG] at hr
  cases hr
  exact ⟨nI _,fun _ _=>rfl⟩
 | b :: r,σ1,h1,σ2,h2,hr,hc,hk=>by
  rw [wBJ] at hr
  cases hw:wCx σ1 b.grd with
  | false =>
   rw [hw] at hr
   exact wJQ HE HY r _ _ _ _ hr (fun c hcc=>hc c (by simp [hcc])) (fun c hcc=>hk c (by simp [hcc]))
  | true =>
   rw [hw] at hr
   simp only at hr
   cases hq:opK b.kd b.op tb ex exY σ1 h1 with
   | none=>rw [hq] at hr;cases hr
   | some q =>
    rw [hq] at hr
    obtain ⟨v,h3⟩:=q
    obtain ⟨g1,g2⟩:=wJQ HE HY r _ _ _ _ hr (fun c hcc=>hc c (by simp [hcc])) (fun c hcc=>hk c (by simp [hcc]))
    obtain ⟨o,A⟩:=wDK (hc b (by simp))
    have one:h1.nx.nat <= h3.nx.nat/\∀ p:Pos,p.nat < h1.nx.nat->h3.m.get p=h1.m.get p:=by
     have same:h3=h1->h1.nx.nat <= h3.nx.nat/\∀ p:Pos,p.nat < h1.nx.nat->h3.m.get p=h1.m.get p:=fun e=>by subst e;exact ⟨nI _,fun _ _=>rfl⟩
     rcases hk b (by simp) with k | k | k | ⟨k,k'⟩ | ⟨k,k'⟩ | ⟨k,k'⟩
     ·exact ⟨(wQr HE HY _ _ hq).nx,wTS HE HY b.op (by rw [k] at hq;exact hq)⟩
     ·rw [k] at hq
      exact same (wIl (C:=CC P) (A.k1 k) A.op _ _ _ _ hq).1
     ·rw [k] at hq
      exact same (wIk (A.k3 k) A.op _ _ _ _ hq).1
     ·rw [k] at hq
      exact same (wIk k' A.op _ _ _ _ hq).1
     ·rw [k] at hq
      obtain ⟨B,vf,e1,_⟩:=wLv (C:=CC P) k' A.op _ _ _ _ hq
      subst e1
      refine ⟨(Fr.push h1 B).nx,fun p hp=>?_⟩
      show (h1.m.set h1.nx B).get p=_
      rw [Tr.get_set,if_neg (fun e=>by subst e;omega)]
     ·exact same (wIl (C:=CC P) (.inl k') A.op _ _ _ _ (wOl (by omega) hq)).1
    exact ⟨nc one.1 g1,fun p hp=>(g2 p (nu hp one.1)).trans (one.2 p hp)⟩
theorem JS.full {μ0:Mu} {w0:World} {S:Nat->Bool} (J:JS tb ex exY P l os σ0 h0 σf hf μ0 w0 S σ w s t σA h σ' μ μS):wAf tb ex exY os σ0 h0=some (σf,hf):=by
 rw [J.e,wDt s t _ _ _ _ J.hs]
 exact J.hr
theorem JS.frm (Z:ZOK P N l os) {μ0:Mu} {w0:World} {S:Nat->Bool} (J:JS tb ex exY P l os σ0 h0 σf hf μ0 w0 S σ w s t σA h σ' μ μS) (ha:a ∈ os) (hl:a.ix < l.length) (hp:∀ j ∈ prI l a.ix,S j=true)
  (hdc:∀ k,k < l.length->S k=true->∀ j ∈ prI l k,S j=true) (A:AOK P N l a o) {s1 t1:List AO} {σ1:Tr AV} (e1:os=s1 ++ a :: t1) (hr1:wAf tb ex exY s1 σ0 h0=some (σ1,h1)) :
  wanted l σ o=wCx σ1 a.grd/\∀ p ∈ wCe a,evA σf (.t p)=evA σ1 (.t p):=by
 have hf:=J.full
 have hrd:∀ p ∈ wCe a,evA σf (.t p)=evA σ1 (.t p):=fun p hp=>by
  rw [e1,wDt s1 _ _ _ _ _ hr1] at hf
  exact wTU Z e1 hf hp
 refine ⟨?_,hrd⟩
 have hE:EnvR μS (rst σf (wCe a)) (rsl σ (wCe a)):=wHm fun p hpr=>(J.opnd Z ha hl hp hdc hpr).1
 have hw:=wJL A hE
 have hag:Agr l o (rsl σ (wCe a)) σ:=fun d hd=>by
  obtain ⟨p,h1,h2⟩:=wEw A (Z.sub a ha _ A.get) d hd
  unfold rsl
  rw [if_pos ⟨p,h1,h2⟩]
 rw [<- wCc hag,hw]
 cases hg:a.grd with
 | none=>rfl
 | some q =>
  obtain ⟨p,b⟩:=q
  show isB b (evA _ (.t p))=isB b (evA _ (.t p))
  have hpr:p ∈ wCe a:=nW _ (by rw [hg];simp)
  rw [wHl,if_pos hpr,hrd p hpr]
theorem wTW (HE:FrX ex) (HY:FrX exY) (Z:ZOK P N l os) {a b:AO} {s1 t1 s2 t2:List AO} {σ1 σ2:Tr AV} {h1 h2:AH} (e1:os=s1 ++ a :: t1) (e2:os=s2 ++ b :: t2) (r1:wAf tb ex exY s1 σ0 h0=some (σ1,h1)) (r2:wAf tb ex exY s2 σ0 h0=some (σ2,h2))
  (w1:wCx σ1 a.grd=true) (ka:a.kd=4) (la:wNI a.op=true) (hin:a ∈ s2):h1.nx.nat < h2.nx.nat:=by
 obtain ⟨o,A⟩:=wDK (Z.ao a (by rw [e1];simp))
 obtain ⟨r,r',rfl⟩:=nR hin
 have es:s1=r:=(wDF (e1 ▸ Z.one) (e1.symm.trans (e2.trans (by rw [nK,nN])))).1
 subst es
 rw [wDt s1 _ _ _ _ _ r1,wBJ,w1] at r2
 simp only at r2
 cases hq:opK a.kd a.op tb ex exY σ1 h1 with
 | none=>rw [hq] at r2;cases r2
 | some q =>
  rw [hq] at r2
  obtain ⟨v,h3⟩:=q
  rw [ka] at hq
  obtain ⟨B,vf,q1,_⟩:=wLv (C:=CC P) la A.op _ _ _ _ hq
  subst q1
  have:=(wIp HE HY _ _ _ _ _ r2).nx
  have h3:(h1.push B).nx.nat=h1.nx.nat + 1:=Pos.nat_succ _
  simp only at this
  omega
theorem nm_ne (HE:FrX ex) (HY:FrX exY) (Z:ZOK P N l os) {a b:AO} {s1 t1 s2 t2:List AO} {σ1 σ2:Tr AV} {h1 h2:AH} (e1:os=s1 ++ a :: t1) (e2:os=s2 ++ b :: t2) (r1:wAf tb ex exY s1 σ0 h0=some (σ1,h1)) (r2:wAf tb ex exY s2 σ0 h0=some (σ2,h2))
  (w1:wCx σ1 a.grd=true) (w2:wCx σ2 b.grd=true) (ka:a.kd=4) (la:wNI a.op=true) (kb:b.kd=4) (lb:wNI b.op=true) (hne:a ≠ b):h1.nx ≠ h2.nx:=by
 have ha:a ∈ s2 ++ b :: t2:=by rw [<- e2,e1];simp
 rcases nL.1 ha with h | h
 ·intro e
  have:=wTW HE HY Z e1 e2 r1 r2 w1 ka la h
  rw [e] at this
  exact absurd this (kD _)
 ·rcases nE.1 h with h | h
  ·exact absurd h hne
  ·obtain ⟨r,r',rfl⟩:=nR h
   have es:s1=s2 ++ b :: r:=(wDF (e1 ▸ Z.one) (e1.symm.trans (e2.trans (by rw [nK,nN])))).1
   intro e
   have:=wTW HE HY Z e2 e1 r2 r1 w2 kb lb (by rw [es];simp)
   rw [e] at this
   exact absurd this (kD _)
end
end Go.KX
namespace Go.KX
open Go.RowKit Go.KL
section
variable {tb:Tr AF} {ex exY:Run} {P:Program} {N:Nat} {l:List Oper} {os s t:List AO} {a:AO} {σ0 σA σf:Tr AV} {h0 h h1 h' hf:AH} {μ μS:Mu} {σ σ':Env} {w:World} {o:Oper} {v:AV}
theorem wOn (Z:ZOK P N l os) {a b:AO} (ha:a ∈ os) (hb:b ∈ os) (e:b.ix=a.ix):b=a:=by
 obtain ⟨s,t,hs⟩:=nR ha
 have one:=Z.one
 rw [hs] at hb one
 rcases nL.1 hb with h | h
 ·exact absurd e ((nb.1 one).2.2 b h a (by simp))
 ·rcases nE.1 h with h | h
  ·exact h
  ·exact absurd e.symm ((nX.1 (nb.1 one).2.1).1 b h)
theorem wGv (A:AOK P N l a o) {q:Pos} (hn:a.dst ≠ some q) (cv:Value):put' σ o cv (q.nat - 1)=σ (q.nat - 1):=by
 refine wHF fun d hd e=>?_
 rcases A.dst with ⟨_,h2⟩ | ⟨p,d',h1,h2,h3,_⟩
 ·rw [h2] at hd;cases hd
 ·rw [h2] at hd
  have hd:=nH hd
  have:p=q:=Pos.nat_inj (by have:=q.nat_pos;have:=p.nat_pos;have:p.nat - 1=q.nat - 1:=h3.symm.trans (hd.trans e);omega)
  subst this
  exact hn h1
theorem JS.add (Z:ZOK P N l os) {μ0:Mu} {w0:World} {S:Nat->Bool} (J:JS tb ex exY P l os σ0 h0 σf hf μ0 w0 S σ w s t σA h σ' μ μS) (ha:a ∈ t) (hS:S a.ix=false) (hfree:wCa a.kd=false)
  (hdc:∀ k,k < l.length->S k=true->∀ j ∈ prI l k,S j=true) (A:AOK P N l a o) {cv:Value} {w':World} {μT:Mu} (K:Keep w w' Non) (hle:μS.Le μT)
  (hnew:∀ q c,μT q=some c->μS q=some c \/ (c.1=w.heap.size/\wanted l σ o=true/\a.kd=4/\∃ s1 t1 σ1 h1,os=s1 ++ a :: t1/\wAf tb ex exY s1 σ0 h0=some (σ1,h1)/\q=h1.nx))
  (hpa:∃ p,Pend tb ex exY P l os σ0 h0 σf w0 μ μT (put' σ o cv) w' a o p) :
  JS tb ex exY P l os σ0 h0 σf hf μ0 w0 (fun k=>k == a.ix || S k) (put' σ o cv) w' s t σA h σ' μ μT:=by
 have hao:a ∈ os:=by rw [J.e];simp [ha]
 have hbo:∀ b ∈ t,b ∈ os:=fun b hb=>by rw [J.e];simp [hb]
 obtain ⟨sa,ta,ea⟩:=nR hao
 have hself:Agr l o σ (put' σ o cv):=by
  intro d hd
  obtain ⟨p,hp,rfl⟩:=wEw A (Z.sub a hao _ A.get) d hd
  exact (wGv A (Z.rd sa a ta ea p hp a (by simp)) cv).symm
 refine ⟨J.e,J.hs,J.hr,fun b hb=>by simp [J.inS b hb],fun b hb hh=>?_,⟨J.E.mono,J.E.new,J.E.keep.step K fun _ _ hn=>hn.elim⟩,J.sim.keep K,J.fl,J.env,fun q hq=>?_,J.le.trans hle,fun q c hq=>?_,fun b hb hh=>?_⟩
 ·by_cases e:b.ix=a.ix
  ·rw [wOn Z hao (hbo b hb) e];exact hfree
  ·exact J.free b hb (by simpa [e] using hh)
 ·rw [wGv A (hq a ha (by simp))]
  exact J.ag q fun b hb hs=>hq b hb (by simp [hs])
 ·rcases hnew q c hq with h1 | ⟨_,h2,h3,s1,t1,σ1,h1,e1,e2,e3⟩
  ·rcases J.nm q c h1 with g | ⟨b,ob,s1,t1,σ1,h1,k1,k2,k3,k4,k5,k6,k7,k8⟩
   ·exact .inl g
   ·exact .inr ⟨b,ob,s1,t1,σ1,h1,k1,by simp [k2],k3,(wCc (wGu Z hdc hao hS (hbo b k1) k2 A k3 cv)).symm.trans k4,k5,k6,k7,k8⟩
  ·exact .inr ⟨a,o,s1,t1,σ1,h1,ha,by simp,A.get,(wCc hself).symm.trans h2,h3,e1,e2,e3⟩
 ·by_cases e:b.ix=a.ix
  ·have:=wOn Z hao (hbo b hb) e
   subst this
   exact ⟨o,hpa⟩
  ·have hbS:S b.ix=true:=by simpa [e] using hh
   obtain ⟨ob,p,Pd⟩:=J.pd b hb hbS
   have hA:=wGu (σ:=σ) Z hdc hao hS (hbo b hb) hbS A Pd.get cv
   have hp:put' σ o cv (p.nat - 1)=σ (p.nat - 1):=by
    refine wGv A (fun hd=>?_) cv
    have hb':=hbo b hb
    rw [ea] at hb'
    have hb'':b ∈ sa ++ ta:=by
     rcases nL.1 hb' with h | h
     ·exact nh _ h
     ·rcases nE.1 h with h | h
      ·exact absurd (by rw [h]) e
      ·exact nW _ h
    exact Z.wr sa a ta ea p hd b hb'' Pd.dst
   have hsb:=Z.sel b (hbo b hb) _ Pd.get
   refine ⟨ob,p,Pd.get,Pd.dst,?_⟩
   rw [hp,<- wCc hA]
   rcases Pd.fact with f | ⟨f,⟨f1,f2⟩ | ⟨f1,f2,w1,w2,f3⟩ | ⟨f1,f2,w1,o1,s1,t1,σ1,h1,f3,f4,f5,f6,f7,f8,f9⟩⟩
   ·exact .inl f
   ·exact .inr ⟨f,.inl ⟨f1,f2⟩⟩
   ·exact .inr ⟨f,.inr (.inl ⟨f1,f2.mono hle,w1,w2,(Runs.agr hsb hA).1 f3⟩)⟩
   ·refine .inr ⟨f,.inr (.inr ⟨f1,f2.mono hle,w1,o1,s1,t1,σ1,h1,(Runs.agr hsb hA).1 f3,(K.block _ (wAR f4) id).trans f4,f5,f6,f7,hle _ _ f8,fun q c hq hc=>?_⟩)⟩
    rcases hnew q c hq with h1 | ⟨h1,_⟩
    ·exact f9 q c h1 hc
    ·have:=wAR f4
     omega
theorem wIq:∀ (r:List AO),(∀ b ∈ r,b.kd ≠ 0) \/ ∃ x b y,r=x ++ b :: y/\b.kd=0/\∀ c ∈ x,c.kd ≠ 0
 | []=>.inl fun b hb=>by simp at hb
 | a :: r=>by
  by_cases h0:a.kd=0
  ·exact .inr ⟨[],a,r,rfl,h0,fun c hc=>by simp at hc⟩
  ·rcases wIq r with h | ⟨x,b,y,h1,h2,h3⟩
   ·refine .inl fun b hb=>?_
    rcases nE.1 hb with rfl | hb
    ·exact h0
    ·exact h b hb
   ·refine .inr ⟨a :: x,b,y,by rw [h1];rfl,h2,fun c hc=>?_⟩
    rcases nE.1 hc with rfl | hc
    ·exact h0
    ·exact h3 c hc
theorem JS.freeOp {σg:Tr AV} (HE:FrX ex) (HY:FrX exY) (Z:ZOK P N l os) (HL:LCK tb ex exY os σ0 h0 σg) (Hg:∀ a ∈ os,8 <= a.kd->∀ p,p ∈ wCe a \/ a.dst=some p->evA σf (.t p)=evA σg (.t p)) {μ0:Mu} {w0:World} {S:Nat->Bool} (J:JS tb ex exY P l os σ0 h0 σf hf μ0 w0 S σ w s t σA h σ' μ μS) (ha:a ∈ t) (hS:S a.ix=false) (hfree:wCa a.kd=false)
  (hp:∀ j ∈ prI l a.ix,S j=true) (hdc:∀ k,k < l.length->S k=true->∀ j ∈ prI l k,S j=true) (A:AOK P N l a o) :
  Step1 P l o σ w fun cv w'=>∃ μT,JS tb ex exY P l os σ0 h0 σf hf μ0 w0 (fun k=>k == a.ix || S k) (put' σ o cv) w' s t σA h σ' μ μT:=by
 have hao:a ∈ os:=by rw [J.e];simp [ha]
 have hl:a.ix < l.length:=(nZ.1 A.get).1
 obtain ⟨r,r',et⟩:=nR ha
 have e1:os=(s ++ r) ++ a :: r':=by rw [J.e,et,nK]
 have hsel:=Z.sel a hao _ A.get
 have hsub:=Z.sub a hao _ A.get
 have hfull:=J.full
 rw [e1] at hfull
 obtain ⟨σ1,h1,r1,r2⟩:=wLw hfull
 obtain ⟨hw,hrd⟩:=J.frm Z hao hl hp hdc A e1 r1
 have hrr:wAf tb ex exY r σA h=some (σ1,h1):=by rw [<- wDt s r _ _ _ _ J.hs];exact r1
 have hself:∀ cv,Agr l o σ (put' σ o cv):=by
  intro cv d hd
  obtain ⟨p,hp,rfl⟩:=wEw A hsub d hd
  exact (wGv A (Z.rd _ a _ e1 p hp a (by simp)) cv).symm
 obtain ⟨hdn,hkd⟩:a.dst ≠ none/\(a.kd=1 \/ a.kd=3 \/ (a.kd=6/\kdA a.op=3) \/ (a.kd=4/\wNI a.op=true) \/ (8 <= a.kd/\kdA a.op=1)):=by
  rcases Z.kd a hao with h | h
  ·rw [hfree] at h;cases h
  ·exact h
 obtain ⟨p,d,d1,d2,d3,_⟩:∃ p d,a.dst=some p/\o.dst=some d/\d=p.nat - 1/\d < N:=by
  rcases A.dst with ⟨h1,_⟩ | h
  ·exact absurd h1 hdn
  ·exact h
 have eput:∀ cv,put' σ o cv (p.nat - 1)=cv:=fun cv=>by unfold put';rw [d2,d3];exact wCJ _ _ _
 have hslot:∀ q ∈ wCw (wBo a.op),q ∈ wCe a:=fun q hq=>nh _ hq
 rcases r2 with ⟨g1,v,h2,g2,g3⟩ | ⟨g1,g3⟩
 ·have hv:evA σf (.t p)=v:=wLD Z e1 g3 d1
  have hw':wanted l σ o=true:=hw.trans g1
  have hwn:∀ cv,wanted l (put' σ o cv) o=true:=fun cv=>(wCc (hself cv)).symm.trans hw'
  have hvS:∀ q ∈ wCw (wBo a.op),Rv μS (evA σ1 (.t q)) (σ (q.nat - 1)):=fun q hq=>by
   rw [<- hrd q (hslot q hq)]
   exact (J.opnd Z hao hl hp hdc (hslot q hq)).1
  have clean:(a.kd=1 \/ a.kd=3 \/ 8 <= a.kd)->(∃ cv,Rv μ v cv/\Runs P σ w o cv w)->Step1 P l o σ w fun cv w'=>∃ μT,JS tb ex exY P l os σ0 h0 σf hf μ0 w0 (fun k=>k == a.ix || S k) (put' σ o cv) w' s t σA h σ' μ μT:=by
   rintro hk ⟨cv,c1,c2⟩
   refine .inl ⟨hw',.inr (.inl ⟨cv,w,c2,μS,J.add Z ha hS hfree hdc A (Keep.refl w _) (Mu.Le.refl _) (fun q c hq=>.inl hq) ⟨p,A.get,d1,.inr ⟨hwn cv,.inl ⟨hk,?_⟩⟩⟩⟩)⟩
   rw [hv,eput]
   exact c1
  have hvC:(a.kd=1 \/ a.kd=3 \/ 8 <= a.kd)->∀ q ∈ wCw (wBo a.op),Rv μ (evA σ1 (.t q)) (σ (q.nat - 1)):=fun hk q hq=>by
   rw [<- hrd q (hslot q hq)]
   exact (J.opnd Z hao hl hp hdc (hslot q hq)).2 hk
  have loadC:(a.kd=1 \/ a.kd=3 \/ 8 <= a.kd)->kdA a.op=1->∀ (x:List AO),(∀ b ∈ x,b ∈ t)->∀ {σ2:Tr AV} {h3 h4:AH} {σ3:Tr AV},wAf tb ex exY x σA h=some (σ2,h3)->opY a.op tb ex exY σ3 h3=some (v,h4)->(∀ b ∈ x,b.kd=0->False)->(∀ q ∈ wCe a,evA σf (.t q)=evA σ3 (.t q))->∃ cv,Rv μ v cv/\Runs P σ w o cv w:=by
   intro hk k x hx σ2 h3 h4 σ3 hrx gY hx0 hrd3
   have hv3:∀ q ∈ wCw (wBo a.op),Rv μ (evA σ3 (.t q)) (σ (q.nat - 1)):=fun q hq=>by
    rw [<- hrd3 q (hslot q hq)]
    exact (J.opnd Z hao hl hp hdc (hslot q hq)).2 hk
   have hrs:=wLu gY
   have henv:=wHm hv3
   obtain ⟨_,hold⟩:=wJQ HE HY x _ _ _ _ hrx (fun b hb=>Z.ao b (by rw [J.e];simp [hx b hb])) (fun b hb=>by
    rcases Z.kd b (by rw [J.e];simp [hx b hb]) with h | h
    ·unfold wCa at h
     simp only [Bool.or_eq_true] at h
     rcases h with h | h
     ·exact absurd (nD h) (hx0 b hb)
     ·exact .inl (nD h)
    ·exact .inr h.2)
   have hm:∀ b c,μ b=some c->h.m.get b=h3.m.get b:=fun b c hb=>by
    refine (hold b ?_).symm
    rcases Nat.lt_or_ge b.nat h.nx.nat with hlt | hge
    ·exact hlt
    ·rw [J.sim.nx b hge] at hb;cases hb
   have hld:=wPz k A.op henv hm hrs
   obtain ⟨cv,c1,c2⟩:=wOk (C:=CC P) hsel hsub (.inl k) A.op hld J.sim (fun q hq=>by rw [wHl,if_pos hq];exact hv3 q hq)
   exact ⟨cv,c1,c2⟩
  rcases hkd with hk | hk | ⟨hk,hk2⟩ | ⟨hk,hk2⟩ | ⟨hk,hk2⟩
  ·have gY:opY a.op tb ex exY σ1 h1=some (v,h2):=by rw [hk] at g2;exact g2
   refine clean (.inl hk) ?_
   rcases A.k1 hk with k | k
   ·exact loadC (.inl hk) k r (fun b hb=>by rw [et];simp [hb]) hrr gY (fun b hb h0=>by
     have:=wES hdc hp (Z.ld _ a _ e1 hk b (by simp [hb]) h0)
     have:=J.free b (by rw [et];simp [hb]) this
     rw [h0] at this
     cases this) hrd
   ·obtain ⟨cv,c1,c2⟩:=wHn hsel hsub k A.op gY (hvC (.inl hk))
    exact ⟨cv,c1,c2 w⟩
  ·have gY:opY a.op tb ex exY σ1 h1=some (v,h2):=by rw [hk] at g2;exact g2
   obtain ⟨cv,c1,c2⟩:=wHn hsel hsub (A.k3 hk) A.op gY (hvC (.inr (.inl hk)))
   exact clean (.inr (.inl hk)) ⟨cv,c1,c2 w⟩
  ·have gY:opY a.op tb ex exY σ1 h1=some (v,h2):=by rw [hk] at g2;exact g2
   obtain ⟨cv,c1,c2⟩:=wHn hsel hsub hk2 A.op gY hvS
   refine .inl ⟨hw',.inr (.inl ⟨cv,w,c2 w,μS,J.add Z ha hS hfree hdc A (Keep.refl w _) (Mu.Le.refl _) (fun q c hq=>.inl hq) ⟨p,A.get,d1,.inr ⟨hwn cv,.inr (.inl ⟨hk,?_,w,w,?_⟩)⟩⟩⟩)⟩
   ·rw [hv,eput]
    exact c1
   ·rw [eput]
    exact (Runs.agr hsel (hself cv)).1 (c2 w)
  ·have gY:opY a.op tb ex exY σ1 h1=some (v,h2):=by rw [hk] at g2;exact g2
   obtain ⟨B,vf,ob,val,_,ev',_,c1,c2,c3⟩:=wMp (C:=CC P) hsel hsub hk2 A.op gY hvS
   have hno:μS h1.nx=none:=by
    cases hq:μS h1.nx with
    | none=>rfl
    | some c =>
     rcases J.nm _ c hq with g | ⟨b,ob',s2,t2,σ2,h3,k1,k2,k3,k4,k5,k6,k7,k8⟩
     ·have:=wRu HE HY Z J.e J.hs ha e1 r1
      rw [J.sim.nx _ this] at g
      cases g
     ·have hbo:b ∈ os:=by rw [J.e];simp [k1]
      have hne:a ≠ b:=fun e=>by subst e;rw [hS] at k2;cases k2
      obtain ⟨ob2,B2⟩:=wDK (Z.ao b hbo)
      have hb2:wNI b.op=true:=by
       rcases Z.kd b hbo with hh | ⟨_,hh | hh | hh | hh | hh⟩
       ·rw [k5] at hh;exact absurd hh (by decide)
       ·omega
       ·omega
       ·omega
       ·exact hh.2
       ·omega
      have hwb:wCx σ2 b.grd=true:=by
       have hlb:b.ix < l.length:=(nZ.1 k3).1
       have eo:ob2=ob':=by have:=B2.get;rw [k3] at this;exact (nH this).symm
       subst eo
       have:=(J.frm Z hbo hlb (hdc _ hlb k2) hdc B2 k6 k7).1
       rw [<- this]
       exact k4
      exact absurd k8 (nm_ne HE HY Z e1 k6 r1 k7 g1 hwb hk hk2 k5 hb2 hne)
   have hadd:=Mu.add_le (c:=(⟨w.heap.size,0,g0⟩:Cl)) hno
   have hsz:∀ q c,μS q=some c->c.1 < w.heap.size:=fun q c hq=>by
    rcases J.nm q c hq with g | ⟨b,ob',s2,t2,σ2,h3,k1,k2,k3,k4,k5,k6,k7,k8⟩
    ·exact J.sim.lt q c g
    ·obtain ⟨ob2,p2,Pd⟩:=J.pd b k1 k2
     have eo:ob2=ob':=by have:=Pd.get;rw [k3] at this;exact (nH this).symm
     subst eo
     rcases Pd.fact with ⟨f,_⟩ | ⟨_,⟨f,_⟩ | ⟨f,_⟩ | ⟨_,_,w1,o1,s3,t3,σ3,h4,_,f4,_,f6,f7,f8,_⟩⟩
     ·rw [k4] at f;cases f
     ·omega
     ·omega
     ·have es:s3=s2:=(wDF (f6 ▸ Z.one) (f6.symm.trans k6)).1
      subst es
      rw [k7] at f7
      cases f7
      subst k8
      rw [hq] at f8
      cases f8
      exact wAR f4
   refine .inl ⟨hw',.inr (.inl ⟨val w.heap.size,w.alloc ob,c1 w,μS.add h1.nx ⟨w.heap.size,0,g0⟩,J.add Z ha hS hfree hdc A (wBF w ob) hadd (fun q c hq=>?_) ⟨p,A.get,d1,.inr ⟨hwn _,.inr (.inr ⟨hk,?_,w,ob,s ++ r,r',σ1,h1,?_,heap_alloc_new w ob,J.E.keep.size,e1,r1,Mu.add_same _ _ _,fun q c hq hc=>?_⟩)⟩⟩⟩)⟩
   ·unfold Mu.add at hq
    split at hq
    ·rename_i eq
     cases hq
     exact .inr ⟨rfl,hw',hk,s ++ r,r',σ1,h1,e1,r1,eq⟩
    ·exact .inl hq
   ·rw [hv,eput,ev']
    exact c3 _ _ _ (Mu.add_same _ _ _)
   ·rw [eput]
    exact (Runs.agr hsel (hself _)).1 (c1 w)
   ·unfold Mu.add at hq
    split at hq
    ·rename_i eq
     exact eq
    ·have:=hsz q c hq
     omega
  ·have gY:opY a.op tb ex exY σ1 h1=some (v,h2):=wOl (by omega) g2
   refine clean (.inr (.inr hk)) ?_
   rcases wIq r with hz | ⟨x,b,y,er,hb0,hx0⟩
   ·exact loadC (.inr (.inr hk)) hk2 r (fun b hb=>by rw [et];simp [hb]) hrr gY (fun b hb h0=>hz b hb h0) hrd
   ·have e2:os=(s ++ x) ++ b :: (y ++ a :: r'):=by rw [J.e,et,er];simp
    have hfull2:=J.full
    rw [e2] at hfull2
    obtain ⟨σ2,h3,r3,_⟩:=wLw hfull2
    have hbt:b ∈ t:=by rw [et,er];simp
    have hanc:wPh y + 8 < a.kd:=by
     rcases Z.ld8 _ a _ e1 hk (s ++ x) b y (by rw [er];simp) hb0 with g | g
     ·have:=J.free b hbt (wES hdc hp g)
      rw [hb0] at this
      cases this
     ·exact g
    have hlk:=HL _ b _ e2 hb0 _ _ r3
    have hsame:=wKy y a r' 0 hlk hfree (by omega)
    have hgf:wCx σg a.grd=true:=by
     rw [<- g1]
     cases hg:a.grd with
     | none=>rfl
     | some q =>
      obtain ⟨q,c⟩:=q
      show isB c (evA _ (.t q))=isB c (evA _ (.t q))
      have hqr:q ∈ wCe a:=nW _ (by rw [hg];simp)
      rw [<- Hg a hao hk q (.inl hqr),hrd q hqr]
    unfold wIh at hsame
    rw [d1] at hsame
    simp only [hgf] at hsame
    split at hsame
    ·rename_i v' h5 hq
     have hvv:=wLC hsame
     rw [<- Hg a hao hk p (.inr d1),hv] at hvv
     subst hvv
     have hrx:wAf tb ex exY x σA h=some (σ2,h3):=by rw [<- wDt s x _ _ _ _ J.hs];exact r3
     exact loadC (.inr (.inr hk)) hk2 x (fun b hb=>by rw [et,er];simp [hb]) hrx hq (fun b hb h0=>hx0 b hb h0) (fun q hq=>Hg a hao hk q (.inl hq))
    ·cases hsame
 ·refine .inr ⟨hw.trans g1,μS,J.add Z ha hS hfree hdc A (Keep.refl w _) (Mu.Le.refl _) (fun q c hq=>.inl hq) ⟨p,A.get,d1,.inl ⟨(wCc (hself _)).symm.trans (hw.trans g1),eput _,?_⟩⟩⟩
  exact wLD Z e1 (v:=u) g3 d1
theorem JS.catch (Z:ZOK P N l os) {μ0:Mu} {w0:World} {S:Nat->Bool}:∀ (r:List AO) {s t:List AO} {σA:Tr AV} {h:AH} {σ':Env} {μ:Mu},JS tb ex exY P l os σ0 h0 σf hf μ0 w0 S σ w s (r ++ t) σA h σ' μ μS->(∀ a ∈ r,S a.ix=true) ->
  ∃ σB hB σ'' μB,JS tb ex exY P l os σ0 h0 σf hf μ0 w0 S σ w (s ++ r) t σB hB σ'' μB μS
 | [],s,t,σA,h,σ',μ,J,_=>⟨σA,h,σ',μ,by rw [np];exact J⟩
 | a :: r,s,t,σA,h,σ',μ,J,hS=>by
  obtain ⟨σB,hB,σ'',μB,J1⟩:=JS.catch1 (t:=r ++ t) Z J (hS a (by simp))
  obtain ⟨σC,hC,σ3,μC,J2⟩:=JS.catch Z r J1 fun b hb=>hS b (by simp [hb])
  exact ⟨σC,hC,σ3,μC,by rw [show s ++ a :: r=s ++ [a] ++ r by simp];exact J2⟩
theorem JS.anew {A B:List AO} {σm:Tr AV} {h2:AH} {μ0:Mu} {w0:World} {S:Nat->Bool} (J:JS tb ex exY P l A σ0 h0 σm h2 μ0 w0 S σ w s [] σA h σ' μ μS) (hr:wAf tb ex exY B σm h2=some (σf,hf)) (hB:∀ b ∈ B,S b.ix=false) :
  Ext μ0 h0.fl.nat w0 μ w/\h2.fl=h0.fl/\JS tb ex exY P l B σm h2 σf hf μ w S σ w [] B σm h2 σ' μ μ:=by
 have hr1:=J.hr
 rw [wBG] at hr1
 cases hr1
 exact ⟨J.E,J.fl,rfl,wBG _ _ _ _ _,hr,fun b hb=>(by simp at hb),fun b hb hS=>(by rw [hB b hb] at hS;cases hS),Ext.refl μ _ w,J.sim,rfl,J.env,fun q _=>J.ag q fun b hb=>(by simp at hb),Mu.Le.refl _,fun q c hq=>.inl hq,fun b hb hS=>(by rw [hB b hb] at hS;cases hS)⟩
theorem CK.lazy {rr:Option Nat} {Q:wDf} {D:List Deferred} {id:Nat} (hm:P.follows .mixedOrders=true) (HC:wGc (CC P) P tb ex) (HY':wFQ (CC P) P exY) (HE:FrX ex) (HY:FrX exY) (ZZ:∃ A B,ZAll P N l os A B) (HL0:LCK tb ex exY os σ0 h0 σf)
  (hr:wAf tb ex exY os σ0 h0=some (σf,hf)) (S:Sim (CC P) P μ h0 w) (hE:EnvR μ σ0 σ)
  (hQ:∀ μ' w' σ',Ext μ h0.fl.nat w μ' w'->Sim (CC P) P μ' hf w'->EnvR μ' σf σ'->hf.fl=h0.fl->Q D .normal σ' w'):CK rr N P (.region id l.toArray true) Q D σ w:=by
 obtain ⟨A,B,ZZ⟩:=ZZ
 obtain ⟨σm,h2,hrA,hrB⟩:=wDm A B σ0 h0 _ (ZZ.eq ▸ hr)
 have HL:LCK tb ex exY A σ0 h0 σf/\LCK tb ex exY B σm h2 σf:=by
  refine ⟨fun s b t e k0 σ1 h1 hs=>?_,wLr ZZ.low⟩
  have:=HL0 s b (t ++ B) (by rw [ZZ.eq,e];simp) k0 σ1 h1 hs
  exact wJM t B 0 this
 have Hg:∀ a ∈ A,8 <= a.kd->∀ p,p ∈ wCe a \/ a.dst=some p->evA σm (.t p)=evA σf (.t p):=fun a ha h8 p hp=>(wDE B _ _ _ _ hrB p fun b hb=>ZZ.far a ha h8 p hp b hb).symm
 have lt:∀ b ∈ os,b.ix < l.length:=fun b hb=>by
  rw [ZZ.eq] at hb
  rcases nL.1 hb with hb | hb
  ·obtain ⟨o,A⟩:=wDK (ZZ.za.ao b hb)
   exact (nZ.1 A.get).1
  ·obtain ⟨o,A⟩:=wDK (ZZ.zb.ao b hb)
   exact (nZ.1 A.get).1
 have stepB:∀ (S1:Nat->Bool) (a:AO) (σ1:Env) (w1:World) (μm:Mu) (wm:World) (s t:List AO) (σA:Tr AV) (h:AH) (σ':Env) (μ1 μS:Mu) (o:Oper),a ∈ B->S1 a.ix=false->(∀ j ∈ prI l a.ix,S1 j=true)->(∀ k,k < l.length->S1 k=true->∀ j ∈ prI l k,S1 j=true)->AOK P N l a o ->
   JS tb ex exY P l B σm h2 σf hf μm wm S1 σ1 w1 s t σA h σ' μ1 μS->Step1 P l o σ1 w1 fun v w'=>∃ s t σA h σ' μ1 μS,JS tb ex exY P l B σm h2 σf hf μm wm (fun k=>k == a.ix || S1 k) (put' σ1 o v) w' s t σA h σ' μ1 μS:=by
  intro S1 a σ1 w1 μm wm s t σA h σ' μ1 μS o ha hSi hpi hdc A J
  have hat:a ∈ t:=by
   have:=ha
   rw [J.e] at this
   rcases nL.1 this with h | h
   ·rw [J.inS a h] at hSi;cases hSi
   ·exact h
  cases hf:wCa a.kd with
  | true =>
   obtain ⟨r,r',et⟩:=nR hat
   rw [et] at J
   obtain ⟨σB,hB,σ'',μB,J1⟩:=JS.catch ZZ.zb r J fun b hb=>wES hdc hpi (ZZ.zb.anc (s ++ r) a r' (by rw [J.e,nK]) hf b (by simp [hb]))
   refine (J1.fixed HC HY' HE HY ZZ.zb hf hSi hdc A).mono ?_
   rintro v w' ⟨σC,hC,σ3,μC,μT,J2⟩
   exact ⟨_,_,_,_,_,_,_,J2⟩
  | false =>
   refine (J.freeOp HE HY ZZ.zb HL.2 (fun _ _ _ _ _=>rfl) hat hSi hf hpi hdc A).mono ?_
   rintro v w' ⟨μT,J2⟩
   exact ⟨_,_,_,_,_,_,_,J2⟩
 have toB:∀ (S1:Nat->Bool) (σ1:Env) (w1:World) (s t:List AO) (σA:Tr AV) (h:AH) (σ':Env) (μ1 μS:Mu),(∀ a ∈ A,S1 a.ix=true)->(∀ b ∈ B,S1 b.ix=false)->JS tb ex exY P l A σ0 h0 σm h2 μ w S1 σ1 w1 s t σA h σ' μ1 μS ->
   ∃ μm σ',Ext μ h0.fl.nat w μm w1/\h2.fl=h0.fl/\JS tb ex exY P l B σm h2 σf hf μm w1 S1 σ1 w1 [] B σm h2 σ' μm μm:=by
  intro S1 σ1 w1 s t σA h σ' μ1 μS hA hB J
  have J0:JS tb ex exY P l A σ0 h0 σm h2 μ w S1 σ1 w1 s (t ++ []) σA h σ' μ1 μS:=by rw [np];exact J
  obtain ⟨σB,hB',σ'',μB,J1⟩:=JS.catch ZZ.za t J0 fun b hb=>hA b (by rw [J.e];simp [hb])
  obtain ⟨g1,g2,g3⟩:=J1.anew hrB hB
  exact ⟨μB,σ'',g1,g2,g3⟩
 refine CK.anyRel hm ZZ.za.pr (fun S σ w1=>((∀ b ∈ B,S b.ix=false)/\∃ s t σA h σ' μ1 μS,JS tb ex exY P l A σ0 h0 σm h2 μ w S σ w1 s t σA h σ' μ1 μS) \/
  ((∀ a ∈ A,S a.ix=true)/\∃ μm wm,Ext μ h0.fl.nat w μm wm/\h2.fl=h0.fl/\∃ s t σA h σ' μ1 μS,JS tb ex exY P l B σm h2 σf hf μm wm S σ w1 s t σA h σ' μ1 μS)) ?_ ?_ ?_
 ·exact .inl ⟨fun b _=>rfl,[],A,σ0,h0,σ,μ,μ,rfl,wBG _ _ _ _ _,hrA,fun b hb=>(by simp at hb),fun b _ hb=>(by cases hb),Ext.drew μ _ w,S.keep (Keep.drew w),rfl,hE,fun _ _=>rfl,Mu.Le.refl _,fun q c hq=>.inl hq,fun b _ hb=>(by cases hb)⟩
 ·rintro S1 i σ1 w1 hi hSi hpi hdc hlt hI
  obtain ⟨a,ha,rfl⟩:=ZZ.all i hi
  rw [ZZ.eq] at ha
  rcases nL.1 ha with ha | ha
  ·obtain ⟨o,AK⟩:=wDK (ZZ.za.ao a ha)
   refine ⟨o,AK.get,wIm AK,?_⟩
   rcases hI with ⟨hB,s,t,σA,h,σ',μ1,μS,J⟩ | ⟨hA,_⟩
   ·have hB':∀ b ∈ B,(fun k=>k == a.ix || S1 k) b.ix=false:=fun b hb=>by
     have:=(ZZ.cross b hb a ha).1
     simp [hB b hb,Ne.symm this]
    have hat:a ∈ t:=by
     have:=ha
     rw [J.e] at this
     rcases nL.1 this with h | h
     ·rw [J.inS a h] at hSi;cases hSi
     ·exact h
    cases hf:wCa a.kd with
    | true =>
     obtain ⟨r,r',et⟩:=nR hat
     rw [et] at J
     obtain ⟨σB,hB2,σ'',μB,J1⟩:=JS.catch ZZ.za r J fun b hb=>wES hdc hpi (ZZ.za.anc (s ++ r) a r' (by rw [J.e,nK]) hf b (by simp [hb]))
     refine (J1.fixed HC HY' HE HY ZZ.za hf hSi hdc AK).mono ?_
     rintro v w' ⟨σC,hC,σ3,μC,μT,J2⟩
     exact .inl ⟨hB',_,_,_,_,_,_,_,J2⟩
    | false =>
     refine (J.freeOp HE HY ZZ.za HL.1 Hg hat hSi hf hpi hdc AK).mono ?_
     rintro v w' ⟨μT,J2⟩
     exact .inl ⟨hB',_,_,_,_,_,_,_,J2⟩
   ·rw [hA a ha] at hSi
    cases hSi
  ·obtain ⟨o,AK⟩:=wDK (ZZ.zb.ao a ha)
   refine ⟨o,AK.get,wIm AK,?_⟩
   have hA:∀ c ∈ A,S1 c.ix=true:=fun c hc=>wES hdc hpi (ZZ.cross a ha c hc).2
   rcases hI with ⟨hB,s,t,σA,h,σ',μ1,μS,J⟩ | ⟨_,μm,wm,g1,g2,s,t,σA,h,σ',μ1,μS,J⟩
   ·obtain ⟨μm,σ2,g1,g2,J1⟩:=toB S1 σ1 w1 s t σA h σ' μ1 μS hA hB J
    refine (stepB S1 a σ1 w1 _ _ _ _ _ _ _ _ _ o ha hSi hpi hdc AK J1).mono ?_
    rintro v w' ⟨s,t,σA,h,σ',μ1,μS,J2⟩
    exact .inr ⟨fun c hc=>by simp [hA c hc],_,_,g1,g2,_,_,_,_,_,_,_,J2⟩
   ·refine (stepB S1 a σ1 w1 _ _ _ _ _ _ _ _ _ o ha hSi hpi hdc AK J).mono ?_
    rintro v w' ⟨s,t,σA,h,σ',μ1,μS,J2⟩
    exact .inr ⟨fun c hc=>by simp [hA c hc],_,_,g1,g2,_,_,_,_,_,_,_,J2⟩
 ·rintro S1 σ1 w1 hall hI
  have hI2:∃ μm wm,Ext μ h0.fl.nat w μm wm/\h2.fl=h0.fl/\∃ s t σA h σ' μ1 μS,JS tb ex exY P l B σm h2 σf hf μm wm S1 σ1 w1 s t σA h σ' μ1 μS:=by
   rcases hI with ⟨hB,s,t,σA,h,σ',μ1,μS,J⟩ | ⟨_,hI⟩
   ·obtain ⟨μm,σ2,g1,g2,J1⟩:=toB S1 σ1 w1 s t σA h σ' μ1 μS (fun a ha=>hall _ (lt a (by rw [ZZ.eq];simp [ha]))) hB J
    exact ⟨_,_,g1,g2,_,_,_,_,_,_,_,J1⟩
   ·exact hI
  obtain ⟨μm,wm,g1,g2,s,t,σA,h,σ',μ1,μS,J⟩:=hI2
  have J0:JS tb ex exY P l B σm h2 σf hf μm wm S1 σ1 w1 s (t ++ []) σA h σ' μ1 μS:=by rw [np];exact J
  obtain ⟨σB,hB,σ'',μB,J1⟩:=JS.catch ZZ.zb t J0 fun b hb=>hall _ (lt b (by rw [ZZ.eq,J.e];simp [hb]))
  have hr1:=J1.hr
  rw [wBG] at hr1
  cases hr1
  refine hQ μB w1 σ1 (g1.trans (g2 ▸ J1.E)) J1.sim (fun q=>?_) (J1.fl.trans g2)
  rw [J1.ag q fun b hb=>by simp at hb]
  exact J1.env q
end
end Go.KX
namespace Go.KX
open Go.RowKit Go.KL
section
variable {P:Program} {tb:Tr AF}
theorem wOo (hm:P.follows .mixedOrders=true) {ex exY:Run} (HC:wGc (CC P) P tb ex) (HY:wFQ (CC P) P exY) (FE:FrX ex) (FY:FrX exY) {os:List AO} {σA σA':Tr AV} {h h':AH} (hr:wAf tb ex exY os σA h=some (σA',h')) {id N:Nat} {ops:Array Oper} {draw:Bool} (hc:chkR P N os ops.toList draw=true)
  {rr:Option Nat} {μ:Mu} {σ:Env} {w:World} {D:List Deferred} {n0:Nat} (S:Sim (CC P) P μ h w) (hE:EnvR μ σA σ) (M:Mk μ w n0 D):CK rr N P (.region id ops draw) (PostX P μ h.fl w n0 rr D .nrm σA' h') D σ w:=by
 unfold chkR at hc
 simp only [nB,nU] at hc
 obtain ⟨c1,c2⟩:=hc
 have hop:ops=ops.toList.toArray:=by simp
 have hcs:∀ a ∈ os,wHh P N ops.toList a=true/\kOf ((nO ops.toList.length).map fun i=>kdAt i os) a.ix=a.kd:=fun a ha=>⟨(c1 a ha).1,nD (c1 a ha).2⟩
 have post:∀ {w0:World},Ext μ h.fl.nat w μ w0->Sim (CC P) P μ h w0->OKS N P ops.toList (PostX P μ h.fl w n0 rr D .nrm σA' h') D ((nO ops.toList.length).map fun i=>kdAt i os) (wKG os) σ w0:=by
  intro w0 E0 S0
  refine wKH HC HY os σA h σA' h' hr hcs μ σ w0 S0 hE fun μ' w' σ' q1 q2 q3 q4=>?_
  have E:=E0.trans q1
  exact ⟨rfl,μ',E,q2,q3,M.ext E,q4,fun _=>rfl⟩
 rw [hop]
 cases draw with
 | true =>
  simp only at c2
  split at c2
  ·simp only [nB,nU,Nat.blt_eq] at c2
   exact CK.lazy hm HC HY FE FY (wOc (fun a ha=>(c1 a ha).1) c2.2) (wLr c2.1) hr S hE fun μ' w' σ' q1 q2 q3 q4=>⟨rfl,μ',q1,q2,q3,M.ext q1,q4,fun _=>rfl⟩
  ·exact CK.anyOrd hm _ _ c2 (post (Ext.drew μ _ w) (S.keep (Keep.drew w)))
 | false=>exact CK.reg _ c2 (post (Ext.refl μ _ w) S)
theorem wQA {ex:Run} (HC:wGc (CC P) P tb ex) {g:AOd} {t:List Pos} {asg body:AC} {g':Operand} {ps:Array Tmp} {asg' body':Code} {N:Nat} (hc:wFS P N (.rf g t asg body) (.rangeFunc g' ps asg' body')=true)
  {σA σA':Tr AV} {h h':AH} {e:Ex} (hr:sRf true g t asg body tb ex σA h=some (e,σA',h')) {μ:Mu} {σ:Env} {w:World} {D:List Deferred} {n0:Nat} (S:Sim (CC P) P μ h w) (hE:EnvR μ σA σ) (M:Mk μ w n0 D) (hn:n0 <= w.heap.size) :
  CK none N P (.rangeFunc g' ps asg' body') (PostX P μ h.fl w n0 none D e σA' h') D σ w:=by
 simp only [wFS,nB] at hc
 obtain ⟨c1,c2,c3,c4⟩:=hc
 obtain ⟨p,rfl⟩:∃ p:List Nat,ps=p.toArray:=⟨ps.toList,by simp⟩
 ·obtain ⟨ht,c6⟩:=wLs (by simpa using c2)
  unfold sRf at hr
  split at hr
  ·rename_i f fi ca hg
   have hx:=wAJ c1 hE
   rw [hg] at hx
   obtain ⟨fv,cv,g1,g2,g3⟩:=hx
   split at hr <;> first | (cases hr;done) | skip
   rename_i rv h2 hcall
   obtain ⟨hcf,hgv⟩:=HC _ _ _ _ _ hcall
   refine CK.rangeFunc (t:=p) g3 hcf fun fn l rb w1 e1 e2 hl hd K hs=>?_
   subst e1 e2
   have hle:=Mu.add_le (c:=(⟨w.heap.size + 1,0,⟨N,σ,p,asg',body',w.heap.size,fn⟩⟩:Cl)) (S.nx h.nx (nI _))
   obtain ⟨s1,s2,s3,s4⟩:=S.push (w':=w1) (c:=⟨w.heap.size + 1,0,⟨N,σ,p,asg',body',w.heap.size,fn⟩⟩) (B:=.loop σA t asg body .ready) K (Nat.le_succ _) (by show w.heap.size + 1 < _;omega) ⟨hl,hE.mono hle,ht,c6,c3,c4⟩
   generalize hμ1:μ.add h.nx (⟨w.heap.size + 1,0,⟨N,σ,p,asg',body',w.heap.size,fn⟩⟩:Cl)=μ1 at *
   have M1:Mk μ1 w1 n0 (mark w.heap.size :: D):=by
    have M':=M.ext s2
    obtain ⟨rbs,m1,m2,m3⟩:=M'
    have hold:∀ rb ∈ rbs,rb < w.heap.size:=by
     obtain ⟨rbs0,k1,k2,k3⟩:=M
     intro rb hrb
     have hmm:rbs.map mark=rbs0.map mark:=by rw [<- m1,<- k1]
     have hinj:rbs=rbs0:=by
      have:∀ (a b:List Nat),a.map mark=b.map mark->a=b:=by
       intro a
       induction a with
       | nil=>intro b hb;cases b with
        | nil=>rfl
        | cons _ _=>simp at hb
       | cons x a ih=>intro b hb;cases b with
        | nil=>simp at hb
        | cons y b =>
         simp only [nk,nf] at hb
         have hxy:x=y:=by have:=hb.1;simp [mark] at this;exact this
         rw [hxy,ih b hb.2]
      exact this _ _ hmm
     exact (k3 rb (hinj ▸ hrb)).1.lt
    refine ⟨w.heap.size :: rbs,by rw [nk,<- m1],List.nodup_cons.2 ⟨fun hm=>absurd (hold _ hm) (kD _),m2⟩,fun rb hrb=>?_⟩
    rcases nE.1 hrb with rfl | hrb
    ·refine ⟨hd,hn,fun q c hq=>?_⟩
     rw [<- hμ1] at hq
     unfold Mu.add at hq
     split at hq
     ·cases hq;show w.heap.size + 1 ≠ _;omega
     ·have:=S.lt q c hq;omega
    ·exact m3 rb hrb
   have G:=hgv μ1 w1 (fv ++ (.func (.yield (w.heap.size + 1)) #[] #[] :: cv)) s1 (wEO (g1.mono s2.mono) (wBl ⟨_,s4,rfl⟩ (g2.mono s2.mono)))
   rw [nK]
   refine G.mono ?_
   rintro v3 w3 ⟨μ3,q1,q2,q3,q4⟩
   rw [s3] at q1 q4
   have E13:=s2.trans q1
   have hc3:=q1.mono _ _ s4
   have fin:∀ {B:AB} {h3:AH} (w4:World),h2.m.get h.nx=some B->wMi B->h2.put h.nx .dead=some h3->Keep w3 w4 (·=w.heap.size + 1)->w4.heap.size=w3.heap.size->∃ μ',Ext μ h.fl.nat w μ' w4/\Sim (CC P) P μ' h3 w4/\EnvR μ' σA σ/\Mk μ' w4 n0 (mark w.heap.size :: D)/\h3.fl=h.fl:=by
    intro B h3 w4 hB hlv hput K4 _
    obtain ⟨v1,v2,v3⟩:=q2.put hput hB hlv hc3 K4 (B':=.dead) trivial
    rw [q4] at v2 v3
    exact ⟨μ3,E13.trans v2,v1,hE.mono E13.mono,(M1.ext q1).ext v2,v3⟩
   split at hr
   ·rename_i sx tx ax bx hB
    split at hr <;> first | (cases hr;done) | skip
    rename_i h3 hput
    cases hr
    obtain ⟨c',u1,u2⟩:=q2.at_ _ _ hB
    rw [hc3] at u1;cases u1
    have L3:wMh (CC P) μ3 w3 ⟨w.heap.size + 1,0,⟨N,σ,p,asg',body',w.heap.size,fn⟩⟩ sx tx ax bx .ready:=u2
    refine .inl ⟨L3.at_,fun w4 K4 hs4=>?_⟩
    obtain ⟨μ',a1,a2,a3,a4,a5⟩:=fin w4 hB trivial hput K4 hs4
    exact ⟨rfl,μ',a1,a2,a3,a4,a5,fun hq=>by cases hq⟩
   ·rename_i sx tx ax bx ee hB
    split at hr <;> first | (cases hr;done) | skip
    rename_i h3 hput
    cases hr
    obtain ⟨c',u1,u2⟩:=q2.at_ _ _ hB
    rw [hc3] at u1;cases u1
    have L3:wMh (CC P) μ3 w3 ⟨w.heap.size + 1,0,⟨N,σ,p,asg',body',w.heap.size,fn⟩⟩ sx tx ax bx (.done e):=u2
    cases e with
    | nrm =>
     refine .inl ⟨L3.at_,fun w4 K4 hs4=>?_⟩
     obtain ⟨μ',a1,a2,a3,a4,a5⟩:=fin w4 hB trivial hput K4 hs4
     exact ⟨rfl,μ',a1,a2,a3,a4,a5,fun hq=>by cases hq⟩
    | ret =>
     refine .inr ⟨.ret,.inl rfl,L3.at_,fun w4 K4 hs4=>?_⟩
     obtain ⟨μ',a1,a2,a3,a4,a5⟩:=fin w4 hB trivial hput K4 hs4
     exact ⟨rfl,μ',a1,a2,a3,a4,a5,fun hq=>by cases hq⟩
    | exit i =>
     refine .inr ⟨.exit i,.inr ⟨i,rfl⟩,L3.at_,fun w4 K4 hs4=>?_⟩
     obtain ⟨μ',a1,a2,a3,a4,a5⟩:=fin w4 hB trivial hput K4 hs4
     exact ⟨rfl,μ',a1,a2,a3,a4,a5,fun hq=>by cases hq⟩
   ·cases hr
  ·cases hr
theorem CK.ofRounds {rr:Option Nat} {N:Nat} {c:Code} {Q:wDf} {D:List Deferred} {σ:Env} {w:World} (m:Nat) (hh:∀ a,Rep N D a σ->Code.roundsIn (WF rr) 0 P c (wIw N Q) m a w):CK rr N P (.loop c) Q D σ w :=
 fun a ha=>wpIn_loop_rounds m (hh a ha)
theorem wTX {exR:Run} {r:Bool} (HE:wIo P exR r) {a b:AC} {σA σA':Tr AV} {h h':AH} {e:Ex} (hr:wSu a b exR σA h=some (e,σA',h')) {c d:Code} {N:Nat} (hc1:wFS P N a c=true) (hc2:wFS P N b d=true)
  {rr:Option Nat} {μ:Mu} {σ:Env} {w:World} {D:List Deferred} {n0:Nat} (hrr:rr.isSome=r) (S:Sim (CC P) P μ h w) (hE:EnvR μ σA σ) (M:Mk μ w n0 D) (hn:n0 <= w.heap.size):CK rr N P (.seq c d) (PostX P μ h.fl w n0 rr D e σA' h') D σ w:=by
 obtain ⟨⟨e1,σ1,h1⟩,ha,hb⟩:=wSd hr
 rw [wLB] at hb
 refine CK.seq ((HE _ _ _ _ _ _ ha c N hc1 rr μ σ w D n0 hrr S hE M hn).mono ?_)
 intro D' e' σ' w' hp
 obtain ⟨rfl,μ1,q1,q2,q3,q4,q5,q6⟩:=hp
 cases e1 with
 | nrm =>
  refine (HE _ _ _ _ _ _ hb d N hc2 rr μ1 σ' w' D' n0 hrr q2 q3 q4 (nc hn q1.keep.size)).mono ?_
  intro D'' e'' σ'' w'' hp
  rw [q5] at hp
  exact PostX.trans q1 q6 hp
 | ret=>cases hb;exact ⟨rfl,μ1,q1,q2,q3,q4,q5,q6⟩
 | exit i=>cases hb;exact ⟨rfl,μ1,q1,q2,q3,q4,q5,q6⟩
theorem wRv {exR:Run} {r:Bool} {m:Nat} (HE:wIo P exR r) (HL:wOd P exR r m) {a:AC} {σA σA':Tr AV} {h h':AH} {e:Ex} (hr:wNw a exR σA h=some (e,σA',h')) {c:Code} {N:Nat} (hc:wFS P N a c=true)
  {rr:Option Nat} {μ:Mu} {σ:Env} {w:World} {D:List Deferred} {n0:Nat} (hrr:rr.isSome=r) (S:Sim (CC P) P μ h w) (hE:EnvR μ σA σ) (M:Mk μ w n0 D) (hn:n0 <= w.heap.size):∀ act,Rep N D act σ->Code.roundsIn (WF rr) 0 P c (wIw N (PostX P μ h.fl w n0 rr D e σA' h')) (m + 1) act w:=by
 obtain ⟨⟨e1,σ1,h1⟩,ha,hb⟩:=wSd hr
 rw [wLB] at hb
 intro act hact
 rw [roundsIn_succ]
 refine wpIn_mono (HE _ _ _ _ _ _ ha c N hc rr μ σ w D n0 hrr S hE M hn act hact) ?_
 rintro e' act' w' ⟨σ',D',hrep,hp⟩
 obtain ⟨rfl,μ1,q1,q2,q3,q4,q5,q6⟩:=hp
 cases e1 with
 | nrm =>
  refine wHk ?_ m act' w' (HL _ _ _ _ _ _ hb c N hc rr μ1 σ' w' D' n0 hrr q2 q3 q4 (nc hn q1.keep.size) act' hrep)
  rintro e'' act'' w'' ⟨σ'',D'',hrep',hp⟩
  rw [q5] at hp
  exact ⟨σ'',D'',hrep',PostX.trans q1 q6 hp⟩
 | ret=>cases hb;exact ⟨σ',D',hrep,rfl,μ1,q1,q2,q3,q4,q5,q6⟩
 | exit i=>cases hb;exact ⟨σ',D',hrep,rfl,μ1,q1,q2,q3,q4,q5,q6⟩
theorem wRw (hm:P.follows .mixedOrders=true) (T:wJN P tb):∀ (n:Nat) (r:Bool),wIo P (exec tb n r) r/\wOd P (exec tb n r) r n:=by
 intro n
 induction n with
 | zero=>intro r;exact ⟨fun c σA h e σA' h' hr=>(by cases hr),fun c σA h e σA' h' hr=>(by cases hr)⟩
 | succ n ih =>
  intro r
  have HC:=wOe T (ih false).1
  have HY:=wPx (P:=P) (ih true).1
  obtain ⟨HE,HL⟩:=ih r
  have loop:wOd P (exec tb (n + 1) r) r (n + 1):=by
   intro c σA h e σA' h' hr code N hc rr μ σ w D n0 hrr S hE M hn
   have hr:wNw c (exec tb n r) σA h=some (e,σA',h'):=hr
   exact wRv HE HL hr hc hrr S hE M hn
  refine ⟨?_,loop⟩
  intro c σA h e σA' h' hr code N hc rr μ σ w D n0 hrr S hE M hn
  rw [wJz] at hr
  cases c with
  | skip =>
   have hr:sNrm σA h=some (e,σA',h'):=hr
   cases hr
   have fin:PostX P μ h.fl w n0 rr D .nrm σA h D .normal σ w:=⟨rfl,μ,Ext.refl μ _ w,S,hE,M,rfl,fun _=>rfl⟩
   cases code <;> simp only [wFS,nG] at hc
   ·exact CK.skip fin
   ·exact CK.label fin
  | rg os =>
   have hr:sRg os tb (exec tb n false) (exec tb n true) (exec tb n r) σA h=some (e,σA',h'):=hr
   unfold sRg at hr
   have:∃ y,wAf tb (exec tb n false) (exec tb n true) os σA h=some y/\some (Ex.nrm,y.1,y.2)=some (e,σA',h'):=by
    cases hq:wAf tb (exec tb n false) (exec tb n true) os σA h with
    | none=>rw [hq] at hr;cases hr
    | some y=>rw [hq] at hr;exact ⟨y,rfl,hr⟩
   obtain ⟨y,h1,h2⟩:=this
   cases h2
   cases code <;> simp only [wFS,nG] at hc
   exact wOo hm HC HY (wFT tb n false) (wFT tb n true) h1 hc S hE M
  | seq a b =>
   have hr:wSu a b (exec tb n r) σA h=some (e,σA',h'):=hr
   cases code <;> simp only [wFS,nG,nB] at hc
   exact wTX HE hr hc.1 hc.2 hrr S hE M hn
  | cond x a b =>
   have hr:wNv x a b (exec tb n r) σA h=some (e,σA',h'):=hr
   cases code <;> simp only [wFS,nG,nB] at hc
   have hx:=wAJ hc.1 hE
   unfold wNv at hr
   split at hr
   ·rename_i hb;rw [hb] at hx
    exact CK.condT hx (HE _ _ _ _ _ _ hr _ N hc.2.1 rr μ σ w D n0 hrr S hE M hn)
   ·rename_i hb;rw [hb] at hx
    exact CK.condF hx (HE _ _ _ _ _ _ hr _ N hc.2.2 rr μ σ w D n0 hrr S hE M hn)
   ·cases hr
  | block i a =>
   have hr:wLg i a (exec tb n r) σA h=some (e,σA',h'):=hr
   cases code <;> simp only [wFS,nG,nB] at hc
   rename_i j code
   have hij:=nD hc.1
   subst hij
   obtain ⟨⟨e1,σ1,h1⟩,ha,hb⟩:=wSd hr
   refine CK.block ((HE _ _ _ _ _ _ ha code N hc.2 rr μ σ w D n0 hrr S hE M hn).mono ?_)
   rintro D' e' σ' w' ⟨rfl,μ1,q1,q2,q3,q4,q5,q6⟩
   cases e1 with
   | nrm=>cases hb;exact ⟨rfl,μ1,q1,q2,q3,q4,q5,q6⟩
   | ret=>cases hb;exact ⟨rfl,μ1,q1,q2,q3,q4,q5,q6⟩
   | exit k =>
    have hb:Bool.rec (motive:=fun _=>R) (some (.exit k,σ1,h1)) (some (.nrm,σ1,h1)) (nV k i)=some (e,σA',h'):=hb
    cases hk:nV k i with
    | true =>
     rw [hk] at hb;cases hb
     have:=nD hk
     subst this
     exact wIy ⟨rfl,μ1,q1,q2,q3,q4,q5,q6⟩
    | false =>
     rw [hk] at hb;cases hb
     exact wPi ⟨rfl,μ1,q1,q2,q3,q4,q5,q6⟩ hk
  | loop a =>
   have hr':exec tb (n + 1) r (.loop a) σA h=some (e,σA',h'):=hr
   cases code <;> simp only [wFS,nG] at hc
   exact CK.ofRounds (n + 1) (loop _ _ _ _ _ _ hr' _ N hc rr μ σ w D n0 hrr S hE M hn)
  | rf g t asg body =>
   have hr:sRf (!r) g t asg body tb (exec tb n false) σA h=some (e,σA',h'):=hr
   cases r with
   | true=>unfold sRf at hr;simp at hr
   | false =>
    have hnone:rr=none:=by cases rr <;> first | rfl | cases hrr
    subst hnone
    cases code <;> first | (simp only [wFS,nG] at hc;done) | skip
    exact wQA HC hc hr S hE M hn
  | exit i =>
   have hr:some (Ex.exit i,σA,h)=some (e,σA',h'):=hr
   cases hr
   cases code <;> simp only [wFS,nG] at hc
   have:=nD hc
   subst this
   exact CK.exit ⟨rfl,μ,Ext.refl μ _ w,S,hE,M,rfl,fun _=>rfl⟩
  | scope a =>
   have hr:exec tb n r a σA h=some (e,σA',h'):=hr
   cases code <;> simp only [wFS,nG] at hc
   refine CK.scope ((HE _ _ _ _ _ _ hr _ N hc rr μ σ w D n0 hrr S hE M hn).mono ?_)
   rintro D' e' σ' w' ⟨rfl,q⟩
   cases e with
   | nrm=>exact ⟨rfl,q⟩
   | ret=>exact ⟨rfl,q⟩
   | exit k=>exact ⟨rfl,q⟩
  | ret =>
   have hr:some (Ex.ret,σA,h)=some (e,σA',h'):=hr
   cases hr
   cases code <;> simp only [wFS,nG] at hc
   exact CK.ret ⟨rfl,μ,Ext.refl μ _ w,S,hE,M,rfl,fun _=>rfl⟩
  | rl os =>
   have hr:sRl os tb (exec tb n false) (exec tb n true) σA h=some (e,σA',h'):=hr
   rw [wQg] at hr
   split at hr
   ·rename_i y hq
    cases hr
    obtain ⟨g1,g2⟩:=wKz _ _ _ _ hq
    cases code <;> simp only [wFS,nG,nB,nU] at hc
    rename_i id ops draw
    obtain ⟨rfl,c1,c2⟩:=hc
    have hop:ops=ops.toList.toArray:=by simp
    rw [hop]
    exact CK.lazy hm HC HY (wFT tb n false) (wFT tb n true) (wOc c1 c2) g2 g1 S hE fun μ' w' σ' q1 q2 q3 q4=>⟨rfl,μ',q1,q2,q3,M.ext q1,q4,fun _=>rfl⟩
   ·cases hr
theorem Sim.empty (C:Chk) (P:Program) (w:World):Sim C P (fun _=>none) ⟨.e,.H,.H⟩ w :=
 ⟨fun _ _=>rfl,fun _ _ h=>(by cases h),fun _ _ _ _ _ _ h=>(by rw [Tr.get_e] at h;cases h),fun _ _ h=>(by rw [Tr.get_e] at h;cases h)⟩
def wOp (f:Nat->AF->Prop):Tr AF->(Nat->Nat)->Prop
 | .e,_=>True
 | .n l v r,g=>(match v with | none=>True | some a=>f (g 1) a)/\wOp f l (fun n=>g (2 * n))/\wOp f r (fun n=>g (2 * n + 1))
theorem wHo {f:Nat->AF->Prop}:∀ {t:Tr AF} {g:Nat->Nat},wOp f t g->∀ p a,t.get p=some a->f (g p.nat) a
 | .e,g,_,p,a,hq=>by rw [Tr.get_e] at hq;cases hq
 | .n l v r,g,⟨h1,h2,h3⟩,.H,a,hq=>by
  rw [Tr.get_H] at hq;subst hq;exact h1
 | .n l v r,g,⟨h1,h2,h3⟩,.O p,a,hq=>wHo h2 p a hq
 | .n l v r,g,⟨h1,h2,h3⟩,.I p,a,hq=>wHo h3 p a hq
theorem wTY (h:wOp (fun n a=>chkF P (n - 1) a=true) tb fun n=>n):wJN P tb:=fun p af hq=>wHo h p af hq
end
end Go.KX
namespace Go.KX
noncomputable section
open Go.RowKit Go.KL
section
variable {P:Program} {tb:Tr AF} {n:Nat} {σ σ1 σ':Tr AV} {h h1 h2 h':AH} {e:Ex} {c c1 c2:AC}
def RunOK (P:Program) (c:AC) (σA:Tr AV) (h:AH) (e:Ex) (σA':Tr AV) (h':AH):Prop:=∀ code N,wFS P N c code=true->∀ (μ:Mu) (σ:Env) (w:World) (D:List Deferred) (n0:Nat),
 Sim (CC P) P μ h w->EnvR μ σA σ->Mk μ w n0 D->n0 <= w.heap.size->CK none N P code (PostX P μ h.fl w n0 none D e σA' h') D σ w
theorem RunOK.exec (hm:P.follows .mixedOrders=true) (T:wJN P tb) (hr:exec tb n false c σ h=some (e,σ',h')):RunOK P c σ h e σ' h' :=
 fun code N hc μ σ w D n0 S hE M hn=>(wRw hm T n false).1 _ _ _ _ _ _ hr code N hc none μ σ w D n0 rfl S hE M hn
theorem RunOK.seq (A:RunOK P c1 σ h .nrm σ1 h1) (B:RunOK P c2 σ1 h1 e σ' h'):RunOK P (.seq c1 c2) σ h e σ' h':=by
 intro code N hc μ σ w D n0 S hE M hn
 cases code <;> simp only [wFS,nG,nB] at hc
 refine CK.seq ((A _ N hc.1 μ σ w D n0 S hE M hn).mono ?_)
 rintro D' e' σ' w' ⟨rfl,μ1,q1,q2,q3,q4,q5,q6⟩
 refine (B _ N hc.2 μ1 σ' w' D' n0 q2 q3 q4 (nc hn q1.keep.size)).mono ?_
 intro D'' e'' σ'' w'' hp
 rw [q5] at hp
 exact PostX.trans q1 q6 hp
theorem RunOK.less (A:RunOK P c σ h2 e σ' h') (hs:∀ p b,h2.m.get p=some b->h.m.get p=some b) (hn:h2.nx=h.nx) (hf:h2.fl=h.fl):RunOK P c σ h e σ' h':=by
 intro code N hc μ σ w D n0 S hE M hn0
 rw [<- hf]
 exact A code N hc μ σ w D n0 ⟨by rw [hn];exact S.nx,S.lt,fun p q a b c d hp hq=>S.inj p q a b c d (hs p a hp) (hs q b hq),fun p b hp=>S.at_ p b (hs p b hp)⟩ hE M hn0
def wFr:Nat->AC->AC
 | k + 1,.seq _ b=>wFr k b
 | _,c=>c
def wMr (tb:Tr AF) (n:Nat):Nat->AC->Tr AV->AH->Option (Tr AV × AH)
 | 0,_,σ,h=>some (σ,h)
 | k + 1,.seq a b,σ,h=>match KX.exec tb n false a σ h with
  | some (.nrm,σ1,h1)=>wMr tb n k b σ1 h1
  | _=>none
 | _ + 1,_,_,_=>none
theorem wLx (hm:P.follows .mixedOrders=true) (T:wJN P tb):∀ (k:Nat) (c:AC) (σ:Tr AV) (h:AH),wMr tb n k c σ h=some (σ1,h1)->RunOK P (wFr k c) σ1 h1 e σ' h'->RunOK P c σ h e σ' h'
 | 0,c,σ,h,hr,B=>by
  have hr:some (σ,h)=some (σ1,h1):=by simpa [wMr] using hr
  cases hr
  have hd:wFr 0 c=c:=by cases c <;> rfl
  rwa [hd] at B
 | k + 1,c,σ,h,hr,B=>by
  cases c <;> first | (simp only [wMr] at hr;cases hr;done) | skip
  rename_i a b
  rw [wMr] at hr
  split at hr
  ·rename_i σ2 h2 hq
   exact (RunOK.exec hm T hq).seq (wLx hm T k b σ2 h2 hr B)
  ·cases hr
def wHp:Tr AV->Tr AV->Bool
 | .e,.e=>true
 | .n l v r,.n l' v' r'=>(match v,v' with | none,none=>true | some a,some b=>same a b | _,_=>false) && (wHp l l' && wHp r r')
 | _,_=>false
theorem wHq:∀ {s t:Tr AV},wHp s t=true->s=t
 | .e,.e,_=>rfl
 | .n l v r,.n l' v' r',hs=>by
  simp only [wHp,nB] at hs
  obtain ⟨h1,h2,h3⟩:=hs
  rw [wHq h2,wHq h3]
  cases v <;> cases v' <;> simp only [nG] at h1
  ·rfl
  ·rw [wLC h1]
 | .e,.n _ _ _,hs=>by simp [wHp] at hs
 | .n _ _ _,.e,hs=>by simp [wHp] at hs
def wOq:AB->AB->Bool
 | .cells T l,.cells T' l'=>nV T T' && wHX l l'
 | .row T s l,.row T' s' l'=>nV T T' && (nV s s' && wHX l l')
 | _,_=>false
theorem wOr {a b:AB} (hs:wOq a b=true):a=b:=by
 unfold wOq at hs
 split at hs
 ·simp only [nB] at hs
  rw [nD hs.1,wER hs.2]
 ·simp only [nB] at hs
  rw [nD hs.1,nD hs.2.1,wER hs.2.2]
 ·cases hs
def wMs:Tr AB->Tr AB->Bool
 | .e,_=>true
 | .n l v r,.n l' v' r'=>(match v,v' with | none,_=>true | some a,some b=>wOq a b | _,_=>false) && (wMs l l' && wMs r r')
 | _,_=>false
theorem wHr:∀ {s t:Tr AB},wMs s t=true->∀ p b,s.get p=some b->t.get p=some b
 | .e,t,_,p,b,hg=>by rw [Tr.get_e] at hg;cases hg
 | .n l v r,.n l' v' r',hs,p,b,hg=>by
  simp only [wMs,nB] at hs
  obtain ⟨h1,h2,h3⟩:=hs
  cases p with
  | H =>
   rw [Tr.get_H] at hg ⊢
   subst hg
   cases v' <;> simp only [nG] at h1
   rw [wOr h1]
  | O p=>rw [Tr.get_O] at hg ⊢;exact wHr h2 p b hg
  | I p=>rw [Tr.get_I] at hg ⊢;exact wHr h3 p b hg
 | .n _ _ _,.e,hs,_,_,_=>by simp [wMs] at hs
def stg (tb:Tr AF) (n k:Nat) (c:AC) (σ:Tr AV) (h:AH) (σ1:Tr AV) (h2:AH):Bool:=match wMr tb n k c σ h with
 | some (σ',h')=>wHp σ' σ1 && (h2.nx.beq h'.nx && (h2.fl.beq h'.fl && wMs h2.m h'.m))
 | none=>false
theorem wLy (hm:P.follows .mixedOrders=true) (T:wJN P tb) (k:Nat) (hs:stg tb n k c σ h σ1 h2=true) (B:RunOK P (wFr k c) σ1 h2 e σ' h'):RunOK P c σ h e σ' h':=by
 unfold stg at hs
 split at hs
 ·rename_i σ2 h3 hq
  simp only [nB] at hs
  obtain ⟨g1,g2,g3,g4⟩:=hs
  have:=wHq g1
  subst this
  exact wLx hm T k c σ h hq (B.less (wHr g4) (Pos.beq_eq g2) (Pos.beq_eq g3))
 ·cases hs
def stgB (tb:Tr AF) (n:Nat) (c:AC) (σ:Tr AV) (h:AH) (rs:List AR) (b:Bool):Bool:=match KX.exec tb n false c σ h with
 | some (.ret,σ',h')=>(match wPe σ' h' rs with
  | some (.bool b',_)=>b' == b
  | _=>false)
 | _=>false
theorem wRx (hm:P.follows .mixedOrders=true) (T:wJN P tb) {rs:List AR} {b:Bool} (hs:stgB tb n c σ h rs b=true):∃ σ' h' h3,RunOK P c σ h .ret σ' h'/\wPe σ' h' rs=some (.bool b,h3):=by
 unfold stgB at hs
 split at hs
 ·rename_i σ' h' hq
  split at hs
  ·rename_i b' h3 hq2
   have:=eq_of_beq hs
   subst this
   exact ⟨σ',h',h3,RunOK.exec hm T hq,hq2⟩
  ·cases hs
 ·cases hs
open Classical in
def wLz (c0:AC) (σ0:Tr AV) (h0:AH) (r:Ex × Tr AV × AH):Run:=fun c σ h=>if c=c0/\σ=σ0/\h=h0 then some r else none
theorem wMt (T:wJN P tb) (f:Pos) (k:Nat) (hk:f.nat=k + 1) {af:AF} (hf:tb.get f=some af) {b:Bool} (hr:∃ σ' h' h3,RunOK P af.body .e ⟨.e,.H,.H⟩ .ret σ' h'/\wPe σ' h' af.res=some (.bool b,h3)) (w:World) :
  Gv P k [] w fun cv w'=>cv=.bool b/\Keep w w' Non:=by
 obtain ⟨σ',h',h3,R,hres⟩:=hr
 have HE:wIo P (wLz af.body .e ⟨.e,.H,.H⟩ (.ret,σ',h')) false:=by
  intro c σA h e σA' h1 hx code N hc rr μ σ w D n0 hrr S hE M hn
  unfold wLz at hx
  split at hx
  ·rename_i hq
   obtain ⟨rfl,rfl,rfl⟩:=hq
   cases hx
   have:rr=none:=by cases rr <;> first | rfl | cases hrr
   subst this
   exact R code N hc μ σ w D n0 S hE M hn
  ·cases hx
 have hcall:wJw tb (wLz af.body .e ⟨.e,.H,.H⟩ (.ret,σ',h')) f [] ⟨.e,.H,.H⟩=some (.bool b,h3):=by
  unfold wJw
  rw [hf]
  have hle:Nat.ble (len ([]:List AV)) af.n=true:=by rw [Nat.ble_eq];exact nt _
  simp only [hle]
  have hi:wMf [] Pos.H .e=.e:=rfl
  rw [hi]
  unfold wLz
  rw [if_pos ⟨rfl,rfl,rfl⟩]
  exact hres
 obtain ⟨_,hg⟩:=wOe T HE f [] _ _ _ hcall
 have:=hg _ w [] (Sim.empty _ _ w) rfl
 rw [hk] at this
 refine this.mono ?_
 rintro cv w' ⟨μ',h1,h2,h3,_⟩
 exact ⟨h3,h1.keep.weak fun i _ ⟨p,d,hp,_⟩=>by cases hp⟩
end
end
end Go.KX
namespace Go.KL
variable {S S' B B' α:Type}
theorem wDd {body:Nat->S->Option (S ⊕ B)} {n:Nat} {s:S} (hn:n <= 9223372036854775807):wFF 0 (n:Int) body s=forN body n 0 s:=by
 unfold wFF
 rw [if_pos (by omega),show ((n:Int) - 0).toNat=n from by omega]
theorem wGR {body:Nat->S->Option S} {n:Nat} {s:S} (hn:n <= 9223372036854775807):wCQ 0 (n:Int) body s=forN' body n 0 s:=by
 unfold wCQ
 rw [if_pos (by omega),show ((n:Int) - 0).toNat=n from by omega]
def first (p:α->Bool):List α->Nat->Int
 | [],_=>-1
 | a :: l,k=>if p a then (k:Int) else first p l (k + 1)
theorem wEq (p:α->Bool):∀ (l:List α) (k:Nat),decide (0 <= first p l k)=l.any p
 | [],k=>by simp [first]
 | a :: l,k=>by
  rw [first,nw]
  by_cases h:p a
  ·simp [h]
  ·simp [h,wEq p l (k + 1)]
theorem wEx {R:Type} {l:List α} {f:α->Option Bool} {p:α->Bool} (hf:∀ a ∈ l,f a=some (p a)) (hn:l.length <= 9223372036854775807) (z:Int->R) :
  (jn (wFF 0 (↑l.length:Int) (fun k2 (_:Unit)=>(idx l (↑k2:Int)).bind fun x=>(f x).bind fun y=>if y=true then esc (some (z (↑k2:Int))) else some (.inl ())) ()) fun _=>some (z (-1)))=some (z (first p l 0)):=by
 rw [wDd hn]
 have key:∀ (m k:Nat),k + m=l.length->(jn (forN (fun k2 (_:Unit)=>(idx l (↑k2:Int)).bind fun x=>(f x).bind fun y=>if y=true then esc (some (z (↑k2:Int))) else some (.inl ())) m k ()) fun _=>some (z (-1)))=some (z (first p (l.drop k) k)):=by
  intro m
  induction m with
  | zero=>intro k hk;rw [nP (by omega)];rfl
  | succ m ih =>
   intro k hk
   have hlt:k < l.length:=by omega
   rw [na hlt,first,forN,wHJ,nS hlt]
   simp only [nA,hf _ (List.getElem_mem hlt)]
   by_cases h:p l[k]=true
   ·simp [h]
   ·simp only [h,if_false,nG]
    exact ih (k + 1) (by omega)
 exact key l.length 0 (by omega)
theorem wMx [DecidableEq α] {l m:List α} (hn:l.length <= 9223372036854775807) :
  (if (↑l.length:Int)=(↑m.length:Int) then jn (wFF 0 (↑l.length:Int) (fun k4 (_:Unit)=>(idx l (↑k4:Int)).bind fun x26=>(idx m (↑k4:Int)).bind fun x34=>if x26=x34 then some (.inl ()) else esc (some false)) ()) fun _=>some true else some false)=some (decide (l=m)):=by
 by_cases hl:l.length=m.length
 ·rw [if_pos (by omega),wDd hn]
  have key:∀ (n k:Nat),k + n=l.length->(jn (forN (fun k4 (_:Unit)=>(idx l (↑k4:Int)).bind fun x26=>(idx m (↑k4:Int)).bind fun x34=>if x26=x34 then some (.inl ()) else esc (some false)) n k ()) fun _=>some true)=some (decide (l.drop k=m.drop k)):=by
   intro n
   induction n with
   | zero=>intro k hk;rw [nP (by omega),nP (by omega)];simp [forN]
   | succ n ih =>
    intro k hk
    have h1:k < l.length:=by omega
    have h2:k < m.length:=by omega
    rw [na h1,na h2,forN,wHJ,wHJ,nS h1,nS h2]
    simp only [nA]
    by_cases h:l[k]=m[k]
    ·rw [if_pos h]
     simp only
     rw [ih (k + 1) (by omega)]
     congr 1
     exact decide_eq_decide.2 ⟨fun e=>by rw [e,h],fun e=>(kS e).2⟩
    ·rw [if_neg h]
     have:¬ l[k] :: l.drop (k + 1)=m[k] :: m.drop (k + 1):=fun e=>h (kS e).1
     simp only [wLd,wKW,this,decide_false]
  have:=key l.length 0 (by omega)
  simpa using this
 ·rw [if_neg (by omega)]
  have:l ≠ m:=fun e=>hl (by rw [e])
  simp [this]
theorem wCE {bytes:Nat} {l m:List α} (h:(l.length + m.length) * bytes <= 140737488355328):app bytes l m=some (l ++ m):=if_pos h
end Go.KL
namespace Go.Proofs.YthbficbpebiekaaGreat
open Go.KL
def inB (n lo hi:Int):Bool:=decide (lo <= n/\n <= hi)
theorem wDS (n lo hi:Int):wBZ n lo hi=some (inB n lo hi):=by
 unfold wBZ inB
 by_cases h:lo <= n
 ·rw [if_pos h];simp [h]
 ·rw [if_neg h];simp [h]
def wDp:List Bool->Nat->Option Nat
 | [],k=>some k
 | b :: l,k=>if k=5 then none else wDp l (k + if b=true then 1 else 0)
theorem wFy:∀ (l:List Bool) (k m:Nat),k <= 5->wDp l k=some m->k <= m/\m <= 5
 | [],k,m,hk,h=>by cases h;omega
 | b :: l,k,m,hk,h=>by
  rw [wDp] at h
  split at h
  ·cases h
  ·have:=wFy l _ m (by split <;> omega) h
   split at this <;> omega
theorem wFz {l:List Bool} {R:Type} (z:R) (K:Int->Option R):∀ (m k h:Nat),k + m=l.length->h <= 5 ->
  jn (forN (fun k23 (x22:Int)=>(idx l (↑k23:Int)).bind fun x45=>if x22=0 then esc (some z) else if x45=true then some (.inl (w64 (x22 - 1))) else some (.inl x22)) m k (5 - (h:Int))) K =
   (match wDp (l.drop k) h with | none=>some z | some m=>K (5 - (m:Int)))
 | 0,k,h,hk,_=>by rw [nP (by omega)];rfl
 | m + 1,k,h,hk,h5=>by
  have hlt:k < l.length:=by omega
  rw [na hlt,wDp,forN,wHJ,nS hlt]
  simp only [nA]
  by_cases hz:h=5
  ·rw [if_pos (by omega),if_pos hz];rfl
  ·rw [if_neg (by omega),if_neg hz]
   by_cases hb:l[k]=true
   ·rw [if_pos hb,if_pos hb,wAK (by omega) (by omega)]
    have:=wFz (l:=l) z K m (k + 1) (h + 1) (by omega) (by omega)
    rw [show (5:Int) - ((h + 1:Nat):Int)=5 - (h:Int) - 1 by omega] at this
    exact this
   ·rw [if_neg hb,if_neg hb]
    exact wFz (l:=l) z K m (k + 1) h (by omega) h5
def okB (b:List Bool):Prop:=5 <= b.length/\b.length <= 8/\∃ m,wDp b 0=some m
def wEF (b:List Bool):Nat:=(wDp b 0).getD 0
theorem wQC (b:List Bool):wEF b <= 5:=by
 unfold wEF
 cases h:wDp b 0 with
 | none=>exact nt _
 | some m=>exact (wFy b 0 m (by omega) h).2
theorem wOv {l:List Bool} (h:okB l):wCU l=some (⟨(l.length:Int) - 5,5 - (wEF l:Int),if wEF l < 5 then 8 - (l.length:Int) else 0⟩,0):=by
 obtain ⟨h1,h2,m,hq⟩:=h
 have hn:wEF l=m:=by unfold wEF;rw [hq];rfl
 rw [hn]
 unfold wCU
 have hi:inB l.length 5 8=true:=by unfold inB;simp;omega
 rw [wDS,nA,hi,if_pos rfl,wDd (by omega)]
 have:=wFz (l:=l) (R:=wAY × Int) ((⟨0,0,0⟩:wAY),8) (fun y72=>if 0 < y72 then
   some ((⟨w64 ((↑l.length:Int) - 5),y72,w64 (8 - (↑l.length:Int))⟩:wAY),0)
  else
   some ((⟨w64 ((↑l.length:Int) - 5),y72,0⟩:wAY),0)) l.length 0 0 (by omega) (by omega)
 rw [nr] at this
 have e:(5:Int) - ((0:Nat):Int)=5:=by omega
 rw [e] at this
 rw [this,hq]
 have:=wFy l 0 m (by omega) hq
 simp only
 rw [wAK (by omega) (by omega),wAK (by omega) (by omega)]
 by_cases hm:m < 5
 ·rw [if_pos (by omega),if_pos hm]
 ·rw [if_neg (by omega),if_neg hm]
end Go.Proofs.YthbficbpebiekaaGreat
namespace Go.KL
variable {S B R α β:Type}
theorem wMD {body:Nat->S->Option (S ⊕ B)} (s:Nat->S):∀ (m k:Nat),(∀ i,k <= i->i < k + m->body i (s i)=some (.inl (s (i + 1))))->forN body m k (s k)=some (.inl (s (k + m)))
 | 0,_,_=>rfl
 | m + 1,k,h=>by
  rw [forN,h k (nI _) (by omega)]
  have:=wMD s m (k + 1) fun i h1 h2=>h i (by omega) (by omega)
  rw [show k + 1 + m=k + (m + 1) by omega] at this
  exact this
theorem wHy {body:Nat->S->Option S} (s:Nat->S):∀ (m k:Nat),(∀ i,k <= i->i < k + m->body i (s i)=some (s (i + 1)))->forN' body m k (s k)=some (s (k + m))
 | 0,_,_=>rfl
 | m + 1,k,h=>by
  rw [forN',h k (nI _) (by omega)]
  have:=wHy s m (k + 1) fun i h1 h2=>h i (by omega) (by omega)
  rw [show k + 1 + m=k + (m + 1) by omega] at this
  exact this
theorem wAv {body:Nat->S->Option S} {n:Nat} {s0:S} (s:Nat->S) (h0:s 0=s0) (hn:n <= 9223372036854775807) (h:∀ i,i < n->body i (s i)=some (s (i + 1))):wCQ 0 (n:Int) body s0=some (s n):=by
 rw [wGR hn,<- h0]
 have:=wHy s n 0 fun i _ hi=>h i (by omega)
 rwa [kH] at this
theorem wQD {body:Nat->S->Option (S ⊕ B)} {n:Nat} {s0:S} (s:Nat->S) (h0:s 0=s0) (hn:n <= 9223372036854775807) (h:∀ i,i < n->body i (s i)=some (.inl (s (i + 1)))):wFF 0 (n:Int) body s0=some (.inl (s n)):=by
 rw [wDd hn,<- h0]
 have:=wMD s n 0 fun i _ hi=>h i (by omega)
 rwa [kH] at this
theorem wCz {body:Nat->Unit->Option (Unit ⊕ B)} {n:Nat} (hn:n <= 9223372036854775807) (h:∀ i,i < n->body i ()=some (.inl ())):wFF 0 (n:Int) body ()=some (.inl ()):=wQD (fun _=>()) rfl hn h
theorem wAP [Inhabited α] {l:List α} {k:Nat} (h:k < l.length):idx l (k:Int)=some (gd l k):=by
 rw [wHJ]
 exact wFA h
theorem wAi [Inhabited α] {l:List α} {k:Nat} (h:k < l.length):gd l k ∈ l:=List.mem_of_getElem? (wFA h)
theorem wCd [Inhabited α] {l:List α} {k:Nat} (h:k < l.length):l.take (k + 1)=l.take k ++ [gd l k]:=by
 rw [List.take_add_one,wFA h]
 rfl
theorem wJU [Inhabited α] {l:List α} {k:Nat} (h:k < l.length):l.drop k=gd l k :: l.drop (k + 1):=by
 have:=wFA h
 rw [nS h] at this
 rw [na h,nH this]
theorem wEX [Inhabited α] [Inhabited β] (f:α->β) {l:List α} {k:Nat} (h:k < l.length):gd (l.map f) k=f (gd l k):=by
 have h1:=wFA (xs:=l.map f) (k:=k) (by simpa using h)
 rw [kM,wFA h] at h1
 exact (nH h1).symm
theorem wOw [Inhabited α] {l m:List α} (h:l.length=m.length) (hk:∀ k,k < l.length->gd l k=gd m k):l=m:=by
 apply List.ext_getElem?
 intro k
 rcases Nat.lt_or_ge k l.length with h1 | h1
 ·rw [wFA h1,wFA (by omega),hk k h1]
 ·rw [kA h1,kA (by omega)]
end Go.KL
namespace Go.Proofs.YthbficbpebiekaaGreat
open Go.KL
structure wGS (p:wAB):Prop where
 n:1 <= p.Classes.length/\p.Classes.length <= 4
 cls:∀ c ∈ p.Classes,0 <= c/\c <= 3
 each:1 <= p.Each/\p.Each <= 4
 laps:1 <= p.Laps/\p.Laps <= 5
 spare:0 <= p.Spare/\p.Spare <= 600
 loop:0 <= p.Loop/\p.Loop <= 600
 unused:0 <= p.Unused/\p.Unused <= 6000
structure wJV (p:wAB) (t:wAC) (l:wAH):Prop where
 le:(l.Loops.length:Int) <= p.Laps
 bouts:l.Bouts.length=l.Loops.length - 1
 loops:∀ n ∈ l.Loops,1 <= n/\n <= 9000
 skier:0 <= l.Skier/\l.Skier < t.Classes.length
 ok:∀ b ∈ l.Bouts,okB b
structure wTb (p:wAB) (t:wAC):Prop where
 bib:1 <= t.Bib/\t.Bib <= 999
 n:1 <= t.Classes.length/\t.Classes.length <= 8
 cls:∀ c ∈ t.Classes,0 <= c/\c <= 3
 legs:t.Legs.length <= p.Classes.length
 full:∀ k,k + 1 < t.Legs.length->((gd t.Legs k).Loops.length:Int)=p.Laps
 leg:∀ l ∈ t.Legs,wJV p t l
structure wEG (r:wAA):Prop where
 rules:wGS r.Rules
 n:1 <= r.Teams.length/\r.Teams.length <= 12
 start:0 <= r.Start/\r.Start <= 36000
 team:∀ t ∈ r.Teams,wTb r.Rules t
 bibs:(r.Teams.map (·.Bib)).Nodup
theorem wCK {n lo hi:Int} (h1:lo <= n) (h2:n <= hi):inB n lo hi=true:=by unfold inB;simp [h1,h2]
theorem wHz {l:List Int} {f:Int->Option Bool} {p:Int->Bool} (hf:∀ a,f a=some (p a)) (hn:l.length <= 9223372036854775807):wCA l f=some (l.all p):=by
 unfold wCA wBN wBb wBh
 have:=wEx (R:=Int) (l:=l) (f:=fun x=>(f x).bind fun x5=>some (!x5)) (p:=fun a=>!p a) (fun a _=>by rw [hf];rfl) hn id
 simp only [id] at this
 rw [this]
 simp only [nA,wEq]
 congr 1
 clear this hn
 induction l with
 | nil=>rfl
 | cons a l ih=>rw [nw,nl,<- ih];cases p a <;> simp
theorem wOx {l:List wAG} {f:wAG->Option Bool} {p:wAG->Bool} (hf:∀ a ∈ l,f a=some (p a)) (hn:l.length <= 9223372036854775807):wBQ l f=some (l.all p):=by
 unfold wBQ wAV wAZ wAl
 have:=wEx (R:=Int) (l:=l) (f:=fun x=>(f x).bind fun x5=>some (!x5)) (p:=fun a=>!p a) (fun a ha=>by rw [hf a ha];rfl) hn id
 simp only [id] at this
 rw [this]
 simp only [nA,wEq]
 congr 1
 clear this hn hf
 induction l with
 | nil=>rfl
 | cons a l ih=>rw [nw,nl,<- ih];cases p a <;> simp
theorem wME {l:List wAC} {f:wAC->Option Bool} (hf:∀ a ∈ l,f a=some true) (hn:l.length <= 9223372036854775807):wAd l f=some true:=by
 unfold wAd wAQ wAS wAg
 have:=wEx (R:=Int) (l:=l) (f:=fun x=>(f x).bind fun x5=>some (!x5)) (p:=fun _=>false) (fun a ha=>by rw [hf a ha];rfl) hn id
 simp only [id] at this
 rw [this]
 simp only [nA,wEq]
 simp
theorem wQE {p:wAB} (g:wGS p):wBU p=some 0:=by
 unfold wBU
 have h1:=g.n
 have h2:=g.each;have h3:=g.laps;have h4:=g.spare;have h5:=g.loop;have h6:=g.unused
 rw [wDS,nA,wCK (by omega) (by omega),if_pos rfl]
 have hc:wBT p.Classes=some true:=by
  unfold wBT
  rw [wHz (f:=wAk) (p:=fun n=>inB n 0 3) (fun a=>by unfold wAk;rw [wDS];rfl) (by omega),nA]
  exact congrArg some (nU.2 fun c hc=>wCK (g.cls c hc).1 (g.cls c hc).2)
 rw [hc,nA,if_pos rfl]
 unfold wCp
 rw [nA,wOx (p:=fun a=>match a.of p with | some x=>inB x a.lo a.hi | none=>true) (fun a ha=>by
  unfold wBK
  simp only [nE,List.not_mem_nil,or_false] at ha
  rcases ha with rfl | rfl | rfl | rfl | rfl <;> simp [wAz,wBA,wBB,wBC,wBD,wDS]) (by simp)]
 simp only [nA,nl,List.all_nil,Bool.and_true,wAz,wBA,wBB,wBC,wBD]
 rw [wCK h2.1 h2.2,wCK h3.1 h3.2,wCK h4.1 h4.2,wCK h5.1 h5.2,wCK h6.1 h6.2]
 rfl
theorem wQF {p:wAB} (gp:wGS p) {t:wAC} (g:wTb p t):wAm p t=some true:=by
 unfold wAm
 have h1:=g.n;have h2:=g.legs;have h3:=gp.n;have h4:=gp.laps
 rw [wDS,nA,wCK (by omega) (by omega),if_pos rfl,if_neg (by omega)]
 rw [wCz (by omega) fun k hk=>?_]
 ·rfl
 ·have gl:=g.leg _ (wAi hk)
  have b1:=gl.le;have b2:=gl.bouts
  rw [wAP hk,nA,if_neg (by omega)]
  have hb:((gd t.Legs k).Bouts.length:Int)=max 0 (w64 (((gd t.Legs k).Loops.length:Int) - 1)):=by
   rw [wAK (by omega) (by omega)]
   omega
  rw [wAK (x:=(t.Legs.length:Int) - 1) (by omega) (by omega)]
  by_cases hl:(k:Int) < (t.Legs.length:Int) - 1
  ·rw [if_pos hl,if_neg (by have:=g.full k (by omega);omega),if_pos hb]
  ·rw [if_neg hl,if_pos hb]
theorem wLJ {E:Type} {f:Unit->(wAC × wAH)->Option (Unit ⊕ E)} {r:wAA} (hn:r.Teams.length <= 1000) (hl:∀ t ∈ r.Teams,t.Legs.length <= 1000) (h:∀ t ∈ r.Teams,∀ l ∈ t.Legs,f () (t,l)=some (.inl ())):wAn f () r=some (.inl ()):=by
 unfold wAn
 rw [wCz (by omega) fun k hk=>?_]
 ·rfl
 ·have ht:=wAi hk
  rw [wAP hk,nA,wCz (by have:=hl _ ht;omega) fun j hj=>?_]
  ·rfl
  ·rw [wAP hj,nA,h _ ht _ (wAi hj)]
   rfl
theorem wQG {l:List (Int × Bool)} {x:Int} {v:Bool} (h:∀ q ∈ l,q.1 ≠ x):mput l x v=l ++ [(x,v)]:=by
 induction l with
 | nil=>rfl
 | cons a l ih =>
  obtain ⟨y,u⟩:=a
  have:=h (y,u) (by simp)
  rw [mput,if_neg (fun e=>this e.symm),ih fun q hq=>h q (by simp [hq])]
  rfl
theorem wMy {l:List Int} (h:l.Nodup) {k:Nat} (hk:k < l.length):∀ a ∈ l.take k,a ≠ gd l k:=by
 intro a ha e
 rw [<- List.take_append_drop k l,wJU hk,kO] at h
 exact h.2.2 a ha _ (List.mem_cons_self ..) e
theorem wQH {r:wAA} (g:wEG r):wCC r=some 0:=by
 unfold wCC
 have h1:=g.n;have h2:=g.start
 have hl:∀ t ∈ r.Teams,t.Legs.length <= 1000:=fun t ht=>by have:=(g.team t ht).legs;have:=g.rules.n;omega
 rw [wQE g.rules,nA,if_pos rfl,wDS,nA,wCK (by omega) (by omega),if_pos rfl,wME (fun t ht=>wQF g.rules (g.team t ht)) (by omega),nA,if_pos rfl,
  wDS,nA,wCK h2.1 h2.2,if_pos rfl,wME (fun t ht=>?_) (by omega),nA,if_pos rfl]
 ·unfold wBc
  rw [nA,wLJ (by omega) hl fun t ht l hm=>?_,nA]
  ·simp only [nA]
   rw [wLJ (by omega) hl fun t ht l hm=>?_,nA]
   ·simp only [nA]
    rw [wLJ (by omega) hl fun t ht l hm=>?_,nA]
    ·simp only
     have:=wAv (S:=List (Int × Bool)) (n:=r.Teams.length) (body:=fun k640 l637=>(idx r.Teams (↑k640:Int)).bind fun x664=>some (mput l637 x664.Bib true)) (fun k=>(r.Teams.take k).map fun t=>(t.Bib,true)) (s0:=[]) rfl (by omega) fun k hk=>by
      rw [wAP hk,nA,wCd hk,nM,wQG fun q hq=>?_]
      ·rfl
      ·obtain ⟨t,ht,rfl⟩:=nq.1 hq
       have:=wMy g.bibs (k:=k) (by simpa using hk) t.Bib (by rw [<- List.map_take];exact nq.2 ⟨t,ht,rfl⟩)
       rw [wEX _ hk] at this
       exact this
     rw [this,nA,if_neg (by simp)]
    ·have gl:=(g.team t ht).leg l hm
     have hb:=gl.bouts;have hle:=gl.le;have:=g.rules.laps
     simp only
     rw [wCz (by omega) fun k hk=>?_]
     ·rfl
     ·rw [wAP hk,nA,wOv (gl.ok _ (wAi hk))]
      rfl
   ·have gl:=(g.team t ht).leg l hm
    have:=gl.skier;have:=(g.team t ht).n
    simp only
    rw [wDS,nA,wAK (by omega) (by omega),wCK (by omega) (by omega),if_pos rfl]
  ·have gl:=(g.team t ht).leg l hm
   have hle:=gl.le;have:=g.rules.laps
   simp only
   rw [wHz (f:=wBV) (p:=fun n=>inB n 1 9000) (fun a=>by unfold wBV;rw [wDS];rfl) (by omega),nA,if_pos]
   exact nU.2 fun n hn=>wCK (gl.loops n hn).1 (gl.loops n hn).2
 ·have gt:=g.team t ht
  have:=gt.n
  unfold wBw
  rw [wDS,nA,wCK gt.bib.1 gt.bib.2,if_pos rfl]
  unfold wBT
  rw [wHz (f:=wAk) (p:=fun n=>inB n 0 3) (fun a=>by unfold wAk;rw [wDS];rfl) (by omega),nA,nA]
  exact congrArg some (nU.2 fun c hc=>wCK (gt.cls c hc).1 (gt.cls c hc).2)
def bc (p:wAB) (b:List Bool):Int:=((b.length:Int) - 5) * p.Spare + (5 - (wEF b:Int)) * p.Loop
def tAt (p:wAB) (l:wAH) (x:Int):Nat->Int
 | 0=>x
 | k + 1=>tAt p l x k + gd l.Loops k + if 0 < k then bc p (gd l.Bouts (k - 1)) else 0
def wSD (p:wAB) (l:wAH) (x:Int):List Int:=(nO l.Loops.length).map fun k=>tAt p l x (k + 1)
def wJl (p:wAB) (l:wAH) (x:Int):Int:=tAt p l x l.Loops.length
def wDV (p:wAB):List wAH->Int->Int
 | [],x=>x
 | l :: r,x=>wDV p r (wJl p l x)
def wEH (p:wAB):List wAH->Int->List Int
 | [],_=>[]
 | l :: r,x=>wSD p l x ++ wEH p r (wJl p l x)
def wGA (p:wAB):List wAH->Int->List Int
 | [],_=>[]
 | l :: r,x=>if (l.Loops.length:Int)=p.Laps then wJl p l x :: wGA p r (wJl p l x) else wGA p r (wJl p l x)
def wDx:List Int->Int->List Int
 | [],_=>[]
 | a :: r,b=>(a - b) :: wDx r a
theorem wJW {p:wAB} (g:wGS p) {b:List Bool} (h:okB b):0 <= ((b.length:Int) - 5) * p.Spare/\((b.length:Int) - 5) * p.Spare <= 1800/\0 <= (5 - (wEF b:Int)) * p.Loop/\(5 - (wEF b:Int)) * p.Loop <= 3000:=by
 obtain ⟨h1,h2,_⟩:=h
 have h3:=wQC b
 have a1:=g.spare;have a2:=g.loop
 refine ⟨kB (by omega) a1.1,?_,kB (by omega) a2.1,?_⟩
 ·exact Int.le_trans (kC (show (b.length:Int) - 5 <= 3 by omega) a1.2 a1.1 (by omega)) (by omega)
 ·exact Int.le_trans (kC (show 5 - (wEF b:Int) <= 5 by omega) a2.2 a2.1 (by omega)) (by omega)
theorem wQI {p:wAB} (gp:wGS p) {t:wAC} {l:wAH} (g:wJV p t l) (x:Int) {k:Nat} (hk:k < l.Loops.length):tAt p l x k + 1 <= tAt p l x (k + 1)/\tAt p l x (k + 1) <= tAt p l x k + 13800:=by
 have h1:=g.loops _ (wAi hk)
 rw [tAt]
 by_cases h:0 < k
 ·have hb:=g.bouts
  have:=wJW gp (g.ok _ (wAi (k:=k - 1) (by omega)))
  rw [if_pos h]
  unfold bc
  omega
 ·rw [if_neg h];omega
theorem wGB {p:wAB} (gp:wGS p) {t:wAC} {l:wAH} (g:wJV p t l) (x:Int):∀ k,k <= l.Loops.length->x + k <= tAt p l x k/\tAt p l x k <= x + 13800 * k
 | 0,_=>by simp [tAt]
 | k + 1,hk=>by
  have:=wQI gp g x (k:=k) (by omega)
  have:=wGB gp g x k (by omega)
  omega
theorem wIr {p:wAB} (gp:wGS p) {t:wAC} {l:wAH} (g:wJV p t l) (x:Int):x <= wJl p l x/\wJl p l x <= x + 69000:=by
 have:=wGB gp g x l.Loops.length (nI _)
 have:=g.le;have:=gp.laps
 unfold wJl
 omega
theorem wSE {p:wAB} (gp:wGS p) {t:wAC} {l:wAH} (g:wJV p t l) {x:Int} (hx:0 <= x/\x <= 1000000) {k:Nat} (hk:k < l.Loops.length) :
  (0 < k->idx l.Bouts (w64 ((k:Int) - 1))=some (gd l.Bouts (k - 1))/\okB (gd l.Bouts (k - 1)) /\
   w64 ((w64 (tAt p l x k + gd l.Loops k)) + (w64 ((w64 ((((gd l.Bouts (k - 1)).length:Int) - 5) * p.Spare)) + (w64 ((5 - (wEF (gd l.Bouts (k - 1)):Int)) * p.Loop)))))=tAt p l x (k + 1)) /\
  (¬ 0 < k->w64 (tAt p l x k + gd l.Loops k)=tAt p l x (k + 1)):=by
 have h1:=g.loops _ (wAi hk)
 have h2:=wGB gp g x k (by omega)
 have h3:=g.le;have h4:=gp.laps;have hb:=g.bouts
 refine ⟨fun h=>?_,fun h=>?_⟩
 ·have ho:=g.ok _ (wAi (k:=k - 1) (by omega))
  have:=wJW gp ho
  refine ⟨?_,ho,?_⟩
  ·rw [wAK (by omega) (by omega),show (k:Int) - 1=((k - 1:Nat):Int) by omega]
   exact wAP (by omega)
  ·rw [tAt,if_pos h]
   unfold bc
   rw [wAK (x:=tAt p l x k + gd l.Loops k) (by omega) (by omega),wAK (x:=(((gd l.Bouts (k - 1)).length:Int) - 5) * p.Spare) (by omega) (by omega),wAK (x:=(5 - (wEF (gd l.Bouts (k - 1)):Int)) * p.Loop) (by omega) (by omega),wAK (x:=(((gd l.Bouts (k - 1)).length:Int) - 5) * p.Spare + (5 - (wEF (gd l.Bouts (k - 1)):Int)) * p.Loop) (by omega) (by omega),wAK (by omega) (by omega)]
 ·rw [tAt,if_neg h,wAK (by omega) (by omega),Int.add_zero]
theorem wIA (p:wAB) (l:wAH) (x:Int) (k:Nat):(nO (k + 1)).map (fun i=>tAt p l x (i + 1))=(nO k).map (fun i=>tAt p l x (i + 1)) ++ [tAt p l x (k + 1)]:=by
 rw [nz,nM]
 rfl
theorem wEI (p:wAB) (a:wAH):∀ (l:List wAH) (x:Int),wEH p (l ++ [a]) x=wEH p l x ++ wSD p a (wDV p l x)/\wDV p (l ++ [a]) x=wJl p a (wDV p l x)
 | [],x=>by simp [wEH,wDV]
 | b :: l,x=>by
  have:=wEI p a l (wJl p b x)
  exact ⟨by rw [nN,wEH,wEH,this.1,nK];rfl,this.2⟩
theorem wFZ {p:wAB} (gp:wGS p) {t:wAC}:∀ (l:List wAH) (x:Int),(∀ a ∈ l,wJV p t a)->x <= wDV p l x/\wDV p l x <= x + 69000 * (l.length:Int)
 | [],x,_=>by simp [wDV]
 | a :: l,x,h=>by
  have h1:=wIr gp (h a (by simp)) x
  have h2:=wFZ gp l (wJl p a x) fun b hb=>h b (by simp [hb])
  rw [wDV]
  simp only [no]
  omega
def after (r:wAA):List (List Int):=r.Teams.map fun t=>wEH r.Rules t.Legs r.Start
theorem wDP {p:wAB} (gp:wGS p) {t:wAC}:∀ (l:List wAH) (x:Int),(∀ a ∈ l,wJV p t a)->(wEH p l x).length <= 5 * l.length
 | [],x,_=>by simp [wEH]
 | a :: l,x,h=>by
  have h1:=(h a (by simp)).le
  have h2:=wDP gp l (wJl p a x) fun b hb=>h b (by simp [hb])
  have:=gp.laps
  rw [wEH,nv]
  simp only [wSD,ng,kP,no]
  omega
theorem wJX {r:wAA} (g:wEG r):wBr r=some (some ⟨r,after r⟩,0):=by
 unfold wBr
 rw [wQH g,nA,if_pos rfl]
 have hn:=g.n;have hs:=g.start
 rw [wAv (S:=List (List Int)) (n:=r.Teams.length) (fun k=>(r.Teams.take k).map fun t=>wEH r.Rules t.Legs r.Start) (s0:=[]) rfl (by omega) fun k hk=>?_]
 ·rw [nA,nJ]
  rfl
 ·have gt:=g.team _ (wAi hk)
  have hleg:=gt.legs;have hc:=g.rules.n
  rw [wAP hk,nA]
  rw [wAv (S:=Int × List Int) (n:=(gd r.Teams k).Legs.length) (fun j=>(wDV r.Rules ((gd r.Teams k).Legs.take j) r.Start,wEH r.Rules ((gd r.Teams k).Legs.take j) r.Start)) (s0:=(r.Start,[])) rfl (by omega) fun j hj=>?_]
  ·simp only [nA,nJ]
   have hlen:=wDP g.rules (gd r.Teams k).Legs r.Start gt.leg
   rw [wCE (by simp;omega),nA,wCd hk,nM]
   rfl
  ·have gl:=gt.leg _ (wAi hj)
   have hE:=wFZ g.rules ((gd r.Teams k).Legs.take j) r.Start fun a ha=>gt.leg a (ni ha)
   have hL:=wDP g.rules ((gd r.Teams k).Legs.take j) r.Start fun a ha=>gt.leg a (ni ha)
   rw [nj] at hE hL
   have hx:0 <= wDV r.Rules ((gd r.Teams k).Legs.take j) r.Start/\wDV r.Rules ((gd r.Teams k).Legs.take j) r.Start <= 1000000:=by omega
   generalize hX:wDV r.Rules ((gd r.Teams k).Legs.take j) r.Start=X at hx
   generalize hY:wEH r.Rules ((gd r.Teams k).Legs.take j) r.Start=Y at hL
   have hlap:=g.rules.laps;have hle:=gl.le
   simp only
   rw [wAP hj,nA]
   rw [wAv (S:=Int × List Int) (n:=(gd (gd r.Teams k).Legs j).Loops.length) (fun i=>(tAt r.Rules (gd (gd r.Teams k).Legs j) X i,Y ++ (nO i).map fun q=>tAt r.Rules (gd (gd r.Teams k).Legs j) X (q + 1))) (s0:=(X,Y)) (by simp [tAt]) (by omega) fun i hi=>?_]
   ·simp only [nA]
    rw [wCd hj,(wEI _ _ _ _).1,(wEI _ _ _ _).2,hX,hY]
    rfl
   ·obtain ⟨l1,l2⟩:=wSE g.rules gl hx hi
    simp only
    rw [wAP hi,nA]
    by_cases h0:0 < i
    ·obtain ⟨e1,e2,e3⟩:=l1 h0
     rw [if_pos (by omega),e1,nA,wOv e2]
     simp only [nA]
     rw [e3,wCE (by simp;omega),nA,wIA,nK]
    ·rw [if_neg (by omega),l2 h0,wCE (by simp;omega),nA,wIA,nK]
def wJY (r:wAA):wCT:=⟨(r.Rules.Classes.length:Int) * r.Rules.Laps,r.Teams.map (·.Bib),after r⟩
theorem wSF {r:wAA} (g:wEG r):wCh r=some (wJY r,0):=by
 unfold wCh
 rw [wJX g]
 simp only [nA,if_true]
 unfold wCk
 have hn:=g.n
 simp only
 rw [wAv (S:=List Int × List (List Int)) (n:=r.Teams.length) (fun k=>((r.Teams.take k).map (·.Bib),(r.Teams.take k).map fun t=>wEH r.Rules t.Legs r.Start)) (s0:=([],[])) rfl (by omega) fun k hk=>?_]
 ·simp only [nA,nJ]
  have h1:=g.rules.n;have h2:=g.rules.laps
  have h3:0 <= (r.Rules.Classes.length:Int) * r.Rules.Laps:=kB (by omega) (by omega)
  have h4:(r.Rules.Classes.length:Int) * r.Rules.Laps <= 4 * 5:=kC (by omega) h2.2 (by omega) (by omega)
  rw [wAK (by omega) (by omega)]
  rfl
 ·have gt:=g.team _ (wAi hk)
  have hlen:=wDP g.rules (gd r.Teams k).Legs r.Start gt.leg
  have hc:=g.rules.n;have hleg:=gt.legs
  simp only
  rw [wAP hk,nA,wCE (by simp;omega),nA]
  unfold after
  rw [wAP (by simpa using hk),nA,wEX _ hk]
  unfold wBy
  rw [wCE (by simp;omega)]
  simp only [nA,nQ]
  rw [wCE (by simp;omega),nA,wCd hk,nM,nM]
  rfl
def pick (L:Nat):List Int->Nat->List Int
 | [],_=>[]
 | a :: r,k=>if (k + 1) % L=0 then a :: pick L r (k + 1) else pick L r (k + 1)
theorem wJZ (L:Nat):∀ (a b:List Int) (k:Nat),pick L (a ++ b) k=pick L a k ++ pick L b (k + a.length)
 | [],b,k=>by simp [pick]
 | x :: a,b,k=>by
  have:=wJZ L a b (k + 1)
  rw [nN,pick,pick,this,show k + 1 + a.length=k + (x :: a).length by simp;omega]
  split <;> simp
theorem wIB {L:Nat}:∀ (a:List Int) (k:Nat),k % L + a.length < L->pick L a k=[]
 | [],_,_=>rfl
 | x :: a,k,h=>by
  simp only [no] at h
  have h1:(k + 1) % L=k % L + 1:=by
   rw [Nat.add_mod,Nat.mod_eq_of_lt (show 1 < L by omega),Nat.mod_eq_of_lt (by omega)]
  rw [pick,if_neg (by omega)]
  exact wIB a (k + 1) (by omega)
theorem wQJ {p:wAB} {l:wAH} {L:Nat} (hL:p.Laps=L) (h0:0 < L) (hle:l.Loops.length <= L) (x:Int) {k:Nat} (hk:k % L=0):pick L (wSD p l x) k=if (l.Loops.length:Int)=p.Laps then [wJl p l x] else []:=by
 unfold wSD
 by_cases h:l.Loops.length=L
 ·rw [if_pos (by omega)]
  obtain ⟨n,hn⟩:∃ n,l.Loops.length=n + 1:=⟨L - 1,by omega⟩
  rw [hn,wIA,wJZ,wIB _ _ (by simp;omega),nQ]
  simp only [ng,kP,pick]
  rw [if_pos (by rw [show k + n + 1=k + L by omega,Nat.add_mod_right];exact hk)]
  unfold wJl
  rw [hn]
 ·rw [if_neg (by omega)]
  exact wIB _ _ (by simp;omega)
def wSG (p:wAB):List wAH->Prop
 | []=>True
 | l :: r=>((l.Loops.length:Int)=p.Laps \/ r=[])/\wSG p r
theorem wMF {p:wAB}:∀ {l:List wAH},(∀ k,k + 1 < l.length->((gd l k).Loops.length:Int)=p.Laps)->wSG p l
 | [],_=>trivial
 | a :: l,h=>by
  refine ⟨?_,wMF fun k hk=>h (k + 1) (by simp at hk ⊢;omega)⟩
  cases l with
  | nil=>exact .inr rfl
  | cons b l=>exact .inl (h 0 (by simp))
theorem wKL {p:wAB} {L:Nat} (hL:p.Laps=L) (h0:0 < L):∀ (l:List wAH) (x:Int) (k:Nat),wSG p l->(∀ a ∈ l,a.Loops.length <= L)->k % L=0->pick L (wEH p l x) k=wGA p l x
 | [],_,_,_,_,_=>rfl
 | a :: l,x,k,hf,hle,hk=>by
  rw [wEH,wJZ,wQJ hL h0 (hle a (by simp)) x hk,wGA]
  by_cases h:(a.Loops.length:Int)=p.Laps
  ·have ha:(wSD p a x).length=L:=by unfold wSD;simp;omega
   rw [if_pos h,if_pos h,wKL hL h0 l _ _ hf.2 (fun b hb=>hle b (by simp [hb])) (by rw [ha,Nat.add_mod_right];exact hk)]
   rfl
  ·have hr:l=[]:=hf.1.resolve_left h
   subst hr
   rw [if_neg h,if_neg h]
   rfl
theorem wGw (p:wAB):∀ (l:List wAH) (x:Int),(wGA p l x).length <= l.length
 | [],_=>by simp [wGA]
 | a :: l,x=>by
  have:=wGw p l (wJl p a x)
  rw [wGA]
  split <;> simp <;> omega
theorem wIs {r:wAA} (g:wEG r) {k:Nat} (hk:k < r.Teams.length):wBj ⟨r,after r⟩ (k:Int)=some (wGA r.Rules (gd r.Teams k).Legs r.Start):=by
 unfold wBj after
 have gt:=g.team _ (wAi hk)
 have hlen:=wDP g.rules (gd r.Teams k).Legs r.Start gt.leg
 have hc:=g.rules.n;have hleg:=gt.legs;have hlap:=g.rules.laps
 obtain ⟨L,hL⟩:∃ L:Nat,r.Rules.Laps=L:=⟨r.Rules.Laps.toNat,by omega⟩
 simp only
 rw [wAP (by simpa using hk),nA,wEX _ hk]
 have hp:=wKL hL (by omega) (gd r.Teams k).Legs r.Start 0 (wMF gt.full) (fun a ha=>by have:=(gt.leg a ha).le;omega) (by simp)
 rw [<- hp]
 generalize wEH r.Rules (gd r.Teams k).Legs r.Start=X at hlen
 rw [hL]
 have key:∀ (m k:Nat) (o:List Int),k + m=X.length->o.length <= k->forN' (fun k31 l27 =>
  (idx X (↑k31:Int)).bind fun x55 =>
  (rem (↑(k31 + 1):Int) (L:Int)).bind fun x63 =>
  if x63=0 then
   (app 8 l27 [x55]).bind fun x73 =>
   some x73
  else
   some l27) m k o=some (o ++ pick L (X.drop k) k):=by
  intro m
  induction m with
  | zero=>intro k o hk _;rw [nP (by omega)];simp [forN',pick]
  | succ m ih =>
   intro k o hk ho
   have hlt:k < X.length:=by omega
   have hr:rem (↑(k + 1):Int) (L:Int)=some (((k + 1) % L:Nat):Int):=by
    unfold rem
    rw [if_neg (by omega)]
    rfl
   rw [wJU hlt,pick,forN',wAP hlt,nA,hr,nA]
   by_cases h:(k + 1) % L=0
   ·rw [if_pos (by omega),if_pos h,wCE (by simp;omega),nA]
    simp only
    rw [ih (k + 1) _ (by omega) (by simp;omega),nK]
    rfl
   ·rw [if_neg (by omega),if_neg h]
    simp only
    rw [ih (k + 1) _ (by omega) (by omega)]
 rw [wGR (by omega),key X.length 0 [] (by omega) (by simp),nA]
 simp
def wCW (r:wAA):List (List Int):=r.Teams.map fun t=>wGA r.Rules t.Legs r.Start
def wCP (r:wAA):List (List Int):=r.Teams.map fun t=>wDx (wGA r.Rules t.Legs r.Start) r.Start
theorem wJa {r:wAA} (g:wEG r):wCD r=some (wCW r,0):=by
 unfold wCD
 rw [wJX g]
 simp only [nA,if_true]
 have hn:=g.n
 rw [wAv (S:=List (List Int)) (n:=r.Teams.length) (fun k=>(r.Teams.take k).map fun t=>wGA r.Rules t.Legs r.Start) (s0:=[]) rfl (by omega) fun k hk=>?_]
 ·rw [nA,nJ]
  rfl
 ·rw [wIs g hk,nA,wCE (by simp;omega),nA,wCd hk,nM]
  rfl
theorem wGC:∀ (l:List Int) (b:Int),(wDx l b).length=l.length
 | [],_=>rfl
 | a :: l,b=>by simp [wDx,wGC l a]
theorem wEy {p:wAB} (gp:wGS p) {t:wAC}:∀ (l:List wAH) (x:Int),(∀ a ∈ l,wJV p t a)->∀ e ∈ wGA p l x,x <= e/\e <= x + 69000 * (l.length:Int)
 | [],x,_,e,he=>by simp [wGA] at he
 | a :: l,x,h,e,he=>by
  have h1:=wIr gp (h a (by simp)) x
  have ih:=wEy gp l (wJl p a x) (fun b hb=>h b (by simp [hb])) e
  rw [wGA] at he
  simp only [no]
  split at he
  ·rcases nE.1 he with rfl | he
   ·omega
   ·have:=ih he
    omega
  ·have:=ih he
   omega
theorem wLK {r:wAA} (g:wEG r):wCV r=some (wCP r,0):=by
  unfold wCV
  rw [wJX g]
  simp only [nA,if_true]
  have hn:=g.n;have hs:=g.start
  rw [wAv (S:=List (List Int)) (n:=r.Teams.length) (fun k=>(r.Teams.take k).map fun t=>wDx (wGA r.Rules t.Legs r.Start) r.Start) (s0:=[]) rfl (by omega) fun k hk=>?_]
  · rw [nA,nJ]
    rfl
  · have gt:=g.team _ (wAi hk)
    have hc:=g.rules.n;have hleg:=gt.legs
    have hlen:=wGw r.Rules (gd r.Teams k).Legs r.Start
    have hrg:=wEy g.rules (gd r.Teams k).Legs r.Start gt.leg
    rw [wIs g hk,nA]
    generalize hX:wGA r.Rules (gd r.Teams k).Legs r.Start=X at hlen hrg
    have key:∀ (m j:Nat) (b:Int) (o:List Int),j + m=X.length->o.length <= j->0 <= b->b <= 1000000->∃ b',forN' (fun k166 (x161,l162) =>
          (chk (↑k166:Int) X.length).bind fun _ =>
          (app 8 l162 [w64 ((gd X k166) - x161)]).bind fun x206 =>
          some ((gd X k166),x206)) m j (b,o)=some (b',o ++ wDx (X.drop j) b):=by
      intro m
      induction m with
      | zero=>intro j b o hj _ _ _;rw [nP (by omega)];exact ⟨b,by simp [forN',wDx]⟩
      | succ m ih =>
        intro j b o hj ho h0 h1
        have hlt:j < X.length:=by omega
        have hg:=hrg _ (wAi hlt)
        obtain ⟨b',hb⟩:=ih (j + 1) (gd X j) (o ++ [gd X j - b]) (by omega) (by simp;omega) (by omega) (by omega)
        refine ⟨b',?_⟩
        rw [forN']
        simp only
        rw [wNQ (by omega) (by omega),nA,wAK (by omega) (by omega),wCE (by simp;omega),nA]
        simp only
        rw [hb,wJU hlt,wDx,nK]
        rfl
    obtain ⟨b',hb⟩:=key X.length 0 r.Start [] (by omega) (by simp) (by omega) (by omega)
    rw [wGR (by omega),hb,nA]
    simp only [nQ,nr]
    rw [wCE (by simp;omega),nA,wCd hk,nM,<- hX]
    rfl
end Go.Proofs.YthbficbpebiekaaGreat
namespace Go.KL
variable {S B α:Type}
theorem wOy {body:S->Option (S ⊕ B)} (F:Nat):∀ (m:Nat) (s:Nat->S),(∀ i,i < m->body (s i)=some (.inl (s (i + 1))))->iter body (m + F) (s 0)=iter body F (s m)
 | 0,s,_=>by rw [kH]
 | m + 1,s,h=>by
  rw [show m + 1 + F=(m + F) + 1 by omega,iter,h 0 (by omega)]
  exact wOy F m (fun i=>s (i + 1)) fun i hi=>h (i + 1) (by omega)
theorem wGT {body:S->Option (S ⊕ B)} {m:Nat} (s:Nat->S) (h:∀ i,i < m->body (s i)=some (.inl (s (i + 1)))) {b:B} (hb:body (s m)=some (.inr b)) {s0:S} (h0:s 0=s0) (hm:m < 1000000):iter body big s0=some b:=by
 subst h0
 have:=wOy (big - m - 1 + 1) m s h
 rw [show m + (big - m - 1 + 1)=big by unfold big;omega] at this
 rw [this,iter,hb]
theorem wOz [Inhabited α] {l:List α} {i k:Nat} {x:α} (hi:i < l.length) (hk:k < l.length):gd (l.set i x) k=if k=i then x else gd l k:=by
 have h1:=wFA (xs:=l.set i x) (k:=k) (by rw [List.length_set];exact hk)
 rw [List.getElem?_set] at h1
 by_cases e:i=k
 ·subst e
  rw [if_pos rfl,if_pos hi] at h1
  rw [if_pos rfl]
  exact (nH h1).symm
 ·rw [if_neg e,wFA hk] at h1
  rw [if_neg (fun h=>e h.symm)]
  exact (nH h1).symm
theorem wLL [Inhabited α] {l:List α} {k:Nat} (h:k < l.length):gd l k=l[k]:=by
 have:=wFA h
 rw [nS h] at this
 exact (nH this).symm
theorem wMz [DecidableEq α] {l:List α} (hn:l.length <= 9223372036854775807) :
  (if (↑l.length:Int)=(↑l.length:Int) then jn (wFF 0 (↑l.length:Int) (fun k4 (_:Unit)=>(idx l (↑k4:Int)).bind fun x26=>(idx l (↑k4:Int)).bind fun x34=>if x26=x34 then some (.inl ()) else esc (some false)) ()) fun _=>some true else some false)=some true:=by
 rw [wMx hn]
 simp
end Go.KL
namespace Go.Proofs.YthbficbpebiekaaGreat
open Go.KL
theorem wGx {n k:Nat} (f:Nat->Int) (h:k < n):gd ((nO n).map f) k=f k:=by
 have h1:=wFA (xs:=(nO n).map f) (k:=k) (by simpa using h)
 rw [kM,List.getElem?_range h] at h1
 exact (nH h1).symm
def wQK (T:List (List Int)) (x:Nat) (v:Int):Nat->Nat
 | 0=>0
 | m + 1=>wQK T x v m + if x < (gd T m).length/\gd (gd T m) x < v then 1 else 0
theorem wLM (T:List (List Int)) (x:Nat) (v:Int):∀ m,wQK T x v m <= m
 | 0=>nI _
 | m + 1=>by
  have:=wLM T x v m
  rw [wQK]
  split <;> omega
def plc (T:List (List Int)) (x:Nat) (k:Nat):Int:=if x < (gd T k).length then 1 + (wQK T x (gd (gd T k) x) T.length:Int) else 0
theorem wQL {T:List (List Int)} {x:Nat} {X:List Int} (hX:x < X.length) (hn:T.length <= 1000) :
  wCQ 0 (↑T.length:Int) (fun k1114 x1113 =>
   (idx T (↑k1114:Int)).bind fun x1148 =>
   if (x:Int) < (↑x1148.length:Int) then
    (idx x1148 (x:Int)).bind fun x1165 =>
    (idx X (x:Int)).bind fun x1172 =>
    if x1165 < x1172 then
     some (w64 (x1113 + 1))
    else
     some x1113
   else
    some x1113) 1=some (1 + (wQK T x (gd X x) T.length:Int)) :=
 wAv (fun m=>1 + (wQK T x (gd X x) m:Int)) rfl (by omega) fun i hi=>by
  have hle:=wLM T x (gd X x) i
  rw [wAP hi,nA,wQK]
  by_cases h1:x < (gd T i).length
  ·rw [if_pos (by omega),wAP h1,nA,wAP hX,nA]
   by_cases h2:gd (gd T i) x < gd X x
   ·rw [if_pos h2,if_pos ⟨h1,h2⟩,wAK (by omega) (by omega)]
    rfl
   ·rw [if_neg h2,if_neg fun h=>h2 h.2]
    rfl
  ·rw [if_neg (by omega),if_neg fun h=>h1 h.1]
   rfl
theorem wTc {α:Type} [Inhabited α] {l:List α} {k:Nat} {x:α} (h:k < l.length):gd (l.set k x) k=x:=by
 rw [wOz h h,if_pos rfl]
theorem wPA {r:wAA} (g:wEG r) {x:Nat} (hx:x < r.Rules.Classes.length):wBe r (x:Int)=some ((nO (wCW r).length).map (plc (wCW r) x),0):=by
 unfold wBe
 have hc:=g.rules.n;have hn:=g.n
 have hl:(wCW r).length=r.Teams.length:=by simp [wCW]
 rw [wJa g,nA];simp only
 rw [if_pos trivial,wAK (by omega) (by omega),wDS,nA,wCK (by omega) (by omega),if_pos rfl]
 generalize hT:wCW r=T at hl
 have hz:mkz 8 (T.length:Int) (0:Int)=some (List.replicate T.length 0):=by
  unfold mkz
  rw [if_pos (by omega)]
  rfl
 rw [hz,nA,wAv (fun m=>(nO T.length).map fun k=>if k < m then plc T x k else 0) (s0:=List.replicate T.length (0:Int)) ?_ (by omega) fun i hi=>?_]
 ·rw [nA]
  congr 2
  exact List.map_congr_left fun k hk=>by rw [if_pos (List.mem_range.1 hk)]
 ·refine wOw (by simp) fun k hk=>?_
  have hk:k < T.length:=by simpa using hk
  rw [wGx _ hk,if_neg (by omega),wLL (by simpa using hk),List.getElem_replicate]
 ·have hlen:∀ m:Nat,((nO T.length).map fun k=>if k < m then plc T x k else 0).length=T.length:=fun m=>by simp
  have hset:∀ v,v=plc T x i->((nO T.length).map fun k=>if k < i then plc T x k else 0).set i v=(nO T.length).map fun k=>if k < i + 1 then plc T x k else 0:=fun v hv=>by
   refine wOw (by simp) fun k hk=>?_
   have hk:k < T.length:=by simpa using hk
   rw [wOz (by simpa using hi) (by simpa using hk),wGx _ hk,wGx _ hk]
   by_cases h1:k=i
   ·subst h1
    rw [if_pos rfl,if_pos (by omega),hv]
   ·rw [if_neg h1]
    by_cases h2:k < i
    ·rw [if_pos h2,if_pos (by omega)]
    ·rw [if_neg h2,if_neg (by omega)]
  rw [wAP hi,nA]
  by_cases h1:x < (gd T i).length
  ·rw [if_neg (by omega),wNQ (by omega) (by rw [hlen];omega),nA,wAv (fun m=>((nO T.length).map fun k=>if k < i then plc T x k else 0).set i (1 + (wQK T x (gd (gd T i) x) m:Int))) (s0:=((nO T.length).map fun k=>if k < i then plc T x k else 0).set i 1) rfl (by omega) fun j hj=>?_]
   ·rw [nA,hset _ (by unfold plc;rw [if_pos h1])]
   ·have hle:=wLM T x (gd (gd T i) x) j
    rw [wAP hj,nA,wQK]
    by_cases h2:x < (gd T j).length
    ·rw [if_pos (by omega),wAP h2,nA,wAP h1,nA]
     by_cases h3:gd (gd T j) x < gd (gd T i) x
     ·rw [if_pos h3,if_pos ⟨h2,h3⟩,wNQ (by omega) (by rw [List.length_set,hlen];omega),nA,wTc (by simpa using hi),List.set_set,wAK (by omega) (by omega)]
      rfl
     ·rw [if_neg h3,if_neg fun h=>h3 h.2]
      rfl
    ·rw [if_neg (by omega),if_neg fun h=>h2 h.1]
     rfl
  ·rw [if_pos (by omega),<- hset 0 (by unfold plc;rw [if_neg h1])]
   congr 1
   refine wOw (by simp) fun k hk=>?_
   have hk:k < T.length:=by simpa using hk
   rw [wOz (by simpa using hi) (by simpa using hk),wGx _ hk]
   by_cases e:k=i
   ·subst e
    rw [if_neg (by omega),if_pos rfl]
   ·rw [if_neg e]
def wCI (D:List (List Int)) (x:Nat):Nat->Int
 | 0=>360000
 | m + 1=>if x < (gd D m).length then min (wCI D x m) (gd (gd D m) x) else wCI D x m
theorem wMG (D:List (List Int)) (x:Nat):∀ m k,k < m->x < (gd D k).length->wCI D x m <= gd (gd D k) x
 | m + 1,k,h,hx=>by
  rw [wCI]
  by_cases e:k=m
  ·subst e
   rw [if_pos hx]
   omega
  ·have:=wMG D x m k (by omega) hx
   split <;> omega
theorem wMH (D:List (List Int)) (x:Nat):∀ m,wCI D x m=360000 \/ ∃ k,k < m/\x < (gd D k).length/\gd (gd D k) x=wCI D x m
 | 0=>.inl rfl
 | m + 1=>by
  have ih:=wMH D x m
  rw [wCI]
  by_cases h:x < (gd D m).length
  ·rw [if_pos h]
   rcases Int.le_total (wCI D x m) (gd (gd D m) x) with hle | hle
   ·rw [Int.min_eq_left hle]
    rcases ih with ih | ⟨k,h1,h2,h3⟩
    ·exact .inl ih
    ·exact .inr ⟨k,by omega,h2,h3⟩
   ·rw [Int.min_eq_right hle]
    exact .inr ⟨m,by omega,h,rfl⟩
  ·rw [if_neg h]
   rcases ih with ih | ⟨k,h1,h2,h3⟩
   ·exact .inl ih
   ·exact .inr ⟨k,by omega,h2,h3⟩
def wDy (D:List (List Int)) (x:Nat) (v:Int) (ts:List wAC):Nat->List Int
 | 0=>[]
 | m + 1=>if x < (gd D m).length/\gd (gd D m) x=v then wDy D x v ts m ++ [(gd ts m).Bib] else wDy D x v ts m
theorem wGD (D:List (List Int)) (x:Nat) (v:Int) (ts:List wAC):∀ m,(wDy D x v ts m).length <= m
 | 0=>nI _
 | m + 1=>by
  have:=wGD D x v ts m
  rw [wDy]
  split
  ·simp;omega
  ·omega
theorem wGE (D:List (List Int)) (x:Nat) (v:Int) (ts:List wAC) (b:Int):∀ m,b ∈ wDy D x v ts m ↔ ∃ k,k < m/\x < (gd D k).length/\gd (gd D k) x=v/\(gd ts k).Bib=b
 | 0=>by simp [wDy]
 | m + 1=>by
  have ih:=wGE D x v ts b m
  have h1:b ∈ wDy D x v ts (m + 1) ↔ b ∈ wDy D x v ts m \/ (x < (gd D m).length/\gd (gd D m) x=v/\(gd ts m).Bib=b):=by
   rw [wDy]
   split
   ·rename_i h
    rw [nL,nY]
    constructor
    ·rintro (h3 | h3)
     ·exact .inl h3
     ·exact .inr ⟨h.1,h.2,h3.symm⟩
    ·rintro (h3 | h3)
     ·exact .inl h3
     ·exact .inr h3.2.2.symm
   ·rename_i h
    constructor
    ·exact .inl
    ·rintro (h3 | h3)
     ·exact h3
     ·exact absurd ⟨h3.1,h3.2.1⟩ h
  rw [h1,ih]
  constructor
  ·rintro (⟨k,h,q⟩ | q)
   ·exact ⟨k,by omega,q⟩
   ·exact ⟨m,by omega,q⟩
  ·rintro ⟨k,h,q⟩
   by_cases e:k=m
   ·subst e
    exact .inr q
   ·exact .inl ⟨k,by omega,q⟩
def srt (l:List Int):List Int:=l.mergeSort fun x y=>decide (x <= y)
theorem wIt {r:wAA} (g:wEG r) {x:Nat} (hx:x < r.Rules.Classes.length):wBM r (x:Int) =
  some (if (wDy (wCP r) x (wCI (wCP r) x (wCP r).length) r.Teams (wCP r).length).length=0 then ([],0,6) else (srt (wDy (wCP r) x (wCI (wCP r) x (wCP r).length) r.Teams (wCP r).length),wCI (wCP r) x (wCP r).length,0)):=by
 unfold wBM
 have hc:=g.rules.n;have hn:=g.n
 have hl:(wCP r).length=r.Teams.length:=by simp [wCP]
 rw [wLK g,nA];simp only
 rw [if_pos trivial,wAK (by omega) (by omega),wDS,nA,wCK (by omega) (by omega),if_pos rfl]
 generalize wCP r=D at hl
 rw [wAv (fun m=>wCI D x m) (s0:=360000) rfl (by omega) fun i hi=>?_]
 ·rw [nA,wAv (fun m=>wDy D x (wCI D x D.length) r.Teams m) (s0:=[]) rfl (by omega) fun i hi=>?_]
  ·have hle:=wGD D x (wCI D x D.length) r.Teams D.length
   rw [nA]
   generalize wDy D x (wCI D x D.length) r.Teams D.length=b at hle
   by_cases h:b.length=0
   ·rw [if_pos (by omega),if_pos h]
   ·rw [if_neg (by omega),if_neg h]
    unfold wCi wPo
    rw [if_pos (by omega)]
    rfl
  ·have hle:=wGD D x (wCI D x D.length) r.Teams i
   rw [wAP hi,nA,wDy]
   by_cases h1:x < (gd D i).length
   ·rw [if_pos (by omega),wAP h1,nA]
    by_cases h2:gd (gd D i) x=wCI D x D.length
    ·rw [if_pos h2,if_pos ⟨h1,h2⟩,wAP (by omega),nA,wCE (by simp;omega)]
     rfl
    ·rw [if_neg h2,if_neg fun h=>h2 h.2]
   ·rw [if_neg (by omega),if_neg fun h=>h1 h.1]
 ·rw [wAP hi,nA,wCI]
  by_cases h1:x < (gd D i).length
  ·rw [if_pos (by omega),if_pos h1,wAP h1,nA]
  ·rw [if_neg (by omega),if_neg h1]
theorem wIC:∀ (l:List Int) (b lo hi:Int),lo <= b->b <= hi->(∀ e ∈ l,lo <= e/\e <= hi)->∀ d ∈ wDx l b,d <= hi - lo
 | [],_,_,_,_,_,_,d,hd=>by simp [wDx] at hd
 | a :: l,b,lo,hi,h1,h2,h,d,hd=>by
  have ha:=h a (by simp)
  rw [wDx] at hd
  rcases nE.1 hd with rfl | hd
  ·omega
  ·exact wIC l a lo hi ha.1 ha.2 (fun e he=>h e (by simp [he])) d hd
theorem wPB {r:wAA} (g:wEG r) {k x:Nat} (hk:k < (wCP r).length) (hx:x < (gd (wCP r) k).length):gd (gd (wCP r) k) x < 360000:=by
 have hk':k < r.Teams.length:=by simpa [wCP] using hk
 have gt:=g.team _ (wAi hk')
 have hc:=g.rules.n;have hl:=gt.legs;have hs:=g.start
 have hr:=wEy g.rules (gd r.Teams k).Legs r.Start gt.leg
 have e:gd (wCP r) k=wDx (wGA r.Rules (gd r.Teams k).Legs r.Start) r.Start:=by
  unfold wCP
  rw [wEX _ hk']
 rw [e] at hx ⊢
 have:=wIC _ r.Start r.Start (r.Start + 69000 * ((gd r.Teams k).Legs.length:Int)) (by omega) (by omega) hr _ (wAi hx)
 omega
end Go.Proofs.YthbficbpebiekaaGreat
namespace Go.Proofs.YthbficbpebiekaaGreat
open Go.KL
def wDX (q:Nat->Bool):Nat->Nat->Bool
 | 0,_=>true
 | m + 1,k=>q k && wDX q m (k + 1)
def fnd {B:Type} (f:Nat->Option B):Nat->Nat->Option B
 | 0,_=>none
 | m + 1,k=>match f k with
  | some c=>some c
  | none=>fnd f m (k + 1)
theorem wDA (q:Nat->Bool):∀ m k,wDX q m k=true ↔ ∀ i,k <= i->i < k + m->q i=true
 | 0,k=>⟨fun _ i h1 h2=>by omega,fun _=>rfl⟩
 | m + 1,k=>by
  rw [wDX,nB,wDA q m (k + 1)]
  constructor
  ·rintro ⟨h1,h2⟩ i h3 h4
   by_cases e:i=k
   ·exact e ▸ h1
   ·exact h2 i (by omega) (by omega)
  ·exact fun h=>⟨h k (by omega) (by omega),fun i h1 h2=>h i (by omega) (by omega)⟩
theorem wIu {q q':Nat->Bool}:∀ m k,(∀ i,k <= i->i < k + m->q i=q' i)->wDX q m k=wDX q' m k
 | 0,_,_=>rfl
 | m + 1,k,h=>by rw [wDX,wDX,h k (by omega) (by omega),wIu m (k + 1) fun i h1 h2=>h i (by omega) (by omega)]
theorem wGU {A B:Type} (g:A->B) (f:Nat->Option A):∀ m k,fnd (fun i=>(f i).map g) m k=(fnd f m k).map g
 | 0,_=>rfl
 | m + 1,k=>by
  rw [fnd,fnd,wGU g f m (k + 1)]
  cases f k <;> rfl
theorem wKM {B:Type} (q:Nat->Bool) (c:B):∀ m k,fnd (fun i=>if q i=true then none else some c) m k=if wDX q m k=true then none else some c
 | 0,_=>rfl
 | m + 1,k=>by
  rw [fnd,wKM q c m (k + 1),wDX]
  cases q k <;> simp
def out {S B:Type} (s:S):Option B->S ⊕ B
 | none=>.inl s
 | some c=>.inr c
theorem wMI {B:Type} {body:Nat->Unit->Option (Unit ⊕ B)} {f:Nat->Option B}:∀ (m k:Nat),(∀ i,k <= i->i < k + m->body i ()=some (out () (f i)))->forN body m k ()=some (out () (fnd f m k))
 | 0,_,_=>rfl
 | m + 1,k,h=>by
  rw [forN,h k (by omega) (by omega),fnd]
  cases f k with
  | none=>exact wMI m (k + 1) fun i h1 h2=>h i (by omega) (by omega)
  | some c=>rfl
theorem wGy {B:Type} {body:Nat->Unit->Option (Unit ⊕ B)} {n:Nat} (f:Nat->Option B) (hn:n <= 1000) (h:∀ i,i < n->body i ()=some (out () (f i))):wFF 0 (n:Int) body ()=some (out () (fnd f n 0)):=by
 rw [wDd (by omega)]
 exact wMI n 0 fun i _ hi=>h i (by omega)
theorem wEz {B:Type} {body:Nat->Unit->Option (Unit ⊕ B)} {n:Nat} (q:Nat->Bool) (c:B) (hn:n <= 1000) (h:∀ i,i < n->body i ()=some (if q i=true then .inl () else .inr c)):wFF 0 (n:Int) body ()=some (if wDX q n 0=true then .inl () else .inr c):=by
 rw [wGy (fun i=>if q i=true then none else some c) hn fun i hi=>by rw [h i hi];split <;> rfl,wKM]
 split <;> rfl
theorem wGF {B:Type} {body:Int->Option (Int ⊕ B)} {f:Nat->Option B} {z:B} {n:Nat} (h:∀ i,i < n->body (i:Int)=some (out ((i:Int) + 1) (f i))) (hz:body (n:Int)=some (.inr z)):∀ (m k F:Nat),k + m=n->m < F->iter body F (k:Int)=some ((fnd f m k).getD z)
 | 0,k,F,hk,hF=>by
  obtain ⟨F,rfl⟩:∃ G,F=G + 1:=⟨F - 1,by omega⟩
  obtain rfl:k=n:=by omega
  rw [iter,hz]
  rfl
 | m + 1,k,F,hk,hF=>by
  obtain ⟨F,rfl⟩:∃ G,F=G + 1:=⟨F - 1,by omega⟩
  rw [iter,h k (by omega),fnd]
  cases f k with
  | none=>exact wGF h hz m (k + 1) F (by omega) (by omega)
  | some c=>rfl
theorem wGz {B:Type} {body:Int->Option (Int ⊕ B)} {n:Nat} (f:Nat->Option B) {z:B} (hn:n <= 1000) (h:∀ i,i < n->body (i:Int)=some (out ((i:Int) + 1) (f i))) (hz:body (n:Int)=some (.inr z)):iter body big 0=some ((fnd f n 0).getD z) :=
 wGF h hz n 0 big (by omega) (by unfold big;omega)
theorem wDq {B:Type} {body:Int->Option (Int ⊕ B)} {n:Nat} (q:Nat->Bool) (c:B) {z:B} (hn:n <= 1000) (h:∀ i,i < n->body (i:Int)=some (if q i=true then .inl ((i:Int) + 1) else .inr c)) (hz:body (n:Int)=some (.inr z)):iter body big 0=some (if wDX q n 0=true then z else c):=by
 rw [wGz (fun i=>if q i=true then none else some c) hn (fun i hi=>by rw [h i hi];split <;> rfl) hz,wKM]
 split <;> rfl
theorem wHA {α:Type} [Inhabited α] (p:α->Bool) (l:List α):l.all p=wDX (fun k=>p (gd l k)) l.length 0:=by
 rw [Bool.eq_iff_iff,wDA,nU]
 constructor
 ·exact fun h i _ hi=>h _ (wAi (by omega))
 ·intro h a ha
  obtain ⟨k,hk,e⟩:=kE ha
  have:=h k (by omega) (by omega)
  rw [wLL hk,e] at this
  exact this
def cvR (p:wAB):wAM:=⟨p.Classes,p.Each,p.Laps,p.Spare,p.Loop,p.Unused⟩
def cvL (l:wAH):wBR:=⟨l.Skier,l.Loops,l.Bouts⟩
def cvT (t:wAC):wBO:=⟨t.Bib,t.Classes,t.Legs.map cvL⟩
def cv (r:wAA):wAD:=⟨cvR r.Rules,r.Start,r.Teams.map cvT⟩
structure wPC (l:wAH):Prop where
 loops:l.Loops.length <= 7
 bouts:l.Bouts.length <= 7
 bout:∀ b ∈ l.Bouts,b.length <= 12
structure wMJ (t:wAC):Prop where
 cls:t.Classes.length <= 10
 legs:t.Legs.length <= 6
 leg:∀ l ∈ t.Legs,wPC l
structure wID (r:wAA):Prop where
 cls:r.Rules.Classes.length <= 6
 n:r.Teams.length <= 14
 team:∀ t ∈ r.Teams,wMJ t
theorem wEJ (n lo hi:Int):wAL n lo hi=some (!inB n lo hi):=by
 unfold wAL inB
 by_cases h1:n < lo
 ·rw [if_pos h1];simp;omega
 ·rw [if_neg h1]
  by_cases h2:hi < n
  ·rw [decide_eq_true h2,decide_eq_false (by omega)];rfl
  ·rw [decide_eq_false h2,decide_eq_true (by omega)];rfl
def wLN (l:List Int):Bool:=l.all fun c=>inB c 0 3
theorem wQs {l:List Int} (hn:l.length <= 1000):wBi l=some (!wLN l):=by
 unfold wBi
 rw [wEz (fun k=>inB (gd l k) 0 3) (some true |>.getD true) hn fun i hi=>?_]
 ·unfold wLN
  rw [wHA]
  cases wDX (fun k=>inB (gd l k) 0 3) l.length 0 <;> rfl
 ·rw [wAP hi,nA,wEJ,nA]
  cases inB (gd l i) 0 3 <;> rfl
theorem wIv {l:List Int} (hn:l.length <= 1000):wBT l=some (wLN l):=by
 unfold wBT
 rw [wHz (f:=wAk) (p:=fun n=>inB n 0 3) (fun a=>by unfold wAk;rw [wDS];rfl) (by omega),nA]
 rfl
def wNJ (p:wAB):Int :=
 if inB (p.Classes.length:Int) 1 4=true then
  if (wLN p.Classes && (inB p.Each 1 4 && (inB p.Laps 1 5 && (inB p.Spare 0 600 && (inB p.Loop 0 600 && inB p.Unused 0 6000)))))=true then 0 else 3
 else 2
theorem wPD {p:wAB} (hn:p.Classes.length <= 1000):wBU p=some (wNJ p):=by
 unfold wBU wNJ wCp
 rw [wDS,nA,wIv hn,nA,nA,wOx (p:=fun a=>match a.of p with | some x=>inB x a.lo a.hi | none=>true) (fun a ha=>by
  unfold wBK
  simp only [nE,List.not_mem_nil,or_false] at ha
  rcases ha with rfl | rfl | rfl | rfl | rfl <;> simp [wAz,wBA,wBB,wBC,wBD,wDS]) (by simp)]
 simp only [nA,nl,List.all_nil,Bool.and_true,wAz,wBA,wBB,wBC,wBD]
 cases inB (p.Classes.length:Int) 1 4 <;> cases wLN p.Classes <;> cases inB p.Each 1 4 <;> cases inB p.Laps 1 5 <;> cases inB p.Spare 0 600 <;> cases inB p.Loop 0 600 <;> cases inB p.Unused 0 6000 <;> rfl
theorem wQM {p:wAB} (hn:p.Classes.length <= 1000):wBL (cvR p)=some (wNJ p):=by
 unfold wBL wNJ cvR
 simp only [wEJ,wQs hn,nA]
 cases inB (p.Classes.length:Int) 1 4 <;> cases wLN p.Classes <;> cases inB p.Each 1 4 <;> cases inB p.Laps 1 5 <;> cases inB p.Spare 0 600 <;> cases inB p.Loop 0 600 <;> cases inB p.Unused 0 6000 <;> rfl
def szL (p:wAB) (t:wAC) (k:Nat):Bool :=
 decide (¬ p.Laps < ((gd t.Legs k).Loops.length:Int)) && (decide (k + 1 < t.Legs.length->((gd t.Legs k).Loops.length:Int)=p.Laps) && decide ((gd t.Legs k).Bouts.length=(gd t.Legs k).Loops.length - 1))
def sz (p:wAB) (t:wAC):Bool:=inB (t.Classes.length:Int) 1 8 && (decide (t.Legs.length <= p.Classes.length) && wDX (szL p t) t.Legs.length 0)
theorem wSH {p:wAB} {t:wAC} (h:wMJ t):wAm p t=some (sz p t):=by
 unfold wAm sz
 have h1:=h.legs
 rw [wDS,nA]
 by_cases e1:inB (t.Classes.length:Int) 1 8=true
 ·rw [if_pos e1,e1]
  by_cases e2:t.Legs.length <= p.Classes.length
  ·rw [if_neg (by omega),wEz (szL p t) (some false |>.getD false) (by omega) fun k hk=>?_]
   ·simp only [e2,decide_true,nT]
    cases wDX (szL p t) t.Legs.length 0 <;> rfl
   ·have gl:=h.leg _ (wAi hk)
    have:=gl.loops;have:=gl.bouts
    rw [wAP hk,nA,wAK (by omega) (by omega),wAK (by omega) (by omega)]
    unfold szL
    by_cases c1:p.Laps < ((gd t.Legs k).Loops.length:Int)
    ·rw [if_pos c1];simp [c1]
    ·rw [if_neg c1]
     by_cases c2:k + 1 < t.Legs.length
     ·rw [if_pos (by omega)]
      by_cases c3:((gd t.Legs k).Loops.length:Int)=p.Laps
      ·rw [if_neg (by omega)]
       by_cases c4:(gd t.Legs k).Bouts.length=(gd t.Legs k).Loops.length - 1
       ·rw [if_pos (by omega)];simp [c1,c3,c4]
       ·rw [if_neg (by omega)];simp [c4]
      ·rw [if_pos (by omega)];simp [c2,c3]
     ·rw [if_neg (by omega)]
      by_cases c4:(gd t.Legs k).Bouts.length=(gd t.Legs k).Loops.length - 1
      ·rw [if_pos (by omega)];simp [c1,c2,c4]
      ·rw [if_neg (by omega)];simp [c4]
  ·rw [if_pos (by omega)];simp [e2]
 ·rw [if_neg e1]
  simp [e1]
theorem wMK {S R:Type} {x:Option R} {v:R} (h:x=some v):(esc x:Option (S ⊕ R))=some (.inr v):=by rw [h];rfl
theorem wDB {r:wAA} {i:Nat} (hi:i < r.Teams.length):idx (cv r).Teams (i:Int)=some (cvT (gd r.Teams i)):=by
 unfold cv
 rw [wAP (by simpa using hi),wEX _ hi]
theorem wDz {t:wAC} {i:Nat} (hi:i < t.Legs.length):idx (cvT t).Legs (i:Int)=some (cvL (gd t.Legs i)):=by
 unfold cvT
 rw [wAP (by simpa using hi),wEX _ hi]
theorem wLO (r:wAA):(cv r).Teams.length=r.Teams.length:=by simp [cv]
theorem wEA (t:wAC):(cvT t).Legs.length=t.Legs.length:=by simp [cvT]
def wGV (b:List Bool):Int:=if inB (b.length:Int) 5 8=true then (if (wDp b 0).isSome=true then 0 else 8) else 2
def lpB (l:wAH):Bool:=wDX (fun k=>inB (gd l.Loops k) 1 9000) l.Loops.length 0
def wSf (t:wAC):Bool:=inB t.Bib 1 999 && (wLN t.Classes && wDX (fun k=>lpB (gd t.Legs k)) t.Legs.length 0)
def skB (t:wAC):Bool:=wDX (fun k=>inB (gd t.Legs k).Skier 0 ((t.Classes.length:Int) - 1)) t.Legs.length 0
def shB (b:List Bool):Option Int:=if wGV b=0 then none else some (wGV b)
def shL (l:wAH):Option Int:=fnd (fun k=>shB (gd l.Bouts k)) l.Bouts.length 0
def shT (t:wAC):Option Int:=fnd (fun k=>shL (gd t.Legs k)) t.Legs.length 0
def twB (r:wAA) (i:Nat):Bool:=wDX (fun k=>!decide ((gd r.Teams i).Bib=(gd r.Teams k).Bib)) i 0
def z5 (r:wAA):Int:=if wDX (twB r) r.Teams.length 0=true then 0 else 5
def z4 (r:wAA):Int:=(fnd (fun i=>shT (gd r.Teams i)) r.Teams.length 0).getD (z5 r)
def z3 (r:wAA):Int:=if wDX (fun i=>skB (gd r.Teams i)) r.Teams.length 0=true then z4 r else 1
def z2 (r:wAA):Int:=if inB r.Start 0 36000=true then (if wDX (fun i=>wSf (gd r.Teams i)) r.Teams.length 0=true then z3 r else 3) else 3
def code (r:wAA):Int:=if wNJ r.Rules=0 then (if inB (r.Teams.length:Int) 1 12=true then (if wDX (fun i=>sz r.Rules (gd r.Teams i)) r.Teams.length 0=true then z2 r else 2) else 2) else wNJ r.Rules
theorem wJb {l:List Bool} {R:Type} (z:R) (K:Int->Option R):∀ (m k h:Nat),k + m=l.length->h <= 5 ->
  jn (forN (fun k27 (x26:Int)=>if x26=5 then esc (some z) else (idx l (↑k27:Int)).bind fun x56=>if x56=true then some (.inl (w64 (x26 + 1))) else some (.inl x26)) m k (h:Int)) K =
   (match wDp (l.drop k) h with | none=>some z | some m=>K (m:Int))
 | 0,k,h,hk,_=>by rw [nP (by omega)];rfl
 | m + 1,k,h,hk,h5=>by
  have hlt:k < l.length:=by omega
  rw [wJU hlt,wDp,forN]
  by_cases hz:h=5
  ·rw [if_pos (by omega),if_pos hz];rfl
  ·rw [if_neg (by omega),if_neg hz,wAP hlt,nA]
   by_cases hb:gd l k=true
   ·rw [if_pos hb,if_pos hb,wAK (by omega) (by omega)]
    exact wJb (l:=l) z K m (k + 1) (h + 1) (by omega) (by omega)
   ·rw [if_neg hb,if_neg hb]
    exact wJb (l:=l) z K m (k + 1) h (by omega) h5
theorem wML {b:List Bool} (hn:b.length <= 1000):∃ s,wAo b=some (s,wGV b)/\(wGV b=0->s=⟨(b.length:Int) - 5,5 - (wEF b:Int),if wEF b < 5 then 8 - (b.length:Int) else 0⟩):=by
 unfold wAo wGV
 rw [wEJ,nA]
 by_cases h1:inB (b.length:Int) 5 8=true
 ·rw [h1,if_neg (by simp),if_pos rfl,wDd (by omega)]
  have hr:5 <= (b.length:Int)/\(b.length:Int) <= 8:=by unfold inB at h1;simpa using h1
  have:=wJb (l:=b) (R:=wAT × Int) ((⟨0,0,0⟩:wAT),8) (fun y74=>if y74 < 5 then
   some ((⟨w64 ((↑b.length:Int) - 5),w64 (5 - y74),w64 (8 - (↑b.length:Int))⟩:wAT),0)
  else
   some ((⟨w64 ((↑b.length:Int) - 5),w64 (5 - y74),0⟩:wAT),0)) b.length 0 0 (by omega) (by omega)
  rw [nr] at this
  rw [show ((0:Nat):Int)=0 from rfl] at this
  rw [this]
  cases hq:wDp b 0 with
  | none=>exact ⟨_,rfl,fun h=>by simp at h⟩
  | some m =>
   have h5:=(wFy b 0 m (by omega) hq).2
   have hN:wEF b=m:=by unfold wEF;rw [hq];rfl
   simp only [kJ,if_true]
   rw [wAK (x:=(b.length:Int) - 5) (by omega) (by omega),wAK (x:=5 - (m:Int)) (by omega) (by omega),wAK (x:=8 - (b.length:Int)) (by omega) (by omega),hN]
   by_cases h6:m < 5
   ·rw [if_pos (by omega)]
    exact ⟨_,rfl,fun _=>by rw [if_pos h6]⟩
   ·rw [if_neg (by omega)]
    exact ⟨_,rfl,fun _=>by rw [if_neg h6]⟩
 ·have h1:inB (b.length:Int) 5 8=false:=by simpa using h1
  rw [h1,if_pos (by rfl),if_neg (by simp)]
  exact ⟨_,rfl,fun h=>by simp at h⟩
theorem wPE {b:List Bool} (hn:b.length <= 1000):∃ s,wCU b=some (s,wGV b):=by
 unfold wCU wGV
 rw [wDS,nA]
 by_cases h1:inB (b.length:Int) 5 8=true
 ·rw [if_pos h1,if_pos h1,wDd (by omega)]
  have:=wFz (l:=b) (R:=wAY × Int) ((⟨0,0,0⟩:wAY),8) (fun y72=>if 0 < y72 then
   some ((⟨w64 ((↑b.length:Int) - 5),y72,w64 (8 - (↑b.length:Int))⟩:wAY),0)
  else
   some ((⟨w64 ((↑b.length:Int) - 5),y72,0⟩:wAY),0)) b.length 0 0 (by omega) (by omega)
  rw [nr] at this
  rw [show (5:Int) - ((0:Nat):Int)=5 from rfl] at this
  rw [this]
  cases hq:wDp b 0 with
  | none=>exact ⟨_,rfl⟩
  | some m =>
   simp only [kJ,if_true]
   split
   ·exact ⟨_,rfl⟩
   ·exact ⟨_,rfl⟩
 ·rw [if_neg h1,if_neg h1]
  exact ⟨_,rfl⟩
end Go.Proofs.YthbficbpebiekaaGreat
namespace Go.Proofs.YthbficbpebiekaaGreat
open Go.KL
theorem wLP (t:wAC):(cvT t).Classes=t.Classes:=rfl
theorem wIE (t:wAC):(cvT t).Bib=t.Bib:=rfl
theorem wDe (l:wAH):(cvL l).Loops=l.Loops:=rfl
theorem wGG (l:wAH):(cvL l).Bouts=l.Bouts:=rfl
theorem wPF (l:wAH):(cvL l).Skier=l.Skier:=rfl
theorem wQN (p:wAB):(cvR p).Laps=p.Laps:=rfl
theorem wSI (p:wAB):(cvR p).Classes=p.Classes:=rfl
theorem wQO (r:wAA):(cv r).Rules=cvR r.Rules:=rfl
theorem wJc (r:wAA):(cv r).Start=r.Start:=rfl
theorem wLQ (p:wAB) (t:wAC) (k:Nat):szL p t k=true ↔ (¬ p.Laps < ((gd t.Legs k).Loops.length:Int))/\(k + 1 < t.Legs.length->((gd t.Legs k).Loops.length:Int)=p.Laps)/\(gd t.Legs k).Bouts.length=(gd t.Legs k).Loops.length - 1:=by
 unfold szL
 simp only [nB,decide_eq_true_eq]
theorem wPG {r:wAA} (h:wID r):wAj (cv r)=some (code r):=by
 unfold wAj code
 have hn:=h.n;have hc:=h.cls
 have hT:∀ i,i < r.Teams.length->wMJ (gd r.Teams i):=fun i hi=>h.team _ (wAi hi)
 have hL:∀ i,i < r.Teams.length->∀ k,k < (gd r.Teams i).Legs.length->wPC (gd (gd r.Teams i).Legs k):=fun i hi k hk=>(hT i hi).leg _ (wAi hk)
 rw [wQO,wQM (by omega),nA,wJc]
 by_cases e0:wNJ r.Rules=0
 ·rw [if_pos e0,if_pos e0,wLO,wEJ,nA]
  by_cases e1:inB (r.Teams.length:Int) 1 12=true
  ·rw [e1,if_neg (by simp),if_pos rfl,wDq (n:=r.Teams.length) (z:=z2 r) (fun i=>sz r.Rules (gd r.Teams i)) 2 (by omega) (fun i hi=>?_) ?_]
   ·rw [if_neg (by omega)]
    refine wMK ?_
    rw [wEJ,nA]
    unfold z2
    by_cases e2:inB r.Start 0 36000=true
    ·rw [e2,if_neg (by simp),if_pos rfl,wDq (n:=r.Teams.length) (z:=z3 r) (fun i=>wSf (gd r.Teams i)) 3 (by omega) (fun i hi=>?_) ?_]
     ·rw [if_neg (by omega)]
      refine wMK ?_
      unfold z3
      rw [wDq (n:=r.Teams.length) (z:=z4 r) (fun i=>skB (gd r.Teams i)) 1 (by omega) (fun i hi=>?_) ?_]
      ·rw [if_neg (by omega)]
       refine wMK ?_
       unfold z4
       rw [wGz (n:=r.Teams.length) (z:=z5 r) (fun i=>shT (gd r.Teams i)) (by omega) (fun i hi=>?_) ?_]
       ·rw [if_neg (by omega)]
        refine wMK ?_
        unfold z5
        rw [wDq (n:=r.Teams.length) (z:=0) (twB r) 5 (by omega) (fun i hi=>?_) ?_]
        ·rw [if_neg (by omega)]
         rfl
        ·rw [if_pos (by omega),wEz (B:=Int ⊕ Int) (n:=i) (fun k=>!decide ((gd r.Teams i).Bib=(gd r.Teams k).Bib)) (.inr 5) (by omega) fun k hk=>?_]
         ·unfold twB
          rw [wAK (x:=(i:Int) + 1) (by omega) (by omega)]
          split <;> rfl
         ·rw [wDB hi,nA,wDB (by omega),nA,wIE,wIE]
          by_cases e5:(gd r.Teams i).Bib=(gd r.Teams k).Bib
          ·rw [if_pos e5];simp [e5]
          ·rw [if_neg e5];simp [e5]
       ·have ht:=hT i hi
        have h1:=ht.legs
        rw [if_pos (by omega),wGz (B:=Int ⊕ Int) (z:=.inl ((i:Int) + 1)) (fun k=>(shL (gd (gd r.Teams i).Legs k)).map .inr) (n:=(gd r.Teams i).Legs.length) (by omega) (fun k hk=>?_) ?_,wGU]
        ·unfold shT
         cases fnd (fun k=>shL (gd (gd r.Teams i).Legs k)) (gd r.Teams i).Legs.length 0 <;> rfl
        ·rw [wDB hi,nA,wEA,if_neg (by omega),wAK (x:=(i:Int) + 1) (by omega) (by omega)]
         rfl
        ·have hl:=hL i hi k hk
         have g2:=hl.bouts
         rw [wDB hi,nA,wEA,if_pos (by omega),wGz (B:=Int ⊕ (Int ⊕ Int)) (z:=.inl ((k:Int) + 1)) (fun j=>(shB (gd (gd (gd r.Teams i).Legs k).Bouts j)).map fun c=>.inr (.inr c)) (n:=(gd (gd r.Teams i).Legs k).Bouts.length) (by omega) (fun j hj=>?_) ?_,wGU]
         ·unfold shL
          cases fnd (fun j=>shB (gd (gd (gd r.Teams i).Legs k).Bouts j)) (gd (gd r.Teams i).Legs k).Bouts.length 0 <;> rfl
         ·rw [wDz hk,nA,wGG,if_neg (by omega),wAK (x:=(k:Int) + 1) (by omega) (by omega)]
          rfl
         ·have g3:=hl.bout _ (wAi hj)
          obtain ⟨s,e3,_⟩:=wML (b:=gd (gd (gd r.Teams i).Legs k).Bouts j) (by omega)
          rw [wDz hk,nA,wGG,if_pos (by omega),wAP hj,nA,e3,nA]
          simp only
          unfold shB
          by_cases e4:wGV (gd (gd (gd r.Teams i).Legs k).Bouts j)=0
          ·rw [if_pos e4,if_pos e4,wAK (x:=(j:Int) + 1) (by omega) (by omega)]
           rfl
          ·rw [if_neg e4,if_neg e4]
           rfl
      ·have ht:=hT i hi
       have h1:=ht.legs;have h2:=ht.cls
       rw [if_pos (by omega),wDq (B:=Int ⊕ Int) (z:=.inl ((i:Int) + 1)) (fun k=>inB (gd (gd r.Teams i).Legs k).Skier 0 (((gd r.Teams i).Classes.length:Int) - 1)) (.inr 1) (n:=(gd r.Teams i).Legs.length) (by omega) (fun k hk=>?_) ?_]
       ·unfold skB
        split <;> rfl
       ·rw [wDB hi,nA,wEA,if_neg (by omega),wAK (x:=(i:Int) + 1) (by omega) (by omega)]
        rfl
       ·rw [wDB hi,nA,wEA,if_pos (by omega),wDz hk,nA,wLP,wPF,wAK (x:=((gd r.Teams i).Classes.length:Int) - 1) (by omega) (by omega),wEJ,nA,wAK (x:=(k:Int) + 1) (by omega) (by omega)]
        cases inB (gd (gd r.Teams i).Legs k).Skier 0 (((gd r.Teams i).Classes.length:Int) - 1) <;> rfl
     ·have ht:=hT i hi
      have h1:=ht.legs;have h2:=ht.cls
      rw [if_pos (by omega),wDB hi,nA,wIE,wEJ,nA,wLP,wQs (by omega),nA,wEA]
      unfold wSf
      cases inB (gd r.Teams i).Bib 1 999 <;> cases wLN (gd r.Teams i).Classes <;> simp only [Bool.not_true,Bool.not_false,nT,Bool.false_and,if_true,if_false,nG,wLd]
      rw [wDq (B:=Int ⊕ Int) (n:=(gd r.Teams i).Legs.length) (z:=.inl ((i:Int) + 1)) (fun k=>lpB (gd (gd r.Teams i).Legs k)) (.inr 3) (by omega) (fun k hk=>?_) ?_]
      ·rw [if_neg (by omega),wAK (x:=(i:Int) + 1) (by omega) (by omega)]
      ·have g1:=(hL i hi k hk).loops
       rw [if_pos (by omega),wDq (B:=Int ⊕ (Int ⊕ Int)) (z:=.inl ((k:Int) + 1)) (fun j=>inB (gd (gd (gd r.Teams i).Legs k).Loops j) 1 9000) (.inr (.inr 3)) (n:=(gd (gd r.Teams i).Legs k).Loops.length) (by omega) (fun j hj=>?_) ?_]
       ·unfold lpB
        split <;> rfl
       ·rw [wDz hk,nA,wDe,if_neg (by omega),wAK (x:=(k:Int) + 1) (by omega) (by omega)]
       ·rw [wDz hk,nA,wDe,if_pos (by omega),wAP hj,nA,wEJ,nA,wAK (x:=(j:Int) + 1) (by omega) (by omega)]
        cases inB (gd (gd (gd r.Teams i).Legs k).Loops j) 1 9000 <;> rfl
    ·have e2:inB r.Start 0 36000=false:=by simpa using e2
     rw [e2,if_pos (by rfl),if_neg (by simp)]
   ·have ht:=hT i hi
    have h1:=ht.legs
    rw [if_pos (by omega),wDB hi,nA,wLP,wEJ,nA,wEA,wSI,wQN]
    unfold sz
    by_cases c1:inB ((gd r.Teams i).Classes.length:Int) 1 8=true
    ·rw [c1,if_neg (by simp)]
     by_cases c2:(gd r.Teams i).Legs.length <= r.Rules.Classes.length
     ·rw [if_neg (by omega),wDq (B:=Int ⊕ Int) (n:=(gd r.Teams i).Legs.length) (z:=.inl ((i:Int) + 1)) (szL r.Rules (gd r.Teams i)) (.inr 2) (by omega) (fun k hk=>?_) ?_]
      ·simp only [c2,decide_true,nT]
      ·rw [if_neg (by omega),wAK (x:=(i:Int) + 1) (by omega) (by omega)]
       rfl
      ·have hl:=hL i hi k hk
       have g1:=hl.loops;have g2:=hl.bouts
       have hz:=wLQ r.Rules (gd r.Teams i) k
       rw [if_pos (by omega),wDz hk,nA,wDe,wGG,wAK (x:=(k:Int) + 1) (by omega) (by omega),wAK (x:=((gd (gd r.Teams i).Legs k).Loops.length:Int) - 1) (by omega) (by omega)]
       by_cases d1:(gd (gd r.Teams i).Legs k).Loops.length=0 <;> by_cases d2:r.Rules.Laps < ((gd (gd r.Teams i).Legs k).Loops.length:Int) <;> by_cases d3:k + 1 < (gd r.Teams i).Legs.length <;> by_cases d4:((gd (gd r.Teams i).Legs k).Loops.length:Int)=r.Rules.Laps <;> by_cases d5:(gd (gd r.Teams i).Legs k).Bouts.length=(gd (gd r.Teams i).Legs k).Loops.length - 1 <;>
       first
       | (exfalso;omega)
       | (rw [if_pos (hz.2 (by omega))];(repeat (first | rw [if_pos (by omega)] | rw [if_neg (by omega)])))
       | (rw [if_neg (c:=szL r.Rules (gd r.Teams i) k=true) (fun q=>by have:=hz.1 q;omega)];(repeat (first | rw [if_pos (by omega)] | rw [if_neg (by omega)]));done)
       | (rw [if_neg (c:=szL r.Rules (gd r.Teams i) k=true) (fun q=>by have:=hz.1 q;omega)];(repeat (first | rw [if_pos (by omega)] | rw [if_neg (by omega)]));rfl)
     ·rw [if_pos (by omega)]
      simp [c2]
    ·have c1:inB ((gd r.Teams i).Classes.length:Int) 1 8=false:=by simpa using c1
     rw [c1,if_pos (by rfl)]
     rfl
  ·have e1:inB (r.Teams.length:Int) 1 12=false:=by simpa using e1
   rw [e1,if_pos (by rfl),if_neg (by simp)]
 ·rw [if_neg e0,if_neg e0]
end Go.Proofs.YthbficbpebiekaaGreat
namespace Go.Proofs.YthbficbpebiekaaGreat
open Go.KL
theorem wKN {l:List wAC} {f:wAC->Option Bool} {p:wAC->Bool} (hf:∀ a ∈ l,f a=some (p a)) (hn:l.length <= 9223372036854775807):wAd l f=some (l.all p):=by
 unfold wAd wAQ wAS wAg
 have:=wEx (R:=Int) (l:=l) (f:=fun x=>(f x).bind fun x5=>some (!x5)) (p:=fun a=>!p a) (fun a ha=>by rw [hf a ha];rfl) hn id
 simp only [id] at this
 rw [this]
 simp only [nA,wEq]
 congr 1
 clear this hn hf
 induction l with
 | nil=>rfl
 | cons a l ih=>rw [nw,nl,<- ih];cases p a <;> simp
theorem wMM (a b:Nat->Bool):∀ m k,wDX (fun i=>a i && b i) m k=(wDX a m k && wDX b m k)
 | 0,_=>rfl
 | m + 1,k=>by
  rw [wDX,wDX,wDX,wMM a b m (k + 1)]
  cases a k <;> cases b k <;> simp
theorem wJd {E:Type} {f:Unit->(wAC × wAH)->Option (Unit ⊕ E)} {r:wAA} (g:wAC->wAH->Option E) (h:wID r) (hf:∀ t,wMJ t->∀ l,wPC l->f () (t,l)=some (out () (g t l))) :
  wAn f () r=some (out () (fnd (fun i=>fnd (fun j=>g (gd r.Teams i) (gd (gd r.Teams i).Legs j)) (gd r.Teams i).Legs.length 0) r.Teams.length 0)):=by
 unfold wAn
 have hn:=h.n
 rw [wGy (B:=Unit ⊕ E) (fun i=>(fnd (fun j=>g (gd r.Teams i) (gd (gd r.Teams i).Legs j)) (gd r.Teams i).Legs.length 0).map .inr) (by omega) fun i hi=>?_,wGU]
 ·cases fnd (fun i=>fnd (fun j=>g (gd r.Teams i) (gd (gd r.Teams i).Legs j)) (gd r.Teams i).Legs.length 0) r.Teams.length 0 <;> rfl
 ·have ht:=h.team _ (wAi hi)
  have h1:=ht.legs
  rw [wAP hi,nA,wGy (B:=Unit ⊕ (Unit ⊕ E)) (fun j=>(g (gd r.Teams i) (gd (gd r.Teams i).Legs j)).map fun e=>.inr (.inr e)) (by omega) fun j hj=>?_,wGU]
  ·cases fnd (fun j=>g (gd r.Teams i) (gd (gd r.Teams i).Legs j)) (gd r.Teams i).Legs.length 0 <;> rfl
  ·rw [wAP hj,nA,hf _ ht _ (ht.leg _ (wAi hj)),nA]
   cases g (gd r.Teams i) (gd (gd r.Teams i).Legs j) <;> rfl
theorem wIF (x:Int) (v:Bool):∀ l:List (Int × Bool),(mput l x v).map (·.1)=if x ∈ l.map (·.1) then l.map (·.1) else l.map (·.1) ++ [x]
 | []=>by simp [mput]
 | (y,u) :: l=>by
  rw [mput]
  by_cases e:x=y
  ·subst e
   simp
  ·rw [if_neg e,nk,wIF x v l]
   by_cases m:x ∈ l.map (·.1)
   ·rw [if_pos m,if_pos (by simp only [nk,nE];exact .inr m)]
    rfl
   ·rw [if_neg m,if_neg (by simp only [nk,nE];exact fun h=>h.elim e m)]
    rfl
def mk (r:wAA):Nat->List (Int × Bool)
 | 0=>[]
 | k + 1=>mput (mk r k) (gd r.Teams k).Bib true
theorem wPH (r:wAA) (b:Int):∀ k,b ∈ (mk r k).map (·.1) ↔ ∃ j,j < k/\(gd r.Teams j).Bib=b
 | 0=>by simp [mk]
 | k + 1=>by
  have ih:=wPH r b k
  rw [mk,wIF]
  constructor
  ·intro h
   split at h
   ·obtain ⟨j,h1,h2⟩:=ih.1 h
    exact ⟨j,by omega,h2⟩
   ·rcases nL.1 h with h | h
    ·obtain ⟨j,h1,h2⟩:=ih.1 h
     exact ⟨j,by omega,h2⟩
    ·exact ⟨k,by omega,(nY.1 h).symm⟩
  ·rintro ⟨j,h1,h2⟩
   by_cases e:j=k
   ·subst e
    subst h2
    split
    ·assumption
    ·simp
   ·have:=ih.2 ⟨j,by omega,h2⟩
    split
    ·exact this
    ·exact nL.2 (.inl this)
theorem wQt (r:wAA):∀ k,(mk r k).length <= k/\((mk r k).length=k ↔ ∀ i,i < k->twB r i=true)
 | 0=>⟨nI _,⟨fun _ i h=>by omega,fun _=>rfl⟩⟩
 | k + 1=>by
  obtain ⟨h1,h2⟩:=wQt r k
  have hk:=wIF (gd r.Teams k).Bib true (mk r k)
  have hl:(mk r (k + 1)).length=((mput (mk r k) (gd r.Teams k).Bib true).map (·.1)).length:=by rw [ng];rfl
  have ht:twB r k=true ↔ ¬ (gd r.Teams k).Bib ∈ (mk r k).map (·.1):=by
   rw [wPH]
   unfold twB
   rw [wDA]
   constructor
   ·rintro h ⟨j,h3,h4⟩
    have:=h j (by omega) (by omega)
    rw [h4] at this
    simp at this
   ·intro h i _ hi
    simp only [ny,decide_eq_false_iff_not]
    exact fun e=>h ⟨i,by omega,e.symm⟩
  rw [hl,hk]
  by_cases m:(gd r.Teams k).Bib ∈ (mk r k).map (·.1)
  ·rw [if_pos m,ng]
   refine ⟨by omega,fun h=>by omega,fun h=>?_⟩
   exact absurd m (ht.1 (h k (by omega)))
  ·rw [if_neg m,nv,ng,List.length_singleton]
   refine ⟨by omega,fun h i hi=>?_,fun h=>?_⟩
   ·by_cases e:i=k
    ·exact e ▸ ht.2 m
    ·exact h2.1 (by omega) i (by omega)
   ·have:=h2.2 fun i hi=>h i (by omega)
    omega
theorem wNA {r:wAA} (h:wID r):wCC r=some (code r):=by
 unfold wCC code
 have hn:=h.n;have hc:=h.cls
 rw [wPD (by omega),nA]
 by_cases e0:wNJ r.Rules=0
 ·rw [if_pos e0,if_pos e0,wDS,nA]
  by_cases e1:inB (r.Teams.length:Int) 1 12=true
  ·rw [if_pos e1,if_pos e1,wKN (p:=sz r.Rules) (fun t ht=>wSH (h.team t ht)) (by omega),nA,wHA]
   by_cases e2:wDX (fun i=>sz r.Rules (gd r.Teams i)) r.Teams.length 0=true
   ·rw [if_pos e2,if_pos e2,wDS,nA]
    unfold z2
    by_cases e3:inB r.Start 0 36000=true
    ·rw [if_pos e3,if_pos e3,wKN (p:=fun t=>inB t.Bib 1 999 && wLN t.Classes) (fun t ht=>by
      have:=(h.team t ht).cls
      unfold wBw
      rw [wDS,nA,wIv (by omega),nA]
      cases inB t.Bib 1 999 <;> rfl) (by omega),nA,wHA]
     have hb:wDX (fun i=>wSf (gd r.Teams i)) r.Teams.length 0=(wDX (fun i=>inB (gd r.Teams i).Bib 1 999 && wLN (gd r.Teams i).Classes) r.Teams.length 0 && wDX (fun i=>wDX (fun j=>lpB (gd (gd r.Teams i).Legs j)) (gd r.Teams i).Legs.length 0) r.Teams.length 0):=by
      rw [<- wMM]
      exact wIu _ _ fun i _ _=>by unfold wSf;rw [Bool.and_assoc]
     rw [hb]
     by_cases e4:wDX (fun i=>inB (gd r.Teams i).Bib 1 999 && wLN (gd r.Teams i).Classes) r.Teams.length 0=true
     ·rw [if_pos e4,e4,nT]
      unfold wBc
      rw [nA,wJd (fun _ l=>if lpB l=true then none else some (3:Int)) h fun t ht l hl=>?_,nA]
      ·simp only [wKM]
       by_cases e5:wDX (fun i=>wDX (fun j=>lpB (gd (gd r.Teams i).Legs j)) (gd r.Teams i).Legs.length 0) r.Teams.length 0=true
       ·rw [if_pos e5,if_pos e5]
        simp only [out,nA]
        rw [wJd (fun t l=>if inB l.Skier 0 ((t.Classes.length:Int) - 1)=true then none else some (1:Int)) h fun t ht l hl=>?_,nA]
        ·simp only [wKM]
         unfold z3
         by_cases e6:wDX (fun i=>skB (gd r.Teams i)) r.Teams.length 0=true
         ·have e6':=e6
          unfold skB at e6'
          rw [if_pos e6',if_pos e6]
          simp only [out,nA]
          rw [wJd (fun _ l=>shL l) h fun t ht l hl=>?_,nA]
          ·unfold z4
           have hs:fnd (fun i=>fnd (fun j=>shL (gd (gd r.Teams i).Legs j)) (gd r.Teams i).Legs.length 0) r.Teams.length 0=fnd (fun i=>shT (gd r.Teams i)) r.Teams.length 0:=rfl
           rw [hs]
           cases fnd (fun i=>shT (gd r.Teams i)) r.Teams.length 0 with
           | some c=>rfl
           | none =>
            simp only [out,kR]
            have:=wAv (S:=List (Int × Bool)) (n:=r.Teams.length) (body:=fun k640 l637=>(idx r.Teams (↑k640:Int)).bind fun x664=>some (mput l637 x664.Bib true)) (mk r) (s0:=[]) rfl (by omega) fun k hk=>by
             rw [wAP hk,nA]
             rfl
            rw [this,nA]
            obtain ⟨l1,l2⟩:=wQt r r.Teams.length
            unfold z5
            have hw:wDX (twB r) r.Teams.length 0=true ↔ ∀ i,i < r.Teams.length->twB r i=true:=by
             rw [wDA]
             exact ⟨fun q i hi=>q i (by omega) (by omega),fun q i _ hi=>q i (by omega)⟩
            by_cases e7:wDX (twB r) r.Teams.length 0=true
            ·have:=l2.2 (hw.1 e7)
             rw [if_pos e7,if_neg (by omega)]
            ·have:¬ (mk r r.Teams.length).length=r.Teams.length:=fun q=>e7 (hw.2 (l2.1 q))
             rw [if_neg e7,if_pos (by omega)]
          ·have g2:=hl.bouts
           simp only
           rw [wGy (B:=Unit ⊕ Int) (fun j=>(shB (gd l.Bouts j)).map .inr) (by omega) fun j hj=>?_,wGU]
           ·unfold shL
            cases fnd (fun j=>shB (gd l.Bouts j)) l.Bouts.length 0 <;> rfl
           ·have g3:=hl.bout _ (wAi hj)
            obtain ⟨s,e8⟩:=wPE (b:=gd l.Bouts j) (by omega)
            rw [wAP hj,nA,e8,nA]
            simp only
            unfold shB
            by_cases e9:wGV (gd l.Bouts j)=0
            ·rw [if_pos e9,if_pos e9];rfl
            ·rw [if_neg e9,if_neg e9];rfl
         ·have e6':=e6
          unfold skB at e6'
          rw [if_neg e6',if_neg e6]
          rfl
        ·have:=ht.cls
         simp only
         rw [wAK (by omega) (by omega),wDS,nA]
         cases inB l.Skier 0 ((t.Classes.length:Int) - 1) <;> rfl
       ·rw [if_neg e5,if_neg e5]
        rfl
      ·have g1:=hl.loops
       simp only
       rw [wHz (f:=wBV) (p:=fun n=>inB n 1 9000) (fun a=>by unfold wBV;rw [wDS];rfl) (by omega),nA,wHA]
       unfold lpB
       cases wDX (fun k=>inB (gd l.Loops k) 1 9000) l.Loops.length 0 <;> rfl
     ·have e4':wDX (fun i=>inB (gd r.Teams i).Bib 1 999 && wLN (gd r.Teams i).Classes) r.Teams.length 0=false:=by simpa using e4
      rw [e4',Bool.false_and,if_neg (by simp),if_neg (by simp)]
    ·rw [if_neg e3,if_neg e3]
   ·rw [if_neg e2,if_neg e2]
  ·rw [if_neg e1,if_neg e1]
 ·rw [if_neg e0,if_neg e0]
end Go.Proofs.YthbficbpebiekaaGreat
namespace Go.Proofs.YthbficbpebiekaaGreat
open Go.KL
theorem wDH {n lo hi:Int}:inB n lo hi=true ↔ lo <= n/\n <= hi:=by unfold inB;simp
theorem wHB {B:Type} (f:Nat->Option B):∀ m k,fnd f m k=none ↔ ∀ i,k <= i->i < k + m->f i=none
 | 0,k=>⟨fun _ i h1 h2=>by omega,fun _=>rfl⟩
 | m + 1,k=>by
  rw [fnd]
  cases h:f k with
  | some c=>exact ⟨fun q=>(by cases q),fun q=>(by rw [q k (by omega) (by omega)] at h;cases h)⟩
  | none =>
   simp only
   rw [wHB f m (k + 1)]
   constructor
   ·intro q i h1 h2
    by_cases e:i=k
    ·exact e ▸ h
    ·exact q i (by omega) (by omega)
   ·exact fun q i h1 h2=>q i (by omega) (by omega)
theorem wGf {α:Type} [Inhabited α] {l:List α} {a:α} (h:a ∈ l):∃ k,k < l.length/\gd l k=a:=by
 obtain ⟨k,hk,e⟩:=kE h
 exact ⟨k,hk,by rw [wLL hk];exact e⟩
theorem wMN {l:List Int}:wLN l=true ↔ ∀ c ∈ l,0 <= c/\c <= 3:=by
 unfold wLN
 rw [nU]
 exact ⟨fun h c hc=>wDH.1 (h c hc),fun h c hc=>wDH.2 (h c hc)⟩
theorem wTd {b:List Bool} (h:shB b=none):okB b:=by
 unfold shB at h
 by_cases e:wGV b=0
 ·unfold wGV at e
  by_cases h1:inB (b.length:Int) 5 8=true
  ·rw [if_pos h1] at e
   have:=wDH.1 h1
   by_cases h2:(wDp b 0).isSome=true
   ·obtain ⟨m,hm⟩:=Option.isSome_iff_exists.1 h2
    exact ⟨by omega,by omega,m,hm⟩
   ·rw [if_neg h2] at e
    omega
  ·rw [if_neg h1] at e
   omega
 ·rw [if_neg e] at h
  cases h
theorem wQP {p:wAB} (h:wNJ p=0):wGS p:=by
 unfold wNJ at h
 by_cases h1:inB (p.Classes.length:Int) 1 4=true
 ·rw [if_pos h1] at h
  by_cases h2:(wLN p.Classes && (inB p.Each 1 4 && (inB p.Laps 1 5 && (inB p.Spare 0 600 && (inB p.Loop 0 600 && inB p.Unused 0 6000)))))=true
  ·simp only [nB,wDH,wMN] at h2
   have:=wDH.1 h1
   exact ⟨by omega,h2.1,h2.2.1,h2.2.2.1,h2.2.2.2.1,h2.2.2.2.2.1,h2.2.2.2.2.2⟩
  ·rw [if_neg h2] at h
   omega
 ·rw [if_neg h1] at h
  omega
theorem wSg {p:Prop} [Decidable p] {a b:Int} (h:(if p then a else b)=0) (hb:b ≠ 0):p/\a=0:=by
 by_cases c:p
 ·rw [if_pos c] at h
  exact ⟨c,h⟩
 ·rw [if_neg c] at h
  exact absurd h hb
theorem wSJ {r:wAA} (h:code r=0):wEG r:=by
 unfold code at h
 have h0:wNJ r.Rules=0:=by
  by_cases c:wNJ r.Rules=0
  ·exact c
  ·rw [if_neg c] at h
   exact h
 rw [if_pos h0] at h
 have gp:=wQP h0
 obtain ⟨h1,h⟩:=wSg h (by omega)
 obtain ⟨h2,h⟩:=wSg h (by omega)
 unfold z2 at h
 obtain ⟨h3,h⟩:=wSg h (by omega)
 obtain ⟨h4,h⟩:=wSg h (by omega)
 unfold z3 at h
 obtain ⟨h5,h⟩:=wSg h (by omega)
 unfold z4 at h
 have h6:fnd (fun i=>shT (gd r.Teams i)) r.Teams.length 0=none:=by
  cases q:fnd (fun i=>shT (gd r.Teams i)) r.Teams.length 0 with
  | none=>rfl
  | some c =>
   rw [q] at h
   simp only [Option.getD_some] at h
   subst h
   have key:∀ {B:Type} (f:Nat->Option B) (m k:Nat) (c:B),fnd f m k=some c->∃ i,f i=some c:=by
    intro B f m
    induction m with
    | zero=>intro k c q;cases q
    | succ m ih =>
     intro k c q
     rw [fnd] at q
     cases e:f k with
     | none=>rw [e] at q;exact ih _ _ q
     | some d=>rw [e] at q;exact ⟨k,by rw [e];exact q⟩
   obtain ⟨i,q1⟩:=key _ _ _ _ q
   obtain ⟨k,q2⟩:=key _ _ _ _ q1
   obtain ⟨j,q3⟩:=key _ _ _ _ q2
   unfold shB at q3
   split at q3
   ·cases q3
   ·rename_i q4
    exact absurd (nH q3) q4
 rw [h6,kR] at h
 unfold z5 at h
 obtain ⟨h7,_⟩:=wSg h (by omega)
 have i1:=wDH.1 h1
 rw [wDA] at h2 h4 h5 h7
 rw [wHB] at h6
 refine ⟨gp,by omega,wDH.1 h3,fun t ht=>?_,?_⟩
 ·obtain ⟨i,hi,rfl⟩:=wGf ht
  have a2:=h2 i (by omega) (by omega)
  have a4:=h4 i (by omega) (by omega)
  have a5:=h5 i (by omega) (by omega)
  have a6:=h6 i (by omega) (by omega)
  unfold sz at a2
  unfold wSf at a4
  unfold skB at a5
  unfold shT at a6
  simp only [nB,wDA,wDH,wMN,decide_eq_true_eq] at a2 a4 a5
  rw [wHB] at a6
  obtain ⟨b1,b2,b3⟩:=a2
  refine ⟨a4.1,by omega,a4.2.1,b2,fun k hk=>((wLQ _ _ _).1 (b3 k (by omega) (by omega))).2.1 hk,fun l hl=>?_⟩
  obtain ⟨k,hk,rfl⟩:=wGf hl
  have c3:=(wLQ _ _ _).1 (b3 k (by omega) (by omega))
  have c4:=a4.2.2 k (by omega) (by omega)
  have c6:=a6 k (by omega) (by omega)
  unfold lpB at c4
  unfold shL at c6
  simp only [wDA,wDH] at c4
  rw [wHB] at c6
  have c5:=a5 k (by omega) (by omega)
  refine ⟨by omega,c3.2.2,fun n hn=>?_,by omega,fun b hb=>?_⟩
  ·obtain ⟨j,hj,rfl⟩:=wGf hn
   exact c4 j (by omega) (by omega)
  ·obtain ⟨j,hj,rfl⟩:=wGf hb
   exact wTd (c6 j (by omega) (by omega))
 ·rw [List.Nodup,List.pairwise_iff_getElem]
  intro i j hi hj hij
  simp only [ng] at hi hj
  have:=h7 j (by omega) (by omega)
  unfold twB at this
  rw [wDA] at this
  have:=this i (by omega) (by omega)
  simp only [ny,decide_eq_false_iff_not] at this
  rw [List.getElem_map,List.getElem_map,<- wLL hi,<- wLL hj]
  exact fun e=>this e.symm
end Go.Proofs.YthbficbpebiekaaGreat
namespace Go.Proofs.YthbficbpebiekaaGreat
open Go.KL
theorem wMO {b:List Bool} (h:okB b):wGV b=0:=by
 obtain ⟨h1,h2,m,hm⟩:=h
 unfold wGV
 rw [if_pos (wDH.2 ⟨by omega,by omega⟩),hm]
 rfl
theorem wLR {b:List Bool} (h:okB b):wAo b=some (⟨(b.length:Int) - 5,5 - (wEF b:Int),if wEF b < 5 then 8 - (b.length:Int) else 0⟩,0):=by
 obtain ⟨s,h1,h2⟩:=wML (b:=b) (by have:=h.2.1;omega)
 rw [h1,h2 (wMO h),wMO h]
theorem wMP {r:wAA} (gp:wGS r.Rules) {t:wAC} {l:wAH} (g:wJV r.Rules t l) {x:Int} (hx:0 <= x/\x <= 1000000) {m:Nat} (hm:m <= l.Loops.length) :
  wCQ 0 (m:Int) (fun k80 x79 =>
    (idx (cvL l).Loops (↑k80:Int)).bind fun x106 =>
    if 0 < (↑k80:Int) then
     (idx (cvL l).Bouts (w64 ((↑k80:Int) - 1))).bind fun x116 =>
     (wAo x116).bind fun (x129,_) =>
     some (w64 ((w64 ((w64 (x79 + x106)) + (w64 (x129.Spares * (cv r).Rules.Spare)))) + (w64 (x129.Loops * (cv r).Rules.Loop))))
    else
     some (w64 (x79 + x106))) x=some (tAt r.Rules l x m):=by
 have h3:=g.le;have h4:=gp.laps;have hb:=g.bouts
 refine wAv (fun k=>tAt r.Rules l x k) rfl (by omega) fun k hk=>?_
 have h1:=g.loops _ (wAi (k:=k) (by omega))
 have h2:=wGB gp g x k (by omega)
 rw [wDe,wAP (by omega),nA,tAt]
 by_cases c:0 < k
 ·have ho:=g.ok _ (wAi (k:=k - 1) (by omega))
  have hq:=wJW gp ho
  rw [if_pos (by omega),if_pos c,wGG,wAK (x:=(k:Int) - 1) (by omega) (by omega),show (k:Int) - 1=((k - 1:Nat):Int) by omega,wAP (by omega),nA,wLR ho,nA]
  simp only
  rw [show (cv r).Rules.Spare=r.Rules.Spare from rfl,show (cv r).Rules.Loop=r.Rules.Loop from rfl]
  unfold bc
  rw [wAK (x:=tAt r.Rules l x k + gd l.Loops k) (by omega) (by omega),wAK (x:=(((gd l.Bouts (k - 1)).length:Int) - 5) * r.Rules.Spare) (by omega) (by omega),wAK (x:=(5 - (wEF (gd l.Bouts (k - 1)):Int)) * r.Rules.Loop) (by omega) (by omega),wAK (x:=tAt r.Rules l x k + gd l.Loops k + (((gd l.Bouts (k - 1)).length:Int) - 5) * r.Rules.Spare) (by omega) (by omega),wAK (by omega) (by omega)]
  congr 1
  omega
 ·rw [if_neg (by omega),if_neg c,wAK (by omega) (by omega)]
  congr 1
  omega
theorem wNB {p:wAB} (a:wAH) (l:List wAH) (x:Int):wDV p (l ++ [a]) x=wJl p a (wDV p l x):=(wEI p a l x).2
theorem wKO {r:wAA} (g:wEG r) {i:Nat} (hi:i < r.Teams.length) {k:Nat} (hk:k < (gd r.Teams i).Legs.length) {m:Nat} (hm:m <= (gd (gd r.Teams i).Legs k).Loops.length) :
  wBa (cv r) (i:Int) (k:Int) (m:Int)=some (tAt r.Rules (gd (gd r.Teams i).Legs k) (wDV r.Rules ((gd r.Teams i).Legs.take k) r.Start) m):=by
 unfold wBa
 have gt:=g.team _ (wAi hi)
 have hs:=g.start;have hl:=gt.legs;have hc:=g.rules.n
 have hr:∀ j,j <= (gd r.Teams i).Legs.length->0 <= wDV r.Rules ((gd r.Teams i).Legs.take j) r.Start/\wDV r.Rules ((gd r.Teams i).Legs.take j) r.Start <= 1000000:=fun j hj=>by
  have:=wFZ g.rules ((gd r.Teams i).Legs.take j) r.Start fun a ha=>gt.leg a (ni ha)
  rw [nj] at this
  omega
 rw [show (k:Int) + 1=((k + 1:Nat):Int) by omega,wJc,wAv (fun j=>if j <= k then wDV r.Rules ((gd r.Teams i).Legs.take j) r.Start else tAt r.Rules (gd (gd r.Teams i).Legs k) (wDV r.Rules ((gd r.Teams i).Legs.take k) r.Start) m) (s0:=r.Start) ?_ (by omega) fun j hj=>?_]
 ·rw [nA,if_neg (by omega)]
 ·rw [if_pos (by omega)]
  rfl
 ·rw [wDB hi,nA,wDz (by omega),nA]
  have gl:=gt.leg _ (wAi (k:=j) (by omega))
  by_cases c:j=k
  ·subst c
   rw [if_pos (c:=(j:Int)=(j:Int)) rfl,if_pos (c:=j <= j) (by omega),wMP g.rules gl (hr j (by omega)) hm,nA,if_neg (c:=j + 1 <= j) (by omega)]
  ·rw [if_neg (c:=(j:Int)=(k:Int)) (by omega),if_pos (c:=j <= k) (by omega),if_pos (c:=j + 1 <= k) (by omega),show ((cvL (gd (gd r.Teams i).Legs j)).Loops.length:Int)=((gd (gd r.Teams i).Legs j).Loops.length:Int) from rfl,wMP g.rules gl (hr j (by omega)) (nI _),nA,wCd (by omega),wNB]
   rfl
theorem wKP (p:wAB) (a:wAH):∀ (l:List wAH) (x:Int),wGA p (l ++ [a]) x=wGA p l x ++ if (a.Loops.length:Int)=p.Laps then [wJl p a (wDV p l x)] else []
 | [],x=>by
  rw [nQ,wGA,wGA,wGA,wDV]
  split <;> rfl
 | b :: l,x=>by
  rw [nN,wGA,wGA,wDV,wKP p a l]
  split <;> rfl
theorem wPI {r:wAA} (g:wEG r) (hc0:wAj (cv r)=some 0):wAX (cv r)=some (wCW r,0):=by
 unfold wAX
 have hn:=g.n
 rw [hc0,nA,if_pos rfl,wLO]
 refine wGT (m:=r.Teams.length) (fun i=>((r.Teams.take i).map fun t=>wGA r.Rules t.Legs r.Start,(i:Int))) (fun i hi=>?_) ?_ rfl (by omega)
 ·have gt:=g.team _ (wAi hi)
  have hl:=gt.legs;have hc:=g.rules.n
  simp only
  rw [if_pos (by omega)]
  refine wGT (m:=(gd r.Teams i).Legs.length) (fun k=>(wGA r.Rules ((gd r.Teams i).Legs.take k) r.Start,(k:Int))) (fun k hk=>?_) ?_ rfl (by omega)
  ·have hlen:=wGw r.Rules ((gd r.Teams i).Legs.take k) r.Start
   rw [nj] at hlen
   simp only
   rw [wDB hi,nA,wEA,if_pos (by omega),wDz hk,nA,wDe,show (cv r).Rules.Laps=r.Rules.Laps from rfl,wCd hk,wKP]
   by_cases c:((gd (gd r.Teams i).Legs k).Loops.length:Int)=r.Rules.Laps
   ·rw [if_pos c,if_pos c,<- c,wKO g hi hk (nI _),nA,wCE (by simp;omega),nA,wAK (by omega) (by omega)]
    rfl
   ·rw [if_neg c,if_neg c,wAK (by omega) (by omega),np]
    rfl
  ·simp only
   rw [wDB hi,nA,wEA,if_neg (by omega),nJ,wCE (by simp;omega),nA,wAK (by omega) (by omega),wCd hi,nM]
   rfl
 ·simp only
  rw [if_neg (by omega),nJ]
  rfl
end Go.Proofs.YthbficbpebiekaaGreat
namespace Go.Proofs.YthbficbpebiekaaGreat
open Go.KL
theorem wPJ {r:wAA} (g:wEG r) (hc0:wAj (cv r)=some 0):wBP (cv r)=some (⟨(wJY r).Laps,(wJY r).Bibs,(wJY r).Times⟩,0):=by
 unfold wBP
 have hn:=g.n;have hc:=g.rules.n;have hlap:=g.rules.laps
 rw [hc0,nA,if_pos rfl,wLO]
 refine wGT (m:=r.Teams.length) (fun i=>((r.Teams.take i).map (·.Bib),(r.Teams.take i).map fun t=>wEH r.Rules t.Legs r.Start,(i:Int))) (fun i hi=>?_) ?_ rfl (by omega)
 ·have gt:=g.team _ (wAi hi)
  have hl:=gt.legs
  simp only
  rw [if_pos (by omega)]
  refine wGT (m:=(gd r.Teams i).Legs.length) (fun k=>(wEH r.Rules ((gd r.Teams i).Legs.take k) r.Start,(k:Int))) (fun k hk=>?_) ?_ rfl (by omega)
  ·have gl:=gt.leg _ (wAi hk)
   have hle:=gl.le
   have hlen:=wDP g.rules ((gd r.Teams i).Legs.take k) r.Start fun a ha=>gt.leg a (ni ha)
   rw [nj] at hlen
   simp only
   rw [wDB hi,nA,wEA,if_pos (by omega)]
   refine wGT (m:=(gd (gd r.Teams i).Legs k).Loops.length) (fun j=>(wEH r.Rules ((gd r.Teams i).Legs.take k) r.Start ++ (nO j).map (fun q=>tAt r.Rules (gd (gd r.Teams i).Legs k) (wDV r.Rules ((gd r.Teams i).Legs.take k) r.Start) (q + 1)),(j:Int) + 1)) (fun j hj=>?_) ?_ (by simp) (by omega)
   ·simp only
    rw [wDz hk,nA,wDe,if_pos (by omega),show (j:Int) + 1=((j + 1:Nat):Int) by omega,wKO g hi hk (by omega),nA,wCE (by simp;omega),nA,wAK (by omega) (by omega),nz,nM,nK]
    rfl
   ·simp only
    rw [wDz hk,nA,wDe,if_neg (by omega),wAK (by omega) (by omega),wCd hk,(wEI r.Rules (gd (gd r.Teams i).Legs k) ((gd r.Teams i).Legs.take k) r.Start).1]
    rfl
  ·simp only
   have hlen:=wDP g.rules (gd r.Teams i).Legs r.Start gt.leg
   rw [wDB hi,nA,wEA,if_neg (by omega),nJ,wIE,wCE (by simp;omega),nA,wCE (by simp;omega),nA,wAK (by omega) (by omega),wCd hi,nM,nM]
   rfl
 ·simp only
  rw [if_neg (by omega),nJ]
  obtain ⟨L,hL⟩:∃ L:Nat,r.Rules.Laps=L:=⟨r.Rules.Laps.toNat,by omega⟩
  have hm:(r.Rules.Classes.length:Int) * r.Rules.Laps=((r.Rules.Classes.length * L:Nat):Int):=by rw [hL,Int.natCast_mul]
  have hhi:r.Rules.Classes.length * L <= 20:=nc (Nat.mul_le_mul hc.2 (show L <= 5 by omega)) (by omega)
  rw [show (((cv r).Rules.Classes.length:Int) * (cv r).Rules.Laps)=(r.Rules.Classes.length:Int) * r.Rules.Laps from rfl,wAK (by omega) (by omega)]
  rfl
theorem wMQ:∀ (X:List Int) (b:Int) (j:Nat),j < X.length->gd (wDx X b) j=gd X j - if j=0 then b else gd X (j - 1)
 | a :: X,b,0,_=>rfl
 | a :: X,b,j + 1,h=>by
  have ih:=wMQ X a j (by simpa using h)
  rw [if_neg (by omega)]
  rw [show gd (wDx (a :: X) b) (j + 1)=gd (wDx X a) j from rfl,ih,show gd (a :: X) (j + 1)=gd X j from rfl]
  cases j with
  | zero=>rfl
  | succ j=>rfl
theorem wIG {r:wAA} (g:wEG r) {i:Nat} (hi:i < r.Teams.length):gd (wCW r) i=wGA r.Rules (gd r.Teams i).Legs r.Start/\(∀ e ∈ gd (wCW r) i,r.Start <= e/\e <= 1000000)/\(gd (wCW r) i).length <= 4:=by
 have gt:=g.team _ (wAi hi)
 have h1:=gt.legs;have h2:=g.rules.n;have h3:=g.start
 have e:gd (wCW r) i=wGA r.Rules (gd r.Teams i).Legs r.Start:=by
  unfold wCW
  rw [wEX _ hi]
 refine ⟨e,fun x hx=>?_,?_⟩
 ·rw [e] at hx
  have:=wEy g.rules (gd r.Teams i).Legs r.Start gt.leg x hx
  omega
 ·rw [e]
  have:=wGw r.Rules (gd r.Teams i).Legs r.Start
  omega
theorem wJe {r:wAA} (g:wEG r) (ht:wAX (cv r)=some (wCW r,0)):wAp (cv r)=some (wCP r,0):=by
 unfold wAp
 have hn:=g.n;have hs:=g.start
 have lT:(wCW r).length=r.Teams.length:=by simp [wCW]
 rw [ht,nA]
 simp only
 rw [if_pos trivial,wAv (fun k=>(r.Teams.take k).map fun t=>wDx (wGA r.Rules t.Legs r.Start) r.Start) (s0:=[]) rfl (by omega) fun i hi=>?_]
 ·rw [nA,lT,nJ]
  rfl
 ·have hi':i < r.Teams.length:=by omega
  obtain ⟨e,hr,h4⟩:=wIG g hi'
  rw [wCd hi',nM,kK,<- e]
  generalize hX:gd (wCW r) i=X at hr h4
  refine wGT (m:=X.length) (fun j=>((wDx X r.Start).take j,(j:Int))) (fun j hj=>?_) ?_ rfl (by omega)
  ·have a1:=hr _ (wAi hj)
   have hlen:((wDx X r.Start).take j).length <= j:=by rw [nj];omega
   have hd:=wMQ X r.Start j hj
   simp only
   rw [wAP hi,nA,hX,if_pos (by omega),wCd (l:=wDx X r.Start) (by rw [wGC];exact hj),hd,wJc]
   by_cases c:j=0
   ·subst c
    rw [if_pos rfl,if_pos (by rfl),show ((0:Nat):Int)=((0:Nat):Int) from rfl,wAP hj,nA,wAK (x:=gd X 0 - r.Start) (by omega) (by omega),wCE (by simp),nA,wAK (by omega) (by omega)]
    rfl
   ·have a2:=hr _ (wAi (k:=j - 1) (by omega))
    rw [if_neg (by omega),if_neg c,wAP hj,nA,wAK (x:=(j:Int) - 1) (by omega) (by omega),show (j:Int) - 1=((j - 1:Nat):Int) by omega,wAP (by omega),nA,wAK (x:=gd X j - gd X (j - 1)) (by omega) (by omega),wCE (by simp;omega),nA,wAK (by omega) (by omega)]
    rfl
  ·simp only
   rw [wAP hi,nA,hX,if_neg (by omega),show (wDx X r.Start).take X.length=wDx X r.Start from List.take_of_length_le (by rw [wGC];exact nI _),wCE (by simp;omega),nA]
   rfl
theorem wNC {r:wAA} (g:wEG r) (ht:wAX (cv r)=some (wCW r,0)) {x:Nat} (hx:x < r.Rules.Classes.length):wAe (cv r) (x:Int)=some ((nO (wCW r).length).map (plc (wCW r) x),0):=by
 unfold wAe
 have hn:=g.n;have hc:=g.rules.n
 have lT:(wCW r).length=r.Teams.length:=by simp [wCW]
 rw [ht,nA]
 simp only
 rw [if_pos trivial,show ((cv r).Rules.Classes.length:Int)=(r.Rules.Classes.length:Int) from rfl,wAK (by omega) (by omega),wEJ,nA,wDH.2 ⟨by omega,by omega⟩,if_neg (by simp)]
 generalize wCW r=T at lT
 rw [wAv (fun m=>(nO m).map (plc T x)) (s0:=[]) rfl (by omega) fun i hi=>?_]
 ·rw [nA]
 ·rw [wAP hi,nA,nz,nM,kK]
  unfold plc
  by_cases h1:x < (gd T i).length
  ·rw [if_pos (by omega),wQL h1 (by omega),nA,wCE (by simp;omega),nA,if_pos h1]
  ·rw [if_neg (by omega),wCE (by simp;omega),nA,if_neg h1]
end Go.Proofs.YthbficbpebiekaaGreat
namespace Go.Proofs.YthbficbpebiekaaGreat
open Go.KL
def fbT (D:List (List Int)) (x:Nat):Nat->Int × Bool
 | 0=>(0,false)
 | m + 1=>if x < (gd D m).length then (if (fbT D x m).2=true then (if gd (gd D m) x < (fbT D x m).1 then (gd (gd D m) x,true) else fbT D x m) else (gd (gd D m) x,true)) else fbT D x m
theorem wPK (D:List (List Int)) (x:Nat) (hlt:∀ k,k < D.length->x < (gd D k).length->gd (gd D k) x < 360000):∀ m,m <= D.length->((fbT D x m).2=true->(fbT D x m).1=wCI D x m/\∃ k,k < m/\x < (gd D k).length)/\((fbT D x m).2=false->wCI D x m=360000/\∀ k,k < m->¬ x < (gd D k).length)
 | 0,_=>⟨fun h=>by simp [fbT] at h,fun _=>⟨rfl,fun k hk=>by omega⟩⟩
 | m + 1,hm=>by
  obtain ⟨h1,h2⟩:=wPK D x hlt m (by omega)
  rw [fbT,wCI]
  by_cases c:x < (gd D m).length
  ·have hv:=hlt m (by omega) c
   rw [if_pos c,if_pos c]
   cases hb:(fbT D x m).2 with
   | true =>
    obtain ⟨e,k,hk,hx⟩:=h1 hb
    rw [if_pos rfl,e]
    by_cases d:gd (gd D m) x < wCI D x m
    ·rw [if_pos d]
     exact ⟨fun _=>⟨by simp only;omega,m,by omega,c⟩,fun h=>by cases h⟩
    ·rw [if_neg d]
     exact ⟨fun _=>⟨by rw [e];omega,m,by omega,c⟩,fun h=>by rw [hb] at h;cases h⟩
   | false =>
    obtain ⟨e,_⟩:=h2 hb
    rw [if_neg (by simp),e]
    exact ⟨fun _=>⟨by simp only;omega,m,by omega,c⟩,fun h=>by cases h⟩
  ·rw [if_neg c,if_neg c]
   refine ⟨fun h=>?_,fun h=>?_⟩
   ·obtain ⟨e,k,hk,hx⟩:=h1 h
    exact ⟨e,k,by omega,hx⟩
   ·obtain ⟨e,q⟩:=h2 h
    refine ⟨e,fun k hk=>?_⟩
    by_cases d:k=m
    ·exact d ▸ c
    ·exact q k (by omega)
def wKQ (D:List (List Int)) (x:Nat) (v:Int) (ts:List wAC) (b:Int):Nat->List Int
 | 0=>[]
 | m + 1=>if (gd ts m).Bib=b/\x < (gd D m).length/\gd (gd D m) x=v then wKQ D x v ts b m ++ [b] else wKQ D x v ts b m
def wFa (D:List (List Int)) (x:Nat) (v:Int) (ts:List wAC) (n:Nat):Nat->List Int
 | 0=>[]
 | q + 1=>wFa D x v ts n q ++ wKQ D x v ts (1 + (q:Int)) n
theorem wJf (D:List (List Int)) (x:Nat) (v:Int) (ts:List wAC) (b:Int):∀ m,(wKQ D x v ts b m).length <= m
 | 0=>nI _
 | m + 1=>by
  have:=wJf D x v ts b m
  rw [wKQ]
  split
  ·simp;omega
  ·omega
theorem wKR (D:List (List Int)) (x:Nat) (v:Int) (ts:List wAC) (n:Nat):∀ q,(wFa D x v ts n q).length <= n * q
 | 0=>nI _
 | q + 1=>by
  have h1:=wKR D x v ts n q
  have h2:=wJf D x v ts (1 + (q:Int)) n
  rw [wFa,nv,Nat.mul_succ]
  omega
theorem wHC (D:List (List Int)) (x:Nat) (v:Int) (ts:List wAC) (b a:Int):∀ m,a ∈ wKQ D x v ts b m ↔ a=b/\∃ k,k < m/\x < (gd D k).length/\gd (gd D k) x=v/\(gd ts k).Bib=b
 | 0=>by simp [wKQ]
 | m + 1=>by
  have ih:=wHC D x v ts b a m
  rw [wKQ]
  split
  ·rename_i h
   rw [nL,nY,ih]
   constructor
   ·rintro (⟨e,k,hk,q⟩ | e)
    ·exact ⟨e,k,by omega,q⟩
    ·exact ⟨e,m,by omega,h.2.1,h.2.2,h.1⟩
   ·exact fun q=>.inr q.1
  ·rename_i h
   rw [ih]
   constructor
   ·rintro ⟨e,k,hk,q⟩
    exact ⟨e,k,by omega,q⟩
   ·rintro ⟨e,k,hk,q1,q2,q3⟩
    by_cases d:k=m
    ·subst d
     exact absurd ⟨q3,q1,q2⟩ h
    ·exact ⟨e,k,by omega,q1,q2,q3⟩
theorem wMR {D:List (List Int)} {x:Nat} {v:Int} {ts:List wAC} {b:Int} (hb:∀ i j,i < ts.length->j < ts.length->(gd ts i).Bib=(gd ts j).Bib->i=j):∀ m,m <= ts.length->(wKQ D x v ts b m).length <= 1
 | 0,_=>nt _
 | m + 1,hm=>by
  have ih:=wMR (D:=D) (x:=x) (v:=v) (b:=b) hb m (by omega)
  rw [wKQ]
  split
  ·rename_i h
   have:wKQ D x v ts b m=[]:=by
    cases e:wKQ D x v ts b m with
    | nil=>rfl
    | cons a l =>
     have:a ∈ wKQ D x v ts b m:=by rw [e];simp
     obtain ⟨_,k,hk,_,_,q⟩:=(wHC D x v ts b a m).1 this
     have:=hb k m (by omega) (by omega) (q.trans h.1.symm)
     omega
   rw [this]
   simp
  ·exact ih
theorem wIH (D:List (List Int)) (x:Nat) (v:Int) (ts:List wAC) (n:Nat) (a:Int):∀ q,a ∈ wFa D x v ts n q ↔ (1 <= a/\a <= q)/\∃ k,k < n/\x < (gd D k).length/\gd (gd D k) x=v/\(gd ts k).Bib=a
 | 0=>by
  constructor
  ·intro h;cases h
  ·rintro ⟨h,_⟩;omega
 | q + 1=>by
  rw [wFa,nL,wIH D x v ts n a q,wHC]
  constructor
  ·rintro (⟨h,k⟩ | ⟨e,k⟩)
   ·exact ⟨by omega,k⟩
   ·exact ⟨by omega,e ▸ k⟩
  ·rintro ⟨h,k⟩
   by_cases c:a=1 + (q:Int)
   ·exact .inr ⟨c,c ▸ k⟩
   ·exact .inl ⟨by omega,k⟩
theorem wMS {D:List (List Int)} {x:Nat} {v:Int} {ts:List wAC} (hb:∀ i j,i < ts.length->j < ts.length->(gd ts i).Bib=(gd ts j).Bib->i=j):∀ q,(wFa D x v ts ts.length q).Pairwise (· < ·)
 | 0=>kQ
 | q + 1=>by
  rw [wFa,nb]
  refine ⟨wMS hb q,?_,fun a ha b hb'=>?_⟩
  ·have:=wMR (D:=D) (x:=x) (v:=v) (b:=1 + (q:Int)) hb ts.length (nI _)
   cases e:wKQ D x v ts (1 + (q:Int)) ts.length with
   | nil=>exact kQ
   | cons a l =>
    rw [e] at this
    cases l with
    | nil=>exact List.pairwise_singleton _ _
    | cons b l=>simp at this
  ·have h1:=(wIH D x v ts ts.length a q).1 ha
   have h2:=(wHC D x v ts (1 + (q:Int)) b ts.length).1 hb'
   omega
theorem wQu:∀ {l m:List Int},l.Pairwise (· < ·)->m.Pairwise (· < ·)->(∀ a,a ∈ l ↔ a ∈ m)->l=m
 | [],[],_,_,_=>rfl
 | [],b :: m,_,_,h=>by have:=(h b).2 (by simp);cases this
 | a :: l,[],_,_,h=>by have:=(h a).1 (by simp);cases this
 | a :: l,b :: m,h1,h2,h=>by
  rw [nX] at h1 h2
  have e:a=b:=by
   rcases nE.1 ((h a).1 (by simp)) with q | q
   ·exact q
   ·rcases nE.1 ((h b).2 (by simp)) with p | p
    ·exact p.symm
    ·have:=h1.1 b p;have:=h2.1 a q
     omega
  subst e
  rw [wQu h1.2 h2.2 fun c=>?_]
  constructor
  ·intro hc
   rcases nE.1 ((h c).1 (by simp [hc])) with q | q
   ·have:=h1.1 c hc
    omega
   ·exact q
  ·intro hc
   rcases nE.1 ((h c).2 (by simp [hc])) with q | q
   ·have:=h2.1 c hc
    omega
   ·exact q
theorem wII {D:List (List Int)} {x:Nat} {v:Int} {ts:List wAC} (hb:∀ i j,i < ts.length->j < ts.length->(gd ts i).Bib=(gd ts j).Bib->i=j):∀ m,m <= ts.length->(wDy D x v ts m).Nodup
 | 0,_=>List.nodup_nil
 | m + 1,hm=>by
  have ih:=wII (D:=D) (x:=x) (v:=v) hb m (by omega)
  rw [wDy]
  split
  ·rw [kO]
   refine ⟨ih,by simp,fun a ha b hb' e=>?_⟩
   obtain ⟨k,hk,_,_,q⟩:=(wGE D x v ts a m).1 ha
   have:=hb k m (by omega) (by omega) (by rw [q,e];exact nY.1 hb')
   omega
  ·exact ih
theorem wTe {l:List Int} (h:l.Nodup):(srt l).Pairwise (· < ·):=by
 have h1:(srt l).Pairwise (fun a b=>decide (a <= b)=true):=List.pairwise_mergeSort (by simp;omega) (by simp;omega) l
 have h2:(srt l).Nodup:=(List.mergeSort_perm l _).nodup_iff.2 h
 refine (h1.and h2).imp fun {a b} q=>?_
 have:=of_decide_eq_true q.1
 have:=q.2
 omega
theorem wMT {r:wAA} (g:wEG r):∀ i j,i < r.Teams.length->j < r.Teams.length->(gd r.Teams i).Bib=(gd r.Teams j).Bib->i=j:=fun i j hi hj h=>by
 have hb1:=wEX (·.Bib) (l:=r.Teams) hi
 have hb2:=wEX (·.Bib) (l:=r.Teams) hj
 rw [wLL (by simpa using hi)] at hb1
 rw [wLL (by simpa using hj)] at hb2
 exact (List.getElem_inj g.bibs).1 (hb1.trans (h.trans hb2.symm))
theorem wQQ {r:wAA} (g:wEG r) (D:List (List Int)) (x:Nat) (v:Int):wFa D x v r.Teams r.Teams.length 999=srt (wDy D x v r.Teams r.Teams.length):=by
 refine wQu (wMS (wMT g) 999) (wTe (wII (wMT g) _ (nI _))) fun a=>?_
 unfold srt
 rw [List.mem_mergeSort,wIH,wGE]
 constructor
 ·exact fun h=>h.2
 ·rintro ⟨k,hk,q1,q2,q3⟩
  have:=(g.team _ (wAi hk)).bib
  exact ⟨by omega,k,hk,q1,q2,q3⟩
theorem wPL {r:wAA} (g:wEG r) (D:List (List Int)) (x:Nat) (lD:D.length=r.Teams.length):wFa D x (wCI D x D.length) r.Teams D.length 999=srt (wDy D x (wCI D x D.length) r.Teams D.length):=by
 have:=wQQ g D x (wCI D x D.length)
 rw [<- lD] at this
 exact this
theorem wLS {r:wAA} (g:wEG r) (ht:wAp (cv r)=some (wCP r,0)) {x:Nat} (hx:x < r.Rules.Classes.length):wAb (cv r) (x:Int)=wBM r (x:Int):=by
  rw [wIt g hx]
  unfold wAb
  have hn:=g.n;have hc:=g.rules.n
  have lD:(wCP r).length=r.Teams.length:=by simp [wCP]
  have hfb:=wPK (wCP r) x (fun k hk hx=>wPB g hk hx) (wCP r).length (nI _)
  have hlt:=fun k hk hx=>wPB g (k:=k) (x:=x) hk hx
  rw [ht,nA]
  simp only
  rw [if_pos trivial,show ((cv r).Rules.Classes.length:Int)=(r.Rules.Classes.length:Int) from rfl,wAK (by omega) (by omega),wEJ,nA,wDH.2 ⟨by omega,by omega⟩,if_neg (by simp)]
  have hmem:=wGE (wCP r) x (wCI (wCP r) x (wCP r).length) r.Teams
  have hbest:=wMG (wCP r) x (wCP r).length
  have hat:=wMH (wCP r) x (wCP r).length
  generalize wCP r=D at lD hfb hlt hmem hbest hat
  rw [wAv (fun m=>fbT D x m) (s0:=(0,false)) rfl (by omega) fun i hi=>?_]
  · rw [nA]
    cases hb:(fbT D x D.length).2 with
    | false =>
      obtain ⟨_,h2⟩:=hfb.2 hb
      have hnil:(wDy D x (wCI D x D.length) r.Teams D.length).length=0:=by
        cases e:wDy D x (wCI D x D.length) r.Teams D.length with
        | nil=>rfl
        | cons a l =>
          obtain ⟨k,hk,q,_⟩:=(hmem a D.length).1 (by rw [e];simp)
          exact absurd q (h2 k hk)
      rw [if_pos hnil]
      generalize hp:fbT D x D.length=p at hb
      obtain ⟨p1,p2⟩:=p
      simp only at hb ⊢
      subst hb
      rw [if_neg (by simp)]
    | true =>
      obtain ⟨h1,k,hk,hx'⟩:=hfb.1 hb
      have hne:¬ (wDy D x (wCI D x D.length) r.Teams D.length).length=0:=by
        intro e
        have h3:=hbest k hk hx'
        have h4:=hlt k hk hx'
        rcases hat with q | ⟨j,q1,q2,q3⟩
        · omega
        · have:=(hmem (gd r.Teams j).Bib D.length).2 ⟨j,q1,q2,q3,rfl⟩
          rw [List.length_eq_zero_iff.1 e] at this
          cases this
      rw [if_neg hne,<- wPL g D x lD]
      generalize hp:fbT D x D.length=p at hb h1
      obtain ⟨p1,p2⟩:=p
      simp only at hb h1 ⊢
      subst hb
      subst h1
      rw [if_pos trivial]
      have key:∀ q:Nat,q < 999->wCQ 0 (↑D.length:Int) (fun k227 l224 =>
            (idx (cv r).Teams (↑k227:Int)).bind fun x251 =>
            if x251.Bib=(1 + ↑q:Int) then
              (idx D (↑k227:Int)).bind fun x274 =>
              if (x:Int) < (↑x274.length:Int) then
                (idx x274 (x:Int)).bind fun x300 =>
                if x300=wCI D x D.length then
                  (app 8 l224 [(1 + ↑q:Int)]).bind fun x314 =>
                  some x314
                else
                  some l224
              else
                some l224
            else
              some l224) (wFa D x (wCI D x D.length) r.Teams D.length q)=some (wFa D x (wCI D x D.length) r.Teams D.length (q + 1)):=fun q hq=>by
        have hfl:=wKR D x (wCI D x D.length) r.Teams D.length q
        have hfl:(wFa D x (wCI D x D.length) r.Teams D.length q).length <= 12000:=nc hfl (nc (Nat.mul_le_mul (show D.length <= 12 by omega) (show q <= 1000 by omega)) (by omega))
        refine wAv (fun m=>wFa D x (wCI D x D.length) r.Teams D.length q ++ wKQ D x (wCI D x D.length) r.Teams (1 + (q:Int)) m) (by simp [wKQ]) (by omega) fun i hi=>?_
        have hsl:=wJf D x (wCI D x D.length) r.Teams (1 + (q:Int)) i
        rw [wDB (by omega),nA,wIE,wKQ]
        by_cases c1:(gd r.Teams i).Bib=1 + (q:Int)
        · rw [if_pos c1,wAP hi,nA]
          by_cases c2:x < (gd D i).length
          · rw [if_pos (by omega),wAP c2,nA]
            by_cases c3:gd (gd D i) x=wCI D x D.length
            · rw [if_pos c3,wCE (by simp;omega),nA,if_pos ⟨c1,c2,c3⟩,nK]
            · rw [if_neg c3,if_neg fun h=>c3 h.2.2]
          · rw [if_neg (by omega),if_neg fun h=>c2 h.2.1]
        · rw [if_neg c1,if_neg fun h=>c1 h.1]
      unfold wCQ
      rw [if_pos (by omega),show ((999 + 1:Int) - 1).toNat=999 from rfl]
      have:=wHy (body:=fun k188 l184=>(wCQ 0 (↑D.length:Int) (fun k227 l224 =>
            (idx (cv r).Teams (↑k227:Int)).bind fun x251 =>
            if x251.Bib=(1 + ↑k188:Int) then
              (idx D (↑k227:Int)).bind fun x274 =>
              if (x:Int) < (↑x274.length:Int) then
                (idx x274 (x:Int)).bind fun x300 =>
                if x300=wCI D x D.length then
                  (app 8 l224 [(1 + ↑k188:Int)]).bind fun x314 =>
                  some x314
                else
                  some l224
              else
                some l224
            else
              some l224) l184).bind fun y232=>some y232) (fun q=>wFa D x (wCI D x D.length) r.Teams D.length q) 999 0 fun q _ hq=>by
        rw [key q (by omega),nA]
      unfold wCQ at this
      rw [show wFa D x (wCI D x D.length) r.Teams D.length 0=[] from rfl] at this
      rw [this]
      rfl
  · rw [wAP hi,nA,fbT]
    by_cases c:x < (gd D i).length
    · rw [if_pos (by omega),if_pos c]
      by_cases d:(fbT D x i).2=true
      · rw [if_pos d,if_pos d,wAP c,nA]
        by_cases e:gd (gd D i) x < (fbT D x i).1
        · rw [if_pos e,if_pos e]
        · rw [if_neg e,if_neg e]
      · rw [if_neg d,if_neg d,wAP c,nA]
    · rw [if_neg (by omega),if_neg c]
end Go.Proofs.YthbficbpebiekaaGreat
namespace Go.Proofs.YthbficbpebiekaaGreat
open Go.KL
def lgL (l:wAH):Bool:=decide (l.Loops.length <= 7) && (decide (l.Bouts.length <= 7) && wDX (fun k=>decide ((gd l.Bouts k).length <= 12)) l.Bouts.length 0)
def lgT (t:wAC):Bool:=decide (t.Classes.length <= 10) && (decide (t.Legs.length <= 6) && wDX (fun k=>lgL (gd t.Legs k)) t.Legs.length 0)
def lgR (r:wAA):Bool:=decide (r.Rules.Classes.length <= 6) && (decide (r.Teams.length <= 14) && wDX (fun k=>lgT (gd r.Teams k)) r.Teams.length 0)
theorem wSK (r:wAA):wBu r=some (!lgR r):=by
 unfold wBu lgR
 by_cases c1:r.Rules.Classes.length <= 6
 ·rw [if_neg (by omega),decide_eq_true c1,nT]
  by_cases c2:r.Teams.length <= 14
  ·rw [if_neg (by omega),decide_eq_true c2,nT,wEz (B:=Bool) (fun k=>lgT (gd r.Teams k)) true (by omega) fun i hi=>?_]
   ·cases wDX (fun k=>lgT (gd r.Teams k)) r.Teams.length 0 <;> rfl
   ·rw [wAP hi,nA]
    unfold lgT
    by_cases d1:(gd r.Teams i).Classes.length <= 10
    ·rw [if_neg (by omega),decide_eq_true d1,nT]
     by_cases d2:(gd r.Teams i).Legs.length <= 6
     ·rw [if_neg (by omega),decide_eq_true d2,nT,wEz (B:=Unit ⊕ Bool) (fun k=>lgL (gd (gd r.Teams i).Legs k)) (.inr true) (by omega) fun k hk=>?_]
      ·cases wDX (fun k=>lgL (gd (gd r.Teams i).Legs k)) (gd r.Teams i).Legs.length 0 <;> rfl
      ·rw [wAP hk,nA]
       unfold lgL
       by_cases e1:(gd (gd r.Teams i).Legs k).Loops.length <= 7
       ·rw [if_neg (by omega),decide_eq_true e1,nT]
        by_cases e2:(gd (gd r.Teams i).Legs k).Bouts.length <= 7
        ·rw [if_neg (by omega),decide_eq_true e2,nT,wEz (B:=Unit ⊕ (Unit ⊕ Bool)) (fun j=>decide ((gd (gd (gd r.Teams i).Legs k).Bouts j).length <= 12)) (.inr (.inr true)) (by omega) fun j hj=>?_]
         ·cases wDX (fun j=>decide ((gd (gd (gd r.Teams i).Legs k).Bouts j).length <= 12)) (gd (gd r.Teams i).Legs k).Bouts.length 0 <;> rfl
         ·rw [wAP hj,nA]
          by_cases e3:(gd (gd (gd r.Teams i).Legs k).Bouts j).length <= 12
          ·rw [if_neg (by omega),if_pos (decide_eq_true e3)]
          ·rw [if_pos (by omega),if_neg (by simpa using e3)]
           rfl
        ·rw [if_pos (by omega),decide_eq_false e2]
         rfl
       ·rw [if_pos (by omega),decide_eq_false e1]
        rfl
     ·rw [if_pos (by omega),decide_eq_false d2]
      rfl
    ·rw [if_pos (by omega),decide_eq_false d1]
     rfl
  ·rw [if_pos (by omega),decide_eq_false c2]
   rfl
 ·rw [if_pos (by omega),decide_eq_false c1]
  rfl
theorem wQR {r:wAA} (h:lgR r=true):wID r:=by
 unfold lgR at h
 simp only [nB,decide_eq_true_eq,wDA] at h
 refine ⟨h.1,h.2.1,fun t ht=>?_⟩
 obtain ⟨i,hi,rfl⟩:=wGf ht
 have h3:=h.2.2 i (by omega) (by omega)
 unfold lgT at h3
 simp only [nB,decide_eq_true_eq,wDA] at h3
 refine ⟨h3.1,h3.2.1,fun l hl=>?_⟩
 obtain ⟨k,hk,rfl⟩:=wGf hl
 have h4:=h3.2.2 k (by omega) (by omega)
 unfold lgL at h4
 simp only [nB,decide_eq_true_eq,wDA] at h4
 refine ⟨h4.1,h4.2.1,fun b hb=>?_⟩
 obtain ⟨j,hj,rfl⟩:=wGf hb
 exact h4.2.2 j (by omega) (by omega)
theorem wIJ {l:List Int} (h:l.length <= 1000):wAs l=some l:=by
 unfold wAs
 rw [wCE (by simp;omega)]
 rfl
theorem wND {l:List Bool} (h:l.length <= 1000):wBS l=some l:=by
 unfold wBS
 rw [wCE (by simp;omega)]
 rfl
theorem wPM {l:List (List Bool)} (h:l.length <= 1000) (hb:∀ b ∈ l,b.length <= 1000):wBH l=some l:=by
 unfold wBH
 rw [wAv (fun k=>l.take k) (s0:=[]) (by simp) (by omega) fun k hk=>?_]
 ·rw [nJ];rfl
 ·rw [wAP hk,nA,wND (hb _ (wAi hk)),nA,wCE (by simp;omega),nA,wCd hk]
theorem wIK {p:wAB} (h:p.Classes.length <= 1000):wAr p=some p:=by
 unfold wAr
 rw [wIJ h]
 rfl
theorem wMU {r:wAA} (h:wID r):wBY r=some r:=by
 unfold wBY
 have hn:=h.n;have hc:=h.cls
 rw [wIK (by omega),nA,nA]
 simp only
 rw [wAv (fun k=>r.Teams.take k) (s0:=[]) (by simp) (by omega) fun i hi=>?_]
 ·rw [nJ];rfl
 ·have ht:=h.team _ (wAi hi)
  have h1:=ht.cls;have h2:=ht.legs
  rw [wAP hi,nA,wIJ (by omega),nA,nA,wAv (fun k=>(gd r.Teams i).Legs.take k) (s0:=[]) (by simp) (by omega) fun k hk=>?_]
  ·rw [nA,nJ,wCE (by simp;omega),nA,wCd hi]
  ·have hl:=ht.leg _ (wAi hk)
   have g1:=hl.loops;have g2:=hl.bouts
   rw [wAP hk,nA,wIJ (by omega),nA,wPM (by omega) (fun b hb=>by have:=hl.bout b hb;omega),nA,wCE (by simp;omega),nA,wCd hk]
theorem wSL {r:wAA} (h:wID r):wBv r=some (cv r):=by
 unfold wBv
 have hn:=h.n;have hc:=h.cls
 rw [wIK (by omega),nA,nA]
 simp only
 rw [wMU h,nA,wAv (fun k=>(r.Teams.take k).map cvT) (s0:=[]) (by simp) (by omega) fun i hi=>?_]
 ·rw [nJ];rfl
 ·have ht:=h.team _ (wAi hi)
  have h2:=ht.legs
  rw [wAP hi,nA,wAv (fun k=>((gd r.Teams i).Legs.take k).map cvL) (s0:=[]) (by simp) (by omega) fun k hk=>?_]
  ·rw [nA,nJ,wCE (by simp;omega),nA,wCd hi,nM]
   rfl
  ·rw [wAP hk,nA,wCE (by simp;omega),nA,wCd hk,nM]
   rfl
theorem wGg {l:List Int} (h:l.length <= 100000):wAW l l=some true:=wMz (by omega)
theorem wSM {l:List Bool} (h:l.length <= 100000):wBW l l=some true:=by
 unfold wBW
 rw [if_pos rfl,wCz (by omega) fun k hk=>?_]
 ·rfl
 ·rw [wAP hk,nA,nA,if_pos (by simp)]
theorem wJg {l:List (List Int)} (h:l.length <= 100000) (hb:∀ b ∈ l,b.length <= 100000):wAh l l=some true:=by
 unfold wAh
 rw [if_pos rfl,wCz (by omega) fun k hk=>?_]
 ·rfl
 ·rw [wAP hk,nA,nA,wGg (hb _ (wAi hk)),nA,if_pos rfl]
theorem wQS {l:List (List Bool)} (h:l.length <= 100000) (hb:∀ b ∈ l,b.length <= 100000):wBI l l=some true:=by
 unfold wBI
 rw [if_pos rfl,wCz (by omega) fun k hk=>?_]
 ·rfl
 ·rw [wAP hk,nA,nA,wSM (hb _ (wAi hk)),nA,if_pos rfl]
theorem wSN {r:wAA} (h:wID r):wBx r r=some true:=by
 unfold wBx wBk
 have hn:=h.n;have hc:=h.cls
 rw [wGg (by omega),nA,if_pos rfl,if_pos rfl,if_pos rfl,if_pos rfl,if_pos rfl,nA,if_pos (decide_eq_true rfl),if_pos rfl,if_pos rfl,wCz (by omega) fun i hi=>?_]
 ·rfl
 ·have ht:=h.team _ (wAi hi)
  have h1:=ht.cls;have h2:=ht.legs
  rw [wAP hi,nA,nA,if_pos rfl,wGg (by omega),nA,if_pos rfl,if_pos rfl,wCz (by omega) fun k hk=>?_]
  ·rfl
  ·have hl:=ht.leg _ (wAi hk)
   have g1:=hl.loops;have g2:=hl.bouts
   rw [wAP hk,nA,nA,if_pos rfl,wGg (by omega),nA,if_pos rfl,wQS (by omega) (fun b hb=>by have:=hl.bout b hb;omega),nA,if_pos rfl]
theorem wPN (r:wAA) (leg:Int) (_:-9223372036854775808 <= leg) (_:leg <= 9223372036854775807):wBf r leg=some true:=by
 unfold wBf
 rw [wSK,nA]
 cases hlg:lgR r with
 | false=>rfl
 | true =>
  have h:=wQR hlg
  have hp:=wNA h;have hq:=wPG h
  rw [if_neg (by simp),wMU h,nA,wSL h,nA,nA]
  simp only
  rw [show (⟨⟨r.Rules.Classes,r.Rules.Each,r.Rules.Laps,r.Rules.Spare,r.Rules.Loop,r.Rules.Unused⟩,r.Start,r.Teams⟩:wAA)=r from rfl,
   show (⟨⟨(cv r).Rules.Classes,(cv r).Rules.Each,(cv r).Rules.Laps,(cv r).Rules.Spare,(cv r).Rules.Loop,(cv r).Rules.Unused⟩,(cv r).Start,(cv r).Teams⟩:wAD)=cv r from rfl,hp,nA,hq,nA,if_pos rfl,wSN h]
  by_cases c0:code r=0
  ·have g:=wSJ c0
   rw [c0] at hp hq
   have t1:=wPI g hq
   have hn:=g.n;have hc:=g.rules.n
   have b1:∀ X ∈ wCW r,X.length <= 100000:=fun X hX=>by
    obtain ⟨k,hk,rfl⟩:=wGf hX
    have:=(wIG g (i:=k) (by simpa [wCW] using hk)).2.2
    omega
   have b2:∀ X ∈ wCP r,X.length <= 100000:=fun X hX=>by
    obtain ⟨t,ht,rfl⟩:=nq.1 hX
    rw [wGC]
    exact b1 _ (nq.2 ⟨t,ht,rfl⟩)
   have b3:∀ X ∈ (wJY r).Times,X.length <= 100000:=fun X hX=>by
    obtain ⟨t,ht,rfl⟩:=nq.1 hX
    have gt:=g.team t ht
    have:=wDP g.rules t.Legs r.Start gt.leg
    have:=gt.legs
    omega
   have lT:(wCW r).length=r.Teams.length:=by simp [wCW]
   have lD:(wCP r).length=r.Teams.length:=by simp [wCP]
   have lA:(wJY r).Times.length=r.Teams.length:=by simp [wJY,after]
   have lB:(wJY r).Bibs.length=r.Teams.length:=by simp [wJY]
   rw [wJa g,nA,t1,nA]
   simp only
   rw [if_pos trivial,wJg (by omega) b1,nA,if_pos rfl,wSF g,nA,wPJ g hq,nA]
   simp only
   rw [if_pos trivial,if_pos trivial,wGg (by omega),nA,if_pos rfl,wJg (by omega) b3,nA,if_pos rfl,wLK g,nA,wJe g t1,nA]
   simp only
   rw [if_pos trivial,wJg (by omega) b2,nA,if_pos rfl]
   by_cases ci:inB leg 0 ((r.Rules.Classes.length:Int) - 1)=true
   ·obtain ⟨i1,i2⟩:=wDH.1 ci
    obtain ⟨x,rfl⟩:∃ x:Nat,leg=x:=⟨leg.toNat,by omega⟩
    have hx:x < r.Rules.Classes.length:=by omega
    have hbl:=wGD (wCP r) x (wCI (wCP r) x (wCP r).length) r.Teams (wCP r).length
    rw [wPA g hx,nA,wNC g t1 hx,nA]
    simp only
    rw [if_pos trivial,wGg (by simp;omega),nA,if_pos rfl,wLS g (wJe g t1) hx,wIt g hx,nA,nA]
    simp only
    rw [if_pos trivial,if_pos trivial,wGg ?_]
    ·rfl
    ·split
     ·simp
     ·unfold srt
      rw [List.length_mergeSort]
      omega
   ·have e1:wBe r leg=some ([],1):=by
     unfold wBe
     rw [wJa g,nA]
     simp only
     rw [if_pos trivial,wAK (by omega) (by omega),wDS,nA,if_neg ci]
    have e2:wAe (cv r) leg=some ([],1):=by
     unfold wAe
     rw [t1,nA]
     simp only
     rw [if_pos trivial,show ((cv r).Rules.Classes.length:Int)=(r.Rules.Classes.length:Int) from rfl,wAK (by omega) (by omega),wEJ,nA,if_pos (by simpa using ci)]
    have e3:wBM r leg=some ([],0,1):=by
     unfold wBM
     rw [wLK g,nA]
     simp only
     rw [if_pos trivial,wAK (by omega) (by omega),wDS,nA,if_neg ci]
    have e4:wAb (cv r) leg=some ([],0,1):=by
     unfold wAb
     rw [wJe g t1,nA]
     simp only
     rw [if_pos trivial,show ((cv r).Rules.Classes.length:Int)=(r.Rules.Classes.length:Int) from rfl,wAK (by omega) (by omega),wEJ,nA,if_pos (by simpa using ci)]
    rw [e1,e2,e3,e4]
    rfl
  ·have p0:wBr r=some (none,code r):=by
    unfold wBr
    rw [hp,nA,if_neg c0]
   have p1:wCD r=some ([],code r):=by
    unfold wCD
    rw [p0,nA]
    simp only
    rw [if_neg c0]
   have p2:wCh r=some (⟨0,[],[]⟩,code r):=by
    unfold wCh
    rw [p0,nA]
    simp only
    rw [if_neg c0]
   have p3:wCV r=some ([],code r):=by
    unfold wCV
    rw [p0,nA]
    simp only
    rw [if_neg c0]
   have p4:wBe r leg=some ([],code r):=by
    unfold wBe
    rw [p1,nA]
    simp only
    rw [if_neg c0]
   have p5:wBM r leg=some ([],0,code r):=by
    unfold wBM
    rw [p3,nA]
    simp only
    rw [if_neg c0]
   have q1:wAX (cv r)=some ([],code r):=by
    unfold wAX
    rw [hq,nA,if_neg c0]
   have q2:wBP (cv r)=some (⟨0,[],[]⟩,code r):=by
    unfold wBP
    rw [hq,nA,if_neg c0]
   have q3:wAp (cv r)=some ([],code r):=by
    unfold wAp
    rw [q1,nA]
    simp only
    rw [if_neg c0]
   have q4:wAe (cv r) leg=some ([],code r):=by
    unfold wAe
    rw [q1,nA]
    simp only
    rw [if_neg c0]
   have q5:wAb (cv r) leg=some ([],0,code r):=by
    unfold wAb
    rw [q3,nA]
    simp only
    rw [if_neg c0]
   rw [p1,q1,p2,q2,p3,q3,p4,q4,p5,q5]
   simp only [nA,if_true,wGg (l:=[]) (by simp),wJg (l:=[]) (by simp) (by simp)]
   rfl
end Go.Proofs.YthbficbpebiekaaGreat
