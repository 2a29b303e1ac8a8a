import Derived.Test.YtghaibkggdecnaaGreatR0
import Derived.Lib.AppendZeros
set_option linter.all false
open Bool renaming and_eq_true->nA,or_eq_true->nN,false_eq_true->nQ,not_eq_true'->nV,eq_false_iff->kA
open Nat renaming eq_of_beq_eq_true->nB,beq->nD,le_refl->nG,blt_eq->nH,le_of_ble_eq_true->nL,ble_eq->nP,blt->nR,lt_of_lt_of_le->nT,le_trans->nZ,le_of_mul_le_mul_right->nj,ble->kB,lt_or_ge->kC,le_mul_of_pos_right->kH,add_mul->kM,mul_le_mul_right->kP
open List.cons renaming injEq->nE
open List renaming map_cons->nI,cons_append->nJ,nil_append->nM,mem_append->nO,all_eq_true->nS,getD_eq_getElem?_getD->nU,replicate->nY,mem_cons->na,pairwise_cons->nc,eq_nil_of_length_eq_zero->nf,mem_append_right->ng,mem_append_left->ni,append_assoc->np,getElem?_map->nq,getElem?_eq_none->nr,range->nt,length->nv,length_append->ny,getElem?_append_right->nz,map_nil->kD,getElem?_eq_getElem->kE,map_eq_nil_iff->kR,getElem?_take->kS,toArray_range->kU,mem_filterMap->kV,mem_singleton->kW,size_toArray->kX
open Array renaming ext'->nK,range->nX,getD_eq_getD_getElem?->nh,getElem?_replicate->kG,replicate->kK,getElem?_toList->kO,toList_append->kQ,size_append->kY,toList_map->kZ
open Int renaming ofNat_eq_natCast->nW,toNat_natCast->nl,negSucc_eq->nu,ofNat->kJ
open Option.some renaming injEq->nk,inj->kL
open Go.Value renaming int->nw
open Option renaming getD_none->kc,getD_some->ke,map_some->kf
namespace Go.KX
noncomputable section
open Go.RowKit Go.KL
def EnvR (μ:Mu) (σA:Tr AV) (σ:Env):Prop:=∀ p:Pos,Rv μ (evA σA (.t p)) (σ (p.nat - 1))
theorem wJR (σA:Tr AV) (p:Pos):evA σA (.t p)=(σA.get p).getD u:=by
 show Option.rec (motive:=fun _=>AV) u (fun v=>v) (σA.get p)=_
 cases σA.get p <;> rfl
theorem EnvR.mono {μ μ':Mu} {σA:Tr AV} {σ:Env} (h:EnvR μ σA σ) (hm:μ.Le μ'):EnvR μ' σA σ:=fun p=>(h p).mono hm
theorem EnvR.put {μ:Mu} {σA:Tr AV} {σ:Env} (h:EnvR μ σA σ) {p:Pos} {a:AV} {v:Value} (hv:Rv μ a v):EnvR μ (σA.set p a) (upd σ (p.nat - 1) v):=by
 intro q
 rw [wJR,Tr.get_set]
 by_cases e:q=p
 ·subst e;rw [if_pos rfl,wCc];exact hv
 ·rw [if_neg e,wDM,<- wJR]
  ·exact h q
  ·intro e2
   have:=p.nat_pos;have:=q.nat_pos
   exact e (Pos.nat_inj (by omega))
theorem wMK (μ:Mu):Rv μ u undef:=⟨[],rfl,rfl⟩
theorem wKA {μ:Mu}:∀ {args:List AV} {vs:List Value},RvL μ args vs->∀ {p:Pos} {t:Tr AV} {σ σ':Env},EnvR μ t σ->(∀ i,i < p.nat - 1->σ' i=σ i)->(∀ j v,vs[j]?=some v->σ' (p.nat - 1 + j)=v) ->
  (∀ i,p.nat - 1 + vs.length <= i->σ' i=σ i)->EnvR μ (wMC args p t) σ'
 | [],_,h,p,t,σ,σ',hE,h1,_,h3=>by
  cases h
  intro q
  have:=hE q
  by_cases e:q.nat - 1 < p.nat - 1
  ·rw [h1 _ e];exact this
  ·rw [h3 _ (by simp;omega)];exact this
 | a :: l,_,⟨v,ws,h1,h2,h3⟩,p,t,σ,σ',hE,g1,g2,g3=>by
  subst h3
  have hp:=p.nat_pos
  refine wKA h2 (p:=p.succ) (hE.put (p:=p) h1) ?_ ?_ ?_
  ·intro i hi
   rw [Pos.nat_succ] at hi
   by_cases e:i=p.nat - 1
   ·subst e;rw [wCc];exact g2 0 v rfl
   ·rw [wDM _ _ e];exact g1 i (by omega)
  ·intro j x hx
   rw [Pos.nat_succ]
   have:=g2 (j + 1) x (by simpa using hx)
   rw [<- this];congr 1;omega
  ·intro i hi
   rw [Pos.nat_succ] at hi
   rw [wDM _ _ (by omega)]
   exact g3 i (by simp;omega)
theorem wPD {μ:Mu} {args:List AV} {vs:List Value} (h:RvL μ args vs):EnvR μ (wMC args .H .e) (wOR vs):=by
 have h0:EnvR μ .e (fun _=>undef):=by intro p;rw [wJR,Tr.get_e];exact wMK μ
 refine wKA h (p:=.H) h0 (fun i hi=>by simp [Pos.nat] at hi) (fun j v hv=>?_) (fun i hi=>?_)
 ·simp [wOR,Pos.nat,hv]
 ·simp only [Pos.nat] at hi
  simp [wOR,nr (by omega:vs.length <= i)]
mutual
def okc:AV->Value->Bool
 | .int k n,.int k' n'=>keq k k' && zeq n n'
 | .bool b,.bool b'=>b == b'
 | .pnil,.pointer none=>true
 | .snil,.slice none 0 0=>true
 | .mnil,.map none=>true
 | .fnil,.nilFunc=>true
 | .agg l,.agg vs=>wNp l vs.toList
 | .tup l,.tuple vs=>wNp l vs.toList
 | _,_=>false
def wNp:List AV->List Value->Bool
 | [],[]=>true
 | a :: l,v :: vs=>okc a v && wNp l vs
 | _,_=>false
end
theorem wKB:∀ {a b:Int},zeq a b=true ↔ a=b
 | .ofNat a,.ofNat b=>by simp [zeq];omega
 | .negSucc a,.negSucc b=>by simp [zeq]
 | .ofNat a,.negSucc b=>by simp [zeq]
 | .negSucc a,.ofNat b=>by simp [zeq]
theorem wDZ (a b:Int):zeq a b=decide (a=b):=by
 by_cases h:a=b
 ·rw [wKB.2 h];simp [h]
 ·have:zeq a b ≠ true:=fun e=>h (wKB.1 e)
  simp [h,kA.2 this]
theorem wGI:∀ (a b:Int),zlt a b=decide (a < b)
 | .ofNat a,.ofNat b=>by
  simp only [zlt,nW,Int.ofNat_lt]
  by_cases h:a < b
  ·simp [h,nH]
  ·simp [h,kA,nH]
 | .negSucc a,.negSucc b=>by
  simp only [zlt,nu]
  by_cases h:b < a
  ·have h2:-((a:Int) + 1) < -((b:Int) + 1):=by omega
   simp [h2,nH];exact h
  ·have h2:¬ -((a:Int) + 1) < -((b:Int) + 1):=by omega
   simp [h2,kA,nH];omega
 | .ofNat a,.negSucc b=>by
  simp only [zlt,nu,nW]
  have h2:¬ (a:Int) < -((b:Int) + 1):=by omega
  simp [h2]
 | .negSucc a,.ofNat b=>by
  simp only [zlt,nu,nW]
  have h2:-((a:Int) + 1) < (b:Int):=by omega
  simp [h2]
theorem wML (a b:Int):zle a b=decide (a <= b):=by
 rw [zle,wGI]
 by_cases h:a <= b
 ·simp [h,Int.not_lt.2 h]
 ·simp [h,Int.not_le.1 h]
theorem wBP {a b:IntKind} (h:keq a b=true):a=b:=by cases a <;> cases b <;> first | rfl | cases h
mutual
theorem wMM (μ:Mu):∀ {a:AV} {v:Value},okc a v=true->Rv μ a v
 | .int k n,v,h=>by
  cases v <;> simp only [okc,nA,nQ] at h
  rw [wBP h.1,wKB.1 h.2];rfl
 | .bool b,v,h=>by
  cases v <;> simp only [okc,beq_iff_eq,nQ] at h
  subst h;rfl
 | .pnil,v,h=>by
  unfold okc at h
  split at h <;> first | rfl | (exfalso;simp_all;done) | simp_all [Rv]
 | .snil,v,h=>by
  unfold okc at h
  split at h <;> first | rfl | (exfalso;simp_all;done) | simp_all [Rv]
 | .mnil,v,h=>by
  unfold okc at h
  split at h <;> first | rfl | (exfalso;simp_all;done) | simp_all [Rv]
 | .fnil,v,h=>by
  cases v <;> simp only [okc,nQ] at h
  rfl
 | .agg l,v,h=>by
  cases v <;> simp only [okc,nQ] at h
  exact ⟨_,wFI μ h,by simp⟩
 | .tup l,v,h=>by
  cases v <;> simp only [okc,nQ] at h
  exact ⟨_,wFI μ h,by simp⟩
 | .ptr _ _,v,h=>by simp [okc] at h
 | .sl _ _ _ _,v,h=>by simp [okc] at h
 | .rw _ _ _ _,v,h=>by simp [okc] at h
 | .rz _ _,v,h=>by simp [okc] at h
 | .map _,v,h=>by simp [okc] at h
 | .fn _ _ _,v,h=>by simp [okc] at h
 | .yld _,v,h=>by simp [okc] at h
theorem wFI (μ:Mu):∀ {l:List AV} {vs:List Value},wNp l vs=true->RvL μ l vs
 | [],[],_=>rfl
 | a :: l,v :: vs,h=>by
  simp only [wNp,nA] at h
  exact wBI (wMM μ h.1) (wFI μ h.2)
 | [],_ :: _,h=>by simp [wNp] at h
 | _ :: _,[],h=>by simp [wNp] at h
end
def wBh:AOd->Operand->Bool
 | .t p,.tmp t=>nD p.nat (t + 1)
 | .c a,.const v=>okc a v
 | .c (.fn f [] []),.func g=>nD f.nat (g + 1)
 | _,_=>false
def wIR:List AOd->List Operand->Bool
 | [],[]=>true
 | x :: l,y :: k=>wBh x y && wIR l k
 | _,_=>false
theorem wAG {μ:Mu} {σA:Tr AV} {σ:Env} {x:AOd} {y:Operand} (h:wBh x y=true) (hE:EnvR μ σA σ):Rv μ (evA σA x) (ev σ y):=by
 unfold wBh at h
 split at h
 ·rename_i p t
  have:=nB h
  have h2:=hE p
  rw [this] at h2
  exact h2
 ·exact wMM μ h
 ·rename_i f g
  have:=nB h
  exact ⟨[],[],rfl,rfl,by show Value.func (.func g) #[] #[]=_;rw [this];rfl⟩
 ·cases h
theorem wFe {μ:Mu} {σA:Tr AV} {σ:Env}:∀ {l:List AOd} {k:List Operand},wIR l k=true->EnvR μ σA σ->RvL μ (evs σA l) (k.map (ev σ))
 | [],[],_,_=>rfl
 | x :: l,y :: k,h,hE=>by
  simp only [wIR,nA] at h
  exact wBI (wAG h.1 hE) (wFe h.2 hE)
 | [],_ :: _,h,_=>by simp [wIR] at h
 | _ :: _,[],h,_=>by simp [wIR] at h
def MR {K:Type} (μ:Mu) (l:List (K × AV)) (t:List (K × Value)):Prop:=l.map (·.1)=t.map (·.1)/\RvL μ (l.map (·.2)) (t.map (·.2))
def mk2 (k:IntKind) (x:Int × Int):Value:=.agg #[.int k x.1,.int k x.2]
def exC:Ex->Exit
 | .nrm=>.normal
 | .exit i=>.exit i
 | .ret=>.ret
def lsC:LS->LoopState × Option Code
 | .ready=>(.ready,none)
 | .busy=>(.busy,none)
 | .done .ret=>(.done,some .ret)
 | .done (.exit i)=>(.done,some (.exit i))
 | .done .nrm=>(.ready,none)
abbrev Chk:=AC->Code->Nat->Prop
structure wKu (C:Chk) (μ:Mu) (w:World) (c:Cl) (σA:Tr AV) (t:List Pos) (asg body:AC) (s:LS):Prop where
 at_:LoopAt w c.1 c.g.N c.g.σ c.g.t c.g.ac c.g.bc c.g.rb c.g.fn (lsC s).1 (lsC s).2
 env:EnvR μ σA c.g.σ
 ht:t.map Pos.nat=c.g.t.map (· + 1)
 tN:∀ x ∈ c.g.t,x < c.g.N
 asg:C asg c.g.ac c.g.N
 body:C body c.g.bc c.g.N
def AbR (C:Chk) (P:Program) (μ:Mu) (w:World) (c:Cl):AB->Prop
 | .cells T l=>∃ vs,RvL μ l vs/\Blk w c.1 T vs
 | .row T sz l=>∃ vs,RvL μ l vs/\RowAt w (some ⟨c.1,0,none⟩) c.2 T sz vs
 | .map0=>∃ ck,w.heap[c.1]?=some (.map #[] ck)
 | .mapI k l=>∃ es ck t,w.heap[c.1]?=some (.map es ck)/\MpR es (fun n:Int=>nw k n) id t/\MR μ l t
 | .map2 k l=>∃ es ck t,w.heap[c.1]?=some (.map es ck)/\MpR es (mk2 k) id t/\MR μ l t
 | .loop σA t asg body s=>wKu C μ w c σA t asg body s
 | .dead=>True
def wKv:AB->Prop
 | .dead=>False
 | _=>True
variable {C:Chk} {P:Program} {μ μ' μ'':Mu} {w w' w'':World} {h h' h'':AH}
theorem MR.mono {K:Type} {l:List (K × AV)} {t:List (K × Value)} (h:MR μ l t) (hm:μ.Le μ'):MR μ' l t:=⟨h.1,h.2.mono hm⟩
theorem AbR.mono {c:Cl} {B:AB} (h:AbR C P μ w c B) (hm:μ.Le μ'):AbR C P μ' w c B:=by
 cases B with
 | cells T l=>obtain ⟨vs,h1,h2⟩:=h;exact ⟨vs,h1.mono hm,h2⟩
 | row T sz l=>obtain ⟨vs,h1,h2⟩:=h;exact ⟨vs,h1.mono hm,h2⟩
 | map0=>exact h
 | mapI k l=>obtain ⟨es,ck,t,h1,h2,h3⟩:=h;exact ⟨es,ck,t,h1,h2,h3.mono hm⟩
 | map2 k l=>obtain ⟨es,ck,t,h1,h2,h3⟩:=h;exact ⟨es,ck,t,h1,h2,h3.mono hm⟩
 | loop σA t asg body s=>exact ⟨h.at_,h.env.mono hm,h.ht,h.tN,h.asg,h.body⟩
 | dead=>trivial
theorem AbR.keep {c:Cl} {B:AB} {X:Nat->Prop} (h:AbR C P μ w c B) (k:Keep w w' X) (hx:¬ X c.1):AbR C P μ w' c B:=by
 cases B with
 | cells T l=>obtain ⟨vs,h1,h2⟩:=h;exact ⟨vs,h1,h2.keep k hx⟩
 | row T sz l =>
  obtain ⟨vs,h1,h2⟩:=h
  refine ⟨vs,h1,?_⟩
  obtain ⟨cur,h3,h4⟩:=RowAt.cells h2
  exact .inr ⟨c.1,cur,rfl,(k.block _ (wAK h3) hx).trans h3,h4⟩
 | map0=>obtain ⟨ck,h1⟩:=h;exact ⟨ck,(k.block _ (wAK h1) hx).trans h1⟩
 | mapI _ l=>obtain ⟨es,ck,t,h1,h2⟩:=h;exact ⟨es,ck,t,(k.block _ (wAK h1) hx).trans h1,h2⟩
 | map2 _ l=>obtain ⟨es,ck,t,h1,h2⟩:=h;exact ⟨es,ck,t,(k.block _ (wAK h1) hx).trans h1,h2⟩
 | loop σA t asg body s=>exact ⟨h.at_.keep k hx,h.env,h.ht,h.tN,h.asg,h.body⟩
 | dead=>trivial
def img (μ:Mu) (fl:Nat) (c:Nat):Prop:=∃ p d,μ p=some d/\d.1=c/\fl <= p.nat
structure Ext (μ:Mu) (fl:Nat) (w:World) (μ':Mu) (w':World):Prop where
 mono:μ.Le μ'
 new:∀ p c,μ' p=some c->μ p=some c \/ img μ fl c.1 \/ w.heap.size <= c.1
 keep:Keep w w' (img μ fl)
theorem Ext.refl (μ:Mu) (fl:Nat) (w:World):Ext μ fl w μ w:=⟨Mu.Le.refl μ,fun _ _ h=>.inl h,Keep.refl w _⟩
theorem Ext.img {fl:Nat} {c:Nat} (E:Ext μ fl w μ' w') (hi:img μ' fl c):KX.img μ fl c \/ w.heap.size <= c:=by
 obtain ⟨p,d,h1,rfl,h2⟩:=hi
 rcases E.new p _ h1 with h3 | h3 | h3
 ·exact .inl ⟨p,d,h3,rfl,h2⟩
 ·exact .inl h3
 ·exact .inr h3
theorem Ext.trans {fl:Nat} (E:Ext μ fl w μ' w') (E':Ext μ' fl w' μ'' w''):Ext μ fl w μ'' w'':=by
 refine ⟨E.mono.trans E'.mono,fun p c hp=>?_,E.keep.step E'.keep fun i hi hm=>?_⟩
 ·rcases E'.new p c hp with h1 | h1 | h1
  ·exact E.new p c h1
  ·exact .inr (E.img h1)
  ·exact .inr (.inr (nZ E.keep.size h1))
 ·rcases E.img hm with h1 | h1
  ·exact h1
  ·omega
structure Sim (C:Chk) (P:Program) (μ:Mu) (h:AH) (w:World):Prop where
 nx:∀ p,h.nx.nat <= p.nat->μ p=none
 lt:∀ p c,μ p=some c->c.1 < w.heap.size
 inj:∀ p q a b c d,h.m.get p=some a->h.m.get q=some b->wKv a->wKv b->μ p=some c->μ q=some d->c.1=d.1->p=q
 at_:∀ p b,h.m.get p=some b->∃ c,μ p=some c/\AbR C P μ w c b
theorem Sim.keep (S:Sim C P μ h w) (k:Keep w w' Non):Sim C P μ h w' :=
 ⟨S.nx,fun p c hp=>nT (S.lt p c hp) k.size,S.inj,fun p b hb=>let ⟨c,h1,h2⟩:=S.at_ p b hb;⟨c,h1,h2.keep k id⟩⟩
theorem Sim.floor (S:Sim C P μ h w) (f:Pos):Sim C P μ ⟨h.m,h.nx,f⟩ w:=⟨S.nx,S.lt,S.inj,S.at_⟩
theorem Sim.non (S:Sim C P μ h w) (E:Ext μ h.nx.nat w μ' w') (fl:Nat):Keep w w' Non/\Ext μ fl w μ' w':=by
 have hn:∀ c,¬ img μ h.nx.nat c:=fun c ⟨p,k,h1,_,h2⟩=>by rw [S.nx p h2] at h1;cases h1
 refine ⟨E.keep.weak fun i _ hi=>hn i hi,E.mono,fun p c hp=>?_,E.keep.weak fun i _ hi=>(hn i hi).elim⟩
 rcases E.new p c hp with h1 | h1 | h1
 ·exact .inl h1
 ·exact (hn _ h1).elim
 ·exact .inr (.inr h1)
theorem wHZ {h h':AH} {p:Pos} {B:AB} (hp:h.put p B=some h'):h.fl.nat <= p.nat/\h'=⟨h.m.set p B,h.nx,h.fl⟩:=by
 unfold AH.put at hp
 split at hp
 ·cases hp
 ·rename_i hf
  cases hp
  refine ⟨?_,rfl⟩
  rcases kC p.nat h.fl.nat with hlt | hge
  ·rw [(Pos.ltb_iff p h.fl false).2 (.inl hlt)] at hf;cases hf
  ·exact hge
theorem Sim.put {p:Pos} {B B':AB} {c:Cl} (S:Sim C P μ h w) (hp:h.put p B'=some h') (hB:h.m.get p=some B) (hl:wKv B) (hc:μ p=some c) (K:Keep w w' (·=c.1)) (hB':AbR C P μ w' c B') :
  Sim C P μ h' w'/\Ext μ h.fl.nat w μ w'/\h'.fl=h.fl:=by
 obtain ⟨hf,rfl⟩:=wHZ hp
 refine ⟨⟨S.nx,fun p c hp=>nT (S.lt p c hp) K.size,?_,?_⟩,⟨Mu.Le.refl μ,fun _ _ h=>.inl h,K.weak fun i _ e=>⟨p,c,hc,e.symm,hf⟩⟩,rfl⟩
 ·intro q r a b d e hq hr la lb hd he hde
  simp only [Tr.get_set] at hq hr
  split at hq <;> split at hr
  ·rename_i h1 h2;rw [h1,h2]
  ·rename_i h1 h2;exact (S.inj q r B b d e (h1 ▸ hB) hr hl lb hd he hde)
  ·rename_i h1 h2;exact (S.inj q r a B d e hq (h2 ▸ hB) la hl hd he hde)
  ·exact S.inj q r a b d e hq hr la lb hd he hde
 ·intro q b hq
  simp only [Tr.get_set] at hq
  split at hq
  ·rename_i h1;subst h1;cases hq;exact ⟨c,hc,hB'⟩
  ·rename_i h1
   obtain ⟨d,h2,h3⟩:=S.at_ q b hq
   refine ⟨d,h2,?_⟩
   by_cases lb:wKv b
   ·exact h3.keep K fun e=>h1 (S.inj q p b B d c hq hB lb hl h2 hc e)
   ·cases b <;> first | trivial | exact (lb trivial).elim
def Mu.add (μ:Mu) (p:Pos) (c:Cl):Mu:=fun q=>if q=p then some c else μ q
theorem Mu.add_le {p:Pos} {c:Cl} (hn:μ p=none):μ.Le (μ.add p c):=by
 intro q d hq
 unfold Mu.add
 by_cases e:q=p
 ·subst e;rw [hn] at hq;cases hq
 ·rw [if_neg e];exact hq
theorem Mu.add_same (μ:Mu) (p:Pos) (c:Cl):μ.add p c p=some c:=by simp [Mu.add]
theorem Sim.push {c:Cl} {B:AB} (S:Sim C P μ h w) (K:Keep w w' Non) (hc:w.heap.size <= c.1) (hlt:c.1 < w'.heap.size) (hB:AbR C P (μ.add h.nx c) w' c B) :
  Sim C P (μ.add h.nx c) (h.push B) w'/\Ext μ h.fl.nat w (μ.add h.nx c) w'/\(h.push B).fl=h.fl/\(μ.add h.nx c) h.nx=some c:=by
 have hn:=S.nx h.nx (nG _)
 have hle:=Mu.add_le (c:=c) hn
 refine ⟨⟨?_,?_,?_,?_⟩,⟨hle,?_,K.weak fun _ _ h=>h.elim⟩,rfl,Mu.add_same _ _ _⟩
 ·intro p hp
  have hp:h.nx.succ.nat <= p.nat:=hp
  rw [Pos.nat_succ] at hp
  unfold Mu.add
  rw [if_neg (fun e=>by subst e;omega)]
  exact S.nx p (by omega)
 ·intro p d hd
  unfold Mu.add at hd
  split at hd
  ·cases hd;exact hlt
  ·exact nT (S.lt p d hd) K.size
 ·intro p q a b d e hp hq la lb hd he hde
  simp only [AH.push,Tr.get_set] at hp hq
  unfold Mu.add at hd he
  split at hd <;> split at he
  ·rename_i h1 h2;rw [h1,h2]
  ·cases hd;have:=S.lt _ _ he;omega
  ·cases he;have:=S.lt _ _ hd;omega
  ·rename_i h1 h2
   rw [if_neg h1] at hp
   rw [if_neg h2] at hq
   exact S.inj p q a b d e hp hq la lb hd he hde
 ·intro p b hb
  simp only [AH.push,Tr.get_set] at hb
  split at hb
  ·rename_i h1;subst h1;cases hb;exact ⟨c,Mu.add_same _ _ _,hB⟩
  ·obtain ⟨d,h2,h3⟩:=S.at_ p b hb
   exact ⟨d,hle _ _ h2,(h3.mono hle).keep K id⟩
 ·intro p d hd
  unfold Mu.add at hd
  split at hd
  ·cases hd;exact .inr (.inr hc)
  ·exact .inl hd
theorem Sim.move {p:Pos} {B B':AB} {c d:Cl} (S:Sim C P μ h w) (hp:h.put p .dead=some h') (hB:h.m.get p=some B) (hl:wKv B) (hc:μ p=some c) (K:Keep w w' (·=c.1)) (hd:d.1=c.1 \/ w.heap.size <= d.1) (hlt:d.1 < w'.heap.size)
  (hB':AbR C P (μ.add h.nx d) w' d B'):Sim C P (μ.add h.nx d) (h'.push B') w'/\Ext μ h.fl.nat w (μ.add h.nx d) w'/\(h'.push B').fl=h.fl/\(μ.add h.nx d) h.nx=some d:=by
 obtain ⟨hf,rfl⟩:=wHZ hp
 have hn:=S.nx h.nx (nG _)
 have hle:=Mu.add_le (c:=d) hn
 have hpn:p ≠ h.nx:=fun e=>by rw [e,hn] at hc;cases hc
 refine ⟨⟨?_,?_,?_,?_⟩,⟨hle,?_,K.weak fun i _ e=>⟨p,c,hc,e.symm,hf⟩⟩,rfl,Mu.add_same _ _ _⟩
 ·intro q hq
  have hq:h.nx.succ.nat <= q.nat:=hq
  rw [Pos.nat_succ] at hq
  unfold Mu.add
  rw [if_neg (fun e=>by subst e;omega)]
  exact S.nx q (by omega)
 ·intro q e he
  unfold Mu.add at he
  split at he
  ·cases he;exact hlt
  ·exact nT (S.lt q e he) K.size
 ·have key:∀ q b e,q ≠ h.nx->((h.m.set p .dead).set h.nx B').get q=some b->wKv b->(μ.add h.nx d) q=some e->e.1 ≠ d.1:=by
   intro q b e hq hb lb he hed
   simp only [Tr.get_set,if_neg hq] at hb
   unfold Mu.add at he
   rw [if_neg hq] at he
   split at hb
   ·cases hb;exact lb
   ·rename_i hqp
    rcases hd with h1 | h1
    ·exact hqp (S.inj q p b B e c hb hB lb hl he hc (hed.trans h1))
    ·have:=S.lt _ _ he;omega
  intro q r a b e f hq hr la lb he hf hef
  by_cases e1:q=h.nx <;> by_cases e2:r=h.nx
  ·rw [e1,e2]
  ·subst e1;rw [Mu.add_same] at he;cases he;exact absurd hef.symm (key r b f e2 hr lb hf)
  ·subst e2;rw [Mu.add_same] at hf;cases hf;exact absurd hef (key q a e e1 hq la he)
  ·simp only [AH.push,Tr.get_set,if_neg e1,if_neg e2] at hq hr
   unfold Mu.add at he hf
   rw [if_neg e1] at he
   rw [if_neg e2] at hf
   split at hq
   ·cases hq;exact la.elim
   ·split at hr
    ·cases hr;exact lb.elim
    ·exact S.inj q r a b e f hq hr la lb he hf hef
 ·intro q b hb
  simp only [AH.push,Tr.get_set] at hb
  split at hb
  ·rename_i h1;subst h1;cases hb;exact ⟨d,Mu.add_same _ _ _,hB'⟩
  ·split at hb
   ·rename_i h1 h2;subst h2;cases hb;exact ⟨c,hle _ _ hc,trivial⟩
   ·rename_i h1 h2
    obtain ⟨e,h3,h4⟩:=S.at_ q b hb
    refine ⟨e,hle _ _ h3,?_⟩
    by_cases lb:wKv b
    ·exact (h4.mono hle).keep K fun e'=>h2 (S.inj q p b B e c hb hB lb hl h3 hc e')
    ·cases b <;> first | trivial | exact (lb trivial).elim
 ·intro q e he
  unfold Mu.add at he
  split at he
  ·cases he
   rcases hd with h1 | h1
   ·exact .inr (.inl ⟨p,c,hc,h1.symm,hf⟩)
   ·exact .inr (.inr h1)
  ·exact .inl he
end
end Go.KX
namespace Go.KX
noncomputable section
open Go.RowKit Go.KL
def aggD:TypeDesc->Bool
 | .struct _ | .array _ _=>true
 | _=>false
def wDi (P:Program) (t:TypeId) (f:TypeDesc->Bool):Bool:=match P.underlying t with
 | some d=>f d
 | none=>false
def szT (P:Program) (t n:Nat):Bool:=match P.info? t with
 | some i=>nD i.size n
 | none=>false
def byT (P:Program) (t n:Nat):Bool:=match P.info? t with
 | some i=>nD i.bytes n
 | none=>false
def zT (P:Program) (t:TypeId) (z:List AV):Bool:=match P.info? t with
 | some i=>match i.zero with
  | some v=>wNp z v.cells.toList
  | none=>false
 | none=>false
section
variable {C:Chk} {P:Program} {μ μ':Mu} {w w':World} {h h':AH} {σ:Env} {σA:Tr AV} {t e:TypeId} {o:Oper}
theorem wAd {f:TypeDesc->Bool} (hc:wDi P t f=true):∃ d,P.underlying t=some d/\f d=true:=by
 unfold wDi at hc
 split at hc
 ·exact ⟨_,by assumption,hc⟩
 ·cases hc
theorem wAk {d:TypeDesc} (hu:P.underlying t=some d) (w:World):(underlying t).run P w=.ok d w:=run_underlying hu w
theorem wDE {n:Nat} (hc:szT P t n=true) (w:World):(sizeOf t).run P w=.ok n w:=by
 unfold szT at hc
 split at hc
 ·rename_i i hi
  rw [<- nB hc]
  simp [sizeOf,typeInfo,hi]
 ·cases hc
theorem wFf {n:Nat} (hc:szT P t n=true):∃ i,P.info? t=some i/\i.size=n:=by
 unfold szT at hc
 split at hc
 ·rename_i i hi;exact ⟨i,hi,nB hc⟩
 ·cases hc
theorem wFg {n:Nat} (hc:byT P t n=true):∃ i,P.info? t=some i/\i.bytes=n:=by
 unfold byT at hc
 split at hc
 ·rename_i i hi;exact ⟨i,hi,nB hc⟩
 ·cases hc
theorem wET {z:List AV} (hc:zT P t z=true):∃ i v,P.info? t=some i/\i.zero=some v/\∀ μ,RvL μ z v.cells.toList:=by
 unfold zT at hc
 split at hc
 ·rename_i i hi
  split at hc
  ·rename_i v hv;exact ⟨i,v,hi,hv,fun μ=>wFI μ hc⟩
  ·cases hc
 ·cases hc
theorem wDF {i:TypeInfo} {z:Value} (hi:P.info? t=some i) (hz:i.zero=some z) (w:World):(zeroValue t).run P w=.ok z w:=by
 simp [zeroValue,typeInfo,hi,hz]
theorem wGJ {d:TypeDesc} (hu:P.underlying t=some d) (w:World):(isAgg t).run P w=.ok (aggD d) w:=by
 simp only [isAgg,Sem.run_bind,wAk hu,Result.andThen_ok]
 cases d <;> rfl
def wNq (P:Program) (t:TypeId) (b:Bool):Bool:=wDi P t fun d=>aggD d == b
theorem wDo {b:Bool} (hc:wNq P t b=true) (w:World):(isAgg t).run P w=.ok b w:=by
 obtain ⟨d,h1,h2⟩:=wAd hc
 rw [wGJ h1,eq_of_beq h2]
def OkP (P:Program) (op:Op) (f:Tr AV->AH->Option (AV × AH)):Prop :=
 ∀ σA h v h',f σA h=some (v,h')->h'=h/\∀ μ σ,EnvR μ σA σ->∃ cv,Rv μ v cv/\∀ (o:Oper) (w:World),o.op=op->Runs P σ w o cv w
def c_mv (x:AOd):Op->Bool
 | .move y | .assign y=>wBh x y
 | _=>false
theorem p_mv {x:AOd} {op:Op} (hc:c_mv x op=true):OkP P op (wQH x):=by
 intro σA h v h' hr
 cases hr
 refine ⟨rfl,fun μ σ hE=>?_⟩
 unfold c_mv at hc
 split at hc
 ·exact ⟨_,wAG hc hE,fun o w ho=>Runs.mv ho rfl⟩
 ·exact ⟨_,wAG hc hE,fun o w ho=>Runs.as ho rfl⟩
 ·cases hc
def wMN (c x y:AOd):Op->Bool
 | .pick c' x' y'=>wBh c c' && (wBh x x' && wBh y y')
 | _=>false
theorem wQc {c x y:AOd} {op:Op} (hc:wMN c x y op=true):OkP P op (wGA c x y):=by
 intro σA h v h' hr
 unfold wMN at hc
 split at hc
 ·rename_i c' x' y'
  simp only [nA] at hc
  unfold wGA at hr
  split at hr
  ·rename_i hb;cases hr
   exact ⟨rfl,fun μ σ hE=>⟨_,wAG hc.2.1 hE,fun o w ho=>Runs.pickT ho (by have:=wAG hc.1 hE;rw [hb] at this;exact this) rfl⟩⟩
  ·rename_i hb;cases hr
   exact ⟨rfl,fun μ σ hE=>⟨_,wAG hc.2.2 hE,fun o w ho=>Runs.pickF ho (by have:=wAG hc.1 hE;rw [hb] at this;exact this) rfl⟩⟩
  ·cases hr
 ·cases hc
def wMO (x:AOd):Op->Bool
 | .nilCheck y=>wBh x y
 | _=>false
theorem wQd {x:AOd} {op:Op} (hc:wMO x op=true):OkP P op (wGB x):=by
 intro σA h v h' hr
 unfold wMO at hc
 split at hc
 ·unfold wGB at hr
  split at hr
  ·rename_i hb;cases hr
   refine ⟨rfl,fun μ σ hE=>?_⟩
   have:=wAG hc hE;rw [hb] at this
   refine ⟨_,this,fun o w ho=>?_⟩
   obtain ⟨c,h1,h2⟩:=this
   rw [h2];exact Runs.nilp ho h2
  ·rename_i hb;cases hr
   refine ⟨rfl,fun μ σ hE=>?_⟩
   have:=wAG hc hE;rw [hb] at this
   refine ⟨_,this,fun o w ho=>?_⟩
   obtain ⟨fv,cv,_,_,h2⟩:=this
   rw [h2];exact Runs.nilf ho h2
  ·rename_i hb;cases hr
   refine ⟨rfl,fun μ σ hE=>?_⟩
   have:=wAG hc hE;rw [hb] at this
   refine ⟨_,this,fun o w ho=>?_⟩
   obtain ⟨c,h1,h2⟩:=this
   rw [h2];exact Runs.nily ho h2
  ·cases hr
 ·cases hc
theorem wHa {k:IntKind} {n:Int} (hk:inK k n=true):k.wrap n=n:=by
 unfold inK at hk
 split at hk <;> (try simp only [nH] at hk) <;> (try simp only [IntKind.wrap_i64,IntKind.wrap_u8,IntKind.wrap_u32,Go.IntKind.wrap_u64,nu,nW]) <;> first | omega | cases hk
theorem wBR {x:Option AV} {v:AV} (hr:okV h x=some (v,h')):x=some v/\h'=h:=by
 cases x <;> cases hr;exact ⟨rfl,rfl⟩
theorem wBJ {α:Type} {b:Bool} {x:Option α} {v:α} (hr:ifO b x=some v):b=true/\x=some v:=by
 cases b
 ·cases hr
 ·exact ⟨rfl,hr⟩
theorem wGw {f:Int->Int->Int} {x y v:AV} (hr:wJA f x y=some v):∃ k a b,x=.int k a/\y=.int k b/\v=.int k (f a b)/\k.wrap (f a b)=f a b:=by
 unfold wJA at hr
 split at hr
 ·rename_i k a k' b
  split at hr
  ·rename_i hk
   split at hr
   ·rename_i hi;cases hr;exact ⟨k,a,b,rfl,by rw [wBP hk],rfl,wHa hi⟩
   ·cases hr
  ·cases hr
 ·cases hr
theorem wNr {f:Int->Int->Int} {x y v:AV} (hr:div f x y=some v):∃ k a b,x=.int k a/\y=.int k b/\v=.int k (f a b)/\k.wrap (f a b)=f a b/\b ≠ 0:=by
 unfold div at hr
 split at hr
 ·rename_i k a k' b
  split at hr
  ·rename_i hk
   split at hr
   ·cases hr
   ·rename_i hz
    split at hr
    ·rename_i hi;cases hr
     exact ⟨k,a,b,rfl,by rw [wBP hk],rfl,wHa hi,fun e=>by rw [wKB.2 e] at hz;cases hz⟩
    ·cases hr
  ·cases hr
 ·cases hr
theorem wMP {f:Int->Int->Bool} {x y v:AV} (hr:wNl f x y=some v):∃ k a b,x=.int k a/\y=.int k b/\v=.bool (f a b):=by
 unfold wNl at hr
 split at hr
 ·rename_i k a k' b
  split at hr
  ·rename_i hk;cases hr;exact ⟨k,a,b,rfl,by rw [wBP hk],rfl⟩
  ·cases hr
 ·cases hr
def wCI (b:BinOp) (x y:AOd):Op->Bool
 | .binOp b' _ x' y' _=>(b' == b) && (wBh x x' && wBh y y')
 | _=>false
theorem wEr {b:BinOp} {x y:AOd} {op:Op} (hc:wCI b x y op=true):∃ t x' y' t',op=.binOp b t x' y' t'/\wBh x x'=true/\wBh y y'=true:=by
 unfold wCI at hc
 split at hc
 ·rename_i b' t x' y' t'
  simp only [nA,beq_iff_eq] at hc
  obtain ⟨rfl,h1,h2⟩:=hc
  exact ⟨t,x',y',t',rfl,h1,h2⟩
 ·cases hc
theorem wJS {b:BinOp} {f:Int->Int->Int} {x y:AOd} {op:Op} (hc:wCI b x y op=true)
  (hrun:∀ (o:Oper) (σ:Env) (w:World) t x' y' t' k m n,o.op=.binOp b t x' y' t'->ev σ x'=.int k m->ev σ y'=.int k n->Runs P σ w o (.int k (k.wrap (f m n))) w) :
  OkP P op (fun σ h=>okV h (wJA f (evA σ x) (evA σ y))):=by
 intro σA h v h' hr
 obtain ⟨t,x',y',t',rfl,h1,h2⟩:=wEr hc
 obtain ⟨hr2,rfl⟩:=wBR hr
 obtain ⟨k,m,n,e1,e2,rfl,e3⟩:=wGw hr2
 refine ⟨rfl,fun μ σ hE=>⟨_,rfl,fun o w ho=>?_⟩⟩
 have g1:=wAG h1 hE;rw [e1] at g1
 have g2:=wAG h2 hE;rw [e2] at g2
 have:=hrun o σ w t x' y' t' k m n ho g1 g2
 rwa [e3] at this
theorem p_add {x y:AOd} {op:Op} (hc:wCI .add x y op=true):OkP P op (wLn x y) :=
 wJS hc fun o σ w t x' y' t' k m n ho h1 h2=>⟨by rw [ho];rfl,by simp [execOp,ho,h1,h2,binOp,eqGuard,Op.intArith]⟩
theorem p_sub {x y:AOd} {op:Op} (hc:wCI .sub x y op=true):OkP P op (wLo x y) :=
 wJS hc fun o σ w t x' y' t' k m n ho h1 h2=>⟨by rw [ho];rfl,by simp [execOp,ho,h1,h2,binOp,eqGuard,Op.intArith];rfl⟩
theorem p_mul {x y:AOd} {op:Op} (hc:wCI .mul x y op=true):OkP P op (wLp x y) :=
 wJS hc fun o σ w t x' y' t' k m n ho h1 h2=>⟨by rw [ho];rfl,by simp [execOp,ho,h1,h2,binOp,eqGuard,Op.intArith]⟩
theorem wQe {b:BinOp} {f:Int->Int->Int} {x y:AOd} {op:Op} (hc:wCI b x y op=true)
  (hrun:∀ (o:Oper) (σ:Env) (w:World) t x' y' t' k m n,o.op=.binOp b t x' y' t'->ev σ x'=.int k m->ev σ y'=.int k n->n ≠ 0->k.wrap (f m n)=f m n->Runs P σ w o (.int k (f m n)) w) :
  OkP P op (fun σ h=>okV h (div f (evA σ x) (evA σ y))):=by
 intro σA h v h' hr
 obtain ⟨t,x',y',t',rfl,h1,h2⟩:=wEr hc
 obtain ⟨hr2,rfl⟩:=wBR hr
 obtain ⟨k,m,n,e1,e2,rfl,e3,e4⟩:=wNr hr2
 refine ⟨rfl,fun μ σ hE=>⟨_,rfl,fun o w ho=>?_⟩⟩
 have g1:=wAG h1 hE;rw [e1] at g1
 have g2:=wAG h2 hE;rw [e2] at g2
 exact hrun o σ w t x' y' t' k m n ho g1 g2 e4 e3
theorem p_quo {x y:AOd} {op:Op} (hc:wCI .quo x y op=true):OkP P op (wLq x y) :=
 wQe hc fun o σ w t x' y' t' k m n ho h1 h2 h3 h4=>⟨by rw [ho];rfl,by simp [execOp,ho,h1,h2,binOp,eqGuard,Op.intDiv,h3,h4]⟩
theorem p_rem {x y:AOd} {op:Op} (hc:wCI .rem x y op=true):OkP P op (wLr x y) :=
 wQe hc fun o σ w t x' y' t' k m n ho h1 h2 h3 h4=>⟨by rw [ho];rfl,by simp [execOp,ho,h1,h2,binOp,eqGuard,Op.intDiv,h3]⟩
theorem wKw {b:BinOp} {f:Int->Int->Bool} {x y:AOd} {op:Op} (hc:wCI b x y op=true)
  (hrun:∀ (o:Oper) (σ:Env) (w:World) t x' y' t' k m n,o.op=.binOp b t x' y' t'->ev σ x'=.int k m->ev σ y'=.int k n->Runs P σ w o (.bool (f m n)) w) :
  OkP P op (fun σ h=>okV h (wNl f (evA σ x) (evA σ y))):=by
 intro σA h v h' hr
 obtain ⟨t,x',y',t',rfl,h1,h2⟩:=wEr hc
 obtain ⟨hr2,rfl⟩:=wBR hr
 obtain ⟨k,m,n,e1,e2,rfl⟩:=wMP hr2
 refine ⟨rfl,fun μ σ hE=>⟨_,rfl,fun o w ho=>?_⟩⟩
 have g1:=wAG h1 hE;rw [e1] at g1
 have g2:=wAG h2 hE;rw [e2] at g2
 exact hrun o σ w t x' y' t' k m n ho g1 g2
theorem p_lss {x y:AOd} {op:Op} (hc:wCI .lss x y op=true):OkP P op (wLs x y) :=
 wKw hc fun o σ w t x' y' t' k m n ho h1 h2=>(Runs.lss ho h1 h2).to (by rw [wGI])
theorem p_leq {x y:AOd} {op:Op} (hc:wCI .leq x y op=true):OkP P op (wLt x y) :=
 wKw hc fun o σ w t x' y' t' k m n ho h1 h2=>(Runs.leq ho h1 h2).to (by rw [wML])
theorem p_gtr {x y:AOd} {op:Op} (hc:wCI .gtr x y op=true):OkP P op (wLu x y) :=
 wKw hc fun o σ w t x' y' t' k m n ho h1 h2=>(Runs.gtr ho h1 h2).to (by rw [wGI])
theorem p_geq {x y:AOd} {op:Op} (hc:wCI .geq x y op=true):OkP P op (wLv x y) :=
 wKw hc fun o σ w t x' y' t' k m n ho h1 h2=>(Runs.geq ho h1 h2).to (by rw [wML])
theorem p_eql {x y:AOd} {op:Op} (hc:wCI .eql x y op=true):OkP P op (wLw x y) :=
 wKw hc fun o σ w t x' y' t' k m n ho h1 h2=>(Runs.eql ho h1 h2).to (by rw [wDZ])
theorem p_neq {x y:AOd} {op:Op} (hc:wCI .neq x y op=true):OkP P op (wLx x y) :=
 wKw hc fun o σ w t x' y' t' k m n ho h1 h2=>(Runs.neq ho h1 h2).to (by rw [wDZ];simp)
def wPE (x:AOd):Op->Bool
 | .unOp .neg _ y=>wBh x y
 | _=>false
theorem p_neg {x:AOd} {op:Op} (hc:wPE x op=true):OkP P op (wLy x):=by
 intro σA h v h' hr
 unfold wPE at hc
 split at hc
 ·obtain ⟨hr2,rfl⟩:=wBR hr
  obtain ⟨k,m,n,e1,e2,rfl,e3⟩:=wGw hr2
  rw [e2] at e1
  simp only at e1
  cases e1
  refine ⟨rfl,fun μ σ hE=>⟨_,rfl,fun o w ho=>?_⟩⟩
  have g2:=wAG hc hE;rw [e2] at g2
  refine ⟨by rw [ho];rfl,?_⟩
  have:ev σ _=.int k n:=g2
  simp only [execOp,ho,this,Op.unary,Op.intArith,Sem.run_bind,Sem.run_pure,Result.andThen_ok]
  rw [show (0:Int) - n=Int.sub 0 n from rfl,e3]
 ·cases hc
def wPF (x:AOd):Op->Bool
 | .unOp .not _ y=>wBh x y
 | _=>false
theorem p_not {x:AOd} {op:Op} (hc:wPF x op=true):OkP P op (wJE x):=by
 intro σA h v h' hr
 unfold wPF at hc
 split at hc
 ·unfold wJE at hr
  split at hr
  ·rename_i hb;cases hr
   refine ⟨rfl,fun μ σ hE=>⟨_,rfl,fun o w ho=>?_⟩⟩
   have g:=wAG hc hE;rw [hb] at g
   exact Runs.not ho g
  ·cases hr
 ·cases hc
def wMQ:TypeDesc->Option IntKind
 | .int k=>some k
 | _=>none
def wPG (k:IntKind) (x:AOd):Op->Bool
 | .convert s t y=>wDi P s (fun d=>(wMQ d).isSome) && (wDi P t (fun d=>match wMQ d with | some k'=>keq k k' | none=>false) && wBh x y)
 | _=>false
theorem p_cvt {k:IntKind} {x:AOd} {op:Op} (hc:wPG (P:=P) k x op=true):OkP P op (wJF k x):=by
 intro σA h v h' hr
 unfold wPG at hc
 split at hc
 ·simp only [nA] at hc
  obtain ⟨c1,c2,c3⟩:=hc
  unfold wJF at hr
  split at hr
  ·rename_i k0 n hb
   obtain ⟨hi,hr⟩:=wBJ hr
   cases hr
   refine ⟨rfl,fun μ σ hE=>⟨_,rfl,fun o w ho=>?_⟩⟩
   have g:=wAG c3 hE;rw [hb] at g
   obtain ⟨d,d1,d2⟩:=wAd c1
   obtain ⟨e,e1,e2⟩:=wAd c2
   cases d <;> first | (cases d2;done) | skip
   cases e <;> first | (cases e2;done) | skip
   have:=wBP e2
   subst this
   have g':ev σ _=.int k0 n:=g
   exact ⟨by rw [ho];rfl,by simp [execOp,ho,g',convert,wAk d1,wAk e1,Conv.intToInt,wHa hi]⟩
  ·cases hr
 ·cases hc
def wPH (f:Pos) (fi ca:List AOd):Op->Bool
 | .makeFunc (.func g) fi' ca'=>nD f.nat (g + 1) && (wIR fi fi'.toList && wIR ca ca'.toList)
 | _=>false
theorem p_mkf {f:Pos} {fi ca:List AOd} {op:Op} (hc:wPH f fi ca op=true):OkP P op (wKt f fi ca):=by
 intro σA h v h' hr
 cases hr
 unfold wPH at hc
 split at hc
 ·simp only [nA] at hc
  obtain ⟨c1,c2,c3⟩:=hc
  refine ⟨rfl,fun μ σ hE=>⟨_,⟨_,_,wFe c2 hE,wFe c3 hE,rfl⟩,fun o w ho=>?_⟩⟩
  have e:=nB c1
  refine ⟨by rw [ho];rfl,?_⟩
  simp [execOp,ho,Instr.makeFunc,e,<- kZ]
 ·cases hc
def wPI (i:Nat) (x:AOd):Op->Bool
 | .extract y j=>nD i j && wBh x y
 | _=>false
theorem p_ext {i:Nat} {x:AOd} {op:Op} (hc:wPI i x op=true):OkP P op (wJL i x):=by
 intro σA h v h' hr
 unfold wPI at hc
 split at hc
 ·simp only [nA] at hc
  have e:=nB hc.1
  subst e
  unfold wJL at hr
  split at hr
  ·rename_i l hb
   obtain ⟨hr2,rfl⟩:=wBR hr
   refine ⟨rfl,fun μ σ hE=>?_⟩
   have g:=wAG hc.2 hE;rw [hb] at g
   obtain ⟨vs,g1,g2⟩:=g
   rw [wFT] at hr2
   obtain ⟨cv,g3,g4⟩:=wER g1 hr2
   exact ⟨cv,g4,fun o w ho=>Runs.ext ho g2 (by simpa using g3)⟩
  ·cases hr
 ·cases hc
end
end
end Go.KX
namespace Go.KX
noncomputable section
open Go.RowKit Go.KL
section
variable {C:Chk} {P:Program} {μ μ':Mu} {w w':World} {h h':AH} {σ:Env} {σA:Tr AV} {t e:TypeId} {o:Oper}
def wPJ (P:Program) (ne:Bool) (x y:AOd):Op->Bool
 | .binOp b t x' y' _=>(match ne with | true=>b == .neq | false=>b == .eql) && (wDi P t (fun d=>match d with | .bool=>true | _=>false) && (wBh x x' && wBh y y'))
 | _=>false
theorem wGx (ne b:Bool):(ne != b)=(match ne with | true=>!b | false=>b):=by cases ne <;> cases b <;> rfl
theorem p_eqb {ne:Bool} {x y:AOd} {op:Op} (hc:wPJ P ne x y op=true):OkP P op (wJB ne x y):=by
 intro σA h v h' hr
 unfold wPJ at hc
 split at hc
 ·simp only [nA] at hc
  obtain ⟨c0,c1,c2,c3⟩:=hc
  unfold wJB at hr
  split at hr
  ·rename_i a b e1 e2
   cases hr
   refine ⟨rfl,fun μ σ hE=>⟨_,rfl,fun o w ho=>?_⟩⟩
   have g1:=wAG c2 hE;rw [e1] at g1
   have g2:=wAG c3 hE;rw [e2] at g2
   obtain ⟨d,d1,d2⟩:=wAd c1
   cases d <;> first | (cases d2;done) | skip
   cases ne
   ·have:=eq_of_beq c0;subst this
    exact (Runs.eqB ho g1 g2 (wAk d1)).to (by rw [wGx])
   ·have:=eq_of_beq c0;subst this
    exact (Runs.neB ho g1 g2 (wAk d1)).to (by rw [wGx])
  ·cases hr
 ·cases hc
def nilD (k:Nat) (d:TypeDesc):Bool:=match k,d with
 | 0,.pointer _=>true
 | 1,.slice _=>true
 | 2,.map _ _=>true
 | 3,.func _ _ _=>true
 | _,_=>false
theorem wMR {k:Nat} {d:TypeDesc} {a b:AV} {r:Bool} {x y:Value} (hu:P.underlying t=some d) (hd:nilD k d=true) (hr:wKp k a b=some r) (hx:Rv μ a x) (hy:Rv μ b y) (w:World):(Op.equal t x y).run P w=.ok r w:=by
 unfold Op.equal Op.maxDepth
 rw [show (10000:Nat)=9999 + 1 from rfl,Op.equalIn]
 unfold wKp at hr
 split at hr <;> cases hr <;> simp only [Rv] at hx hy <;> (cases d <;> first | (cases hd;done) | skip) <;>
  (try obtain ⟨_,_,_,_,_,rfl⟩:=hx) <;> (try obtain ⟨_,_,_,_,rfl⟩:=hx) <;> (try obtain ⟨_,_,_,rfl⟩:=hx) <;> (try obtain ⟨_,_,rfl⟩:=hx) <;> (try subst hx) <;>
  (try obtain ⟨_,_,_,_,_,rfl⟩:=hy) <;> (try obtain ⟨_,_,_,_,rfl⟩:=hy) <;> (try obtain ⟨_,_,_,rfl⟩:=hy) <;> (try obtain ⟨_,_,rfl⟩:=hy) <;> (try subst hy) <;>
  simp only [Sem.run_bind,wAk hu,Result.andThen_ok,Sem.run_pure] <;> rfl
theorem wJT {k:Nat} {a b:AV} {r:Bool} {x y:Value} (hr:wKp k a b=some r) (hx:Rv μ a x) (hy:Rv μ b y) (op:BinOp) (p q:Operand) (w:World):(eqGuard op t p q x y).run P w=.ok () w:=by
 unfold wKp at hr
 split at hr <;> cases hr <;> simp only [Rv] at hx hy <;>
  (try obtain ⟨_,_,_,_,_,rfl⟩:=hx) <;> (try obtain ⟨_,_,_,_,rfl⟩:=hx) <;> (try obtain ⟨_,_,_,rfl⟩:=hx) <;> (try obtain ⟨_,_,rfl⟩:=hx) <;> (try subst hx) <;>
  (try obtain ⟨_,_,_,_,_,rfl⟩:=hy) <;> (try obtain ⟨_,_,_,_,rfl⟩:=hy) <;> (try obtain ⟨_,_,_,rfl⟩:=hy) <;> (try obtain ⟨_,_,rfl⟩:=hy) <;> (try subst hy) <;>
  simp only [eqGuard] <;> (cases op <;> rfl)
def wPK (P:Program) (k:Nat) (ne:Bool) (x y:AOd):Op->Bool
 | .binOp b t x' y' _=>(match ne with | true=>b == .neq | false=>b == .eql) && (wDi P t (nilD k) && (wBh x x' && wBh y y'))
 | _=>false
theorem p_eqn {k:Nat} {ne:Bool} {x y:AOd} {op:Op} (hc:wPK P k ne x y op=true):OkP P op (wJC k ne x y):=by
 intro σA h v h' hr
 unfold wPK at hc
 split at hc
 ·rename_i b t x' y' t'
  simp only [nA] at hc
  obtain ⟨c0,c1,c2,c3⟩:=hc
  unfold wJC at hr
  split at hr
  ·rename_i r e1
   cases hr
   refine ⟨rfl,fun μ σ hE=>⟨_,rfl,fun o w ho=>?_⟩⟩
   have g1:=wAG c2 hE
   have g2:=wAG c3 hE
   obtain ⟨d,d1,d2⟩:=wAd c1
   have g3:=wMR d1 d2 e1 g1 g2
   have g4:=fun op=>wJT (P:=P) (t:=t) e1 g1 g2 op x' y'
   refine ⟨by rw [ho];rfl,?_⟩
   generalize hX:ev σ x'=X at g1 g3 g4
   generalize hY:ev σ y'=Y at g2 g3 g4
   have nint:(∀ k n,X ≠ .int k n)/\(∀ k n,X ≠ .float k n)/\(∀ k n m,X ≠ .complex k n m)/\(∀ s,X ≠ .string s):=by
    unfold wKp at e1
    split at e1 <;> cases e1 <;> rename_i e2 e3 <;> rw [e2] at g1 <;> simp only [Rv] at g1 <;>
     (try obtain ⟨_,_,_,_,_,rfl⟩:=g1) <;> (try obtain ⟨_,_,_,_,rfl⟩:=g1) <;> (try obtain ⟨_,_,_,rfl⟩:=g1) <;> (try obtain ⟨_,_,rfl⟩:=g1) <;> (try subst g1) <;>
     exact ⟨by simp,by simp,by simp,by simp⟩
   obtain ⟨n1,n2,n3,n4⟩:=nint
   cases ne
   ·have:=eq_of_beq c0;subst this
    simp only [execOp,ho,Sem.run_bind,hX,hY,g4 .eql w,Result.andThen_ok]
    have:(binOp .eql t X Y).run P w=.ok (.bool r) w:=by
     cases X <;> first | exact absurd rfl (n1 _ _) | exact absurd rfl (n2 _ _) | exact absurd rfl (n3 _ _ _) | exact absurd rfl (n4 _) | (simp only [binOp,Sem.run_bind,g3 w,Result.andThen_ok];rfl)
    rw [this]
    simp [wGx]
   ·have:=eq_of_beq c0;subst this
    simp only [execOp,ho,Sem.run_bind,hX,hY,g4 .neq w,Result.andThen_ok]
    have:(binOp .neq t X Y).run P w=.ok (.bool (!r)) w:=by
     cases X <;> first | exact absurd rfl (n1 _ _) | exact absurd rfl (n2 _ _) | exact absurd rfl (n3 _ _ _) | exact absurd rfl (n4 _) | (simp only [binOp,Sem.run_bind,g3 w,Result.andThen_ok];rfl)
    rw [this]
    simp [wGx]
  ·cases hr
 ·cases hc
mutual
def Sh.depth:Sh->Nat
 | .int=>1
 | .bool=>1
 | .str fs=>wKC fs + 1
def wKC:List (Nat × Nat × Sh)->Nat
 | []=>0
 | (_,_,s) :: fs=>Nat.max s.depth (wKC fs)
end
mutual
def wJU (P:Program):Sh->TypeId->Bool
 | .int,t=>wDi P t fun d=>(wMQ d).isSome
 | .bool,t=>wDi P t fun d=>match d with | .bool=>true | _=>false
 | .str fs,t=>(!P.stoodInHeld t) && wDi P t fun d=>match d with | .struct gs=>wKx P fs gs.toList | _=>false
def wKx (P:Program):List (Nat × Nat × Sh)->List Field->Bool
 | [],[]=>true
 | (off, sz, s) :: fs, g :: gs => (g.name != "_") && (nD g.offset off && (szT P g.type sz && (wJU P s g.type && wKx P fs gs)))
 | _,_=>false
end
theorem wMS {s:Sh} (hc:wJU P s t=true) (w:World):(isAgg t).run P w=.ok (match s with | .str _=>true | _=>false) w:=by
 cases s with
 | int =>
  obtain ⟨d,h1,h2⟩:=wAd hc
  rw [wGJ h1];cases d <;> first | rfl | cases h2
 | bool =>
  obtain ⟨d,h1,h2⟩:=wAd hc
  rw [wGJ h1];cases d <;> first | rfl | cases h2
 | str fs =>
  simp only [wJU,nA] at hc
  obtain ⟨d,h1,h2⟩:=wAd hc.2
  rw [wGJ h1];cases d <;> first | rfl | cases h2
theorem wIS {s:Sh} {l:List AV} {vs:List Value} {off sz:Nat} {a:AV} (hc:wJU P s t=true) (hz:szT P t sz=true) (hp:wNm s l off sz=some a) (hl:RvL μ l vs):∃ v,Rv μ a v/\∀ w,(part t vs.toArray off).run P w=.ok v w:=by
 have hag:=wMS hc
 unfold wNm at hp
 split at hp
 ·split at hp
  ·rename_i r hs
   cases hp
   obtain ⟨h1,h2⟩:=wES hs hl
   exact ⟨_,⟨_,h1,rfl⟩,fun w=>wDu hag (wDE hz) rfl⟩
  ·cases hp
 ·rename_i hne
  rw [wFT] at hp
  obtain ⟨v,h1,h2⟩:=wER hl hp
  refine ⟨v,h2,fun w=>wDO (fun w=>?_) h1⟩
  rw [hag w]
  cases s <;> first | rfl | exact absurd rfl (hne _)
mutual
theorem wKD:∀ (s:Sh) (t:TypeId) (d:Nat) (a b:AV) (x y:Value) (r:Bool),wJU P s t=true->s.depth <= d->wNn s a b=some r->Rv μ a x->Rv μ b y->∀ w,(Op.equalIn d t x y).run P w=.ok r w
 | .int,t,d,a,b,x,y,r,hc,hd,hr,hx,hy,w=>by
  obtain ⟨d,rfl⟩:∃ e,d=e + 1:=⟨d - 1,by simp only [Sh.depth] at hd;omega⟩
  unfold wNn at hr
  split at hr <;> first | (cases hr;done) | skip
  all_goals (try (rename_i h0;cases h0))
  split at hr <;> cases hr
  rename_i hk
  obtain ⟨dd,d1,d2⟩:=wAd hc
  cases dd <;> first | (cases d2;done) | skip
  simp only [Rv] at hx hy
  subst hx hy
  have:=wBP hk;subst this
  simp [Op.equalIn,wAk d1,wDZ,wIt]
 | .bool,t,d,a,b,x,y,r,hc,hd,hr,hx,hy,w=>by
  obtain ⟨d,rfl⟩:∃ e,d=e + 1:=⟨d - 1,by simp only [Sh.depth] at hd;omega⟩
  unfold wNn at hr
  split at hr <;> first | (cases hr;done) | skip
  all_goals (try (rename_i h0;cases h0))
  cases hr
  obtain ⟨dd,d1,d2⟩:=wAd hc
  cases dd <;> first | (cases d2;done) | skip
  simp only [Rv] at hx hy
  subst hx hy
  simp [Op.equalIn,wAk d1]
 | .str fs,t,d,a,b,x,y,r,hc,hd,hr,hx,hy,w=>by
  simp only [Sh.depth] at hd
  obtain ⟨d,rfl⟩:∃ e,d=e + 1:=⟨d - 1,by omega⟩
  unfold wNn at hr
  split at hr <;> first | (cases hr;done) | skip
  all_goals (try (rename_i h0;cases h0))
  simp only [wJU,nA,nV] at hc
  obtain ⟨dd,d1,d2⟩:=wAd hc.2
  cases dd <;> first | (cases d2;done) | skip
  rename_i gs
  obtain ⟨xs,h1,rfl⟩:=hx
  obtain ⟨ys,h2,rfl⟩:=hy
  have hf:P.fieldsOf t=gs:=by unfold Program.fieldsOf;rw [d1]
  rw [run_equalIn_agg w d t _ _ (by rw [hf];exact d1) hc.1,hf]
  exact wKE fs gs.toList d _ _ xs ys r d2 (by omega) hr h1 h2 w
theorem wKE:∀ (fs:List (Nat × Nat × Sh)) (gs:List Field) (d:Nat) (l k:List AV) (xs ys:List Value) (r:Bool),wKx P fs gs=true->wKC fs <= d->wQV fs l k=some r->RvL μ l xs->RvL μ k ys ->
  ∀ w,(Op.eqFields d xs.toArray ys.toArray gs).run P w=.ok r w
 | [],[],d,l,k,xs,ys,r,hc,hd,hr,hx,hy,w=>by
  simp only [wQV] at hr;cases hr;rfl
 | (off,sz,s) :: fs,g :: gs,d,l,k,xs,ys,r,hc,hd,hr,hx,hy,w=>by
  simp only [wKx,nA] at hc
  obtain ⟨c1,c2,c3,c4,c5⟩:=hc
  have e:=nB c2
  subst e
  simp only [wQV] at hr
  split at hr
  ·rename_i a b ha hb
   obtain ⟨u,u1,u2⟩:=wIS c4 c3 ha hx
   obtain ⟨v,v1,v2⟩:=wIS c4 c3 hb hy
   have hne : g.name ≠ "_" := by simpa using c1
   have hd1:s.depth <= d:=nZ (Nat.le_max_left _ _) hd
   have hd2:wKC fs <= d:=nZ (Nat.le_max_right _ _) hd
   cases hq:wNn s a b with
   | none=>rw [hq] at hr;cases hr
   | some q =>
    have hE:=wKD s g.type d a b u v q c4 hd1 hq u1 v1
    rw [hq] at hr
    cases q with
    | true =>
     simp only at hr
     have hF:=wKE fs gs d l k xs ys r c5 hd2 hr hx hy
     simp [Op.eqFields,hne,u2,v2,hE,hF,Result.andThen]
    | false =>
     simp only [nk] at hr
     subst hr
     simp [Op.eqFields,hne,u2,v2,hE,Result.andThen]
  ·cases hr
 | [],_ :: _,d,l,k,xs,ys,r,hc,hd,hr,hx,hy,w=>by simp [wKx] at hc
 | _ :: _,[],d,l,k,xs,ys,r,hc,hd,hr,hx,hy,w=>by simp [wKx] at hc
end
theorem wNs {fs:List (Nat × Nat × Sh)} {r:Bool}:∀ {a b:AV},wNn (.str fs) a b=some r->∃ l k,a=.agg l/\b=.agg k:=by
 intro a b h
 cases a <;> cases b <;> first | exact ⟨_,_,rfl,rfl⟩ | (simp [wNn] at h;done)
def wPL (P:Program) (ne:Bool) (s:Sh) (x y:AOd):Op->Bool
 | .binOp b t x' y' _=>(match ne with | true=>b == .neq | false=>b == .eql) && (kB s.depth 10000 && (wJU P s t && ((match s with | .str _=>true | _=>false) && ((!P.eqGuardType P.depth t) && (wBh x x' && wBh y y')))))
 | _=>false
theorem p_eqs {ne:Bool} {s:Sh} {x y:AOd} {op:Op} (hc:wPL P ne s x y op=true):OkP P op (wJD ne s x y):=by
 intro σA h v h' hr
 unfold wPL at hc
 split at hc
 ·rename_i b t x' y' t'
  simp only [nA,nV] at hc
  obtain ⟨c0,c1,c2,c3,c4,c5,c6⟩:=hc
  unfold wJD at hr
  split at hr
  ·rename_i r e1
   cases hr
   refine ⟨rfl,fun μ σ hE=>⟨_,rfl,fun o w ho=>?_⟩⟩
   have g1:=wAG c5 hE
   have g2:=wAG c6 hE
   have g3:∀ w,(Op.equal t (ev σ x') (ev σ y')).run P w=.ok r w:=wKD s t 10000 _ _ _ _ r c2 (nL c1) e1 g1 g2
   cases s <;> first | (cases c3;done) | skip
   obtain ⟨l,k,h1,h2⟩:=wNs e1
   rw [h1] at g1;rw [h2] at g2
   obtain ⟨xs,_,g1⟩:=g1
   obtain ⟨ys,_,g2⟩:=g2
   rw [g1,g2] at g3
   refine ⟨by rw [ho];rfl,?_⟩
   cases ne
   ·have:=eq_of_beq c0;subst this
    simp [execOp,ho,g1,g2,binOp,eqGuard,c4,g3,wGx]
   ·have:=eq_of_beq c0;subst this
    simp [execOp,ho,g1,g2,binOp,eqGuard,c4,g3,wGx]
  ·cases hr
 ·cases hc
end
end
end Go.KX
namespace Go.KX
noncomputable section
open Go.RowKit Go.KL
section
variable {C:Chk} {P:Program} {μ μ':Mu} {w w':World} {h h':AH} {σ:Env} {σA:Tr AV} {t e:TypeId} {o:Oper}
def wPM (P:Program) (off:Nat) (x:AOd):Op->Bool
 | .fieldAddr t y i=>wDi P t (fun d=>match d with
   | .struct fs=>match fs[i]? with
    | some f=>nD f.offset off && (match P.info? f.type with | some j=>nR 0 j.size | none=>false)
    | none=>false
   | _=>false) && wBh x y
 | _=>false
theorem p_fad {off:Nat} {x:AOd} {op:Op} (hc:wPM P off x op=true):OkP P op (wJH off x):=by
 intro σA h v h' hr
 unfold wPM at hc
 split at hc
 ·rename_i t y i
  simp only [nA] at hc
  obtain ⟨c1,c2⟩:=hc
  unfold wJH at hr
  split at hr
  ·rename_i b oo hb
   cases hr
   refine ⟨rfl,fun μ σ hE=>?_⟩
   have g:=wAG c2 hE;rw [hb] at g
   obtain ⟨c,g1,g2⟩:=g
   refine ⟨_,⟨c,g1,rfl⟩,fun o w ho=>?_⟩
   obtain ⟨d,d1,d2⟩:=wAd c1
   split at d2
   ·rename_i fs
    split at d2
    ·rename_i f hf
     simp only [nA] at d2
     have e:=nB d2.1
     subst e
     have d3:=d2.2
     split at d3
     ·rename_i j hj
      have hpos:0 < j.size:=by simpa [nH] using d3
      obtain ⟨n,hn⟩:∃ n,j.size=n + 1:=⟨j.size - 1,by omega⟩
      exact Runs.fa (n:=n) ho g2 (wAk d1) hf (fun w=>by rw [<- hn];simp [sizeOf,typeInfo,hj])
     ·cases d3
    ·cases d2
   ·cases d2
  ·cases hr
 ·cases hc
def wPN (P:Program) (off:Nat) (x:AOd):Op->Bool
 | .field t y i=>wDi P t (fun d=>match d with
   | .struct fs=>match fs[i]? with
    | some f=>nD f.offset off && wNq P f.type false
    | none=>false
   | _=>false) && wBh x y
 | _=>false
def wMT (P:Program) (off n:Nat) (x:AOd):Op->Bool
 | .field t y i=>wDi P t (fun d=>match d with
   | .struct fs=>match fs[i]? with
    | some f=>nD f.offset off && (wNq P f.type true && szT P f.type n)
    | none=>false
   | _=>false) && wBh x y
 | _=>false
theorem p_fld {off:Nat} {x:AOd} {op:Op} (hc:wPN P off x op=true):OkP P op (wJI off x):=by
 intro σA h v h' hr
 unfold wPN at hc
 split at hc
 ·rename_i t y i
  simp only [nA] at hc
  obtain ⟨c1,c2⟩:=hc
  unfold wJI at hr
  split at hr
  ·rename_i l hb
   obtain ⟨hr2,rfl⟩:=wBR hr
   refine ⟨rfl,fun μ σ hE=>?_⟩
   have g:=wAG c2 hE;rw [hb] at g
   obtain ⟨vs,g1,g2⟩:=g
   rw [wFT] at hr2
   obtain ⟨cv,g3,g4⟩:=wER g1 hr2
   refine ⟨cv,g4,fun o w ho=>?_⟩
   obtain ⟨d,d1,d2⟩:=wAd c1
   split at d2
   ·split at d2
    ·rename_i f hf
     simp only [nA] at d2
     have e:=nB d2.1
     subst e
     exact Runs.fld ho g2 (wAk d1) hf (wDO (wDo d2.2) g3)
    ·cases d2
   ·cases d2
  ·cases hr
 ·cases hc
theorem wCv {x:Option (List AV)} {v:AV} (hr:wGu x=some v):∃ l,x=some l/\v=.agg l:=by
 cases x <;> cases hr;exact ⟨_,rfl,rfl⟩
theorem wQf {off n:Nat} {x:AOd} {op:Op} (hc:wMT P off n x op=true):OkP P op (wGE off n x):=by
 intro σA h v h' hr
 unfold wMT at hc
 split at hc
 ·rename_i t y i
  simp only [nA] at hc
  obtain ⟨c1,c2⟩:=hc
  unfold wGE at hr
  split at hr
  ·rename_i l hb
   obtain ⟨hr2,rfl⟩:=wBR hr
   obtain ⟨r,hr3,rfl⟩:=wCv hr2
   refine ⟨rfl,fun μ σ hE=>?_⟩
   have g:=wAG c2 hE;rw [hb] at g
   obtain ⟨vs,g1,g2⟩:=g
   obtain ⟨g3,g4⟩:=wES hr3 g1
   refine ⟨_,⟨_,g3,rfl⟩,fun o w ho=>?_⟩
   obtain ⟨d,d1,d2⟩:=wAd c1
   split at d2
   ·split at d2
    ·rename_i f hf
     simp only [nA] at d2
     have e:=nB d2.1
     subst e
     exact Runs.fld ho g2 (wAk d1) hf (wDu (wDo d2.2.1) (wDE d2.2.2) rfl)
    ·cases d2
   ·cases d2
  ·cases hr
 ·cases hc
theorem wBf {a:AV} {n:Nat} (hr:wFy a=some n):a=.int .i64 n:=by
 unfold wFy at hr
 split at hr
 ·cases hr;rfl
 ·cases hr
def wPO (P:Program) (sz:Nat) (x y:AOd):Op->Bool
 | .indexAddr t x' y'=>wDi P t (fun d=>match d with
   | .slice e=>szT P e sz
   | _=>false) && (wBh x x' && wBh y y')
 | _=>false
theorem p_iad {sz:Nat} {x y:AOd} {op:Op} (hc:wPO P sz x y op=true):OkP P op (wJJ sz x y):=by
 intro σA h v h' hr
 unfold wPO at hc
 split at hc
 ·rename_i t x' y'
  simp only [nA] at hc
  obtain ⟨c1,c2,c3⟩:=hc
  obtain ⟨d,d1,d2⟩:=wAd c1
  split at d2
  ·rename_i e
   unfold wJJ at hr
   split at hr
   ·rename_i b off n c i hb hi
    obtain ⟨hlt,hr⟩:=wBJ hr
    cases hr
    have hlt:i < n:=by simpa [nH] using hlt
    have hi:=wBf hi
    refine ⟨rfl,fun μ σ hE=>?_⟩
    have g:=wAG c2 hE;rw [hb] at g
    have k:=wAG c3 hE;rw [hi] at k
    obtain ⟨m,g1,g2,g3⟩:=g
    refine ⟨_,⟨m,g1,rfl⟩,fun o w ho=>?_⟩
    have:=Runs.ia (P:=P) (o:=o) (w:=w) (i:=(i:Int)) ho g3 k (wAk d1) (wDE d2) (by omega) (by omega)
    simpa using this
   ·rename_i b eo co n i hb hi
    obtain ⟨hlt,hr⟩:=wBJ hr
    cases hr
    have hlt:i < n:=by simpa [nH] using hlt
    have hi:=wBf hi
    refine ⟨rfl,fun μ σ hE=>?_⟩
    have g:=wAG c2 hE;rw [hb] at g
    have k:=wAG c3 hE;rw [hi] at k
    obtain ⟨m,g1,g2,g3⟩:=g
    refine ⟨_,⟨m,g1,rfl⟩,fun o w ho=>?_⟩
    have:=Runs.ia (P:=P) (o:=o) (w:=w) (i:=(i:Int)) ho g3 k (wAk d1) (wDE d2) (by omega) (by omega)
    simpa using this
   ·cases hr
  ·cases d2
 ·cases hc
def wMU (P:Program) (sz n:Nat) (x y:AOd):Op->Bool
 | .indexAddr t x' y'=>wDi P t (fun d=>match d with
   | .array m e=>nD m n && szT P e sz
   | _=>false) && (wBh x x' && wBh y y')
 | _=>false
theorem wQg {sz n:Nat} {x y:AOd} {op:Op} (hc:wMU P sz n x y op=true):OkP P op (wGF sz n x y):=by
 intro σA h v h' hr
 unfold wMU at hc
 split at hc
 ·rename_i t x' y'
  simp only [nA] at hc
  obtain ⟨c1,c2,c3⟩:=hc
  obtain ⟨d,d1,d2⟩:=wAd c1
  split at d2
  ·rename_i m e
   simp only [nA] at d2
   have em:=nB d2.1
   subst em
   unfold wGF at hr
   split at hr
   ·rename_i b off i hb hi
    obtain ⟨hlt,hr⟩:=wBJ hr
    cases hr
    have hlt:i < m:=by simpa [nH] using hlt
    have hi:=wBf hi
    refine ⟨rfl,fun μ σ hE=>?_⟩
    have g:=wAG c2 hE;rw [hb] at g
    have k:=wAG c3 hE;rw [hi] at k
    obtain ⟨q,g1,g3⟩:=g
    refine ⟨_,⟨q,g1,rfl⟩,fun o w ho=>?_⟩
    have:=Runs.iaA (P:=P) (o:=o) (w:=w) (i:=(i:Int)) ho g3 k (wAk d1) (wDE d2.2) (by omega) (by omega)
    simpa using this
   ·cases hr
  ·cases d2
 ·cases hc
def c_ix (P:Program) (n:Nat) (x y:AOd):Op->Bool
 | .index t x' y'=>wDi P t (fun d=>match d with
   | .array m e=>nD m n && (szT P e 1 && wNq P e false)
   | _=>false) && (wBh x x' && wBh y y')
 | _=>false
theorem p_ix {n:Nat} {x y:AOd} {op:Op} (hc:c_ix P n x y op=true):OkP P op (wOz n x y):=by
 intro σA h v h' hr
 unfold c_ix at hc
 split at hc
 ·rename_i t x' y'
  simp only [nA] at hc
  obtain ⟨c1,c2,c3⟩:=hc
  obtain ⟨d,d1,d2⟩:=wAd c1
  split at d2
  ·rename_i m e
   simp only [nA] at d2
   have em:=nB d2.1
   subst em
   unfold wOz at hr
   split at hr
   ·rename_i l i hb hi
    obtain ⟨hlt,hr⟩:=wBJ hr
    obtain ⟨hr2,rfl⟩:=wBR hr
    have hlt:i < m:=by simpa [nH] using hlt
    have hi:=wBf hi
    refine ⟨rfl,fun μ σ hE=>?_⟩
    have g:=wAG c2 hE;rw [hb] at g
    have k:=wAG c3 hE;rw [hi] at k
    obtain ⟨vs,g1,g2⟩:=g
    rw [wFT] at hr2
    obtain ⟨cv,g3,g4⟩:=wER g1 hr2
    refine ⟨cv,g4,fun o w ho=>?_⟩
    exact Runs.ixA (P:=P) (o:=o) (w:=w) (i:=(i:Int)) ho g2 k (wAk d1) (wDE d2.2.1) (by omega) (by omega) (wDO (wDo d2.2.2) (by simpa using g3))
   ·cases hr
  ·cases d2
 ·cases hc
def wPP (P:Program) (sz n:Nat) (x y:AOd):Op->Bool
 | .index t x' y'=>wDi P t (fun d=>match d with
   | .array m e=>nD m n && (szT P e sz && wNq P e true)
   | _=>false) && (wBh x x' && wBh y y')
 | _=>false
theorem p_ixA {sz n:Nat} {x y:AOd} {op:Op} (hc:wPP P sz n x y op=true):OkP P op (wJK sz n x y):=by
 intro σA h v h' hr
 unfold wPP at hc
 split at hc
 ·rename_i t x' y'
  simp only [nA] at hc
  obtain ⟨c1,c2,c3⟩:=hc
  obtain ⟨d,d1,d2⟩:=wAd c1
  split at d2
  ·rename_i m e
   simp only [nA] at d2
   have em:=nB d2.1
   subst em
   unfold wJK at hr
   split at hr
   ·rename_i l i hb hi
    obtain ⟨hlt,hr⟩:=wBJ hr
    obtain ⟨hr2,rfl⟩:=wBR hr
    obtain ⟨r,hr3,rfl⟩:=wCv hr2
    have hlt:i < m:=by simpa [nH] using hlt
    have hi:=wBf hi
    refine ⟨rfl,fun μ σ hE=>?_⟩
    have g:=wAG c2 hE;rw [hb] at g
    have k:=wAG c3 hE;rw [hi] at k
    obtain ⟨vs,g1,g2⟩:=g
    obtain ⟨g3,g4⟩:=wES hr3 g1
    refine ⟨_,⟨_,g3,rfl⟩,fun o w ho=>?_⟩
    exact Runs.ixA (P:=P) (o:=o) (w:=w) (i:=(i:Int)) ho g2 k (wAk d1) (wDE d2.2.1) (by omega) (by omega) (wDu (wDo d2.2.2) (wDE d2.2.1) (by simp))
   ·cases hr
  ·cases d2
 ·cases hc
def wOc:Option AOd->Option Operand->Bool
 | none,none=>true
 | some x,some y=>wBh x y
 | _,_=>false
theorem wMV {x:Option AOd} {y:Option Operand} {r:Option Nat} (hr:bnd σA x=some r) (hc:wOc x y=true) (hE:EnvR μ σA σ):(r=none/\y=none) \/ ∃ n z,r=some n/\y=some z/\ev σ z=.int .i64 n:=by
 cases x with
 | none =>
  cases y with
  | none=>cases hr;exact .inl ⟨rfl,rfl⟩
  | some _=>cases hc
 | some x =>
  cases y with
  | none=>cases hc
  | some y =>
   simp only [bnd] at hr
   split at hr
   ·rename_i n hn
    cases hr
    have:=wAG (show wBh x y=true from hc) hE
    rw [wBf hn] at this
    exact .inr ⟨n,y,rfl,rfl,this⟩
   ·cases hr
def vI (n:Nat):Value:=.int .i64 (n:Int)
theorem wGK {P:Program} {n y:Nat} {code:BoundsCode} (hle:n <= y) (w:World):(Instr.sliceBound (vI n) y code).run P w=.ok n w:=by
 have h1:(n:Int) <= y:=by omega
 simp [Instr.sliceBound,vI,asIntOf,h1]
theorem wDv {P:Program} {s:Bool} {len cap:Nat} {lo hi mx:Option Nat} {l hh m:Nat} (hm:m=mx.getD cap) (hh':hh=hi.getD len) (hl:l=lo.getD 0) (h1:l <= hh) (h2:hh <= m) (h3:m <= cap) (hmh:mx.isSome=true->hi.isSome=true) (w:World) :
  (Instr.sliceBounds s len cap (lo.map vI) (hi.map vI) (mx.map vI)).run P w=.ok (l,hh,m) w:=by
 subst hm hh' hl
 unfold Instr.sliceBounds
 cases mx <;> cases hi <;> cases lo <;> simp only [kc,ke] at h1 h2 h3 <;> (try (simp at hmh;done)) <;> simp [wGK h1,wGK h2,wGK h3]
theorem wGL {x:Option AOd} {y:Option Operand} {r:Option Nat} (hr:bnd σA x=some r) (hc:wOc x y=true) (hE:EnvR μ σA σ):y.map (ev σ)=r.map vI:=by
 rcases wMV hr hc hE with ⟨rfl,rfl⟩ | ⟨n,z,rfl,rfl,h1⟩
 ·rfl
 ·simp [h1,vI]
theorem wEU (b off n:Nat):(Addr.add ⟨b,off,none⟩ n)=⟨b,off + n,none⟩:=wDU b off n
theorem wMW {P:Program} {sz:Nat} {a v:AV} {x:Value} {lo hi mx:Option Nat} (hr0:wQW sz a (orD lo 0) hi mx=some v) (hx:Rv μ a x) (hmh:mx.isSome=true->hi.isSome=true) :
  ∃ A len cap cv l hh m,x=.slice A len cap/\Rv μ v cv/\(∀ s w,(Instr.sliceBounds s len cap (lo.map vI) (hi.map vI) (mx.map vI)).run P w=.ok (l,hh,m) w) /\
   cv=.slice (if m=l then A else A.map (·.add (l * sz))) (hh - l) (m - l):=by
 obtain ⟨l,hl,hr⟩:∃ l,lo.getD 0=l/\wQW sz a l hi mx=some v:=⟨_,rfl,by rw [<- wLm];exact hr0⟩
 clear hr0
 unfold wQW at hr
 split at hr
 ·obtain ⟨hb,hr⟩:=wBJ hr
  cases hr
  simp only [nA] at hb
  obtain ⟨⟨b1,b2⟩,b3⟩:=hb
  have l0:=nB b1
  have hx:x=.slice none 0 0:=hx
  subst hx
  have h2:hi.getD 0=0:=by cases hi with | none=>rfl | some n=>exact nB b2
  have h3:mx.getD 0=0:=by cases mx with | none=>rfl | some n=>exact nB b3
  refine ⟨none,0,0,_,0,0,0,rfl,(rfl:Rv μ .snil _),fun s w=>wDv h3.symm h2.symm (by rw [hl,l0]) (nG _) (nG _) (nG _) hmh w,by simp⟩
 ·rename_i b off n c
  obtain ⟨d,g1,g2,rfl⟩:=hx
  simp only [wLm] at hr
  obtain ⟨hb,hr⟩:=wBJ hr
  cases hr
  simp only [nA,nP] at hb
  obtain ⟨⟨b1,b2⟩,b3⟩:=hb
  refine ⟨_,n,c,_,l,hi.getD n,mx.getD c,rfl,⟨d,g1,by omega,rfl⟩,fun s w=>wDv rfl rfl hl.symm b1 b2 b3 hmh w,?_⟩
  by_cases e:mx.getD c=l
  ·simp [e]
  ·have:nD (mx.getD c) l=false:=by
    cases hq:nD (mx.getD c) l with
    | false=>rfl
    | true=>exact absurd (nB hq) e
   simp [e,this,wEU]
 ·rename_i b eo co n
  obtain ⟨d,g1,g2,rfl⟩:=hx
  simp only [wLm] at hr
  split at hr
  ·obtain ⟨hb,hr⟩:=wBJ hr
   simp only [nA,nP] at hb
   obtain ⟨b1,b2⟩:=hb
   have fin:∀ cv,cv=Value.slice (if d.2 - eo=l then some ⟨d.1,co,none⟩ else (some (⟨d.1,co,none⟩:Addr)).map (·.add (l * sz))) (hi.getD n - l) (d.2 - eo - l)->Rv μ v cv ->
     ∃ A len cap cv l hh m,Value.slice (some ⟨d.1,co,none⟩) n (d.2 - eo)=.slice A len cap/\Rv μ v cv/\(∀ s w,(Instr.sliceBounds s len cap (lo.map vI) (hi.map vI) ((none:Option Nat).map vI)).run P w=.ok (l,hh,m) w) /\
      cv=.slice (if m=l then A else A.map (·.add (l * sz))) (hh - l) (m - l):=fun cv e hv =>
    ⟨_,n,d.2 - eo,cv,l,hi.getD n,d.2 - eo,rfl,hv,fun s w=>wDv rfl rfl hl.symm b1 (by simp only [kc];omega) (nG _) hmh w,e⟩
   split at hr
   ·cases hr
    refine fin _ rfl ⟨d,g1,by omega,?_⟩
    simp [Addr.add]
   ·rename_i l0
    split at hr
    ·rename_i hlt
     cases hr
     have hlt:l < n:=by simpa [nH] using hlt
     refine fin _ rfl ⟨d,g1,by omega,?_⟩
     rw [if_neg (by omega)]
     simp [wEU,Nat.sub_sub]
    ·rename_i hlt
     cases hr
     have hlt:¬ l < n:=by
      intro hq
      have:nR l n=true:=by rw [nH];exact hq
      rw [this] at hlt;cases hlt
     have e1:hi.getD n - l=0:=by omega
     refine fin _ rfl ?_
     rw [e1]
     by_cases e2:d.2 - eo=l
     ·rw [if_pos e2];exact ⟨d,g1,co,by congr 1;omega⟩
     ·rw [if_neg e2];exact ⟨d,g1,co + l * sz,by simp only [kf,wEU];congr 1;omega⟩
  ·rename_i m
   obtain ⟨hb,hr⟩:=wBJ hr
   cases hr
   simp only [nA,nP] at hb
   obtain ⟨⟨b1,b2⟩,b3⟩:=hb
   refine ⟨_,n,d.2 - eo,_,l,hi.getD n,m,rfl,⟨d,g1,by omega,rfl⟩,fun s w=>wDv (mx:=some m) rfl rfl hl.symm b1 b2 (by simp only [ke];omega) hmh w,?_⟩
   by_cases e:m=l
   ·simp [e]
   ·have:nD m l=false:=by
     cases hq:nD m l with
     | false=>rfl
     | true=>exact absurd (nB hq) e
    simp [e,this,wEU]
 ·cases hr
def wPQ (P:Program) (sz:Nat) (x:AOd) (lo hi mx:Option AOd):Op->Bool
 | .slice t y l m n=>wDi P t (fun d=>match d with
   | .slice e=>szT P e sz
   | _=>false) && (wBh x y && (wOc lo l && (wOc hi m && (wOc mx n && (!mx.isSome || hi.isSome)))))
 | _=>false
theorem p_slc {sz:Nat} {x:AOd} {lo hi mx:Option AOd} {op:Op} (hc:wPQ P sz x lo hi mx op=true):OkP P op (wJG sz x lo hi mx):=by
 intro σA h v h' hr
 unfold wPQ at hc
 split at hc
 ·rename_i t y l m n
  simp only [nA] at hc
  obtain ⟨c1,c2,c3,c4,c5,c6⟩:=hc
  obtain ⟨d,d1,d2⟩:=wAd c1
  split at d2
  ·rename_i e
   unfold wJG at hr
   split at hr
   ·rename_i rl rh rm h1 h2 h3
    obtain ⟨hr2,rfl⟩:=wBR hr
    refine ⟨rfl,fun μ σ hE=>?_⟩
    have hmh:rm.isSome=true->rh.isSome=true:=by
     intro hs
     rcases wMV h3 c5 hE with ⟨rfl,_⟩ | ⟨_,z,rfl,rfl,_⟩
     ·cases hs
     ·cases mx with
      | none=>simp [bnd] at h3
      | some _ =>
       cases hi with
       | none=>simp at c6
       | some _ =>
        rcases wMV h2 c4 hE with ⟨rfl,e0⟩ | ⟨_,_,rfl,_⟩
        ·subst e0;simp [wOc] at c4
        ·rfl
    obtain ⟨A,len,cap,cv,ll,hh,mm,e1,e2,e3,e4⟩:=wMW (P:=P) hr2 (wAG c2 hE) hmh
    refine ⟨cv,e2,fun o w ho=>⟨by rw [ho];rfl,?_⟩⟩
    have b1:=wGL h1 c3 hE
    have b2:=wGL h2 c4 hE
    have b3:=wGL h3 c5 hE
    simp [execOp,ho,Instr.sliceAt,Instr.slice,wAk d1,e1,b1,b2,b3,e3,wDE d2,e4]
   ·cases hr
  ·cases d2
 ·cases hc
def wMX (P:Program) (sz n:Nat) (x:AOd) (lo hi:Option AOd):Op->Bool
 | .slice t y l m none=>wDi P t (fun d=>match d with
   | .array k e=>nD k n && szT P e sz
   | _=>false) && (wBh x y && (wOc lo l && wOc hi m))
 | _=>false
theorem wQh {sz n:Nat} {x:AOd} {lo hi:Option AOd} {op:Op} (hc:wMX P sz n x lo hi op=true):OkP P op (wGD sz n x lo hi):=by
 intro σA h v h' hr
 unfold wMX at hc
 split at hc
 ·rename_i t y l m
  simp only [nA] at hc
  obtain ⟨c1,c2,c3,c4⟩:=hc
  obtain ⟨d,d1,d2⟩:=wAd c1
  split at d2
  ·rename_i k e
   simp only [nA] at d2
   have ek:=nB d2.1
   subst ek
   unfold wGD at hr
   split at hr
   ·rename_i rl rh b off h1 h2 hb
    obtain ⟨hr2,rfl⟩:=wBR hr
    refine ⟨rfl,fun μ σ hE=>?_⟩
    have g:=wAG c2 hE;rw [hb] at g
    obtain ⟨c,g1,g2⟩:=g
    obtain ⟨A,len,cap,cv,ll,hh,mm,e1,e2,e3,e4⟩:=wMW (P:=P) (μ:=μ) (x:=.slice (some ⟨c.1,off,none⟩) k k) hr2 ⟨c,g1,nG _,rfl⟩ (by intro hs;cases hs)
    cases e1
    refine ⟨cv,e2,fun o w ho=>⟨by rw [ho];rfl,?_⟩⟩
    have b1:=wGL h1 c3 hE
    have b2:=wGL h2 c4 hE
    have e3':=e3 false
    simp only [Option.map_none] at e3'
    simp [execOp,ho,Instr.sliceAt,wAk d1,g2,Instr.sureAddr,b1,b2,e3',wDE d2.2,e4]
    split <;> simp
   ·cases hr
  ·cases d2
 ·cases hc
end
end
end Go.KX
namespace Go.KX
noncomputable section
open Go.RowKit Go.KL
section
variable {C:Chk} {P:Program} {μ μ':Mu} {w w':World} {h h':AH} {σ:Env} {σA:Tr AV} {t e:TypeId} {o:Oper}
def wIT (place:Nat->Option (Nat × Nat)):List (Nat × Nat × AOd)->List (Nat × Operand)->Bool
 | [],[]=>true
 | (off,n,x) :: ps,(i,y) :: qs=>(match place i with | some (o,s)=>nD o off && nD s n | none=>false) && (wBh x y && wIT place ps qs)
 | _,_=>false
theorem wGM {place:Nat->Option (Nat × Nat)} (hE:EnvR μ σA σ):∀ {ps:List (Nat × Nat × AOd)} {qs:List (Nat × Operand)} {cs r:List AV} {CS:List Value},wHU σA cs ps=some r->wIT place ps qs=true->RvL μ cs CS ->
  ∃ R,lay place CS (qs.map fun (p:Nat × Operand)=>(p.1,ev σ p.2))=some R/\RvL μ r R/\R.length=CS.length
 | [],[],cs,r,CS,hr,_,hl=>by
  simp only [wHU] at hr;cases hr;exact ⟨CS,rfl,hl,rfl⟩
 | (off,n,x) :: ps,(i,y) :: qs,cs,r,CS,hr,hc,hl=>by
  simp only [wIT,nA] at hc
  obtain ⟨c1,c2,c3⟩:=hc
  split at c1
  ·rename_i o s hp
   simp only [nA] at c1
   have e1:=nB c1.1
   have e2:=nB c1.2
   subst e1 e2
   simp only [wHU] at hr
   split at hr
   ·rename_i hn
    have hn:=nB hn
    split at hr
    ·rename_i cs' ho
     obtain ⟨vs,v1,v2⟩:=wFd (wAG c2 hE)
     obtain ⟨g1,g2⟩:=wHY ho hl v1
     have hlen:vs.length=s:=by rw [wCX v1,<- wDn,hn]
     obtain ⟨R,r1,r2,r3⟩:=wGM hE hr c3 g2
     refine ⟨R,?_,r2,by rw [r3,wBs]⟩
     rw [nI,lay,hp]
     simp only [v2,kX,hlen,beq_self_eq_true,Bool.true_and]
     rw [if_pos (by rw [nP];omega)]
     exact r1
    ·cases hr
   ·cases hr
  ·cases c1
 | [],_ :: _,cs,r,CS,hr,hc,hl=>by simp [wIT] at hc
 | _ :: _,[],cs,r,CS,hr,hc,hl=>by simp [wIT] at hc
def plL (P:Program):List Field->Option (List (Nat × Nat))
 | []=>some []
 | f :: fs=>match P.info? f.type,plL P fs with
  | some i,some l=>some ((f.offset,i.size) :: l)
  | _,_=>none
theorem wQi:∀ {fs:List Field} {pl:List (Nat × Nat)},plL P fs=some pl->wOV P fs.toArray pl:=by
 intro fs pl hp w
 rw [List.mapM_toArray]
 have key:∀ (fs:List Field) (pl:List (Nat × Nat)),plL P fs=some pl->((fs.mapM fun f=>do pure (f.offset,<- sizeOf f.type):Sem (List (Nat × Nat)))).run P w=.ok pl w:=by
  intro fs
  induction fs with
  | nil=>intro pl hp;cases hp;simp
  | cons f fs ih =>
   intro pl hp
   unfold plL at hp
   split at hp
   ·rename_i i l h1 h2
    cases hp
    have hs:(sizeOf f.type).run P w=.ok i.size w:=by simp [sizeOf,typeInfo,h1]
    simp only [List.mapM_cons,Sem.run_bind,hs,Result.andThen_ok,Sem.run_pure,ih l h2]
   ·cases hp
 have:=key fs pl hp
 simp only [Sem.run_map,this,Result.andThen_ok]
def wPR (P:Program) (z:List AV) (ps:List (Nat × Nat × AOd)):Op->Bool
 | .build t qs=>zT P t z && wDi P t (fun d=>match d with
   | .struct fs=>match plL P fs.toList with
    | some pl=>wIT (fun i=>pl[i]?) ps qs.toList
    | none=>false
   | .array _ e=>match P.info? e with
    | some j=>wIT (fun i=>some (i * j.size,j.size)) ps qs.toList
    | none=>false
   | _=>false)
 | _=>false
theorem p_bld {z:List AV} {ps:List (Nat × Nat × AOd)} {op:Op} (hc:wPR P z ps op=true):OkP P op (wLz z ps):=by
 intro σA h v h' hr
 unfold wPR at hc
 split at hc
 ·rename_i t qs
  simp only [nA] at hc
  obtain ⟨c1,c2⟩:=hc
  obtain ⟨hr2,rfl⟩:=wBR hr
  obtain ⟨r,hr3,rfl⟩:=wCv hr2
  obtain ⟨i,zv,z1,z2,z3⟩:=wET c1
  obtain ⟨d,d1,d2⟩:=wAd c2
  refine ⟨rfl,fun μ σ hE=>?_⟩
  split at d2
  ·rename_i fs
   split at d2
   ·rename_i pl hpl
    obtain ⟨R,r1,r2,_⟩:=wGM hE hr3 d2 (z3 μ)
    refine ⟨_,⟨R,r2,rfl⟩,fun o w ho=>?_⟩
    exact Runs.build (P:=P) (ps:=qs.toList) (z:=zv.cells.toList) ho rfl (wDF z1 z2) ⟨fs,wAk d1,wQi hpl⟩ (by simp) r1
   ·cases d2
  ·rename_i n e
   split at d2
   ·rename_i j hj
    obtain ⟨R,r1,r2,_⟩:=wGM hE hr3 d2 (z3 μ)
    refine ⟨_,⟨R,r2,rfl⟩,fun o w ho=>?_⟩
    exact Runs.buildA (P:=P) (ps:=qs.toList) (z:=zv.cells.toList) ho rfl (wDF z1 z2) (wAk d1) (fun w=>by simp [sizeOf,typeInfo,hj]) (by simp) r1
   ·cases d2
  ·cases d2
 ·cases hc
def wKy (P:Program) (b:Builtin) (x:AOd):Op->Bool
 | .call c=>match c.callee with
  | .builtin b'=>(b' == b) && (match c.args.toList,c.argTypes.toList with
   | [y],[t]=>wDi P t (fun d=>match d with | .slice _=>true | _=>false) && wBh x y
   | _,_=>false)
  | _=>false
 | _=>false
theorem wKF {b:Builtin} {x:AOd} {op:Op} (hc:wKy P b x op=true):∃ y t e,op=.call { callee:=.builtin b,args:=#[y],argTypes:=#[t] }/\P.underlying t=some (.slice e)/\wBh x y=true:=by
 unfold wKy at hc
 split at hc
 ·rename_i c
  obtain ⟨ce,args,tys⟩:=c
  simp only at hc
  split at hc
  ·rename_i b'
   simp only [nA,beq_iff_eq] at hc
   obtain ⟨rfl,h2⟩:=hc
   split at h2
   ·rename_i y t h3 h4
    simp only [nA] at h2
    obtain ⟨d,d1,d2⟩:=wAd h2.1
    cases d <;> first | (cases d2;done) | skip
    refine ⟨y,t,_,?_,d1,h2.2⟩
    congr 2
    ·exact nK (by simpa using h3)
    ·exact nK (by simpa using h4)
   ·cases h2
  ·cases hc
 ·cases hc
theorem p_len {x:AOd} {op:Op} (hc:wKy P .len x op=true):OkP P op (wJM x):=by
 intro σA h v h' hr
 obtain ⟨y,t,e,rfl,d1,c2⟩:=wKF hc
 unfold wJM at hr
 split at hr <;> cases hr <;> rename_i hb
 ·refine ⟨rfl,fun μ σ hE=>⟨_,rfl,fun o w ho=>?_⟩⟩
  have g:=wAG c2 hE;rw [hb] at g
  exact Runs.len ho g (wAk d1)
 ·refine ⟨rfl,fun μ σ hE=>⟨_,rfl,fun o w ho=>?_⟩⟩
  have g:=wAG c2 hE;rw [hb] at g
  obtain ⟨c,_,_,g⟩:=g
  exact Runs.len ho g (wAk d1)
 ·refine ⟨rfl,fun μ σ hE=>⟨_,rfl,fun o w ho=>?_⟩⟩
  have g:=wAG c2 hE;rw [hb] at g
  obtain ⟨c,_,_,g⟩:=g
  exact Runs.len ho g (wAk d1)
 ·refine ⟨rfl,fun μ σ hE=>⟨_,rfl,fun o w ho=>?_⟩⟩
  have g:=wAG c2 hE;rw [hb] at g
  obtain ⟨c,_,q,g⟩:=g
  exact Runs.len ho g (wAk d1)
theorem Runs.cap {t e:TypeId} {x:Operand} {a:Option Addr} {n c:Nat} (ho:o.op=.call { callee:=.builtin .cap,args:=#[x],argTypes:=#[t] }) (hx:ev σ x=.slice a n c)
  (ht:∀ w,(underlying t).run P w=.ok (.slice e) w):Runs P σ w o (.int .i64 c) w :=
 ⟨by rw [ho];rfl,by simp [execOp,ho,resolve,invoke,builtin,Builtin.cap_,hx,ht,goInt]⟩
theorem p_cap {x:AOd} {op:Op} (hc:wKy P .cap x op=true):OkP P op (wJN x):=by
 intro σA h v h' hr
 obtain ⟨y,t,e,rfl,d1,c2⟩:=wKF hc
 unfold wJN at hr
 split at hr <;> cases hr <;> rename_i hb
 ·refine ⟨rfl,fun μ σ hE=>⟨_,rfl,fun o w ho=>?_⟩⟩
  have g:=wAG c2 hE;rw [hb] at g
  exact Runs.cap ho g (wAk d1)
 ·refine ⟨rfl,fun μ σ hE=>⟨_,rfl,fun o w ho=>?_⟩⟩
  have g:=wAG c2 hE;rw [hb] at g
  obtain ⟨c,_,_,g⟩:=g
  exact Runs.cap ho g (wAk d1)
def wQJ (b:Builtin) (x y:AOd):Op->Bool
 | .call c=>match c.callee with
  | .builtin b'=>(b' == b) && (match c.args.toList with
   | [x',y']=>wBh x x' && wBh y y'
   | _=>false)
  | _=>false
 | _=>false
theorem wMY {b:Builtin} {x y:AOd} {op:Op} (hc:wQJ b x y op=true):∃ x' y' tys,op=.call { callee:=.builtin b,args:=#[x',y'],argTypes:=tys }/\wBh x x'=true/\wBh y y'=true:=by
 unfold wQJ at hc
 split at hc
 ·rename_i c
  obtain ⟨ce,args,tys⟩:=c
  simp only at hc
  split at hc
  ·rename_i b'
   simp only [nA,beq_iff_eq] at hc
   obtain ⟨rfl,h2⟩:=hc
   split at h2
   ·rename_i x' y' h3
    simp only [nA] at h2
    refine ⟨x',y',tys,?_,h2.1,h2.2⟩
    congr 2
    exact nK (by simpa using h3)
   ·cases h2
  ·cases hc
 ·cases hc
theorem p_min {x y:AOd} {op:Op} (hc:wQJ .min x y op=true):OkP P op (wMA x y):=by
 intro σA h v h' hr
 obtain ⟨x',y',tys,rfl,c1,c2⟩:=wMY hc
 obtain ⟨hr2,rfl⟩:=wBR hr
 split at hr2
 ·rename_i a b e1 e2
  cases hr2
  refine ⟨rfl,fun μ σ hE=>⟨_,rfl,fun o w ho=>?_⟩⟩
  have g1:=wAG c1 hE;rw [e1] at g1
  have g2:=wAG c2 hE;rw [e2] at g2
  refine (Runs.min ho g1 g2).to ?_
  have:(match zlt b a with | true=>b | false=>a)=Min.min a b:=by
   rw [wGI,Int.min_def]
   by_cases hq:b < a
   ·simp [hq,Int.not_le.2 hq]
   ·simp [hq,Int.not_lt.1 hq]
  exact congrArg (nw .i64) this.symm
 ·cases hr2
theorem p_max {x y:AOd} {op:Op} (hc:wQJ .max x y op=true):OkP P op (wMB x y):=by
 intro σA h v h' hr
 obtain ⟨x',y',tys,rfl,c1,c2⟩:=wMY hc
 obtain ⟨hr2,rfl⟩:=wBR hr
 split at hr2
 ·rename_i a b e1 e2
  cases hr2
  refine ⟨rfl,fun μ σ hE=>⟨_,rfl,fun o w ho=>?_⟩⟩
  have g1:=wAG c1 hE;rw [e1] at g1
  have g2:=wAG c2 hE;rw [e2] at g2
  refine (Runs.max ho g1 g2).to ?_
  have:(match zlt a b with | true=>b | false=>a)=Max.max a b:=by
   rw [wGI,Int.max_def]
   by_cases hq:a < b
   ·simp [hq,Int.le_of_lt hq]
   ·by_cases hq2:a <= b
    ·have:a=b:=by omega
     simp [this]
    ·simp [hq,hq2]
  exact congrArg (nw .i64) this.symm
 ·cases hr2
def OkL (C:Chk) (P:Program) (op:Op) (f:Tr AV->AH->Option (AV × AH)):Prop :=
 ∀ σA h v h',f σA h=some (v,h')->h'=h/\∀ μ σ w,EnvR μ σA σ->Sim C P μ h w->∃ cv,Rv μ v cv/\∀ (o:Oper),o.op=op->wFW P σ w o cv
theorem wDw {b:Pos} {l:List AV} (hr:wCu h b=some l) (S:Sim C P μ h w):∃ c vs,μ b=some c/\RvL μ l vs/\∀ w',Keep w w' Non->∀ j v,vs[j]?=some v->w'.cell? ⟨c.1,j,none⟩=some v:=by
 unfold wCu at hr
 split at hr
 ·rename_i B hB
  obtain ⟨c,h1,h2⟩:=S.at_ b B hB
  cases B <;> simp only [wJw] at hr <;> first | (cases hr;done) | cases hr
  ·obtain ⟨vs,h3,h4⟩:=h2
   exact ⟨c,vs,h1,h3,fun w' K j v hv=>(h4.non K).cell hv⟩
  ·obtain ⟨vs,h3,h4⟩:=h2
   refine ⟨c,vs,h1,h3,fun w' K j v hv=>?_⟩
   obtain ⟨cur,g1,g2,g3,g4,g5⟩:=RowAt.cells h4
   have g1':=(K.block _ (wAK g1) id).trans g1
   have:cur.toList[j]?=some v:=by
    rw [<- g5,kS] at hv
    split at hv
    ·exact hv
    ·cases hv
   simp only [World.cell?,g1']
   simpa using this
 ·cases hr
def wQj (P:Program) (x:AOd):Op->Bool
 | .load t y=>wNq P t false && wBh x y
 | _=>false
theorem l_ld {x:AOd} {op:Op} (hc:wQj P x op=true):OkL C P op (wNc x):=by
 intro σA h v h' hr
 unfold wQj at hc
 split at hc
 ·simp only [nA] at hc
  unfold wNc at hr
  split at hr
  ·rename_i b off hb
   split at hr
   ·rename_i l hl
    obtain ⟨hr2,rfl⟩:=wBR hr
    refine ⟨rfl,fun μ σ w hE S=>?_⟩
    obtain ⟨c,vs,h1,h2,h3⟩:=wDw hl S
    have g:=wAG hc.2 hE;rw [hb] at g
    obtain ⟨c',g1,g2⟩:=g
    rw [h1] at g1;cases g1
    rw [wFT] at hr2
    obtain ⟨cv,g3,g4⟩:=wER h2 hr2
    exact ⟨cv,g4,fun o ho w' K=>Runs.ld ho g2 (wDo hc.1) (h3 w' K _ _ g3)⟩
   ·cases hr
  ·cases hr
 ·cases hc
def wMZ (P:Program) (n:Nat) (x:AOd):Op->Bool
 | .load t y=>(wNq P t true && szT P t n) && wBh x y
 | _=>false
theorem l_ldA {n:Nat} {x:AOd} {op:Op} (hc:wMZ P n x op=true):OkL C P op (wGj n x):=by
 intro σA h v h' hr
 unfold wMZ at hc
 split at hc
 ·simp only [nA] at hc
  unfold wGj at hr
  split at hr
  ·rename_i b off hb
   split at hr
   ·rename_i l hl
    obtain ⟨hr2,rfl⟩:=wBR hr
    obtain ⟨r,hr3,rfl⟩:=wCv hr2
    refine ⟨rfl,fun μ σ w hE S=>?_⟩
    obtain ⟨c,vs,h1,h2,h3⟩:=wDw hl S
    have g:=wAG hc.2 hE;rw [hb] at g
    obtain ⟨c',g1,g2⟩:=g
    rw [h1] at g1;cases g1
    obtain ⟨g3,g4⟩:=wES hr3 h2
    refine ⟨_,⟨_,g3,rfl⟩,fun o ho w' K=>Runs.ldA ho g2 (wDo hc.1.1) (wDE hc.1.2) (by simp;omega) fun j u hu=>?_⟩
    exact h3 w' K _ _ (wEo rfl j u hu)
   ·cases hr
  ·cases hr
 ·cases hc
def OkE (C:Chk) (P:Program) (op:Op) (f:Tr AV->AH->Option (AV × AH)):Prop :=
 ∀ σA h v h',f σA h=some (v,h')->∀ μ σ w,EnvR μ σA σ->Sim C P μ h w->∀ (o:Oper),o.op=op->∃ μ' w' cv,Ext μ h.fl.nat w μ' w'/\Sim C P μ' h' w'/\Rv μ' v cv/\h'.fl=h.fl/\Runs P σ w o cv w'
def OkU (C:Chk) (P:Program) (op:Op) (f:Tr AV->AH->Option (AV × AH)):Prop :=
 ∀ σA h v h',f σA h=some (v,h')->∀ μ σ w,EnvR μ σA σ->Sim C P μ h w->∀ (o:Oper),o.op=op->∃ μ' w',Ext μ h.fl.nat w μ' w'/\Sim C P μ' h' w'/\v=u/\h'.fl=h.fl/\Does P σ w o w'
theorem OkP.toL {op:Op} {f:Tr AV->AH->Option (AV × AH)} (hp:OkP P op f):OkL C P op f:=by
 intro σA h v h' hr
 obtain ⟨h1,h2⟩:=hp σA h v h' hr
 exact ⟨h1,fun μ σ w hE _=>let ⟨cv,g1,g2⟩:=h2 μ σ hE;⟨cv,g1,fun o ho w' _=>g2 o w' ho⟩⟩
theorem OkL.toE {op:Op} {f:Tr AV->AH->Option (AV × AH)} (hp:OkL C P op f):OkE C P op f:=by
 intro σA h v h' hr μ σ w hE S o ho
 obtain ⟨rfl,h2⟩:=hp σA h v h' hr
 obtain ⟨cv,g1,g2⟩:=h2 μ σ w hE S
 exact ⟨μ,w,cv,Ext.refl μ _ w,S,g1,rfl,g2 o ho w (Keep.refl w _)⟩
theorem wEs {T:TypeId} {z:List AV} {cs:List Value} (S:Sim C P μ h w) (hz:RvL μ z cs):∃ μ',Ext μ h.fl.nat w μ' (w.alloc (.cells cs.toArray T))/\Sim C P μ' (h.push (.cells T z)) (w.alloc (.cells cs.toArray T))/\(h.push (.cells T z)).fl=h.fl/\μ' h.nx=some ⟨w.heap.size,0,g0⟩:=by
 have hle:=Mu.add_le (c:=⟨w.heap.size,0,g0⟩) (S.nx h.nx (nG _))
 obtain ⟨h1,h2,h3,h4⟩:=S.push (w':=w.alloc (.cells cs.toArray T)) (c:=⟨w.heap.size,0,g0⟩) (B:=.cells T z) (wAm w _) (nG _) (by rw [wGp];exact Nat.lt_succ_self _) ⟨cs,hz.mono hle,wDN w cs T⟩
 exact ⟨_,h2,h1,h3,h4⟩
def wMa (P:Program) (T:Nat) (z:List AV):Op->Bool
 | .alloc t=>nD T t && zT P t z
 | _=>false
theorem e_new {T:Nat} {z:List AV} {op:Op} (hc:wMa P T z op=true):OkE C P op (wOx T z):=by
 intro σA h v h' hr μ σ w hE S o ho
 cases hr
 unfold wMa at hc
 split at hc
 ·simp only [nA] at hc
  have e:=nB hc.1
  subst e
  obtain ⟨i,zv,z1,z2,z3⟩:=wET hc.2
  obtain ⟨μ',h1,h2,h3,h4⟩:=wEs (T:=T) S (z3 μ)
  refine ⟨μ',_,_,h1,h2,⟨_,h4,rfl⟩,h3,by rw [ho];rfl,?_⟩
  simp [execOp,ho,Instr.alloc,wDF z1 z2,newVar,newRow,newObj,Sem.run]
 ·cases hc
def wMb (T:Nat) (x:AOd):Op->Bool
 | .box t y=>nD T t && wBh x y
 | _=>false
theorem e_box {T:Nat} {x:AOd} {op:Op} (hc:wMb T x op=true):OkE C P op (wKs T x):=by
 intro σA h v h' hr μ σ w hE S o ho
 cases hr
 unfold wMb at hc
 split at hc
 ·simp only [nA] at hc
  have e:=nB hc.1
  subst e
  obtain ⟨vs,v1,v2⟩:=wFd (wAG hc.2 hE)
  obtain ⟨μ',h1,h2,h3,h4⟩:=wEs (T:=T) S v1
  refine ⟨μ',_,_,h1,h2,⟨_,h4,rfl⟩,h3,by rw [ho];rfl,?_⟩
  simp [execOp,ho,Instr.box,newVar,newRow,newObj,v2,Sem.run]
 ·cases hc
theorem wPS (S:Sim C P μ h w):∃ μ',Ext μ h.fl.nat w μ' (w.alloc (.map #[] 0))/\Sim C P μ' (h.push .map0) (w.alloc (.map #[] 0))/\(h.push .map0).fl=h.fl/\μ' h.nx=some ⟨w.heap.size,0,g0⟩:=by
 obtain ⟨h1,h2,h3,h4⟩:=S.push (w':=w.alloc (.map #[] 0)) (c:=⟨w.heap.size,0,g0⟩) (B:=.map0) (wAm w _) (nG _) (by rw [wGp];exact Nat.lt_succ_self _) ⟨0,heap_alloc_new w _⟩
 exact ⟨_,h2,h1,h3,h4⟩
def wMc:Op->Bool
 | .makeMap _ none=>true
 | _=>false
theorem e_mkm {op:Op} (hc:wMc op=true):OkE C P op wOy:=by
 intro σA h v h' hr μ σ w hE S o ho
 cases hr
 unfold wMc at hc
 split at hc
 ·obtain ⟨μ',h1,h2,h3,h4⟩:=wPS S
  refine ⟨μ',_,_,h1,h2,⟨_,h4,rfl⟩,h3,by rw [ho];rfl,?_⟩
  simp [execOp,ho,Instr.makeMap,newObj,Sem.run,Result.andThen]
 ·cases hc
theorem wEV {zc:Array Value} {n:Nat}:∀ c,((nX (c * zc.size)).map (zc[· % zc.size]!)).toList=(nY c zc.toList).flatten \/ False:=by
 intro c
 left
 induction c with
 | zero=>simp
 | succ c ih =>
  rw [kZ,Array.toList_range] at ih ⊢
  rw [Nat.succ_mul,List.range_add,List.map_append,ih,List.replicate_succ',List.flatten_append]
  congr 1
  simp only [List.map_map,List.flatten_singleton]
  apply List.ext_getElem
  ·simp
  ·intro i h1 h2
   simp at h1
   simp [Nat.add_mul_mod_self_right,Nat.mod_eq_of_lt h1,Nat.add_comm (c * zc.size) i,h1]
def wMd (P:Program) (T sz by_:Nat) (z:List AV) (x y:AOd):Op->Bool
 | .makeSlice t x' y'=>wDi P t (fun d=>match d with | .slice e=>nD e T | _=>false) && (szT P T sz && (byT P T by_ && (zT P T z && (nD (len z) sz && (wBh x x' && wBh y y')))))
 | _=>false
theorem e_mks {T sz by_:Nat} {z:List AV} {x y:AOd} {op:Op} (hc:wMd P T sz by_ z x y op=true):OkE C P op (wGC T sz by_ z x y):=by
 intro σA h v h' hr μ σ w hE S o ho
 unfold wMd at hc
 split at hc
 ·rename_i t x' y'
  simp only [nA] at hc
  obtain ⟨c1,c2,c3,c4,c5,c6,c7⟩:=hc
  obtain ⟨d,d1,d2⟩:=wAd c1
  split at d2 <;> first | (cases d2;done) | skip
  have e:=nB d2
  subst e
  rename_i e
  obtain ⟨i,i1,i2⟩:=wFf c2
  obtain ⟨i',j1,j2⟩:=wFg c3
  obtain ⟨i'',zv,k1,k2,k3⟩:=wET c4
  rw [i1] at j1 k1;cases j1;cases k1
  have hz:=nB c5
  unfold wGC at hr
  split at hr
  ·rename_i l c hl hcc
   obtain ⟨hb,hr⟩:=wBJ hr
   cases hr
   simp only [nA,nP] at hb
   obtain ⟨⟨⟨b1,b2⟩,b3⟩,b4⟩:=hb
   have hx:=wAG c6 hE;rw [wBf hl] at hx
   have hy:=wAG c7 hE;rw [wBf hcc] at hy
   have hx:ev σ x'=.int .i64 (l:Int):=hx
   have hy:ev σ y'=.int .i64 (c:Int):=hy
   have zlen:zv.cells.size=sz:=by rw [<- hz,wDn,<- wCX (k3 μ)];simp
   have hrun:=run_makeSlice (P:=P) w t e i zv d1 i1 k2 .i64 .i64 (l:Int) (c:Int) (by omega) (by omega) (by rw [i2,nl];exact b2) (by rw [j2];have hb:=Int.ofNat_le.2 b3;rw [Int.natCast_mul] at hb;exact hb) (by omega)
   simp only [nl,i2] at hrun
   have hcells:(madeCells zv.cells (c * sz))=((nY c zv.cells.toList).flatten).toArray:=by
    apply nK
    have:=wEV (zc:=zv.cells) (n:=0) c
    simp only [or_false] at this
    rw [zlen] at this
    show ((nX (c * sz)).map (zv.cells[· % zv.cells.size]!)).toList=_
    rw [zlen,this]
   rw [hcells] at hrun
   obtain ⟨μ',h1,h2,h3,h4⟩:=wEs (T:=e) S (wGH (k3 μ) c)
   refine ⟨μ',_,_,h1,h2,⟨_,h4,b1,rfl⟩,h3,by rw [ho];rfl,?_⟩
   simp [execOp,ho,hx,hy,hrun,Result.andThen]
  ·cases hr
 ·cases hc
def wIU (P:Program) (T n:Nat) (z:List AV) (ps:List (Nat × Nat × AOd)):Op->Bool
 | .buildSlice t m qs=>nD m n && (wDi P t (fun d=>match d with | .slice e=>nD e T | _=>false) && (match P.info? T with
   | some i=>kB (n * i.size) 16777216 && (wIT (fun k=>some (k * i.size,i.size)) ps qs.toList && (match i.zero with
    | some v=>wNp z ((nt (n * i.size)).map fun k=>v.cells[k % v.cells.size]!)
    | none=>false))
   | none=>false))
 | _=>false
theorem wQk {T n:Nat} {z:List AV} {ps:List (Nat × Nat × AOd)} {op:Op} (hc:wIU P T n z ps op=true):OkE C P op (wDl T n z ps):=by
 intro σA h v h' hr μ σ w hE S o ho
 unfold wIU at hc
 split at hc
 ·rename_i t m qs
  simp only [nA] at hc
  obtain ⟨c1,c2,c3⟩:=hc
  have e:=nB c1
  subst e
  obtain ⟨d,d1,d2⟩:=wAd c2
  split at d2 <;> first | (cases d2;done) | skip
  have e:=nB d2
  subst e
  rename_i e
  split at c3
  ·rename_i i hi
   simp only [nA,nP] at c3
   obtain ⟨c3,c4,c5⟩:=c3
   split at c5
   ·rename_i zv hz
    unfold wDl at hr
    split at hr
    ·rename_i r hr3
     cases hr
     obtain ⟨R,r1,r2,r3⟩:=wGM hE hr3 c4 (wFI μ c5)
     have hf:=wCt _ _ _ _ r1
     obtain ⟨μ',h1,h2,h3,h4⟩:=wEs (T:=e) S r2
     refine ⟨μ',_,_,h1,h2,⟨_,h4,nG _,rfl⟩,h3,by rw [ho];rfl,?_⟩
     have hs:∀ w,(sizeOf e).run P w=.ok i.size w:=fun w=>by simp [sizeOf,typeInfo,hi]
     have hn':¬ m * i.size > 2 ^ 24:=by omega
     have hq:(qs.map fun (p:Nat × Operand)=>(p.1,ev σ p.2)).toList=qs.toList.map fun (p:Nat × Operand)=>(p.1,ev σ p.2):=by simp
     by_cases h0:m * i.size=0
     ·rw [h0] at hf
      simp only [List.range_zero,kD] at hf
      have hr0:(nX 0).map (fun x=>(#[]:Array Value)[x % (#[]:Array Value).size]!)=#[]:=by rw [show (nX 0)=#[] from rfl,Array.map_empty]
      have hn0:¬ (0:Nat) > 2 ^ 24:=by decide
      simp only [execOp,ho,Instr.buildSlice,Sem.run_bind,wAk d1,hs,Result.andThen_ok,h0,if_neg hn0,if_true,Sem.run_pure,hq,hr0,hf]
      simp [newRow,newObj,Sem.run,Result.andThen]
     ·have hzs:(nX (m * i.size)).map (zv.cells[· % zv.cells.size]!)=((nt (m * i.size)).map fun k=>zv.cells[k % zv.cells.size]!).toArray:=by rw [<- kU,List.map_toArray]
      simp only [execOp,ho,Instr.buildSlice,Sem.run_bind,wAk d1,hs,wDF hi hz,Result.andThen_ok,if_neg hn',if_neg h0,Sem.run_pure,hq,hzs,hf]
      simp [newRow,newObj,Sem.run,Result.andThen]
    ·cases hr
   ·cases c5
  ·cases c3
 ·cases hc
end
end
end Go.KX
namespace Go.KX
noncomputable section
open Go.RowKit Go.KL
section
variable {C:Chk} {P:Program} {μ μ':Mu} {w w':World} {h h':AH} {σ:Env} {σA:Tr AV} {t e:TypeId} {o:Oper}
theorem wEt {b:Pos} {off:Nat} {vs:List AV} {VS:List Value} {c:Cl} (hr:setAt h b off vs=some h') (S:Sim C P μ h w) (hv:RvL μ vs VS) (h1:∀ v ∈ VS,one v=true) (hc:μ b=some c) :
  ∃ w',(storeCells ⟨c.1,off,none⟩ VS).run P w=.ok () w'/\Sim C P μ h' w'/\Ext μ h.fl.nat w μ w'/\h'.fl=h.fl:=by
 unfold setAt at hr
 split at hr
 ·rename_i T l hB
  split at hr
  ·rename_i l' hl
   obtain ⟨c',g1,vs0,g2,g3⟩:=S.at_ b _ hB
   rw [hc] at g1;cases g1
   obtain ⟨k1,k2⟩:=wHY hl g2 hv
   obtain ⟨w',q1,q2,q3,q4⟩:=wCC (P:=P) off VS 0 vs0 w g3 k1 h1
   obtain ⟨s1,s2,s3⟩:=S.put hr hB trivial hc q3 (B':=.cells T l') ⟨_,k2,q2⟩
   exact ⟨w',q1,s1,s2,s3⟩
  ·cases hr
 ·rename_i T sz l hB
  split at hr
  ·rename_i l' hl
   obtain ⟨c',g1,vs0,g2,g3⟩:=S.at_ b _ hB
   rw [hc] at g1;cases g1
   obtain ⟨k1,k2⟩:=wHY hl g2 hv
   obtain ⟨cur,r1,r2,r3,r4,r5⟩:=RowAt.cells g3
   have hB':Blk w c.1 T cur.toList:=by unfold Blk;rw [r1]
   have hcl:vs0.length <= cur.toList.length:=by rw [<- r5];simp;omega
   obtain ⟨w',q1,q2,q3,q4⟩:=wCC (P:=P) off VS 0 cur.toList w hB' (by omega) h1
   obtain ⟨s1,s2,s3⟩:=S.put hr hB trivial hc q3 (B':=.row T sz l') ⟨_,k2,.inr ⟨c.1,(wDd cur.toList (off + 0) VS).toArray,rfl,q2,by rw [wBs];exact r2,r3,by simp [wBs,r4],by
    rw [wBs,Nat.add_zero]
    show (wDd cur.toList off VS).take vs0.length=_
    rw [wIF _ _ _ _ k1,r5]⟩⟩
   exact ⟨w',q1,s1,s2,s3⟩
  ·cases hr
 ·cases hr
def c_st (P:Program) (n:Nat) (x y:AOd):Op->Bool
 | .store t x' y'=>szT P t n && (wBh x x' && wBh y y')
 | _=>false
theorem u_st {n:Nat} {x y:AOd} {op:Op} (hc:c_st P n x y op=true):OkU C P op (wOX n x y):=by
 intro σA h v h' hr μ σ w hE S o ho
 unfold c_st at hc
 split at hc
 ·rename_i t x' y'
  simp only [nA] at hc
  obtain ⟨c1,c2,c3⟩:=hc
  unfold wOX at hr
  split at hr
  ·rename_i b off hb
   split at hr
   ·rename_i hk
    simp only [nA] at hk
    split at hr
    ·rename_i h1 hs
     cases hr
     have g:=wAG c2 hE;rw [hb] at g
     obtain ⟨c,g1,g2⟩:=g
     obtain ⟨VS,v1,v2⟩:=wFd (wAG c3 hE)
     obtain ⟨w',q1,q2,q3,q4⟩:=wEt hs S v1 (wDY v1 hk.2) g1
     have hn:=nB hk.1
     have hlen:VS.length=n:=by rw [wCX v1,<- wDn,hn]
     refine ⟨μ,w',q3,q2,rfl,q4,by rw [ho];rfl,?_⟩
     simp [execOp,ho,Instr.storeAt,g2,Instr.sureAddr,storeVar,v2,wDE c1,hlen,q1]
    ·cases hr
   ·cases hr
  ·cases hr
 ·cases hc
theorem wHb {sz m:Nat} {a:AV} {l:List AV} {y:Value} (hr:slice h sz a=some (m,l)) (S:Sim C P μ h w) (hy:Rv μ a y) :
  ∃ A c VS,y=.slice A m c/\RvL μ l VS/\VS.length=m * sz/\(m=0 \/ ∃ ad,A=some ad/\∀ j u,VS[j]?=some u->w.cell? (ad.add j)=some u):=by
 have key:∀ (b:Pos) (off m:Nat) (c:Cl) (l0 r:List AV),μ b=some c->wCu h b=some l0->sub l0 off (m * sz)=some r->∃ VS,RvL μ r VS/\VS.length=m * sz/\∀ j u,VS[j]?=some u->w.cell? ((⟨c.1,off,none⟩:Addr).add j)=some u:=by
  intro b off m c l0 r hc hl hs
  obtain ⟨c',vs,h1,h2,h3⟩:=wDw hl S
  rw [hc] at h1;cases h1
  obtain ⟨g1,g2⟩:=wES hs h2
  exact ⟨_,g1,by simp;omega,fun j u hu=>by rw [wEU];exact h3 w (Keep.refl w _) _ _ (wEo rfl j u hu)⟩
 unfold slice at hr
 split at hr
 ·cases hr
  have hy:y=.slice none 0 0:=hy
  exact ⟨none,0,[],hy,rfl,by simp,.inl rfl⟩
 ·cases hr
  obtain ⟨d,_,q,rfl⟩:=hy
  exact ⟨_,_,[],rfl,rfl,by simp,.inl rfl⟩
 ·split at hr
  ·rename_i l0 hl
   split at hr
   ·rename_i r hs
    cases hr
    obtain ⟨d,h1,_,rfl⟩:=hy
    obtain ⟨VS,v1,v2,v3⟩:=key _ _ _ _ _ _ h1 hl hs
    exact ⟨_,_,VS,rfl,v1,v2,.inr ⟨_,rfl,v3⟩⟩
   ·cases hr
  ·cases hr
 ·split at hr
  ·rename_i l0 hl
   split at hr
   ·rename_i r hs
    cases hr
    obtain ⟨d,h1,_,rfl⟩:=hy
    obtain ⟨VS,v1,v2,v3⟩:=key _ _ _ _ _ _ h1 hl hs
    exact ⟨_,_,VS,rfl,v1,v2,.inr ⟨_,rfl,v3⟩⟩
   ·cases hr
  ·cases hr
 ·cases hr
theorem wGN {A A2:Option Addr} {n c c2 ty:Nat} {inf:TypeInfo} (ht:P.underlying t=some (.slice e)) (hi:P.info? e=some inf) (hnc:n <= c):(Builtin.append_ #[t,t] ty #[.slice A n c,.slice A2 0 c2]).run P w=.ok (.slice A n c) w:=by
 have hs:∀ w,(sizeOf e).run P w=.ok inf.size w:=fun w=>by simp [sizeOf,typeInfo,hi]
 cases A <;> cases A2 <;> simp [Builtin.append_,wAk ht,hs,Builtin.lenOf,Builtin.firstCells,hnc,storeCells,loadCells,loadCellsFrom]
theorem wMe {T sz c:Nat} {l:List AV} {cs:List Value} {cur:Array Value} (S:Sim C P μ h w) (K:Keep w w' Non) (hl:RvL μ l cs) (hn:w'.heap[w.heap.size]?=some (.cells cur T (0,0))) (h1:cs.length <= c * sz) (h2:c <= maxLen) (h3:cur.size=c * sz) (h4:cur.toList.take cs.length=cs) :
  ∃ μ',Ext μ h.fl.nat w μ' w'/\Sim C P μ' (h.push (.row T sz l)) w'/\(h.push (.row T sz l)).fl=h.fl/\μ' h.nx=some ⟨w.heap.size,c,g0⟩:=by
 have hle:=Mu.add_le (c:=⟨w.heap.size,c,g0⟩) (S.nx h.nx (nG _))
 obtain ⟨q1,q2,q3,q4⟩:=S.push (w':=w') (c:=⟨w.heap.size,c,g0⟩) (B:=.row T sz l) K (nG _) (wAK hn) ⟨cs,hl.mono hle,.inr ⟨_,cur,rfl,hn,h1,h2,h3,h4⟩⟩
 exact ⟨_,q2,q1,q3,q4⟩
def wNt (P:Program) (T sz by_:Nat) (x y:AOd):Op->Bool
 | .call c=>match c.callee with
  | .builtin b=>(b == .append) && (match c.args.toList,c.argTypes.toList with
   | [x',y'],[t,t']=>nD t t' && (wDi P t (fun d=>match d with | .slice e=>nD e T | _=>false) && (wBh x x' && (wBh y y' && (szT P T sz && (byT P T by_ && (match P.info? T with
    | some i=>match i.zero with | some v=>nD v.cells.size sz && (nR 0 sz && nR 0 by_) | none=>false
    | none=>false))))))
   | _,_=>false)
  | _=>false
 | _=>false
theorem wNu {T sz by_:Nat} {x y:AOd} {op:Op} (hc:wNt P T sz by_ x y op=true) :
  ∃ x' y' t i z,op=.call { callee:=.builtin .append,args:=#[x',y'],argTypes:=#[t,t] }/\P.underlying t=some (.slice T)/\wBh x x'=true/\wBh y y'=true/\P.info? T=some i/\i.zero=some z/\i.size=sz/\i.bytes=by_/\z.cells.size=sz/\0 < sz/\0 < by_:=by
 unfold wNt at hc
 split at hc
 ·rename_i c
  obtain ⟨ce,args,tys⟩:=c
  simp only at hc
  split at hc
  ·rename_i b
   simp only [nA,beq_iff_eq] at hc
   obtain ⟨rfl,h2⟩:=hc
   split at h2
   ·rename_i x' y' t t' h3 h4
    simp only [nA] at h2
    obtain ⟨a1,a2,a3,a4,a5,a6,a7⟩:=h2
    have e:=nB a1
    subst e
    obtain ⟨d,d1,d2⟩:=wAd a2
    split at d2 <;> first | (cases d2;done) | skip
    have e:=nB d2
    subst e
    obtain ⟨i,i1,i2⟩:=wFf a5
    obtain ⟨j,j1,j2⟩:=wFg a6
    rw [i1] at j1;cases j1
    rw [i1] at a7
    simp only at a7
    split at a7
    ·rename_i z hz
     simp only [nA,nH] at a7
     refine ⟨x',y',t,i,z,?_,d1,a3,a4,i1,hz,i2,j2,nB a7.1,a7.2.1,a7.2.2⟩
     congr 2
     ·exact nK (by simpa using h3)
     ·exact nK (by simpa using h4)
    ·cases a7
   ·cases h2
  ·cases hc
 ·cases hc
theorem wQl (v:Value) (h1:one v=true):v.oneCell'=true:=by cases v <;> first | rfl | cases h1
theorem e_app {T sz by_:Nat} {x y:AOd} {op:Op} (hc:wNt P T sz by_ x y op=true):OkE C P op (wIJ T sz by_ x y):=by
 intro σA h v h' hr μ σ w hE S o ho
 obtain ⟨x',y',t,i,z,rfl,ht,c1,c2,hi,hz,i2,j2,hzs,hsz,hby⟩:=wNu hc
 unfold wIJ at hr
 split at hr
 ·rename_i m news hs
  obtain ⟨hones,hr'⟩:=wBJ hr
  clear hr;have hr:=hr';clear hr'
  obtain ⟨A2,cc2,NS,e2,n1,n2,n3⟩:=wHb hs S (wAG c2 hE)
  have hx:=wAG c1 hE
  have h1:∀ u ∈ NS,u.oneCell'=true:=fun u hu=>wQl u (wDY n1 hones u hu)
  have fin:∀ {μ':Mu} {w':World} {cv:Value},Ext μ h.fl.nat w μ' w'->Sim C P μ' h' w'->Rv μ' v cv->h'.fl=h.fl->(Builtin.append_ #[t,t] o.type #[ev σ x',ev σ y']).run P w=.ok cv w' ->
    ∃ μ' w' cv,Ext μ h.fl.nat w μ' w'/\Sim C P μ' h' w'/\Rv μ' v cv/\h'.fl=h.fl/\Runs P σ w o cv w':=fun a b c d f =>
   ⟨_,_,_,a,b,c,d,by rw [ho];rfl,by simp [execOp,ho,resolve,invoke,builtin,f]⟩
  unfold app at hr
  split at hr
  ·have zero:∀ {A:Option Addr} {n c:Nat},ev σ x'=.slice A n c->n <= c->Rv μ v (.slice A n c)->h'=h->∃ μ' w' cv,Ext μ h.fl.nat w μ' w'/\Sim C P μ' h' w'/\Rv μ' v cv/\h'.fl=h.fl/\Runs P σ w o cv w':=by
    intro A n c hA hnc hv hh
    subst hh
    exact fin (Ext.refl μ _ w) S hv rfl (by rw [hA,e2];exact wGN ht hi hnc)
   split at hr <;> cases hr <;> rename_i hb <;> rw [hb] at hx
   ·have g:ev σ x'=.slice none 0 0:=hx
    exact zero g (nG _) rfl rfl
   ·obtain ⟨d,g1,g2,g3⟩:=hx
    exact zero g3 g2 ⟨d,g1,g2,rfl⟩ rfl
   ·obtain ⟨d,g1,g2,g3⟩:=hx
    exact zero g3 (by omega) ⟨d,g1,g2,rfl⟩ rfl
  ·rename_i m
   obtain ⟨ad,rfl,hcell⟩:∃ ad,A2=some ad/\∀ j u,NS[j]?=some u->w.cell? (ad.add j)=some u:=by
    rcases n3 with h0 | h0
    ·cases h0
    ·exact h0
   have maxb:(140737488355328:Nat) <= maxLen:=by decide
   have lenb:∀ n:Nat,n * by_ <= 140737488355328->n <= 140737488355328:=fun n hn=>nZ (kH _ hby) hn
   split at hr
   ·rename_i hb
    rw [hb] at hx
    have hx:ev σ x'=.slice none 0 0:=hx
    obtain ⟨hble,hr'⟩:=wBJ hr
    clear hr;have hr:=hr';clear hr'
    cases hr
    have hble:=nL hble
    obtain ⟨A',c',w',r1,r2,r3,r4⟩:=wDI (P:=P) (w:=w) (A:=none) (c:=0) (n:=0) (cs:=[]) (ty:=o.type) (c2:=cc2) ht hi hz i2 hzs hsz (.inl ⟨rfl,rfl,rfl⟩) (by simp) n2 (.inr ⟨ad,rfl,hcell⟩) h1 (by rw [j2,Nat.zero_add];exact hble) (by omega)
    rcases r2 with ⟨_,_,q⟩ | ⟨b,cur,rfl,q1,q2,q3,q4,q5⟩
    ·exfalso
     have:([] ++ NS).length=0:=by rw [q];rfl
     rw [nM,n2] at this
     have:=Nat.mul_pos (Nat.succ_pos m) hsz
     omega
    ·have hb:w.heap.size <= b:=by
      rcases r4 b rfl with q | q
      ·cases q
      ·exact q
     have K:Keep w w' Non:=r3.weak fun i _ q=>by cases q
     rw [nM] at q2 q5
     have hle:=Mu.add_le (c:=⟨b,c',g0⟩) (S.nx h.nx (nG _))
     obtain ⟨s1,s2,s3,s4⟩:=S.push (w':=w') (c:=⟨b,c',g0⟩) (B:=.row T sz news) K hb (wAK q1) ⟨NS,n1.mono hle,.inr ⟨_,cur,rfl,q1,q2,q3,q4,q5⟩⟩
     refine fin s2 s1 ⟨_,s4,?_,?_⟩ s3 (by rw [hx,e2];exact r1)
     ·rw [n2] at q2
      have:=nj q2 hsz
      simpa using this
     ·simp
   ·rename_i b off n c hb
    rw [hb] at hx
    obtain ⟨d,g1,g2,g3⟩:=hx
    split at hr
    ·rename_i hle
     have hle:=nL hle
     split at hr
     ·rename_i h1' hset
      cases hr
      obtain ⟨w',q1,q2,q3,q4⟩:=wEt hset S n1 (wDY n1 hones) g1
      refine fin q3 q2 ⟨d,g1,hle,rfl⟩ q4 ?_
      rw [g3,e2]
      have hf:=run_firstCells_some (P:=P) w i.size (m + 1) ad (m + 1) cc2 NS (by rw [i2];exact n2) hcell
      rw [i2] at hf
      simp [Builtin.append_,wAk ht,sizeOf,typeInfo,hi,Builtin.lenOf,hle,hf,wEU,i2,q1]
     ·cases hr
    ·rename_i hlt
     obtain ⟨hble,hr'⟩:=wBJ hr
     clear hr;have hr:=hr';clear hr'
     have hble:=nL hble
     split at hr
     ·rename_i nn olds hold
      cases hr
      have hgt:c < n + (m + 1):=by
       rcases kC c (n + (m + 1)) with q | q
       ·exact q
       ·have q':kB (n + (m + 1)) c=true:=by rw [nP];exact q
        rw [q'] at hlt;cases hlt
      obtain ⟨A1,cc1,OS,k1,k2,k3,k4⟩:=wHb hold S (show Rv μ (.sl b off n c) _ from ⟨d,g1,g2,rfl⟩)
      cases k1
      have hlen:=lenb _ hble
      have olds':∀ j v,OS[j]?=some v->w.cell? ((⟨d.1,off,none⟩:Addr).add j)=some v:=by
       rcases k4 with q | ⟨ad',q1,q2⟩
       ·intro j v hv
        have hnil:OS=[]:=nf (by rw [k3,q];simp)
        rw [hnil] at hv
        simp at hv
       ·cases q1;exact q2
      have hr:=run_append_grow (P:=P) w t o.type T i z ht hi hz ⟨d.1,off,none⟩ n c OS (by rw [i2];exact k3) olds' ad (m + 1) cc2 NS (by rw [i2];exact n2) hcell hgt (by omega) (growslice_fits hgt (by rw [j2];exact hble))
      have hge:=grownCap_ge w (n + (m + 1)) c T
      have hcm:grownCap w (n + (m + 1)) c T <= maxLen:=grownCap_le_maxLen w (n + (m + 1)) c T (by omega)
      have hlen2:(OS ++ NS).length=(n + (m + 1)) * sz:=by rw [ny,k3,n2,kM]
      obtain ⟨μ',s1,s2,s3,s4⟩:=wMe (T:=T) (sz:=sz) (c:=grownCap w (n + (m + 1)) c T) (w':=w.drew.alloc (.cells (OS.toArray ++ NS.toArray ++ Builtin.zeroCells z.cells (grownCap w (n + (m + 1)) c T - (n + (m + 1)))) T)) (cur:=OS.toArray ++ NS.toArray ++ Builtin.zeroCells z.cells (grownCap w (n + (m + 1)) c T - (n + (m + 1)))) S
       ((Keep.drew w).non (wAm w.drew _)) (wDX k2 n1) (heap_alloc_new w.drew _) (by rw [hlen2];exact kP _ hge) hcm
       (by
        simp only [kY,kX,size_zeroCells,hzs,k3,n2,<- kM]
        congr 1
        omega)
       (by simp only [kQ,np];rw [<- np];exact List.take_left)
      refine fin s1 s2 ⟨_,s4,?_,?_⟩ s3 (by rw [g3,e2];exact hr)
      ·simpa using hge
      ·simp
     ·cases hr
   ·rename_i b eo co n hb
    rw [hb] at hx
    obtain ⟨d,g1,g2,g3⟩:=hx
    split at hr
    ·rename_i T' sz' l hB
     split at hr
     ·rename_i hin
      simp only [nA] at hin
      obtain ⟨p1,p2,p3,p4⟩:=hin
      have p1:=nL p1
      have p2:=nB p2
      have p3:=nB p3
      have p4:=nB p4
      subst p2 p3 p4
      split at hr
      ·rename_i h1' hset
       cases hr
       obtain ⟨d',k1,OS,k2,k3⟩:=S.at_ b _ hB
       rw [g1] at k1;cases k1
       obtain ⟨cur,r1,r2,_⟩:=RowAt.cells k3
       have hle:n + (m + 1) <= d.2:=by
        rw [wDn,<- wCX k2] at p1
        exact nj (nZ p1 r2) hsz
       obtain ⟨w',q1,q2,q3,q4⟩:=wEt hset S n1 (wDY n1 hones) g1
       refine fin q3 q2 ⟨d,g1,by omega,rfl⟩ q4 ?_
       rw [g3,e2]
       have hf:=run_firstCells_some (P:=P) w i.size (m + 1) ad (m + 1) cc2 NS (by rw [i2];exact n2) hcell
       rw [i2] at hf
       simp [Builtin.append_,wAk ht,sizeOf,typeInfo,hi,Builtin.lenOf,hle,hf,wEU,i2,q1]
      ·cases hr
     obtain ⟨hcond,hr'⟩:=wBJ hr
     clear hr;have hr:=hr';clear hr'
     simp only [nA] at hcond
     obtain ⟨⟨⟨⟨⟨q1,q2⟩,q3⟩,q4⟩,q5⟩,q6⟩:=hcond
     have q1:=nB q1
     have q2:=nB q2
     have q3:=nB q3
     have q4:=nB q4
     have q5:=nB q5
     have hble:=nL q6
     subst q1 q2 q3 q4
     split at hr
     ·rename_i h1' hput
      cases hr
      obtain ⟨d',k1,OS,k2,k3⟩:=S.at_ b _ hB
      rw [g1] at k1;cases k1
      have hol:OS.length=n * sz:=by rw [wCX k2,<- wDn,<- q5]
      obtain ⟨A',c',w',r1,r2,r3,r4⟩:=wDI (P:=P) (w:=w) (A:=some ⟨d.1,0,none⟩) (c:=d.2) (n:=n) (cs:=OS) (ty:=o.type) (c2:=cc2) ht hi hz i2 hzs hsz k3 hol n2 (.inr ⟨ad,rfl,hcell⟩) h1 (by rw [j2];exact hble) (by omega)
      rcases r2 with ⟨_,_,q⟩ | ⟨b',cur,rfl,p1,p2,p3,p4,p5⟩
      ·exfalso
       have:(OS ++ NS).length=0:=by rw [q];rfl
       rw [ny,n2] at this
       have:=Nat.mul_pos (Nat.succ_pos m) hsz
       omega
      ·have hb':b'=d.1 \/ w.heap.size <= b':=by
        rcases r4 b' rfl with q | q
        ·cases q;exact .inl rfl
        ·exact .inr q
       have K:Keep w w' (·=d.1):=r3.weak fun i _ q=>by cases q;rfl
       have hle:=Mu.add_le (c:=⟨b',c',g0⟩) (S.nx h.nx (nG _))
       have hnx:h.nx=h.nx:=rfl
       obtain ⟨s1,s2,s3,s4⟩:=S.move (w':=w') (d:=⟨b',c',g0⟩) (B':=.row T sz (l ++ news)) hput hB trivial g1 K hb' (wAK p1) ⟨OS ++ NS,(wDX k2 n1).mono hle,.inr ⟨_,cur,rfl,p1,p2,p3,p4,p5⟩⟩
       refine fin s2 s1 ⟨_,s4,?_,?_⟩ s3 (by rw [g3,e2];simpa using r1)
       ·rw [ny,hol,n2,<- kM] at p2
        have:=nj p2 hsz
        simpa using this
       ·simp
     ·cases hr
    ·cases hr
   ·cases hr
 ·cases hr
def wPT (P:Program) (sz:Nat) (x y:AOd):Op->Bool
 | .call c=>match c.callee with
  | .builtin b=>(b == .copy) && (match c.args.toList,c.argTypes.toList with
   | [x',y'],t :: _=>wDi P t (fun d=>match d with | .slice e=>szT P e sz | _=>false) && (wBh x x' && wBh y y')
   | _,_=>false)
  | _=>false
 | _=>false
theorem e_cpy {sz:Nat} {x y:AOd} {op:Op} (hc:wPT P sz x y op=true):OkE C P op (wIK sz x y):=by
 intro σA h v h' hr μ σ w hE S o ho
 unfold wPT at hc
 split at hc
 ·rename_i c
  obtain ⟨ce,args,tys⟩:=c
  simp only at hc
  split at hc
  ·rename_i b
   simp only [nA,beq_iff_eq] at hc
   obtain ⟨rfl,h2⟩:=hc
   split at h2
   ·rename_i x' y' t ts h3 h4
    simp only [nA] at h2
    obtain ⟨a1,a2,a3⟩:=h2
    obtain ⟨d,d1,d2⟩:=wAd a1
    split at d2 <;> first | (cases d2;done) | skip
    rename_i e
    have ea:args=#[x',y']:=nK (by simpa using h3)
    have et:tys[0]?=some t:=by rw [<- kO,h4];rfl
    unfold wIK at hr
    split at hr
    ·rename_i b off n cc m news hx hs
     split at hr
     ·rename_i vs hsub
      obtain ⟨hones,hr'⟩:=wBJ hr
      clear hr;have hr:=hr';clear hr'
      split at hr
      ·rename_i h1' hset
       cases hr
       have g:=wAG a2 hE;rw [hx] at g
       obtain ⟨c0,g1,_,g3⟩:=g
       obtain ⟨A2,cc2,NS,e2,n1,n2,n3⟩:=wHb hs S (wAG a3 hE)
       generalize hk:(if kB m n=true then m else n)=k at hsub ⊢
       have hmin:Nat.min m n=k:=by
        rw [<- hk]
        by_cases q:m <= n
        ·rw [if_pos (by rw [nP];exact q)];exact Nat.min_eq_left q
        ·rw [if_neg (by rw [nP];exact q)];exact Nat.min_eq_right (by omega)
       obtain ⟨k1,k2⟩:=wES hsub n1
       rw [List.drop_zero] at k1
       obtain ⟨w',q1,q2,q3,q4⟩:=wEt hset S k1 (wDY k1 hones) g1
       refine ⟨μ,w',_,q3,q2,rfl,q4,by rw [ho];rfl,?_⟩
       have hf:∀ (w1:World),w1=w->(Builtin.firstCells sz k (.slice A2 m cc2)).run P w1=.ok (NS.take (k * sz)).toArray w1:=by
        intro w1 hw1
        subst hw1
        cases A2 with
        | none =>
         have hm:m=0:=by
          rcases n3 with q | ⟨_,q,_⟩
          ·exact q
          ·cases q
         have hN:NS=[]:=nf (by rw [n2,hm];simp)
         subst hN
         simp [Builtin.firstCells]
        | some ad =>
         have hcell:∀ j u,(NS.take (k * sz))[j]?=some u->w1.cell? (ad.add j)=some u:=by
          intro j u hu
          rw [kS] at hu
          split at hu
          ·rcases n3 with q | ⟨ad',q,q'⟩
           ·have hN:NS=[]:=nf (by rw [n2,q];simp)
            subst hN;simp at hu
           ·cases q;exact q' j u hu
          ·cases hu
         exact run_firstCells_some (P:=P) w1 sz k ad m cc2 (NS.take (k * sz)) (by rw [List.length_take];omega) hcell
       have hs2:=wDE d2
       simp [execOp,ho,ea,et,resolve,invoke,builtin,Builtin.copy_,wAk d1,g3,e2,Builtin.lenOf,hmin,hs2,hf w rfl,q1,goInt,Result.andThen]
      ·cases hr
     ·cases hr
    ·cases hr
   ·cases h2
  ·cases hc
 ·cases hc
def wPU (P:Program) (z:List AV) (x:AOd):Op->Bool
 | .call c=>match c.callee with
  | .builtin b=>(b == .clear) && (match c.args.toList,c.argTypes.toList with
   | [x'],[t]=>wDi P t (fun d=>match d with | .slice e=>zT P e z | _=>false) && wBh x x'
   | _,_=>false)
  | _=>false
 | _=>false
theorem wDJ {zc:Array Value} (c:Nat):(Builtin.zeroCells zc c).toList=(nY c zc.toList).flatten:=by
 have:=wEV (zc:=zc) (n:=0) c
 simp only [or_false] at this
 exact this
def wPV (P:Program) (T sz by_:Nat) (z:List AV) (x y:AOd):Op->Bool
 | .call c=>match c.callee with
  | .builtin b=>(b == .append) && (match c.args.toList,c.argTypes.toList with
   | [x',y'],[t,t']=>wDi P t (fun d=>match d with | .slice e=>nD e T | _=>false) && (wDi P t' (fun d=>match d with | .int _=>true | _=>false) && (wBh x x' && (wBh y y' && (szT P T sz && (byT P T by_ && (zT P T z && (nD (len z) sz && (nR 0 sz && nR 0 by_))))))))
   | _,_=>false)
  | _=>false
 | _=>false
theorem e_apz {T sz by_:Nat} {z:List AV} {x y:AOd} {op:Op} (hc:wPV P T sz by_ z x y op=true):OkE C P op (wIO T sz by_ z x y):=by
 intro σA h v h' hr μ σ w hE S o ho
 unfold wPV at hc
 split at hc <;> first | (cases hc;done) | skip
 rename_i c
 obtain ⟨ce,args,tys⟩:=c
 simp only at hc
 split at hc <;> first | (cases hc;done) | skip
 rename_i b
 simp only [nA,beq_iff_eq] at hc
 obtain ⟨rfl,h2⟩:=hc
 split at h2 <;> first | (cases h2;done) | skip
 rename_i x' y' t t' h3 h4
 simp only [nA] at h2
 obtain ⟨a1,a2,a3,a4,a5,a6,a7,a8,a9,a10⟩:=h2
 have hargs:args=#[x',y']:=nK (by simpa using h3)
 have htys:tys=#[t,t']:=nK (by simpa using h4)
 subst hargs htys
 obtain ⟨d,d1,d2⟩:=wAd a1
 split at d2 <;> first | (cases d2;done) | skip
 have e:=nB d2
 subst e
 rename_i e
 obtain ⟨dn,n1,n2⟩:=wAd a2
 split at n2 <;> first | (cases n2;done) | skip
 rename_i kn
 obtain ⟨i,i1,i2⟩:=wFf a5
 obtain ⟨i',j1,j2⟩:=wFg a6
 obtain ⟨i'',zv,k1,k2,k3⟩:=wET a7
 rw [i1] at j1 k1;cases j1;cases k1
 have hz:=nB a8
 have hsz:0 < sz:=by simpa [nH] using a9
 have hx:=wAG a3 hE
 have hy:=wAG a4 hE
 have fin:∀ {μ':Mu} {w':World} {cv:Value},Ext μ h.fl.nat w μ' w'->Sim C P μ' h' w'->Rv μ' v cv->h'.fl=h.fl->(Builtin.append_ #[t,t'] o.type #[ev σ x',ev σ y']).run P w=.ok cv w' ->
   ∃ μ' w' cv,Ext μ h.fl.nat w μ' w'/\Sim C P μ' h' w'/\Rv μ' v cv/\h'.fl=h.fl/\Runs P σ w o cv w':=fun a b c d f =>
  ⟨_,_,_,a,b,c,d,by rw [ho];rfl,by simp [execOp,ho,resolve,invoke,builtin,f]⟩
 have zlen:zv.cells.size=sz:=by rw [<- hz,wDn,<- wCX (k3 μ)];simp
 unfold wIO at hr
 split at hr
 ·rename_i nn hxs hn
  rw [hxs] at hx
  rw [wBf hn] at hy
  have hx:ev σ x'=.slice none 0 0:=hx
  have hy:ev σ y'=.int .i64 (nn:Int):=hy
  cases nn with
  | zero =>
   cases hr
   refine fin (Ext.refl μ _ w) S rfl rfl ?_
   rw [hx,hy]
   simp [Builtin.append_,run_underlying d1,run_underlying n1,sizeOf,typeInfo,i1,asInt,asIntOf,IntKind.wrap_i64]
  | succ m =>
   obtain ⟨hble,hr⟩:=wBJ hr
   have hble:=nL hble
   cases hr
   have hby:0 < by_:=by simpa [nH] using a10
   have hnb:m + 1 <= 140737488355328:=nZ (kH _ hby) hble
   have hrun:=Go.Lib.run_append_nil_zeros (P:=P) w t t' o.type e i zv .i64 kn d1 n1 i1 k2 (m + 1) (by omega) (by rw [i2];exact hsz) (by omega) (by rw [j2];omega)
   have hge:=grownCap_ge w (m + 1) 0 e
   have maxb:(140737488355328:Nat) <= maxLen:=by decide
   have hcm:grownCap w (m + 1) 0 e <= maxLen:=grownCap_le_maxLen w (m + 1) 0 e (by omega)
   have hcs:((nY (m + 1) zv.cells.toList).flatten).length=(m + 1) * sz:=by rw [<- wDJ];simp [size_zeroCells,zlen]
   obtain ⟨μ',s1,s2,s3,s4⟩:=wMe (T:=e) (sz:=sz) (c:=grownCap w (m + 1) 0 e) (w':=w.drew.alloc (.cells (Builtin.zeroCells zv.cells (m + 1) ++ Builtin.zeroCells zv.cells (grownCap w (m + 1) 0 e - (m + 1))) e)) (cur:=Builtin.zeroCells zv.cells (m + 1) ++ Builtin.zeroCells zv.cells (grownCap w (m + 1) 0 e - (m + 1))) S
    ((Keep.drew w).non (wAm w.drew _)) (wGH (k3 μ) (m + 1)) (heap_alloc_new w.drew _) (by rw [hcs];exact kP _ hge) hcm
    (by
     simp only [kY,size_zeroCells,zlen,<- kM]
     congr 1
     omega)
    (by
     rw [kQ,wDJ]
     exact List.take_left)
   refine fin s1 s2 ⟨_,s4,?_,?_⟩ s3 (by rw [hx,hy];exact hrun)
   ·simpa using hge
   ·simp
 ·cases hr
theorem e_clr {z:List AV} {x:AOd} {op:Op} (hc:wPU P z x op=true):OkE C P op (wIL z x):=by
 intro σA h v h' hr μ σ w hE S o ho
 unfold wPU at hc
 split at hc
 ·rename_i c
  obtain ⟨ce,args,tys⟩:=c
  simp only at hc
  split at hc
  ·rename_i b
   simp only [nA,beq_iff_eq] at hc
   obtain ⟨rfl,h2⟩:=hc
   split at h2
   ·rename_i x' t h3 h4
    simp only [nA] at h2
    obtain ⟨a1,a2⟩:=h2
    obtain ⟨d,d1,d2⟩:=wAd a1
    split at d2 <;> first | (cases d2;done) | skip
    rename_i e
    have ea:args=#[x']:=nK (by simpa using h3)
    have et:tys=#[t]:=nK (by simpa using h4)
    subst ea et
    have hx:=wAG a2 hE
    obtain ⟨i,zv,z1,z2,z3⟩:=wET d2
    have zero:∀ {A:Option Addr} {c:Nat},ev σ x'=.slice A 0 c->v=u->h'=h->∃ μ' w' cv,Ext μ h.fl.nat w μ' w'/\Sim C P μ' h' w'/\Rv μ' v cv/\h'.fl=h.fl/\Runs P σ w o cv w':=by
     intro A c hA hv hh
     subst hv hh
     refine ⟨μ,w,undef,Ext.refl μ _ w,S,wMK μ,rfl,by rw [ho];rfl,?_⟩
     cases A <;> simp [execOp,ho,resolve,invoke,builtin,Builtin.clear_,hA,wAk d1,undef]
    have full:∀ {b:Pos} {c:Cl} {off n cap:Nat},μ b=some c->ev σ x'=.slice (some ⟨c.1,off,none⟩) n cap->clr h z b off n=some (v,h')->∃ μ' w' cv,Ext μ h.fl.nat w μ' w'/\Sim C P μ' h' w'/\Rv μ' v cv/\h'.fl=h.fl/\Runs P σ w o cv w':=by
     intro b c off n cap hb hA hr
     unfold clr at hr
     split at hr
     ·cases hr;exact zero hA rfl rfl
     ·rename_i n
      obtain ⟨hones,hr'⟩:=wBJ hr
      split at hr'
      ·rename_i h1' hset
       cases hr'
       have k1:=wGH (z3 μ) (n + 1)
       have k2:∀ v ∈ (nY (n + 1) zv.cells.toList).flatten,one v=true:=by
        intro v hv
        simp only [List.mem_flatten,List.mem_replicate] at hv
        obtain ⟨l,⟨_,rfl⟩,hv⟩:=hv
        exact wDY (z3 μ) hones v hv
       obtain ⟨w',q1,q2,q3,q4⟩:=wEt hset S k1 k2 hb
       refine ⟨μ,w',undef,q3,q2,wMK μ,q4,by rw [ho];rfl,?_⟩
       rw [<- wDJ] at q1
       simp [execOp,ho,resolve,invoke,builtin,Builtin.clear_,hA,wAk d1,wDF z1 z2,q1,undef,Result.andThen]
      ·cases hr'
    unfold wIL at hr
    split at hr
    ·rename_i hb;rw [hb] at hx;obtain ⟨c,g1,_,g3⟩:=hx;exact full g1 g3 hr
    ·rename_i hb;rw [hb] at hx;obtain ⟨c,g1,_,g3⟩:=hx;exact full g1 g3 hr
    ·rename_i hb;rw [hb] at hx;cases hr;obtain ⟨c,g1,q,g3⟩:=hx;exact zero g3 rfl rfl
    ·rename_i hb;rw [hb] at hx;cases hr;have hx:ev σ x'=.slice none 0 0:=hx;exact zero hx rfl rfl
    ·cases hr
   ·cases h2
  ·cases hc
 ·cases hc
end
end
end Go.KX
namespace Go.KX
noncomputable section
open Go.RowKit Go.KL
section
variable {C:Chk} {P:Program} {μ μ':Mu} {w w':World} {h h':AH} {σ:Env} {σA:Tr AV} {t e:TypeId} {o:Oper} {K:Type} [DecidableEq K]
def wNe (P:Program) (two:Bool) (k:IntKind) (kt:TypeId):Bool:=match two with
 | false=>wDi P kt fun d=>match wMQ d with | some k'=>keq k k' | none=>false
 | true=>(!P.stoodInHeld kt) && wDi P kt fun d=>match d with
  | .struct fs=>match fs.toList with
   | [f, g] => nD f.type g.type && (nD f.offset 0 && (nD g.offset 1 && ((f.name != "_") && ((g.name != "_") && wDi P f.type fun d => match wMQ d with | some k' => keq k k' | none => false))))
   | _=>false
  | _=>false
theorem keyI {k:IntKind} {kt:TypeId} (hc:wNe P false k kt=true):KeyR P kt (fun n:Int=>nw k n):=by
 obtain ⟨d,d1,d2⟩:=wAd hc
 cases d <;> first | (cases d2;done) | skip
 have:=wBP d2
 subst this
 exact KeyR.ofInt d1
theorem wKz {k:IntKind} {kt:TypeId} (hc:wNe P true k kt=true):KeyR P kt (mk2 k):=by
 simp only [wNe,nA,nV] at hc
 obtain ⟨c0,c1⟩:=hc
 obtain ⟨d,d1,d2⟩:=wAd c1
 split at d2
 ·rename_i fs
  split at d2
  ·rename_i f g hfs
   simp only [nA] at d2
   obtain ⟨a1,a2,a3,a4,a5,a6⟩:=d2
   obtain ⟨di,i1,i2⟩:=wAd a6
   cases di <;> first | (cases i2;done) | skip
   have ek:=wBP i2
   subst ek
   have efs:fs=#[f,g]:=nK (by simpa using hfs)
   subst efs
   have T:Two P kt f.type f g k:=⟨d1,rfl,nB a2,by simpa using a4,(nB a1).symm,nB a3,by simpa using a5,i1,fun w=>wGJ i1 w,c0⟩
   exact T.keyR (mk2 k) (·.1) (·.2) (fun _=>rfl) fun x y h1 h2=>Prod.ext h1 h2
  ·cases d2
 ·cases d2
theorem mrI {l:List (Int × AV)} {tt:List (Int × Value)} (hm:MR μ l tt) (n:Int):(wKr l n=none/\wFX tt n=none) \/ ∃ a v,wKr l n=some a/\wFX tt n=some v/\Rv μ a v:=by
 induction l generalizing tt with
 | nil=>cases tt with
  | nil=>exact .inl ⟨rfl,rfl⟩
  | cons q tt=>have:=hm.1;simp at this
 | cons p l ih =>
  cases tt with
  | nil=>have:=hm.1;simp at this
  | cons q tt =>
   obtain ⟨a,x⟩:=p
   obtain ⟨b,v⟩:=q
   obtain ⟨h1,h2⟩:=hm
   simp only [nI,nE] at h1
   obtain ⟨v',ws,g1,g2,g3⟩:=h2
   simp only [nI,nE] at g3
   obtain ⟨rfl,rfl⟩:=g3
   obtain ⟨rfl,h1⟩:=h1
   simp only [wKr,wFX]
   by_cases e:n=a
   ·right;exact ⟨x,v,by simp [wDZ,e],by simp [e],g1⟩
   ·have:=ih (tt:=tt) ⟨h1,g2⟩
    simpa [wDZ,e] using this
theorem wPW {l:List (Int × AV)} {tt:List (Int × Value)} (hm:MR μ l tt) (n:Int) {a:AV} {v:Value} (hv:Rv μ a v):MR μ (wLj l n a) (mput tt n v):=by
 induction l generalizing tt with
 | nil=>cases tt with
  | nil=>exact ⟨rfl,wBI hv wGG⟩
  | cons q tt=>have:=hm.1;simp at this
 | cons p l ih =>
  cases tt with
  | nil=>have:=hm.1;simp at this
  | cons q tt =>
   obtain ⟨b,x⟩:=p
   obtain ⟨b',v0⟩:=q
   obtain ⟨h1,h2⟩:=hm
   simp only [nI,nE] at h1
   obtain ⟨v',ws,g1,g2,g3⟩:=h2
   simp only [nI,nE] at g3
   obtain ⟨rfl,rfl⟩:=g3
   obtain ⟨rfl,h1⟩:=h1
   simp only [wLj,mput,wDZ]
   by_cases e:n=b
   ·simp only [e,decide_true,if_true]
    exact ⟨by simp [h1],wBI hv g2⟩
   ·have:=ih (tt:=tt) ⟨h1,g2⟩
    simp only [e,decide_false,if_false]
    exact ⟨by simp [this.1],wBI g1 this.2⟩
theorem wPX {l:List (Int × AV)} {tt:List (Int × Value)} (hm:MR μ l tt) (n:Int):MR μ (wLl l n) (mdel tt n):=by
 induction l generalizing tt with
 | nil=>cases tt with
  | nil=>exact ⟨rfl,rfl⟩
  | cons q tt=>have:=hm.1;simp at this
 | cons p l ih =>
  cases tt with
  | nil=>have:=hm.1;simp at this
  | cons q tt =>
   obtain ⟨b,x⟩:=p
   obtain ⟨b',v0⟩:=q
   obtain ⟨h1,h2⟩:=hm
   simp only [nI,nE] at h1
   obtain ⟨v',ws,g1,g2,g3⟩:=h2
   simp only [nI,nE] at g3
   obtain ⟨rfl,rfl⟩:=g3
   obtain ⟨rfl,h1⟩:=h1
   simp only [wLl,mdel,wDZ]
   by_cases e:n=b
   ·simp only [e,decide_true,if_true]
    exact ⟨h1,g2⟩
   ·have:=ih (tt:=tt) ⟨h1,g2⟩
    simp only [e,decide_false,if_false]
    exact ⟨by simp [this.1],wBI g1 this.2⟩
theorem z2 (x y a b:Int):(zeq x a && zeq y b)=decide ((x,y)=(a,b)):=by
 rw [wDZ,wDZ]
 by_cases h1:x=a <;> by_cases h2:y=b <;> simp [h1,h2]
theorem mr2 {l:List ((Int × Int) × AV)} {tt:List ((Int × Int) × Value)} (hm:MR μ l tt) (x y:Int):(wKq l x y=none/\wFX tt (x,y)=none) \/ ∃ a v,wKq l x y=some a/\wFX tt (x,y)=some v/\Rv μ a v:=by
 induction l generalizing tt with
 | nil=>cases tt with
  | nil=>exact .inl ⟨rfl,rfl⟩
  | cons q tt=>have:=hm.1;simp at this
 | cons p l ih =>
  cases tt with
  | nil=>have:=hm.1;simp at this
  | cons q tt =>
   obtain ⟨⟨a,b⟩,x0⟩:=p
   obtain ⟨b',v⟩:=q
   obtain ⟨h1,h2⟩:=hm
   simp only [nI,nE] at h1
   obtain ⟨v',ws,g1,g2,g3⟩:=h2
   simp only [nI,nE] at g3
   obtain ⟨rfl,rfl⟩:=g3
   obtain ⟨rfl,h1⟩:=h1
   simp only [wKq,wFX,z2]
   by_cases e:(x,y)=(a,b)
   ·right;exact ⟨x0,v,by simp only [e,decide_true],by simp only [e,if_true],g1⟩
   ·have:=ih (tt:=tt) ⟨h1,g2⟩
    simp only [e,decide_false,if_false]
    exact this
theorem wPY {l:List ((Int × Int) × AV)} {tt:List ((Int × Int) × Value)} (hm:MR μ l tt) (x y:Int) {a:AV} {v:Value} (hv:Rv μ a v):MR μ (wLi l x y a) (mput tt (x,y) v):=by
 induction l generalizing tt with
 | nil=>cases tt with
  | nil=>exact ⟨rfl,wBI hv wGG⟩
  | cons q tt=>have:=hm.1;simp at this
 | cons p l ih =>
  cases tt with
  | nil=>have:=hm.1;simp at this
  | cons q tt =>
   obtain ⟨⟨b1,b2⟩,x0⟩:=p
   obtain ⟨b',v0⟩:=q
   obtain ⟨h1,h2⟩:=hm
   simp only [nI,nE] at h1
   obtain ⟨v',ws,g1,g2,g3⟩:=h2
   simp only [nI,nE] at g3
   obtain ⟨rfl,rfl⟩:=g3
   obtain ⟨rfl,h1⟩:=h1
   simp only [wLi,mput,z2]
   by_cases e:(x,y)=(b1,b2)
   ·simp only [e,decide_true,if_true]
    exact ⟨by simp [h1],wBI hv g2⟩
   ·have:=ih (tt:=tt) ⟨h1,g2⟩
    simp only [e,decide_false,if_false]
    exact ⟨by simp [this.1],wBI g1 this.2⟩
theorem wPZ {l:List ((Int × Int) × AV)} {tt:List ((Int × Int) × Value)} (hm:MR μ l tt) (x y:Int):MR μ (wLk l x y) (mdel tt (x,y)):=by
 induction l generalizing tt with
 | nil=>cases tt with
  | nil=>exact ⟨rfl,rfl⟩
  | cons q tt=>have:=hm.1;simp at this
 | cons p l ih =>
  cases tt with
  | nil=>have:=hm.1;simp at this
  | cons q tt =>
   obtain ⟨⟨b1,b2⟩,x0⟩:=p
   obtain ⟨b',v0⟩:=q
   obtain ⟨h1,h2⟩:=hm
   simp only [nI,nE] at h1
   obtain ⟨v',ws,g1,g2,g3⟩:=h2
   simp only [nI,nE] at g3
   obtain ⟨rfl,rfl⟩:=g3
   obtain ⟨rfl,h1⟩:=h1
   simp only [wLk,mdel,z2]
   by_cases e:(x,y)=(b1,b2)
   ·simp only [e,decide_true,if_true]
    exact ⟨h1,g2⟩
   ·have:=ih (tt:=tt) ⟨h1,g2⟩
    simp only [e,decide_false,if_false]
    exact ⟨by simp [this.1],wBI g1 this.2⟩
theorem wQm {mt kt et:TypeId} {m ck:Nat} {es:Array MapEntry} {mk:K->Value} {tt:List (K × Value)} {a:K} {z:Value} {ok:Bool} (hm:w.heap[m]?=some (.map es ck)) (hu:P.underlying mt=some (.map kt et)) (R:KeyR P kt mk) (hz:∀ w,(zeroValue et).run P w=.ok z w) (hh:MpR es mk id tt) :
  (Instr.lookup mt (.map (some m)) (mk a) ok).run P w=.ok (if ok then .tuple #[wCK tt a z,.bool (wFu tt a)] else wCK tt a z) w:=by
 have hf:=R.find id es.toList tt a w hh
 have hg:=wEL tt a 0
 unfold wCK wFu
 simp [Instr.lookup,run_underlying hu,MapKept.run_getObj_map hm,R.chk,hf,Result.andThen,<- hg]
 cases e:wCM tt a 0 <;> simp [hz,Result.andThen]
theorem wPa {mt kt et:TypeId} {m ck:Nat} {es:Array MapEntry} {mk:K->Value} {tt:List (K × Value)} {a:K} {v:Value} (hm:w.heap[m]?=some (.map es ck)) (hu:P.underlying mt=some (.map kt et)) (R:KeyR P kt mk) (hh:MpR es mk id tt) :
  ∃ es' ck',MpR es' mk id (mput tt a v)/\(Instr.mapUpdate mt (.map (some m)) (mk a) v).run P w=.ok () (w.putObj m (.map es' ck')):=by
 have hf:=R.find id es.toList tt a w hh
 cases e:wCM tt a 0 with
 | none =>
  obtain ⟨e1,_⟩:=wEM e v
  refine ⟨es.push { key:=mk a,val:=v,born:=ck },ck + 1,?_,?_⟩
  ·unfold MpR at hh ⊢;rw [e1];simp [hh]
  ·simp [Instr.mapUpdate,run_underlying hu,MapKept.run_getObj_map hm,R.chk,hf,e,Result.andThen,MapKept.run_setObj_map _ hm]
   rfl
 | some p =>
  obtain ⟨q,u⟩:=p
  obtain ⟨_,h2,h3,_⟩:=wEN e v
  rw [Nat.sub_zero] at h2 h3
  have hq:q < tt.length:=(List.getElem?_eq_some_iff.1 h2).1
  have hl:es.size=tt.length:=by have:=congrArg nv hh;simpa using this
  have hkq:((es[q]?).map (·.key)).getD (mk a)=mk a:=by
   have h4:(es.toList.map (fun e=>(e.key,e.val)))[q]?=some (mk a,u):=by rw [hh,nq,h2];rfl
   rw [nq] at h4
   cases h5:es.toList[q]? with
   | none=>rw [h5] at h4;cases h4
   | some e =>
    rw [h5] at h4
    simp only [kf,nk,Prod.mk.injEq] at h4
    have h6:es[q]?=some e:=by simpa using h5
    rw [h6];simp [h4.1]
  refine ⟨es.modify q fun e=>{ e with key:=mk a,val:=v },ck,?_,?_⟩
  ·unfold MpR at hh ⊢
   rw [h3]
   apply List.ext_getElem?
   intro n
   have hn:=congrArg (·[n]?) hh
   simp only [nq] at hn ⊢
   rw [List.getElem?_set]
   simp only [Array.toList_modify,List.getElem?_modify]
   by_cases hqn:q=n
   ·subst hqn
    have h5:es.toList[q]?=some (es.toList[q]'(by simpa [hl] using hq)):=kE _
    simp [h5,hq]
   ·simp only [hqn,if_false]
    simpa [hqn] using hn
  ·simp [Instr.mapUpdate,run_underlying hu,MapKept.run_getObj_map hm,R.chk,hf,e,Result.andThen,MapKept.run_setObj_map _ hm,Instr.keyThatStays,hkq,R.same]
   rfl
theorem wPb {mt kt et ty:TypeId} {tys:Array TypeId} {m ck:Nat} {es:Array MapEntry} {mk:K->Value} {tt:List (K × Value)} {a:K} (hty:tys[0]?=some mt) (hm:w.heap[m]?=some (.map es ck)) (hu:P.underlying mt=some (.map kt et)) (R:KeyR P kt mk) (hh:MpR es mk id tt) :
  ∃ es' ck',MpR es' mk id (mdel tt a)/\(Builtin.delete_ tys ty #[.map (some m),mk a]).run P w=.ok (.tuple #[]) (w.putObj m (.map es' ck')):=by
 have hf:=R.find id es.toList tt a w hh
 cases e:wCM tt a 0 with
 | none =>
  obtain ⟨_,e1⟩:=wEM e (.bool true)
  refine ⟨es,ck,by rw [e1];exact hh,?_⟩
  simp [Builtin.delete_,hty,run_underlying hu,MapKept.run_getObj_map hm,R.chk,hf,e,Result.andThen,MapKept.run_setObj_map _ hm]
  rfl
 | some p =>
  obtain ⟨q,u⟩:=p
  obtain ⟨_,h2,_,h3⟩:=wEN e (.bool true)
  rw [Nat.sub_zero] at h2 h3
  refine ⟨es.eraseIdxIfInBounds q,ck,?_,?_⟩
  ·unfold MpR at hh ⊢
   rw [h3,<- wDV,<- hh,wDV]
   simp
  ·simp [Builtin.delete_,hty,run_underlying hu,MapKept.run_getObj_map hm,R.chk,hf,e,Result.andThen,MapKept.run_setObj_map _ hm]
   rfl
def wPc (C:Chk) (P:Program) (μ:Mu) (w:World) (c:Cl) (two:Bool) (k:IntKind) (kt:TypeId) (B:AB) (y:AV) (Y:Value):Prop :=
  ∃ (K:Type) (_:DecidableEq K) (mk:K->Value) (a:K) (es:Array MapEntry) (ck:Nat) (tt:List (K × Value)),Y=mk a/\w.heap[c.1]?=some (.map es ck)/\KeyR P kt mk/\MpR es mk id tt /\
   (∀ q,wFz two k B y=some q->(q=none/\wFX tt a=none) \/ ∃ x v,q=some x/\wFX tt a=some v/\Rv μ x v) /\
   (∀ x v B',wNa two k B y x=some B'->Rv μ x v->wKv B'/\∀ w' es' ck',w'.heap[c.1]?=some (.map es' ck')->MpR es' mk id (mput tt a v)->AbR C P μ w' c B') /\
   (∀ B',wNb two k B y=some B'->wKv B'/\∀ w' es' ck',w'.heap[c.1]?=some (.map es' ck')->MpR es' mk id (mdel tt a)->AbR C P μ w' c B')
theorem wMf {two:Bool} {k:IntKind} {kt:TypeId} {B:AB} {y:AV} {Y:Value} {c:Cl} (hk:wNe P two k kt=true) (hB:AbR C P μ w c B) (hY:Rv μ y Y) (hr:(wFz two k B y).isSome=true \/ (∃ v,(wNa two k B y v).isSome=true) \/ (wNb two k B y).isSome=true) :
  wPc C P μ w c two k kt B y Y/\wKv B:=by
 have caseI:two=false->∀ (n:Int) (es:Array MapEntry) (ck:Nat) (tt:List (Int × Value)) (l:List (Int × AV)),y=.int k n->w.heap[c.1]?=some (.map es ck)->MpR es (fun n:Int=>nw k n) id tt->MR μ l tt ->
   (∀ q,wFz two k B y=some q->q=wKr l n)->(∀ x B',wNa two k B y x=some B'->B'=.mapI k (wLj l n x))->(∀ B',wNb two k B y=some B'->B'=.mapI k (wLl l n) \/ (B'=.map0/\l=[]))->wPc C P μ w c two k kt B y Y:=by
  intro h2 n es ck tt l hy hm hp hM q1 q2 q3
  subst h2 hy
  have hY:Y=.int k n:=hY
  refine ⟨Int,inferInstance,fun n=>nw k n,n,es,ck,tt,hY,hm,keyI hk,hp,?_,?_,?_⟩
  ·intro q hq
   rw [q1 q hq]
   exact mrI hM n
  ·intro x v B' hB' hv
   have:=q2 x B' hB'
   subst this
   exact ⟨trivial,fun w' es' ck' g1 g2=>⟨es',ck',_,g1,g2,wPW hM n hv⟩⟩
  ·intro B' hB'
   rcases q3 B' hB' with rfl | ⟨rfl,rfl⟩
   ·exact ⟨trivial,fun w' es' ck' g1 g2=>⟨es',ck',_,g1,g2,wPX hM n⟩⟩
   ·refine ⟨trivial,fun w' es' ck' g1 g2=>⟨ck',?_⟩⟩
    cases tt with
    | cons p tt=>have:=hM.1;simp at this
    | nil =>
     have:es'=#[]:=by
      unfold MpR at g2
      simp only [mdel,kD,kR] at g2
      exact nK (by simpa using g2)
     rw [this] at g1;exact g1
 have case2:two=true->∀ (n m:Int) (es:Array MapEntry) (ck:Nat) (tt:List ((Int × Int) × Value)) (l:List ((Int × Int) × AV)),y=.agg [.int k n,.int k m]->w.heap[c.1]?=some (.map es ck)->MpR es (mk2 k) id tt->MR μ l tt ->
   (∀ q,wFz two k B y=some q->q=wKq l n m)->(∀ x B',wNa two k B y x=some B'->B'=.map2 k (wLi l n m x))->(∀ B',wNb two k B y=some B'->B'=.map2 k (wLk l n m) \/ (B'=.map0/\l=[]))->wPc C P μ w c two k kt B y Y:=by
  intro h2 n m es ck tt l hy hm hp hM q1 q2 q3
  subst h2 hy
  have hY:Y=mk2 k (n,m):=by
   obtain ⟨vs,g1,rfl⟩:=hY
   obtain ⟨v1,ws,g2,g3,rfl⟩:=g1
   obtain ⟨v2,ws2,g4,g5,rfl⟩:=g3
   cases g5
   have g2:v1=.int k n:=g2
   have g4:v2=.int k m:=g4
   subst g2 g4
   rfl
  refine ⟨Int × Int,inferInstance,mk2 k,(n,m),es,ck,tt,hY,hm,wKz hk,hp,?_,?_,?_⟩
  ·intro q hq
   rw [q1 q hq]
   exact mr2 hM n m
  ·intro x v B' hB' hv
   have:=q2 x B' hB'
   subst this
   exact ⟨trivial,fun w' es' ck' g1 g2=>⟨es',ck',_,g1,g2,wPY hM n m hv⟩⟩
  ·intro B' hB'
   rcases q3 B' hB' with rfl | ⟨rfl,rfl⟩
   ·exact ⟨trivial,fun w' es' ck' g1 g2=>⟨es',ck',_,g1,g2,wPZ hM n m⟩⟩
   ·refine ⟨trivial,fun w' es' ck' g1 g2=>⟨ck',?_⟩⟩
    cases tt with
    | cons p tt=>have:=hM.1;simp at this
    | nil =>
     have:es'=#[]:=by
      unfold MpR at g2
      simp only [mdel,kD,kR] at g2
      exact nK (by simpa using g2)
     rw [this] at g1;exact g1
 have shape:(∃ n,two=false/\y=.int k n/\(B=.map0 \/ ∃ l,B=.mapI k l)) \/ (∃ n m,two=true/\y=.agg [.int k n,.int k m]/\(B=.map0 \/ ∃ l,B=.map2 k l)):=by
  have fI:∀ {k':IntKind} {b:Bool} {α:Type} {x:Option α},(ifO b x).isSome=true->b=true:=fun {k' b α x} hq=>by cases b <;> first | rfl | cases hq
  rcases hr with hr | ⟨v,hr⟩ | hr
  ·unfold wFz at hr
   split at hr <;> first | (cases hr;done) | skip
   ·have:=wBP (fI (k':=k) hr);subst this;exact .inl ⟨_,rfl,rfl,.inl rfl⟩
   ·have:=fI (k':=k) hr;simp only [nA] at this
    have e1:=wBP this.1;have e2:=wBP this.2;subst e1 e2;exact .inr ⟨_,_,rfl,rfl,.inl rfl⟩
   ·have:=fI (k':=k) hr;simp only [nA] at this
    have e1:=wBP this.1;have e2:=wBP this.2;subst e1 e2;exact .inl ⟨_,rfl,rfl,.inr ⟨_,rfl⟩⟩
   ·have:=fI (k':=k) hr;simp only [nA] at this
    have e1:=wBP this.1;have e2:=wBP this.2.1;have e3:=wBP this.2.2;subst e1 e2 e3;exact .inr ⟨_,_,rfl,rfl,.inr ⟨_,rfl⟩⟩
  ·unfold wNa at hr
   split at hr <;> first | (cases hr;done) | skip
   ·have:=wBP (fI (k':=k) hr);subst this;exact .inl ⟨_,rfl,rfl,.inl rfl⟩
   ·have:=fI (k':=k) hr;simp only [nA] at this
    have e1:=wBP this.1;have e2:=wBP this.2;subst e1 e2;exact .inr ⟨_,_,rfl,rfl,.inl rfl⟩
   ·have:=fI (k':=k) hr;simp only [nA] at this
    have e1:=wBP this.1;have e2:=wBP this.2;subst e1 e2;exact .inl ⟨_,rfl,rfl,.inr ⟨_,rfl⟩⟩
   ·have:=fI (k':=k) hr;simp only [nA] at this
    have e1:=wBP this.1;have e2:=wBP this.2.1;have e3:=wBP this.2.2;subst e1 e2 e3;exact .inr ⟨_,_,rfl,rfl,.inr ⟨_,rfl⟩⟩
  ·unfold wNb at hr
   split at hr <;> first | (cases hr;done) | skip
   ·have:=wBP (fI (k':=k) hr);subst this;exact .inl ⟨_,rfl,rfl,.inl rfl⟩
   ·have:=fI (k':=k) hr;simp only [nA] at this
    have e1:=wBP this.1;have e2:=wBP this.2;subst e1 e2;exact .inr ⟨_,_,rfl,rfl,.inl rfl⟩
   ·have:=fI (k':=k) hr;simp only [nA] at this
    have e1:=wBP this.1;have e2:=wBP this.2;subst e1 e2;exact .inl ⟨_,rfl,rfl,.inr ⟨_,rfl⟩⟩
   ·have:=fI (k':=k) hr;simp only [nA] at this
    have e1:=wBP this.1;have e2:=wBP this.2.1;have e3:=wBP this.2.2;subst e1 e2 e3;exact .inr ⟨_,_,rfl,rfl,.inr ⟨_,rfl⟩⟩
 have iS:∀ {b:Bool} {α:Type} {x:Option α} {v:α},ifO b x=some v->x=some v:=fun hq=>(wBJ hq).2
 rcases shape with ⟨n,rfl,rfl,rfl | ⟨l,rfl⟩⟩ | ⟨n,m,rfl,rfl,rfl | ⟨l,rfl⟩⟩
 ·obtain ⟨ck,hm⟩:=hB
  refine ⟨?_,trivial⟩
  exact caseI rfl n #[] ck [] [] rfl hm rfl ⟨rfl,rfl⟩ (fun q hq=>by simp only [wFz] at hq;cases iS hq;rfl) (fun x B' hq=>by simp only [wNa] at hq;cases iS hq;rfl) (fun B' hq=>by simp only [wNb] at hq;cases iS hq;exact .inr ⟨rfl,rfl⟩)
 ·obtain ⟨es,ck,tt,hm,hp,hM⟩:=hB
  refine ⟨?_,trivial⟩
  exact caseI rfl n es ck tt l rfl hm hp hM (fun q hq=>by simp only [wFz] at hq;cases iS hq;rfl) (fun x B' hq=>by simp only [wNa] at hq;cases iS hq;rfl) (fun B' hq=>by simp only [wNb] at hq;cases iS hq;exact .inl rfl)
 ·obtain ⟨ck,hm⟩:=hB
  refine ⟨?_,trivial⟩
  exact case2 rfl n m #[] ck [] [] rfl hm rfl ⟨rfl,rfl⟩ (fun q hq=>by simp only [wFz] at hq;cases iS hq;rfl) (fun x B' hq=>by simp only [wNa] at hq;cases iS hq;rfl) (fun B' hq=>by simp only [wNb] at hq;cases iS hq;exact .inr ⟨rfl,rfl⟩)
 ·obtain ⟨es,ck,tt,hm,hp,hM⟩:=hB
  refine ⟨?_,trivial⟩
  exact case2 rfl n m es ck tt l rfl hm hp hM (fun q hq=>by simp only [wFz] at hq;cases iS hq;rfl) (fun x B' hq=>by simp only [wNa] at hq;cases iS hq;rfl) (fun B' hq=>by simp only [wNb] at hq;cases iS hq;exact .inl rfl)
def wQn (P:Program) (two:Bool) (k:IntKind) (ok:Bool) (z:AV) (x y:AOd):Op->Bool
 | .lookup t x' y' ok'=>wDi P t (fun d=>match d with
   | .map kt et=>wNe P two k kt && (match P.info? et with
    | some i=>match i.zero with | some v=>okc z v | none=>false
    | none=>false)
   | _=>false) && ((ok == ok') && (wBh x x' && wBh y y'))
 | _=>false
def lkV (ok:Bool) (z:AV) (q:Option AV):AV:=match ok with
 | true=>.tup [q.getD z,.bool q.isSome]
 | false=>q.getD z
theorem l_lk {two:Bool} {k:IntKind} {ok:Bool} {z:AV} {x y:AOd} {op:Op} (hc:wQn P two k ok z x y op=true):OkL C P op (wNd two k ok z x y):=by
 intro σA h v h' hr
 unfold wQn at hc
 split at hc
 ·rename_i t x' y' ok'
  simp only [nA,beq_iff_eq] at hc
  obtain ⟨c1,rfl,c2,c3⟩:=hc
  obtain ⟨d,d1,d2⟩:=wAd c1
  split at d2 <;> first | (cases d2;done) | skip
  rename_i kt et
  simp only [nA] at d2
  obtain ⟨k1,k2⟩:=d2
  split at k2 <;> first | (cases k2;done) | skip
  rename_i i hi
  split at k2 <;> first | (cases k2;done) | skip
  rename_i zv hz
  unfold wNd at hr
  split at hr <;> first | (cases hr;done) | skip
  rename_i b hx
  split at hr <;> first | (cases hr;done) | skip
  rename_i B hB
  have key:∀ q,wFz two k B (evA σA y)=some q->h'=h->v=lkV ok z q->h'=h/\∀ μ σ w,EnvR μ σA σ->Sim C P μ h w->∃ cv,Rv μ v cv/\∀ (o:Oper),o.op=.lookup t x' y' ok->wFW P σ w o cv:=by
   intro q hq hh hv
   subst hh hv
   refine ⟨rfl,fun μ σ w hE S=>?_⟩
   have g:=wAG c2 hE;rw [hx] at g
   obtain ⟨c,g1,g2⟩:=g
   obtain ⟨c',g3,g4⟩:=S.at_ b B hB
   rw [g1] at g3;cases g3
   obtain ⟨⟨K,_,mk,a,es,ck,tt,e1,e2,e3,e4,e5,_,_⟩,hl⟩:=wMf k1 g4 (wAG c3 hE) (.inl (by rw [hq];rfl))
   have hrun:∀ w',Keep w w' Non->∀ (o:Oper),o.op=.lookup t x' y' ok->Runs P σ w' o (if ok then .tuple #[wCK tt a zv,.bool (wFu tt a)] else wCK tt a zv) w':=by
    intro w' K o ho
    have hm:=(K.block _ (wAK e2) id).trans e2
    have:=wQm (P:=P) (ok:=ok) hm d1 e3 (wDF hi hz) e4 (a:=a)
    exact ⟨by rw [ho];rfl,by simp [execOp,ho,g2,e1,this,Result.andThen]⟩
   refine ⟨_,?_,fun o ho w' K=>hrun w' K o ho⟩
   have hval:Rv μ (q.getD z) (wCK tt a zv)/\q.isSome=wFu tt a:=by
    rcases e5 q hq with ⟨rfl,q2⟩ | ⟨x,v,rfl,q2,q3⟩
    ·unfold wCK wFu;rw [q2];exact ⟨wMM μ k2,rfl⟩
    ·unfold wCK wFu;rw [q2];exact ⟨q3,rfl⟩
   cases ok
   ·exact hval.1
   ·exact ⟨_,wBI hval.1 (wBI (v:=.bool (wFu tt a)) (by rw [<- hval.2];rfl) wGG),rfl⟩
  split at hr
  ·rename_i q hq
   cases hr
   exact key _ hq rfl (by cases ok <;> rfl)
  ·rename_i hq
   cases hr
   exact key _ hq rfl (by cases ok <;> rfl)
  ·cases hr
 ·cases hc
def wKG (P:Program) (two:Bool) (k:IntKind) (x y z:AOd):Op->Bool
 | .mapUpdate t x' y' z' | .insert t x' y' z'=>wDi P t (fun d=>match d with
   | .map kt et=>wNe P two k kt
   | _=>false) && (wBh x x' && (wBh y y' && wBh z z'))
 | _=>false
theorem wMg {two:Bool} {k:IntKind} {x y z:AOd} {op:Op} (hc:wKG P two k x y z op=true):∃ t kt et x' y' z',(op=.mapUpdate t x' y' z' \/ op=.insert t x' y' z')/\P.underlying t=some (.map kt et)/\wNe P two k kt=true/\wBh x x'=true/\wBh y y'=true/\wBh z z'=true:=by
 have key:∀ {t:TypeId} {x' y' z':Operand},(wDi P t (fun d=>match d with | .map kt et=>wNe P two k kt | _=>false) && (wBh x x' && (wBh y y' && wBh z z')))=true->∃ kt et,P.underlying t=some (.map kt et)/\wNe P two k kt=true/\wBh x x'=true/\wBh y y'=true/\wBh z z'=true:=by
  intro t x' y' z' hq
  simp only [nA] at hq
  obtain ⟨d,d1,d2⟩:=wAd hq.1
  split at d2 <;> first | (cases d2;done) | skip
  exact ⟨_,_,d1,d2,hq.2⟩
 unfold wKG at hc
 split at hc
 ·obtain ⟨kt,et,g⟩:=key hc;exact ⟨_,kt,et,_,_,_,.inl rfl,g⟩
 ·obtain ⟨kt,et,g⟩:=key hc;exact ⟨_,kt,et,_,_,_,.inr rfl,g⟩
 ·cases hc
theorem wQo {two:Bool} {k:IntKind} {x y z:AOd} {op:Op} (hc:wKG P two k x y z op=true):OkU C P op (wFQ two k x y z):=by
 intro σA h v h' hr μ σ w hE S o ho
 obtain ⟨t,kt,et,x',y',z',hop,d1,k1,c1,c2,c3⟩:=wMg hc
 unfold wFQ at hr
 split at hr <;> first | (cases hr;done) | skip
 rename_i b hx
 split at hr <;> first | (cases hr;done) | skip
 rename_i B hB
 split at hr <;> first | (cases hr;done) | skip
 rename_i B' hp
 split at hr <;> first | (cases hr;done) | skip
 rename_i h1' hput
 cases hr
 have g:=wAG c1 hE;rw [hx] at g
 obtain ⟨c,g1,g2⟩:=g
 obtain ⟨c',g3,g4⟩:=S.at_ b B hB
 rw [g1] at g3;cases g3
 obtain ⟨⟨K,_,mk,a,es,ck,tt,e1,e2,e3,e4,_,e6,_⟩,hl⟩:=wMf k1 g4 (wAG c2 hE) (.inr (.inl ⟨_,by rw [hp];rfl⟩))
 obtain ⟨es',ck',r1,r2⟩:=wPa (P:=P) (v:=ev σ z') e2 d1 e3 e4 (a:=a)
 obtain ⟨l1,l2⟩:=e6 _ (ev σ z') B' hp (wAG c3 hE)
 obtain ⟨s1,s2,s3⟩:=S.put hput hB hl g1 (wBc w c.1 (.map es' ck')) (l2 _ es' ck' (wEP _ (wAK e2)) r1)
 refine ⟨μ,_,s2,s1,rfl,s3,by rw [ho];rcases hop with e | e <;> (rw [e];rfl),?_⟩
 rcases hop with e | e <;> rw [e] at ho <;> simp [execOp,ho,g2,e1,r2,Result.andThen]
def wMh (P:Program) (two:Bool) (k:IntKind) (x y:AOd):Op->Bool
 | .call c=>match c.callee with
  | .builtin b=>(b == .delete) && (match c.args.toList,c.argTypes.toList with
   | [x',y'],t :: _=>wDi P t (fun d=>match d with | .map kt _=>wNe P two k kt | _=>false) && (wBh x x' && wBh y y')
   | _,_=>false)
  | _=>false
 | _=>false
theorem wQp {two:Bool} {k:IntKind} {x y:AOd} {op:Op} (hc:wMh P two k x y op=true):OkE C P op (wFR two k x y):=by
 intro σA h v h' hr μ σ w hE S o ho
 unfold wMh at hc
 split at hc <;> first | (cases hc;done) | skip
 rename_i c
 obtain ⟨ce,args,tys⟩:=c
 simp only at hc
 split at hc <;> first | (cases hc;done) | skip
 rename_i b
 simp only [nA,beq_iff_eq] at hc
 obtain ⟨rfl,h2⟩:=hc
 split at h2 <;> first | (cases h2;done) | skip
 rename_i x' y' t ts h3 h4
 simp only [nA] at h2
 obtain ⟨a1,a2,a3⟩:=h2
 obtain ⟨d,d1,d2⟩:=wAd a1
 split at d2 <;> first | (cases d2;done) | skip
 rename_i kt et
 have ea:args=#[x',y']:=nK (by simpa using h3)
 have et':tys[0]?=some t:=by rw [<- kO,h4];rfl
 unfold wFR at hr
 split at hr <;> first | (cases hr;done) | skip
 rename_i b hx
 split at hr <;> first | (cases hr;done) | skip
 rename_i B hB
 split at hr <;> first | (cases hr;done) | skip
 rename_i B' hp
 split at hr <;> first | (cases hr;done) | skip
 rename_i h1' hput
 cases hr
 have g:=wAG a2 hE;rw [hx] at g
 obtain ⟨c,g1,g2⟩:=g
 obtain ⟨c',g3,g4⟩:=S.at_ b B hB
 rw [g1] at g3;cases g3
 obtain ⟨⟨K,_,mk,a,es,ck,tt,e1,e2,e3,e4,_,_,e7⟩,hl⟩:=wMf d2 g4 (wAG a3 hE) (.inr (.inr (by rw [hp];rfl)))
 obtain ⟨es',ck',r1,r2⟩:=wPb (P:=P) (ty:=o.type) et' e2 d1 e3 e4 (a:=a)
 obtain ⟨l1,l2⟩:=e7 B' hp
 obtain ⟨s1,s2,s3⟩:=S.put hput hB hl g1 (wBc w c.1 (.map es' ck')) (l2 _ es' ck' (wEP _ (wAK e2)) r1)
 refine ⟨μ,_,_,s2,s1,wMK μ,s3,by rw [ho];rfl,?_⟩
 simp [execOp,ho,ea,resolve,invoke,builtin,g2,e1,r2,undef,Result.andThen]
def wIV (P:Program) (x:AOd):Op->Bool
 | .call c=>match c.callee with
  | .builtin b=>(b == .len) && (match c.args.toList,c.argTypes.toList with
   | [x'],[t]=>wDi P t (fun d=>match d with | .map _ _=>true | _=>false) && wBh x x'
   | _,_=>false)
  | _=>false
 | _=>false
theorem wQq {x:AOd} {op:Op} (hc:wIV P x op=true):OkL C P op (wEE x):=by
 intro σA h v h' hr
 unfold wIV at hc
 split at hc <;> first | (cases hc;done) | skip
 rename_i c
 obtain ⟨ce,args,tys⟩:=c
 simp only at hc
 split at hc <;> first | (cases hc;done) | skip
 rename_i b
 simp only [nA,beq_iff_eq] at hc
 obtain ⟨rfl,h2⟩:=hc
 split at h2 <;> first | (cases h2;done) | skip
 rename_i x' t h3 h4
 simp only [nA] at h2
 obtain ⟨a1,a2⟩:=h2
 obtain ⟨d,d1,d2⟩:=wAd a1
 split at d2 <;> first | (cases d2;done) | skip
 rename_i kt et
 have ea:args=#[x']:=nK (by simpa using h3)
 have et':tys=#[t]:=nK (by simpa using h4)
 subst ea et'
 unfold wEE at hr
 split at hr
 ·rename_i hx
  cases hr
  refine ⟨rfl,fun μ σ w hE S=>⟨_,rfl,fun o ho w' K=>?_⟩⟩
  have g:=wAG a2 hE;rw [hx] at g
  have g:ev σ x'=.map none:=g
  exact ⟨by rw [ho];rfl,by simp [execOp,ho,resolve,invoke,builtin,Builtin.len_,g,run_underlying d1,goInt,Result.andThen]⟩
 ·rename_i b hx
  split at hr <;> first | (cases hr;done) | skip
  rename_i B hB
  split at hr <;> first | (cases hr;done) | skip
  rename_i n hn
  cases hr
  refine ⟨rfl,fun μ σ w hE S=>⟨_,rfl,fun o ho w' K=>?_⟩⟩
  have g:=wAG a2 hE;rw [hx] at g
  obtain ⟨c,g1,g2⟩:=g
  obtain ⟨c',g3,g4⟩:=S.at_ b B hB
  rw [g1] at g3;cases g3
  have hmap:∃ es ck,w.heap[c.1]?=some (.map es ck)/\es.size=n:=by
   unfold lenB at hn
   split at hn <;> first | (cases hn;done) | skip
   ·cases hn;obtain ⟨ck,q⟩:=g4;exact ⟨_,ck,q,rfl⟩
   ·cases hn
    obtain ⟨es,ck,tt,q1,q2,q3⟩:=g4
    refine ⟨es,ck,q1,?_⟩
    have e1:=congrArg nv q2
    have e2:=congrArg nv q3.1
    simp at e1 e2
    rw [wDn];omega
   ·cases hn
    obtain ⟨es,ck,tt,q1,q2,q3⟩:=g4
    refine ⟨es,ck,q1,?_⟩
    have e1:=congrArg nv q2
    have e2:=congrArg nv q3.1
    simp at e1 e2
    rw [wDn];omega
  obtain ⟨es,ck,q1,q2⟩:=hmap
  have hm:=(K.block _ (wAK q1) id).trans q1
  refine ⟨by rw [ho];rfl,?_⟩
  simp [execOp,ho,resolve,invoke,builtin,Builtin.len_,g2,run_underlying d1,MapKept.run_getObj_map hm,goInt,Result.andThen,q2]
 ·cases hr
end
end
end Go.KX
namespace Go.KX
noncomputable section
open Go.RowKit Go.KL
def kdA:AOp->Nat
 | .mv _ | .pick _ _ _ | .nilc _ | .add _ _ | .sub _ _ | .mul _ _ | .quo _ _ | .rem _ _ | .lss _ _ | .leq _ _ | .gtr _ _ | .geq _ _ | .eql _ _ | .neq _ _ | .eqb _ _ _ | .eqn _ _ _ _ | .eqs _ _ _ _
 | .bad | .and _ _ | .shr _ _ | .ixs _ _ | .neg _ | .not _ | .cvt _ _ | .mkf _ _ _ | .slc _ _ _ _ _ | .slcA _ _ _ _ _ | .fad _ _ | .fld _ _ | .fldA _ _ _ | .iad _ _ _ | .iadA _ _ _ _ | .ix _ _ _ | .ixA _ _ _ _ | .ext _ _ | .bld _ _ | .len _ | .cap _ | .min _ _ | .max _ _=>3
 | .ld _ | .ldA _ _ | .lk _ _ _ _ _ _ | .lenM _=>1
 | .st _ _ _ | .mput _ _ _ _ _=>4
 | .call _ _=>5
 | _=>0
def wMi (x:AOd) (l:List AOd):Op->Bool
 | .call c=>match c.callee with
  | .value f=>wBh x f && wIR l c.args.toList
  | _=>false
 | _=>false
def wQK:List UInt8->List Nat->Bool
 | [],[]=>true
 | a :: l,b :: k=>nD a.toNat b && wQK l k
 | _,_=>false
theorem wMj:∀ {l:List UInt8} {k:List Nat},wQK l k=true->l.map UInt8.toNat=k
 | [],[],_=>rfl
 | a :: l,b :: k,h=>by
  simp only [wQK,nA] at h
  rw [nI,nB h.1,wMj h.2]
 | [],_ :: _,h=>by simp [wQK] at h
 | _ :: _,[],h=>by simp [wQK] at h
def wPd (P:Program) (l:List Nat) (y:AOd):Op->Bool
 | .index t (.const (.string s)) y'=>wDi P t (fun d=>match d with | .string=>true | _=>false) && (wQK s.data.toList l && wBh y y')
 | _=>false
def wGO (P:Program) (a:AOp) (op:Op):Bool:=match a with
 | .mv x=>c_mv x op
 | .pick c x y=>wMN c x y op
 | .new T z=>wMa P T z op
 | .box T x=>wMb T x op
 | .ld x=>wQj P x op
 | .ldA n x=>wMZ P n x op
 | .st n x y=>c_st P n x y op
 | .nilc x=>wMO x op
 | .add x y=>wCI .add x y op
 | .sub x y=>wCI .sub x y op
 | .mul x y=>wCI .mul x y op
 | .quo x y=>wCI .quo x y op
 | .rem x y=>wCI .rem x y op
 | .lss x y=>wCI .lss x y op
 | .leq x y=>wCI .leq x y op
 | .gtr x y=>wCI .gtr x y op
 | .geq x y=>wCI .geq x y op
 | .eql x y=>wCI .eql x y op
 | .neq x y=>wCI .neq x y op
 | .eqb ne x y=>wPJ P ne x y op
 | .eqn k ne x y=>wPK P k ne x y op
 | .eqs ne s x y=>wPL P ne s x y op
 | .neg x=>wPE x op
 | .not x=>wPF x op
 | .cvt k x=>wPG (P:=P) k x op
 | .mkf f fi ca=>wPH f fi ca op
 | .mkm=>wMc op
 | .mks T sz by_ z x y=>wMd P T sz by_ z x y op
 | .slc sz x lo hi mx=>wPQ P sz x lo hi mx op
 | .slcA sz n x lo hi=>wMX P sz n x lo hi op
 | .fad off x=>wPM P off x op
 | .fld off x=>wPN P off x op
 | .fldA off n x=>wMT P off n x op
 | .iad sz x y=>wPO P sz x y op
 | .iadA sz n x y=>wMU P sz n x y op
 | .ix n x y=>c_ix P n x y op
 | .ixA sz n x y=>wPP P sz n x y op
 | .lk two k ok z x y=>wQn P two k ok z x y op
 | .mput two k x y z=>wKG P two k x y z op
 | .mdel two k x y=>wMh P two k x y op
 | .ext i x=>wPI i x op
 | .bld z ps=>wPR P z ps op
 | .blds T n z ps=>wIU P T n z ps op
 | .len x=>wKy P .len x op
 | .lenM x=>wIV P x op
 | .cap x=>wKy P .cap x op
 | .app T sz by_ x y=>wNt P T sz by_ x y op
 | .cpy sz x y=>wPT P sz x y op
 | .clr z x=>wPU P z x op
 | .min x y=>wQJ .min x y op
 | .max x y=>wQJ .max x y op
 | .call x l=>wMi x l op
 | .bad=>true
 | .and x y=>wCI .and x y op
 | .shr x y=>wCI .shr x y op
 | .ixs l y=>wPd P l y op
 | .apz T sz by_ z x y=>wPV P T sz by_ z x y op
section
variable {C:Chk} {P:Program} {tb:Tr AF} {ex exY:Run}
theorem p_bad {op:Op}:OkP P op (wQX):=by
 intro σA h v h' hr
 cases hr
theorem p_and {x y:AOd} {op:Op} (hc:wCI .and x y op=true):OkP P op (wMD x y):=by
 intro σA h v h' hr
 obtain ⟨t,x',y',t',rfl,h1,h2⟩:=wEr hc
 obtain ⟨hr2,rfl⟩:=wBR hr
 split at hr2
 ·rename_i k a k' b ha hb
  split at hr2
  ·rename_i hk
   cases hr2
   have hk:=wBP hk
   subst hk
   refine ⟨rfl,fun μ σ hE=>⟨_,rfl,fun o w ho=>?_⟩⟩
   have g1:=wAG h1 hE;rw [ha] at g1
   have g2:=wAG h2 hE;rw [hb] at g2
   have g1:ev σ x'=.int k a:=g1
   have g2:ev σ y'=.int k b:=g2
   exact ⟨by rw [ho];rfl,by simp [execOp,ho,g1,g2,binOp,eqGuard,Op.intBits,andI]⟩
  ·cases hr2
 ·cases hr2
theorem p_shr {x y:AOd} {op:Op} (hc:wCI .shr x y op=true):OkP P op (wME x y):=by
 intro σA h v h' hr
 obtain ⟨t,x',y',t',rfl,h1,h2⟩:=wEr hc
 obtain ⟨hr2,rfl⟩:=wBR hr
 split at hr2
 ·rename_i k a k' b ha hb
  cases hr2
  refine ⟨rfl,fun μ σ hE=>⟨_,rfl,fun o w ho=>?_⟩⟩
  have g1:=wAG h1 hE;rw [ha] at g1
  have g2:=wAG h2 hE;rw [hb] at g2
  have g1:ev σ x'=.int k a:=g1
  have g2:ev σ y'=.int k' (kJ b):=g2
  have hn:¬ (kJ b) < 0:=by simp
  exact ⟨by rw [ho];rfl,by simp [execOp,ho,g1,g2,binOp,eqGuard,Op.shift];intro hb0;omega⟩
 ·cases hr2
theorem p_ixs {l:List Nat} {y:AOd} {op:Op} (hc:wPd P l y op=true):OkP P op (wJO l y):=by
 intro σA h v h' hr
 unfold wPd at hc
 split at hc <;> first | (cases hc;done) | skip
 rename_i t s y'
 simp only [nA] at hc
 obtain ⟨c1,c2,c3⟩:=hc
 obtain ⟨d,d1,d2⟩:=wAd c1
 split at d2 <;> first | (cases d2;done) | skip
 have hl:=wMj c2
 unfold wJO at hr
 split at hr
 ·rename_i k i hy
  obtain ⟨hr2,rfl⟩:=wBR hr
  split at hr2
  ·rename_i b hb
   cases hr2
   rw [wFT,<- hl,nq] at hb
   have hi:i < s.data.toList.length:=by
    rcases kC i s.data.toList.length with q | q
    ·exact q
    ·rw [nr q] at hb;cases hb
   have hi2:i < s.size:=by simpa using hi
   rw [kE hi] at hb
   have hb:(s.data.toList[i]).toNat=b:=by simpa using hb
   refine ⟨rfl,fun μ σ hE=>⟨_,rfl,fun o w ho=>?_⟩⟩
   have g:=wAG c3 hE;rw [hy] at g
   have g:ev σ y'=.int k (kJ i):=g
   have hx:ev σ (.const (.string s))=.string s:=rfl
   have hrun:=run_index_string (P:=P) w t s k (kJ i) d1
   rw [dif_pos ⟨by simp,by simpa using hi2⟩] at hrun
   have hbb:(s[(kJ i).toNat]'(by simpa using hi2)).toNat=b:=by rw [<- hb];rfl
   rw [hbb] at hrun
   simp only [nW] at hrun
   exact ⟨by rw [ho];rfl,by simp only [execOp,ho,hx,g];simp [hrun]⟩
  ·cases hr2
 ·cases hr
theorem wGy {a:AOp} {op:Op} (hk:kdA a=3) (hc:wGO P a op=true):OkP P op (opY a tb ex exY):=by
 cases a <;> first
  | (simp [kdA] at hk;done)
  | exact p_bad | exact p_and hc | exact p_shr hc | exact p_ixs hc | exact p_mv hc | exact wQc hc | exact wQd hc | exact p_add hc | exact p_sub hc | exact p_mul hc | exact p_quo hc | exact p_rem hc
  | exact p_lss hc | exact p_leq hc | exact p_gtr hc | exact p_geq hc | exact p_eql hc | exact p_neq hc | exact p_eqb hc | exact p_eqn hc | exact p_eqs hc
  | exact p_neg hc | exact p_not hc | exact p_cvt hc | exact p_mkf hc | exact p_slc hc | exact wQh hc | exact p_fad hc | exact p_fld hc | exact wQf hc
  | exact p_iad hc | exact wQg hc | exact p_ix hc | exact p_ixA hc | exact p_ext hc | exact p_bld hc | exact p_len hc | exact p_cap hc | exact p_min hc | exact p_max hc
theorem wGz {a:AOp} {op:Op} (hk:kdA a=1 \/ kdA a=3) (hc:wGO P a op=true):OkL C P op (opY a tb ex exY):=by
 rcases hk with hk | hk
 ·cases a <;> first
   | (simp [kdA] at hk;done)
   | exact l_ld hc | exact l_ldA hc | exact l_lk hc | exact wQq hc
 ·exact (wGy hk hc).toL
theorem wQr {a:AOp} {op:Op} (hk:kdA a=0 \/ kdA a=1 \/ kdA a=3) (hc:wGO P a op=true):OkE C P op (opY a tb ex exY):=by
 rcases hk with hk | hk
 ·cases a <;> first
   | (simp [kdA] at hk;done)
   | exact e_new hc | exact e_box hc | exact e_mkm hc | exact e_mks hc | exact wQp hc | exact wQk hc | exact e_app hc | exact e_apz hc | exact e_cpy hc | exact e_clr hc
 ·exact (wGz hk hc).toE
theorem wQs {a:AOp} {op:Op} (hk:kdA a=4) (hc:wGO P a op=true):OkU C P op (opY a tb ex exY):=by
 cases a <;> first
  | (simp [kdA] at hk;done)
  | exact u_st hc | exact wQo hc
def wFU (C:Chk) (P:Program) (tb:Tr AF) (ex:Run):Prop:=∀ f args h v h',wIM tb ex f args h=some (v,h') ->
 (∀ (a:Array Value) (w:World),(callFunc (f.nat - 1) a).run P w=.ok (.enter (f.nat - 1) a) w) /\
 ∀ μ w vs,Sim C P μ h w->RvL μ args vs->Gv P (f.nat - 1) vs w fun cv w'=>∃ μ',Ext μ h.fl.nat w μ' w'/\Sim C P μ' h' w'/\Rv μ' v cv/\h'.fl=h.fl
def wEW (C:Chk) (P:Program) (ex:Run):Prop:=∀ b args h v h',wIN ex b args h=some (v,h') ->
 ∀ μ w x c,Sim C P μ h w->RvL μ args x->μ b=some c->Yd P c.1 x w fun t w'=>∃ μ',Ext μ h.fl.nat w μ' w'/\Sim C P μ' h' w'/\v=.bool t/\h'.fl=h.fl
def wGP (P:Program) (N:Nat) (l:List Oper) (a:AO):Bool:=match l[a.ix]? with
 | none=>false
 | some o=>wGO P a.op o.op && ((match a.dst,o.dst with
   | none,none=>true
   | some p,some d=>nD p.nat (d + 1) && nR d N
   | _,_=>false) && ((match a.grd,o.guard with
   | none,none=>true
   | some (p,b),some (j,b')=>(b == b') && (match (l[j]?).bind (·.dst) with | some d=>nD p.nat (d + 1) | none=>false)
   | _,_=>false) && ((match a.kd with
   | 3=>nD (kdA a.op) 3
   | 1=>nD (kdA a.op) 1 || nD (kdA a.op) 3
   | _=>true) && ((!Nat.beq (kdA a.op) 4 || o.dst.isNone) && !Nat.beq a.kd 1005))))
structure AOK (P:Program) (N:Nat) (l:List Oper) (a:AO) (o:Oper):Prop where
 get:l[a.ix]?=some o
 op:wGO P a.op o.op=true
 dst:(a.dst=none/\o.dst=none) \/ ∃ p d,a.dst=some p/\o.dst=some d/\d=p.nat - 1/\d < N
 grd:(a.grd=none/\o.guard=none) \/ ∃ p b j d,a.grd=some (p,b)/\o.guard=some (j,b)/\(l[j]?).bind (·.dst)=some d/\d=p.nat - 1
 k3:a.kd=3->kdA a.op=3
 k1:a.kd=1->kdA a.op=1 \/ kdA a.op=3
 un:kdA a.op=4->o.dst=none
 k5:a.kd ≠ 1005
theorem wCe {N:Nat} {l:List Oper} {a:AO} (hc:wGP P N l a=true):∃ o,AOK P N l a o:=by
 unfold wGP at hc
 split at hc
 ·cases hc
 ·rename_i o ho
  simp only [nA] at hc
  obtain ⟨c1,c2,c3,c4,c5,c6⟩:=hc
  refine ⟨o,ho,c1,?_,?_,?_,?_,?_,?_⟩
  ·split at c2
   ·rename_i h1 h2;exact .inl ⟨h1,h2⟩
   ·rename_i p d h1 h2
    simp only [nA,nH] at c2
    have:=nB c2.1
    exact .inr ⟨p,d,h1,h2,by rw [this];rfl,c2.2⟩
   ·cases c2
  ·split at c3
   ·rename_i h1 h2;exact .inl ⟨h1,h2⟩
   ·rename_i p b j b' h1 h2
    simp only [nA,beq_iff_eq] at c3
    obtain ⟨rfl,c3⟩:=c3
    split at c3
    ·rename_i d hd
     have:=nB c3
     exact .inr ⟨p,b,j,d,h1,h2,hd,by rw [this];rfl⟩
    ·cases c3
   ·cases c3
  ·intro hk;rw [hk] at c4;exact nB c4
  ·intro hk;rw [hk] at c4
   simp only [nN] at c4
   exact c4.imp nB nB
  ·intro hk;rw [hk] at c5
   simpa using c5
  ·intro hk;rw [hk] at c6
   simp at c6
theorem wHc {N:Nat} {l:List Oper} {a:AO} {o:Oper} {μ:Mu} {σA:Tr AV} {σ:Env} (A:AOK P N l a o) (hE:EnvR μ σA σ):wanted l σ o=wCO σA a.grd:=by
 unfold wanted
 rcases A.grd with ⟨h1,h2⟩ | ⟨p,b,j,d,h1,h2,h3,h4⟩
 ·rw [h1,h2];rfl
 ·rw [h1,h2]
  simp only [h3]
  show _=isB b (evA σA (.t p))
  have g:=hE p
  rw [<- h4] at g
  unfold isB
  cases hv:evA σA (.t p) <;> rw [hv] at g <;> simp only [Rv] at g <;>
   first | (rw [g];done) | (obtain ⟨_,_,_,_,_,g⟩:=g;rw [g];done) | (obtain ⟨_,_,_,_,g⟩:=g;rw [g];done) | (obtain ⟨_,_,_,g⟩:=g;rw [g];done) | (obtain ⟨_,_,g⟩:=g;rw [g];done) | (obtain ⟨_,g⟩:=g;rw [g];done) | rw [g]
theorem wDe {N:Nat} {l:List Oper} {a:AO} {o:Oper} {μ:Mu} {σA:Tr AV} {σ:Env} {v:AV} {cv:Value} (A:AOK P N l a o) (hE:EnvR μ σA σ) (hv:Rv μ v cv):EnvR μ (wFZ a.dst σA v) (put' σ o cv):=by
 rcases A.dst with ⟨h1,h2⟩ | ⟨p,d,h1,h2,h3,_⟩
 ·rw [h1];unfold put';rw [h2];exact hE
 ·rw [h1];unfold put';rw [h2];subst h3;exact hE.put hv
theorem wHA {N:Nat} {l:List Oper} {a:AO} {o:Oper} (A:AOK P N l a o):∀ d,o.dst=some d->d < N:=by
 intro d hd
 rcases A.dst with ⟨_,h2⟩ | ⟨p,d',_,h2,_,h4⟩
 ·rw [h2] at hd;cases hd
 ·rw [h2] at hd;cases hd;exact h4
theorem wQt (HC:wFU C P tb ex) (HY:wEW C P exY) {N:Nat} {l:List Oper} {a:AO} {o:Oper} {μ:Mu} {σA:Tr AV} {σ:Env} {h h':AH} {v:AV} {w:World} (A:AOK P N l a o) (hw:wanted l σ o=true) (hr:opY a.op tb ex exY σA h=some (v,h')) (hE:EnvR μ σA σ) (S:Sim C P μ h w) :
  Step1 P l o σ w fun cv w'=>∃ μ',Ext μ h.fl.nat w μ' w'/\Sim C P μ' h' w'/\EnvR μ' (wFZ a.dst σA v) (put' σ o cv)/\h'.fl=h.fl:=by
 have hop:=A.op
 by_cases k4:kdA a.op=4
 ·obtain ⟨μ',w',h1,h2,rfl,h4,h5⟩:=wQs (C:=C) k4 hop σA h v h' hr μ σ w hE S o rfl
  exact .inl ⟨hw,.inl ⟨A.un k4,w',h5,μ',h1,h2,wDe A (hE.mono h1.mono) (wMK μ'),h4⟩⟩
 ·by_cases k5:kdA a.op=5
  ·cases hq:a.op <;> rw [hq] at k5 <;> first | (simp [kdA] at k5;done) | skip
   rename_i x args
   rw [hq] at hop hr
   have hop:wMi x args o.op=true:=hop
   unfold wMi at hop
   split at hop <;> first | (cases hop;done) | skip
   rename_i c hoc
   obtain ⟨ce,cargs,tys⟩:=c
   simp only at hop
   split at hop <;> first | (cases hop;done) | skip
   rename_i f
   simp only [nA] at hop
   have hx:=wAG hop.1 hE
   have ha:=wFe hop.2 hE
   have hr:wFS x args tb ex exY σA h=some (v,h'):=hr
   unfold wFS at hr
   split at hr
   ·rename_i g fi ca hg
    rw [hg] at hx
    obtain ⟨fv,cv,g1,g2,g3⟩:=hx
    obtain ⟨hcall,hgv⟩:=HC _ _ _ _ _ hr
    have G:=hgv μ w _ S (wDX g1 (wDX ha g2))
    refine .inl ⟨hw,.inr (.inr (.inl ⟨_,_,_,Enters.mk (l:=cargs.toList) hoc g3 hcall rfl (by rw [np]),G,?_⟩))⟩
    rintro cv' w' ⟨μ',h1,h2,h3,h4⟩
    exact ⟨μ',h1,h2,wDe A (hE.mono h1.mono) h3,h4⟩
   ·rename_i b hb
    rw [hb] at hx
    obtain ⟨c,g1,g2⟩:=hx
    have hy:=HY _ _ _ _ _ hr
    have Y:=hy μ w _ c S ha g1
    have R:=Yd.rounds (σ:=σ) hoc g2 rfl Y
    refine .inl ⟨hw,.inr (.inr (.inr (R.mono ?_)))⟩
    rintro cv w' ⟨t,rfl,μ',h1,h2,rfl,h4⟩
    exact ⟨μ',h1,h2,wDe A (hE.mono h1.mono) rfl,h4⟩
   ·cases hr
  ·have hk:kdA a.op=0 \/ kdA a.op=1 \/ kdA a.op=3:=by
    cases hq:a.op <;> rw [hq] at k4 k5 <;> simp [kdA] at k4 k5 ⊢
   obtain ⟨μ',w',cv,h1,h2,h3,h4,h5⟩:=wQr (C:=C) hk hop σA h v h' hr μ σ w hE S o rfl
   exact .inl ⟨hw,.inr (.inl ⟨cv,w',h5,μ',h1,h2,wDe A (hE.mono h1.mono) h3,h4⟩)⟩
theorem wQu (HC:wFU C P tb ex) (HY:wEW C P exY) {N:Nat} {l:List Oper} {a:AO} {o:Oper} {μ:Mu} {σA:Tr AV} {σ:Env} {h h':AH} {v:AV} {w:World} (A:AOK P N l a o) (hw:wanted l σ o=true) (hr:opK a.kd a.op tb ex exY σA h=some (v,h')) (hE:EnvR μ σA σ) (S:Sim C P μ h w) :
  Step1 P l o σ w fun cv w'=>(a.kd=2->Keep w w' Non)/\∃ μ',Ext μ h.fl.nat w μ' w'/\Sim C P μ' h' w'/\EnvR μ' (wFZ a.dst σA v) (put' σ o cv)/\h'.fl=h.fl:=by
 by_cases k2:a.kd=2
 ·have hr:wOY a.op tb ex exY σA h=some (v,h'):=by rw [k2] at hr;exact hr
  unfold wOY at hr
  split at hr
  ·rename_i v0 h0 hq
   cases hr
   refine (wQt HC HY A hw hq hE (S.floor h.nx)).mono ?_
   rintro cv w' ⟨μ',h1,h2,h3,h4⟩
   obtain ⟨g1,g2⟩:=S.non h1 h.fl.nat
   exact ⟨fun _=>g1,μ',g2,h2.floor h.fl,h3,rfl⟩
  ·cases hr
 ·have hr:opY a.op tb ex exY σA h=some (v,h'):=by
   have hb:nD a.kd 2=false:=by
    cases hb:nD a.kd 2 with
    | false=>rfl
    | true=>exact absurd (nB hb) k2
   have:opK a.kd a.op=opY a.op:=by unfold opK;rw [hb]
   rw [this] at hr;exact hr
  exact (wQt HC HY A hw hr hE S).mono fun cv w' hq=>⟨fun e=>absurd e k2,hq⟩
def flK (k:Nat):Bool:=nD k 1 || nD k 3
def wIW:List AO->Sch
 | []=>.nil
 | a :: os=>match flK a.kd with
  | true=>.fl a.ix (wIW os)
  | false=>.fx a.ix (wIW os) .stop
theorem wIX (HC:wFU C P tb ex) (HY:wEW C P exY) {N:Nat} {l:List Oper} {ks:List Nat} {Q:wDC} {D:List Deferred}:∀ (os:List AO) (σA:Tr AV) (h:AH) (σA':Tr AV) (h':AH),wAU tb ex exY os σA h=some (σA',h') ->
  (∀ a ∈ os,wGP P N l a=true/\kOf ks a.ix=a.kd)->∀ (μ:Mu) (σ:Env) (w:World),Sim C P μ h w->EnvR μ σA σ ->
  (∀ μ' w' σ',Ext μ h.fl.nat w μ' w'->Sim C P μ' h' w'->EnvR μ' σA' σ'->h'.fl=h.fl->Q D .normal σ' w')->OKS N P l Q D ks (wIW os) σ w
 | [],σA,h,σA',h',hr,_,μ,σ,w,S,hE,hQ=>by
  rw [wAn] at hr;cases hr
  exact hQ μ w σ (Ext.refl μ _ w) S hE rfl
 | a :: os,σA,h,σA',h',hr,hc,μ,σ,w,S,hE,hQ=>by
  obtain ⟨hc1,hk⟩:=hc a (by simp)
  obtain ⟨o,A⟩:=wCe hc1
  have hc2:∀ b ∈ os,wGP P N l b=true/\kOf ks b.ix=b.kd:=fun b hb=>hc b (by simp [hb])
  rw [wAr] at hr
  have hw:=wHc A hE
  cases hwa:wCO σA a.grd with
  | false =>
   rw [hwa] at hr hw
   simp only at hr
   have IH:=wIX HC HY os _ h σA' h' hr hc2 μ (put' σ o undef) w S (wDe A hE (wMK μ)) hQ
   unfold wIW
   split
   ·exact ⟨o,A.get,wHA A,.inr ⟨hw,IH⟩⟩
   ·exact ⟨⟨o,A.get,wHA A,.inr ⟨hw,KeepD.refl l ks _ w,IH⟩⟩,trivial⟩
  | true =>
   rw [hwa] at hr hw
   simp only at hr
   split at hr
   ·rename_i r hop
    obtain ⟨v,h1⟩:=r
    simp only at hr
    unfold wIW
    split
    ·rename_i hfl
     have hk13:a.kd=1 \/ a.kd=3:=by
      unfold flK at hfl
      simp only [nN] at hfl
      exact hfl.imp nB nB
     have hop:opY a.op tb ex exY σA h=some (v,h1):=by
      rcases hk13 with e | e <;> (rw [e] at hop;exact hop)
     have hL:kdA a.op=1 \/ kdA a.op=3:=by
      rcases hk13 with e | e
      ·exact A.k1 e
      ·exact .inr (A.k3 e)
     obtain ⟨rfl,hh⟩:=wGz (C:=C) hL A.op σA h v h1 hop
     obtain ⟨cv,g1,g2⟩:=hh μ σ w hE S
     refine ⟨o,A.get,wHA A,.inl ⟨hw,?_⟩⟩
     by_cases k3:a.kd=3
     ·obtain ⟨_,hp⟩:=wGy (tb:=tb) (ex:=ex) (exY:=exY) (A.k3 k3) A.op σA h1 v h1 hop
      obtain ⟨cv,g1,g2⟩:=hp μ σ hE
      exact ⟨cv,fun w' _=>g2 o w' rfl,⟨fun _ w'=>g2 o w' rfl,fun _ w' _=>g2 o w' rfl⟩,wIX HC HY os _ h1 σA' h' hr hc2 μ _ w S (wDe A hE g1) hQ⟩
     ·exact ⟨cv,g2 o rfl,⟨fun e=>absurd (hk ▸ e) k3,fun e=>by rw [hk] at e;rcases hk13 with q | q <;> omega⟩,wIX HC HY os _ h1 σA' h' hr hc2 μ _ w S (wDe A hE g1) hQ⟩
    ·refine ⟨⟨o,A.get,wHA A,(wQu HC HY A hw hop hE S).mono ?_⟩,trivial⟩
     rintro cv w1 ⟨q0,μ1,q1,q2,q3,q4⟩
     refine ⟨⟨fun e=>q0 (hk ▸ e),fun e=>absurd (hk ▸ e) A.k5⟩,wIX HC HY os _ h1 σA' h' hr hc2 μ1 _ w1 q2 q3 fun μ' w' σ' r1 r2 r3 r4=>?_⟩
     rw [q4] at r1 r4
     exact hQ μ' w' σ' (q1.trans r1) r2 r3 r4
   ·cases hr
end
end
end Go.KX
namespace Go.KX
open Go.RowKit Go.KL
section
variable {C:Chk} {P:Program} {tb:Tr AF} {ex exY:Run}
def OkA (C:Chk) (P:Program) (op:Op) (f:Tr AV->AH->Option (AV × AH)):Prop :=
 ∀ σA h v h',f σA h=some (v,h')->∃ (B:AB) (vf:Pos->AV),h'=h.push B/\v=vf h.nx/\(∀ h2:AH,f σA h2=some (vf h2.nx,h2.push B))/\wKv B/\∀ μ σ,EnvR μ σA σ->∀ o:Oper,o.op=op ->
  ∃ (ob:Obj) (val:Nat->Value),(∀ w:World,Runs P σ w o (val w.heap.size) (w.alloc ob)) /\
   (∀ μ' (w:World) b,μ.Le μ'->w.heap[b]?=some ob->AbR C P μ' w ⟨b,0,g0⟩ B)/\∀ μ' p b,μ' p=some ⟨b,0,g0⟩->Rv μ' (vf p) (val b)
theorem wLA {α:Type} {b:Bool} {x:Option α} (h:b=true):ifO b x=x:=by subst h;rfl
theorem a_new {T:Nat} {z:List AV} {op:Op} (hc:wMa P T z op=true):OkA C P op (wOx T z):=by
 intro σA h v h' hr
 cases hr
 unfold wMa at hc
 split at hc
 ·simp only [nA] at hc
  have e:=nB hc.1
  subst e
  obtain ⟨i,zv,z1,z2,z3⟩:=wET hc.2
  refine ⟨.cells T z,fun p=>.ptr p 0,rfl,rfl,fun h2=>rfl,trivial,fun μ σ hE o ho=>?_⟩
  refine ⟨_,fun b=>.pointer (some ⟨b,0,none⟩),fun w=>⟨by rw [ho];rfl,?_⟩,fun μ' w b hm hb=>⟨_,z3 μ',hb⟩,fun μ' p b hp=>⟨_,hp,rfl⟩⟩
  simp [execOp,ho,Instr.alloc,wDF z1 z2,newVar,newRow,newObj,Sem.run]
 ·cases hc
theorem a_box {T:Nat} {x:AOd} {op:Op} (hc:wMb T x op=true):OkA C P op (wKs T x):=by
 intro σA h v h' hr
 cases hr
 unfold wMb at hc
 split at hc
 ·simp only [nA] at hc
  have e:=nB hc.1
  subst e
  refine ⟨.cells T _,fun p=>.ptr p 0,rfl,rfl,fun h2=>rfl,trivial,fun μ σ hE o ho=>?_⟩
  obtain ⟨vs,v1,v2⟩:=wFd (wAG hc.2 hE)
  refine ⟨.cells vs.toArray T,fun b=>.pointer (some ⟨b,0,none⟩),fun w=>⟨by rw [ho];rfl,?_⟩,fun μ' w b hm hb=>⟨vs,v1.mono hm,hb⟩,fun μ' p b hp=>⟨_,hp,rfl⟩⟩
  simp [execOp,ho,Instr.box,newVar,newRow,newObj,v2,Sem.run]
 ·cases hc
theorem a_mkm {op:Op} (hc:wMc op=true):OkA C P op wOy:=by
 intro σA h v h' hr
 cases hr
 unfold wMc at hc
 split at hc
 ·refine ⟨.map0,fun p=>.map p,rfl,rfl,fun h2=>rfl,trivial,fun μ σ hE o ho=>?_⟩
  refine ⟨.map #[] 0,fun b=>.map (some b),fun w=>⟨by rw [ho];rfl,?_⟩,fun μ' w b hm hb=>⟨0,hb⟩,fun μ' p b hp=>⟨_,hp,rfl⟩⟩
  simp [execOp,ho,Instr.makeMap,newObj,Sem.run,Result.andThen]
 ·cases hc
theorem a_mks {T sz by_:Nat} {z:List AV} {x y:AOd} {op:Op} (hc:wMd P T sz by_ z x y op=true):OkA C P op (wGC T sz by_ z x y):=by
 intro σA h v h' hr
 unfold wMd at hc
 split at hc
 ·rename_i t x' y'
  simp only [nA] at hc
  obtain ⟨c1,c2,c3,c4,c5,c6,c7⟩:=hc
  obtain ⟨d,d1,d2⟩:=wAd c1
  split at d2 <;> first | (cases d2;done) | skip
  have e:=nB d2
  subst e
  rename_i e
  obtain ⟨i,i1,i2⟩:=wFf c2
  obtain ⟨i',j1,j2⟩:=wFg c3
  obtain ⟨i'',zv,k1,k2,k3⟩:=wET c4
  rw [i1] at j1 k1;cases j1;cases k1
  have hz:=nB c5
  unfold wGC at hr
  split at hr
  ·rename_i l c hl hcc
   obtain ⟨hb,hr⟩:=wBJ hr
   cases hr
   simp only [nA,nP] at hb
   obtain ⟨⟨⟨b1,b2⟩,b3⟩,b4⟩:=hb
   refine ⟨.cells e (rep c z),fun p=>.sl p 0 l c,rfl,rfl,fun h2=>(by simp only [wGC,hl,hcc];exact wLA (by simp [b1,b2,b3,b4])),trivial,fun μ σ hE o ho=>?_⟩
   have hx:=wAG c6 hE;rw [wBf hl] at hx
   have hy:=wAG c7 hE;rw [wBf hcc] at hy
   have hx:ev σ x'=.int .i64 (l:Int):=hx
   have hy:ev σ y'=.int .i64 (c:Int):=hy
   have zlen:zv.cells.size=sz:=by rw [<- hz,wDn,<- wCX (k3 μ)];simp
   have hcells:(madeCells zv.cells (c * sz))=((nY c zv.cells.toList).flatten).toArray:=by
    apply nK
    have:=wEV (zc:=zv.cells) (n:=0) c
    simp only [or_false] at this
    rw [zlen] at this
    show ((nX (c * sz)).map (zv.cells[· % zv.cells.size]!)).toList=_
    rw [zlen,this]
   refine ⟨.cells ((nY c zv.cells.toList).flatten).toArray e,fun b=>.slice (some ⟨b,0,none⟩) l c,fun w=>⟨by rw [ho];rfl,?_⟩,fun μ' w b hm hb=>⟨_,wGH (k3 μ') c,hb⟩,fun μ' p b hp=>⟨_,hp,b1,rfl⟩⟩
   have hrun:=run_makeSlice (P:=P) w t e i zv d1 i1 k2 .i64 .i64 (l:Int) (c:Int) (by omega) (by omega) (by rw [i2,nl];exact b2) (by rw [j2];have hb:=Int.ofNat_le.2 b3;rw [Int.natCast_mul] at hb;exact hb) (by omega)
   simp only [nl,i2] at hrun
   rw [hcells] at hrun
   simp [execOp,ho,hx,hy,hrun,Result.andThen]
  ·cases hr
 ·cases hc
theorem wQv {T n:Nat} {z:List AV} {ps:List (Nat × Nat × AOd)} {op:Op} (hc:wIU P T n z ps op=true):OkA C P op (wDl T n z ps):=by
 intro σA h v h' hr
 unfold wIU at hc
 split at hc
 ·rename_i t m qs
  simp only [nA] at hc
  obtain ⟨c1,c2,c3⟩:=hc
  have e:=nB c1
  subst e
  obtain ⟨d,d1,d2⟩:=wAd c2
  split at d2 <;> first | (cases d2;done) | skip
  have e:=nB d2
  subst e
  rename_i e
  split at c3
  ·rename_i i hi
   simp only [nA,nP] at c3
   obtain ⟨c3,c4,c5⟩:=c3
   split at c5
   ·rename_i zv hz
    unfold wDl at hr
    split at hr
    ·rename_i r hr3
     cases hr
     refine ⟨.cells e r,fun p=>.sl p 0 m m,rfl,rfl,fun h2=>by simp only [wDl,hr3],trivial,fun μ σ hE o ho=>?_⟩
     obtain ⟨R,r1,r2,r3⟩:=wGM hE hr3 c4 (wFI μ c5)
     have hf:=wCt _ _ _ _ r1
     refine ⟨.cells R.toArray e,fun b=>.slice (some ⟨b,0,none⟩) m m,fun w=>⟨by rw [ho];rfl,?_⟩,fun μ' w b hm hb=>⟨_,r2.mono hm,hb⟩,fun μ' p b hp=>⟨_,hp,nG _,rfl⟩⟩
     have hs:∀ w,(sizeOf e).run P w=.ok i.size w:=fun w=>by simp [sizeOf,typeInfo,hi]
     have hn':¬ m * i.size > 2 ^ 24:=by omega
     have hq:(qs.map fun (p:Nat × Operand)=>(p.1,ev σ p.2)).toList=qs.toList.map fun (p:Nat × Operand)=>(p.1,ev σ p.2):=by simp
     by_cases h0:m * i.size=0
     ·rw [h0] at hf
      simp only [List.range_zero,kD] at hf
      have hr0:(nX 0).map (fun x=>(#[]:Array Value)[x % (#[]:Array Value).size]!)=#[]:=by rw [show (nX 0)=#[] from rfl,Array.map_empty]
      have hn0:¬ (0:Nat) > 2 ^ 24:=by decide
      simp only [execOp,ho,Instr.buildSlice,Sem.run_bind,wAk d1,hs,Result.andThen_ok,h0,if_neg hn0,if_true,Sem.run_pure,hq,hr0,hf]
      simp [newRow,newObj,Sem.run,Result.andThen]
     ·have hzs:(nX (m * i.size)).map (zv.cells[· % zv.cells.size]!)=((nt (m * i.size)).map fun k=>zv.cells[k % zv.cells.size]!).toArray:=by rw [<- kU,List.map_toArray]
      simp only [execOp,ho,Instr.buildSlice,Sem.run_bind,wAk d1,hs,wDF hi hz,Result.andThen_ok,if_neg hn',if_neg h0,Sem.run_pure,hq,hzs,hf]
      simp [newRow,newObj,Sem.run,Result.andThen]
    ·cases hr
   ·cases c5
  ·cases c3
 ·cases hc
def wBK:AOp->List AOd
 | .mv x=>[x]
 | .pick c x y=>[c] ++ [x] ++ [y]
 | .new _ _=>[]
 | .box _ x=>[x]
 | .ld x=>[x]
 | .ldA _ x=>[x]
 | .st _ x y=>[x] ++ [y]
 | .nilc x=>[x]
 | .add x y=>[x] ++ [y]
 | .sub x y=>[x] ++ [y]
 | .mul x y=>[x] ++ [y]
 | .quo x y=>[x] ++ [y]
 | .rem x y=>[x] ++ [y]
 | .lss x y=>[x] ++ [y]
 | .leq x y=>[x] ++ [y]
 | .gtr x y=>[x] ++ [y]
 | .geq x y=>[x] ++ [y]
 | .eql x y=>[x] ++ [y]
 | .neq x y=>[x] ++ [y]
 | .eqb _ x y=>[x] ++ [y]
 | .eqn _ _ x y=>[x] ++ [y]
 | .eqs _ _ x y=>[x] ++ [y]
 | .neg x=>[x]
 | .not x=>[x]
 | .cvt _ x=>[x]
 | .mkf _ fi ca=>fi ++ ca
 | .mkm =>[]
 | .mks _ _ _ _ x y=>[x] ++ [y]
 | .slc _ x lo hi mx=>[x] ++ lo.toList ++ hi.toList ++ mx.toList
 | .slcA _ _ x lo hi=>[x] ++ lo.toList ++ hi.toList
 | .fad _ x=>[x]
 | .fld _ x=>[x]
 | .fldA _ _ x=>[x]
 | .iad _ x y=>[x] ++ [y]
 | .iadA _ _ x y=>[x] ++ [y]
 | .ix _ x y=>[x] ++ [y]
 | .ixA _ _ x y=>[x] ++ [y]
 | .lk _ _ _ _ x y=>[x] ++ [y]
 | .mput _ _ x y z=>[x] ++ [y] ++ [z]
 | .mdel _ _ x y=>[x] ++ [y]
 | .ext _ x=>[x]
 | .bld _ ps=>(ps.map fun q=>q.2.2)
 | .blds _ _ _ ps=>(ps.map fun q=>q.2.2)
 | .len x=>[x]
 | .lenM x=>[x]
 | .cap x=>[x]
 | .app _ _ _ x y=>[x] ++ [y]
 | .cpy _ x y=>[x] ++ [y]
 | .clr _ x=>[x]
 | .min x y=>[x] ++ [y]
 | .max x y=>[x] ++ [y]
 | .and x y=>[x] ++ [y]
 | .shr x y=>[x] ++ [y]
 | .ixs _ y=>[y]
 | .apz _ _ _ _ x y=>[x] ++ [y]
 | .call x l=>[x] ++ l
 | .bad=>[]
theorem wEu {σ1 σ2:Tr AV}:∀ {l:List AOd},(∀ x ∈ l,evA σ1 x=evA σ2 x)->evs σ1 l=evs σ2 l
 | [],_=>rfl
 | x :: l,h=>by
  show evA σ1 x :: evs σ1 l=evA σ2 x :: evs σ2 l
  rw [h x (by simp),wEu fun y hy=>h y (by simp [hy])]
theorem wEX {σ1 σ2:Tr AV}:∀ {ps:List (Nat × Nat × AOd)} {cs:List AV},(∀ q ∈ ps,evA σ1 q.2.2=evA σ2 q.2.2)->wHU σ1 cs ps=wHU σ2 cs ps
 | [],cs,_=>rfl
 | (off,n,x) :: ps,cs,h=>by
  have e:evA σ1 x=evA σ2 x:=h (off,n,x) (by simp)
  simp only [wHU,e]
  cases nD (len (evA σ2 x).cells) n with
  | false=>rfl
  | true =>
   cases wOv cs off (evA σ2 x).cells with
   | none=>rfl
   | some cs'=>exact wEX fun q hq=>h q (by simp [hq])
theorem wDp {σ1 σ2:Tr AV} {o:Option AOd} (h:∀ x ∈ o.toList,evA σ1 x=evA σ2 x):bnd σ1 o=bnd σ2 o:=by
 cases o with
 | none=>rfl
 | some x =>
  have e:=h x (by simp)
  simp only [bnd,e]
theorem wMk {σ1 σ2:Tr AV} (op:AOp) (h:∀ x ∈ wBK op,evA σ1 x=evA σ2 x) (hh:AH):opY op tb ex exY σ1 hh=opY op tb ex exY σ2 hh:=by
 cases op with
 | bld z ps=>exact (show wLz z ps σ1 hh=wLz z ps σ2 hh by simp only [wLz];rw [wEX fun q hq=>h q.2.2 (List.mem_map.2 ⟨q,hq,rfl⟩)])
 | blds T n z ps=>exact (show wDl T n z ps σ1 hh=wDl T n z ps σ2 hh by simp only [wDl];rw [wEX fun q hq=>h q.2.2 (List.mem_map.2 ⟨q,hq,rfl⟩)])
 | mkf f fi ca=>exact (show wKt f fi ca σ1 hh=wKt f fi ca σ2 hh by simp only [wKt];rw [wEu fun x hx=>h x (ni _ hx),wEu fun x hx=>h x (ng _ hx)])
 | call x l=>exact (show wFS x l tb ex exY σ1 hh=wFS x l tb ex exY σ2 hh by simp only [wFS];rw [h x (ni _ (by simp)),wEu fun y hy=>h y (ng _ hy)])
 | slc sz x lo hi mx=>exact (show wJG sz x lo hi mx σ1 hh=wJG sz x lo hi mx σ2 hh by
   simp only [wJG]
   rw [h x (by simp [wBK]),wDp fun y hy=>h y (by simp only [wBK,nO];exact .inl (.inl (.inr hy))),wDp fun y hy=>h y (by simp only [wBK,nO];exact .inl (.inr hy)),wDp fun y hy=>h y (by simp only [wBK,nO];exact .inr hy)])
 | slcA sz n x lo hi=>exact (show wGD sz n x lo hi σ1 hh=wGD sz n x lo hi σ2 hh by
   simp only [wGD]
   rw [h x (by simp [wBK]),wDp fun y hy=>h y (by simp only [wBK,nO];exact .inl (.inr hy)),wDp fun y hy=>h y (by simp only [wBK,nO];exact .inr hy)])
 | mv a_x=>exact (show wQH a_x σ1 hh=wQH a_x σ2 hh by simp only [wQH,h a_x (by simp [wBK])])
 | pick a_c a_x a_y=>exact (show wGA a_c a_x a_y σ1 hh=wGA a_c a_x a_y σ2 hh by simp only [wGA,h a_c (by simp [wBK]),h a_x (by simp [wBK]),h a_y (by simp [wBK])])
 | new a_T a_z=>rfl
 | box a_T a_x=>exact (show wKs a_T a_x σ1 hh=wKs a_T a_x σ2 hh by simp only [wKs,h a_x (by simp [wBK])])
 | ld a_x=>exact (show wNc a_x σ1 hh=wNc a_x σ2 hh by simp only [wNc,h a_x (by simp [wBK])])
 | ldA a_n a_x=>exact (show wGj a_n a_x σ1 hh=wGj a_n a_x σ2 hh by simp only [wGj,h a_x (by simp [wBK])])
 | st a_n a_x a_y=>exact (show wOX a_n a_x a_y σ1 hh=wOX a_n a_x a_y σ2 hh by simp only [wOX,h a_x (by simp [wBK]),h a_y (by simp [wBK])])
 | nilc a_x=>exact (show wGB a_x σ1 hh=wGB a_x σ2 hh by simp only [wGB,h a_x (by simp [wBK])])
 | add a_x a_y=>exact (show wLn a_x a_y σ1 hh=wLn a_x a_y σ2 hh by simp only [wLn,h a_x (by simp [wBK]),h a_y (by simp [wBK])])
 | sub a_x a_y=>exact (show wLo a_x a_y σ1 hh=wLo a_x a_y σ2 hh by simp only [wLo,h a_x (by simp [wBK]),h a_y (by simp [wBK])])
 | mul a_x a_y=>exact (show wLp a_x a_y σ1 hh=wLp a_x a_y σ2 hh by simp only [wLp,h a_x (by simp [wBK]),h a_y (by simp [wBK])])
 | quo a_x a_y=>exact (show wLq a_x a_y σ1 hh=wLq a_x a_y σ2 hh by simp only [wLq,h a_x (by simp [wBK]),h a_y (by simp [wBK])])
 | rem a_x a_y=>exact (show wLr a_x a_y σ1 hh=wLr a_x a_y σ2 hh by simp only [wLr,h a_x (by simp [wBK]),h a_y (by simp [wBK])])
 | lss a_x a_y=>exact (show wLs a_x a_y σ1 hh=wLs a_x a_y σ2 hh by simp only [wLs,h a_x (by simp [wBK]),h a_y (by simp [wBK])])
 | leq a_x a_y=>exact (show wLt a_x a_y σ1 hh=wLt a_x a_y σ2 hh by simp only [wLt,h a_x (by simp [wBK]),h a_y (by simp [wBK])])
 | gtr a_x a_y=>exact (show wLu a_x a_y σ1 hh=wLu a_x a_y σ2 hh by simp only [wLu,h a_x (by simp [wBK]),h a_y (by simp [wBK])])
 | geq a_x a_y=>exact (show wLv a_x a_y σ1 hh=wLv a_x a_y σ2 hh by simp only [wLv,h a_x (by simp [wBK]),h a_y (by simp [wBK])])
 | eql a_x a_y=>exact (show wLw a_x a_y σ1 hh=wLw a_x a_y σ2 hh by simp only [wLw,h a_x (by simp [wBK]),h a_y (by simp [wBK])])
 | neq a_x a_y=>exact (show wLx a_x a_y σ1 hh=wLx a_x a_y σ2 hh by simp only [wLx,h a_x (by simp [wBK]),h a_y (by simp [wBK])])
 | eqb a_ne a_x a_y=>exact (show wJB a_ne a_x a_y σ1 hh=wJB a_ne a_x a_y σ2 hh by simp only [wJB,h a_x (by simp [wBK]),h a_y (by simp [wBK])])
 | eqn a_k a_ne a_x a_y=>exact (show wJC a_k a_ne a_x a_y σ1 hh=wJC a_k a_ne a_x a_y σ2 hh by simp only [wJC,h a_x (by simp [wBK]),h a_y (by simp [wBK])])
 | eqs a_ne a_s a_x a_y=>exact (show wJD a_ne a_s a_x a_y σ1 hh=wJD a_ne a_s a_x a_y σ2 hh by simp only [wJD,h a_x (by simp [wBK]),h a_y (by simp [wBK])])
 | neg a_x=>exact (show wLy a_x σ1 hh=wLy a_x σ2 hh by simp only [wLy,h a_x (by simp [wBK])])
 | not a_x=>exact (show wJE a_x σ1 hh=wJE a_x σ2 hh by simp only [wJE,h a_x (by simp [wBK])])
 | cvt a_k a_x=>exact (show wJF a_k a_x σ1 hh=wJF a_k a_x σ2 hh by simp only [wJF,h a_x (by simp [wBK])])
 | mkm =>rfl
 | mks a_T a_sz a_bytes a_z a_x a_y=>exact (show wGC a_T a_sz a_bytes a_z a_x a_y σ1 hh=wGC a_T a_sz a_bytes a_z a_x a_y σ2 hh by simp only [wGC,h a_x (by simp [wBK]),h a_y (by simp [wBK])])
 | fad a_off a_x=>exact (show wJH a_off a_x σ1 hh=wJH a_off a_x σ2 hh by simp only [wJH,h a_x (by simp [wBK])])
 | fld a_off a_x=>exact (show wJI a_off a_x σ1 hh=wJI a_off a_x σ2 hh by simp only [wJI,h a_x (by simp [wBK])])
 | fldA a_off a_n a_x=>exact (show wGE a_off a_n a_x σ1 hh=wGE a_off a_n a_x σ2 hh by simp only [wGE,h a_x (by simp [wBK])])
 | iad a_sz a_x a_y=>exact (show wJJ a_sz a_x a_y σ1 hh=wJJ a_sz a_x a_y σ2 hh by simp only [wJJ,h a_x (by simp [wBK]),h a_y (by simp [wBK])])
 | iadA a_sz a_n a_x a_y=>exact (show wGF a_sz a_n a_x a_y σ1 hh=wGF a_sz a_n a_x a_y σ2 hh by simp only [wGF,h a_x (by simp [wBK]),h a_y (by simp [wBK])])
 | ix a_n a_x a_y=>exact (show wOz a_n a_x a_y σ1 hh=wOz a_n a_x a_y σ2 hh by simp only [wOz,h a_x (by simp [wBK]),h a_y (by simp [wBK])])
 | ixA a_sz a_n a_x a_y=>exact (show wJK a_sz a_n a_x a_y σ1 hh=wJK a_sz a_n a_x a_y σ2 hh by simp only [wJK,h a_x (by simp [wBK]),h a_y (by simp [wBK])])
 | lk a_two a_k a_ok a_z a_x a_y=>exact (show wNd a_two a_k a_ok a_z a_x a_y σ1 hh=wNd a_two a_k a_ok a_z a_x a_y σ2 hh by simp only [wNd,h a_x (by simp [wBK]),h a_y (by simp [wBK])])
 | mput a_two a_k a_x a_y a_z=>exact (show wFQ a_two a_k a_x a_y a_z σ1 hh=wFQ a_two a_k a_x a_y a_z σ2 hh by simp only [wFQ,h a_x (by simp [wBK]),h a_y (by simp [wBK]),h a_z (by simp [wBK])])
 | mdel a_two a_k a_x a_y=>exact (show wFR a_two a_k a_x a_y σ1 hh=wFR a_two a_k a_x a_y σ2 hh by simp only [wFR,h a_x (by simp [wBK]),h a_y (by simp [wBK])])
 | ext a_i a_x=>exact (show wJL a_i a_x σ1 hh=wJL a_i a_x σ2 hh by simp only [wJL,h a_x (by simp [wBK])])
 | len a_x=>exact (show wJM a_x σ1 hh=wJM a_x σ2 hh by simp only [wJM,h a_x (by simp [wBK])])
 | lenM a_x=>exact (show wEE a_x σ1 hh=wEE a_x σ2 hh by simp only [wEE,h a_x (by simp [wBK])])
 | cap a_x=>exact (show wJN a_x σ1 hh=wJN a_x σ2 hh by simp only [wJN,h a_x (by simp [wBK])])
 | app a_T a_sz a_bytes a_x a_y=>exact (show wIJ a_T a_sz a_bytes a_x a_y σ1 hh=wIJ a_T a_sz a_bytes a_x a_y σ2 hh by simp only [wIJ,h a_x (by simp [wBK]),h a_y (by simp [wBK])])
 | cpy a_sz a_x a_y=>exact (show wIK a_sz a_x a_y σ1 hh=wIK a_sz a_x a_y σ2 hh by simp only [wIK,h a_x (by simp [wBK]),h a_y (by simp [wBK])])
 | clr a_z a_x=>exact (show wIL a_z a_x σ1 hh=wIL a_z a_x σ2 hh by simp only [wIL,h a_x (by simp [wBK])])
 | min a_x a_y=>exact (show wMA a_x a_y σ1 hh=wMA a_x a_y σ2 hh by simp only [wMA,h a_x (by simp [wBK]),h a_y (by simp [wBK])])
 | max a_x a_y=>exact (show wMB a_x a_y σ1 hh=wMB a_x a_y σ2 hh by simp only [wMB,h a_x (by simp [wBK]),h a_y (by simp [wBK])])
 | bad=>rfl
 | and a_x a_y=>exact (show wMD a_x a_y σ1 hh=wMD a_x a_y σ2 hh by simp only [wMD,h a_x (by simp [wBK]),h a_y (by simp [wBK])])
 | ixs a_l a_y=>exact (show wJO a_l a_y σ1 hh=wJO a_l a_y σ2 hh by simp only [wJO,h a_y (by simp [wBK])])
 | apz a_T a_sz a_b a_z a_x a_y=>exact (show wIO a_T a_sz a_b a_z a_x a_y σ1 hh=wIO a_T a_sz a_b a_z a_x a_y σ2 hh by simp only [wIO,h a_x (by simp [wBK]),h a_y (by simp [wBK])])
 | shr a_x a_y=>exact (show wME a_x a_y σ1 hh=wME a_x a_y σ2 hh by simp only [wME,h a_x (by simp [wBK]),h a_y (by simp [wBK])])
variable {r:Option Nat} {N:Nat} {Q:wDC} {D:List Deferred} {l:List Oper}
theorem CK.anyRel {id:Nat} {σ:Env} {w:World} (hm:P.follows .mixedOrders=true) (hpr:∀ i,i < l.length->∀ j ∈ prI l i,j < i) (J:(Nat->Bool)->Env->World->Prop)
  (h0:J (fun _=>false) σ { w with drawn:=w.drawn + 1 })
  (step:∀ S i σ w,i < l.length->S i=false->(∀ j ∈ prI l i,S j=true)->(∀ k,k < l.length->S k=true->∀ j ∈ prI l k,S j=true)->(∀ k,S k=true->k < l.length)->J S σ w ->
   ∃ o,l[i]?=some o/\(∀ d,o.dst=some d->d < N)/\Step1 P l o σ w fun v w'=>J (fun k=>k == i || S k) (put' σ o v) w')
  (fin:∀ S σ w,(∀ i,i < l.length->S i=true)->J S σ w->Q D .normal σ w):CK r N P (.region id l.toArray true) Q D σ w:=by
 intro a ha
 refine wpIn_region_any hm ?_
 have prog:∀ (listed:Array Bool),listed.size=l.length->Region.ready .any l.toArray listed=[]->∀ i,i < l.length->listed.getD i false=true:=by
  intro listed hsz hnil i
  induction i using Nat.strongRecOn with
  | _ i ih =>
   intro hi
   cases hb:listed.getD i false with
   | true=>rfl
   | false =>
    have:i ∈ Region.ready .any l.toArray listed:=(wCp hsz).2 ⟨hi,hb,fun j hj=>ih j (hpr i hi j hj) (Nat.lt_trans (hpr i hi j hj) hi)⟩
    rw [hnil] at this;cases this
 have core:∀ (fuel:Nat) (listed:Array Bool) (σ:Env) (a:Act) (w:World),listed.size=l.length->Rep N D a σ->(∀ k,k < l.length->listed.getD k false=true->∀ j ∈ prI l k,listed.getD j false=true) ->
   J (fun i=>listed.getD i false) σ w->(listed.toList.filter (! ·)).length <= fuel->wpAnyIn (WF r) 0 P .any l.toArray (wGg N Q) fuel listed a w:=by
  intro fuel
  induction fuel with
  | zero =>
   intro listed σ a w hsz hr hdc hJ hf
   have hall:∀ i,i < l.length->listed.getD i false=true:=by
    intro i hi
    cases hb:listed.getD i false with
    | true=>rfl
    | false=>have:=wEl listed i (by omega) hb;omega
   refine ⟨?_,σ,D,hr,fin _ σ w hall hJ⟩
   cases hr:Region.ready .any l.toArray listed with
   | nil=>rfl
   | cons x xs =>
    have hx:x ∈ Region.ready .any l.toArray listed:=by rw [hr];simp
    obtain ⟨h1,h2,_⟩:=(wCp hsz).1 hx
    rw [hall x h1] at h2;cases h2
  | succ fuel ih =>
   intro listed σ a w hsz hr hdc hJ hf
   refine ⟨fun hnil=>⟨σ,D,hr,fin _ σ w (prog listed hsz hnil) hJ⟩,fun i hi=>?_⟩
   obtain ⟨hlt,hun,hpi⟩:=(wCp hsz).1 hi
   have hsz':(listed.setIfInBounds i true).size=l.length:=by simpa using hsz
   have hf':((listed.setIfInBounds i true).toList.filter (! ·)).length <= fuel:=by have:=wEl listed i (by omega) hun;omega
   have hS:∀ k,listed.getD k false=true->k < l.length:=by
    intro k hk
    rcases kC k l.length with h | h
    ·exact h
    ·rw [nh,Array.getElem?_eq_none (by omega)] at hk;cases hk
   obtain ⟨o,ho,hN,hst⟩:=step _ i σ w hlt hun hpi hdc hS hJ
   refine wFq ho hr hN hst ?_
   intro v w' a' hr' hJ'
   refine ih _ (KL.put' σ o v) a' w' hsz' hr' ?_ ?_ hf'
   ·intro k hk hkl j hj
    rw [wEk (by omega)] at hkl ⊢
    rcases hkl with rfl | hkl
    ·exact .inr (hpi j hj)
    ·exact .inr (hdc k hk hkl j hj)
   ·have e:(fun k=>(listed.setIfInBounds i true).getD k false)=fun k=>k == i || listed.getD k false:=by
     funext k
     rw [Bool.eq_iff_iff,wEk (by omega),nN,beq_iff_eq]
    rw [e]
    exact hJ'
 have rep:∀ k,(kK l.toArray.size false).getD k false=false:=by
  intro k
  rw [nh,kG]
  split <;> rfl
 refine core l.toArray.size (kK l.toArray.size false) σ a _ (by simp) ha ?_ ?_ ?_
 ·intro k hk hkl
  rw [rep k] at hkl
  cases hkl
 ·have e:(fun i=>(kK l.toArray.size false).getD i false)=fun _=>false:=by
   funext i
   rw [nh,kG]
   split <;> rfl
  rw [e]
  exact h0
 ·exact nZ (List.length_filter_le _ _) (by simp)
end
end Go.KX
namespace Go.KX
noncomputable section
open Go.RowKit Go.KL
def wCJ:List AOd->List Pos
 | []=>[]
 | .t p :: l=>p :: wCJ l
 | .c _ :: l=>wCJ l
def wLN:AOp->Bool
 | .new _ _ | .box _ _ | .mkm | .mks _ _ _ _ _ _ | .blds _ _ _ _=>true
 | _=>false
def wBr (a:AO):List Pos:=wCJ (wBK a.op) ++ (match a.grd with | some (p,_)=>[p] | none=>[])
def Sub (a:AOp) (o:Oper):Prop:=∀ t,Operand.tmp t ∈ o.op.operands->∃ p ∈ wCJ (wBK a),p.nat - 1=t
def wKH (l:List Oper) (x i:Nat):Prop:=∀ S:Nat->Bool,(∀ k,k < l.length->S k=true->∀ j ∈ prI l k,S j=true)->(∀ j ∈ prI l i,S j=true)->S x=true
def wGQ (acc:List Nat):List Nat->Nat
 | []=>0
 | p :: ps=>wGQ acc ps ||| (2 ^ p ||| acc.getD p 0)
def wOd (acc:List Nat):List Oper->List Nat
 | []=>acc
 | o :: r=>wOd (acc ++ [wGQ acc (wKg o)]) r
theorem wHB {acc:List Nat} {x:Nat}:∀ {ps:List Nat},(wGQ acc ps).testBit x=true->∃ p ∈ ps,x=p \/ (acc.getD p 0).testBit x=true
 | [],h=>by simp [wGQ] at h
 | p :: ps,h=>by
  simp only [wGQ,Nat.testBit_or,nN,Nat.testBit_two_pow,decide_eq_true_eq] at h
  rcases h with h | h | h
  ·obtain ⟨q,h1,h2⟩:=wHB h
   exact ⟨q,by simp [h1],h2⟩
  ·exact ⟨p,by simp,.inl h.symm⟩
  ·exact ⟨p,by simp,.inr h⟩
theorem wJV {l:List Oper} (hpr:∀ i,i < l.length->∀ j ∈ prI l i,j < i):∀ (rest done:List Oper) (acc:List Nat),l=done ++ rest->acc.length=done.length->(∀ i x,(acc.getD i 0).testBit x=true->wKH l x i) ->
  ∀ i x,((wOd acc rest).getD i 0).testBit x=true->wKH l x i
 | [],done,acc,_,_,h,i,x,hx=>h i x hx
 | o :: r,done,acc,hl,hlen,h,i,x,hx=>by
  refine wJV hpr r (done ++ [o]) (acc ++ [wGQ acc (wKg o)]) (by rw [hl];simp) (by simp [hlen]) ?_ i x hx
  intro i x hx
  rcases Nat.lt_trichotomy i acc.length with hi | hi | hi
  ·rw [nU,List.getElem?_append_left hi,<- nU] at hx
   exact h i x hx
  ·rw [nU,hi,nz (nG _),Nat.sub_self] at hx
   have hx:(wGQ acc (wKg o)).testBit x=true:=hx
   have hlt:done.length < l.length:=by rw [hl];simp
   have hp:prI l done.length=wKg o:=by
    unfold prI
    rw [hl,nz (nG _),Nat.sub_self]
    rfl
   obtain ⟨p,h1,h2⟩:=wHB hx
   intro S hdc hS
   rw [hi,hlen] at hS
   have hSp:S p=true:=hS p (by rw [hp];exact h1)
   rcases h2 with rfl | h2
   ·exact hSp
   ·have:=hpr _ hlt p (by rw [hp];exact h1)
    exact h p x h2 S hdc (hdc p (by omega) hSp)
  ·rw [nU,nr (by simp;omega)] at hx
   simp at hx
def dne (b:AO) (p:Pos):Bool:=match b.dst with
 | none=>true
 | some q=>!Pos.beq q p
def subB (a:AOp) (o:Oper):Bool:=o.op.operands.toList.all fun
 | .tmp t=>(wCJ (wBK a)).any fun p=>nD p.nat (t + 1)
 | _=>true
def kdOK (a:AO):Bool:=wBn a.kd || (a.dst.isSome && (nD a.kd 1 || (nD a.kd 3 || ((nD a.kd 6 && nD (kdA a.op) 3) || ((nD a.kd 4 && wLN a.op) || (kB 8 a.kd && nD (kdA a.op) 1))))))
def zld (m kd:Nat):Nat->List AO->Bool
 | _,[]=>true
 | n,b :: d=>(!Nat.beq b.kd 0 || (m.testBit b.ix || nR (n + 8) kd)) && zld m kd (match wBn b.kd with | true=>n + 1 | false=>n) d
def zop (m:Nat) (l:List Oper) (d:List AO) (a:AO) (t:List AO):Bool :=
 (!wBn a.kd || d.all fun b=>m.testBit b.ix) &&
 ((match a.dst with | none=>true | some p=>d.all (fun b=>dne b p) && t.all (fun b=>dne b p)) &&
 ((wBr a).all (fun p=>dne a p && (t.all (fun b=>dne b p) && d.all (fun b=>dne b p || (m.testBit b.ix && (!(nD a.kd 1 || (nD a.kd 3 || kB 8 a.kd)) || !(nD b.kd 4 || nD b.kd 6)))))) &&
 ((!Nat.beq a.kd 1 || d.all fun b=>!Nat.beq b.kd 0 || m.testBit b.ix) && (!Nat.ble 8 a.kd || zld m a.kd 0 d) &&
 (t.all (fun b=>!Nat.beq b.ix a.ix) &&
 (kdOK a && (match l[a.ix]? with | none=>false | some o=>!wBT o && subB a.op o))))))
def zgo (an:List Nat) (l:List Oper) (d:List AO):List AO->Bool
 | []=>true
 | a :: t=>zop (an.getD a.ix 0) l d a t && zgo an l (a :: d) t
def wPe (a:AO):Bool:=nD a.kd 0 && (match a.op with | .mv _=>true | _=>false)
def wPf:List AO->List AO
 | []=>[]
 | a :: t=>match wPe a with
  | true=>[]
  | false=>a :: wPf t
def wNv:List AO->List AO
 | []=>[]
 | a :: t=>match wPe a with
  | true=>a :: t
  | false=>wNv t
theorem wOe:∀ os:List AO,os=wPf os ++ wNv os
 | []=>rfl
 | a :: t=>by
  unfold wPf wNv
  cases wPe a with
  | true=>rfl
  | false=>exact congrArg (a :: ·) (wOe t)
def ztl (an:List Nat) (l:List Oper) (os:List AO):Bool :=
 ((wNv os).all (fun a=>nR a.kd 8) && (wPf os).all fun a=>nR a.kd 8 || ((wBr a).all (fun p=>(wNv os).all fun b=>dne b p) && (match a.dst with | some p=>(wNv os).all fun b=>dne b p | none=>true))) && (zgo an l [] (wPf os) && (zgo an l [] (wNv os) && (wNv os).all fun b=>(wPf os).all fun a=>!Nat.beq a.ix b.ix && (an.getD b.ix 0).testBit a.ix))
def chkZ (l:List Oper) (os:List AO):Bool :=
 (nt l.length).all (fun i=>(prI l i).all (nR · i)) && ((nt l.length).all (fun i=>os.any fun a=>nD a.ix i) && (zgo (wOd [] l) l [] os || ztl (wOd [] l) l os))
def wNf (l:List AO):Nat:=l.countP fun b=>wBn b.kd
structure ZOK (P:Program) (N:Nat) (l:List Oper) (os:List AO):Prop where
 ao:∀ a ∈ os,wGP P N l a=true
 one:os.Pairwise fun a b=>a.ix ≠ b.ix
 pr:∀ i,i < l.length->∀ j ∈ prI l i,j < i
 anc:∀ s a t,os=s ++ a :: t->wBn a.kd=true->∀ b ∈ s,wKH l b.ix a.ix
 wr:∀ s a t,os=s ++ a :: t->∀ p,a.dst=some p->∀ b ∈ s ++ t,b.dst ≠ some p
 rd:∀ s a t,os=s ++ a :: t->∀ p ∈ wBr a,∀ b ∈ a :: t,b.dst ≠ some p
 rdS:∀ a ∈ os,∀ p ∈ wBr a,∀ b ∈ os,b.dst=some p->wKH l b.ix a.ix
 kd:∀ a ∈ os,wBn a.kd=true \/ (a.dst ≠ none/\(a.kd=1 \/ a.kd=3 \/ (a.kd=6/\kdA a.op=3) \/ (a.kd=4/\wLN a.op=true) \/ (8 <= a.kd/\kdA a.op=1)))
 cl:∀ a ∈ os,a.kd=1 \/ a.kd=3 \/ 8 <= a.kd->∀ p ∈ wBr a,∀ b ∈ os,b.dst=some p->b.kd ≠ 4/\b.kd ≠ 6
 sel:∀ a ∈ os,∀ o,l[a.ix]?=some o->wBT o=false
 sub:∀ a ∈ os,∀ o,l[a.ix]?=some o->Sub a.op o
 ld:∀ s a t,os=s ++ a :: t->a.kd=1->∀ b ∈ s,b.kd=0->wKH l b.ix a.ix
 ld8:∀ s a t,os=s ++ a :: t->8 <= a.kd->∀ s1 b s2,s=s1 ++ b :: s2->b.kd=0->wKH l b.ix a.ix \/ wNf s2 + 8 < a.kd
theorem wOf {m kd:Nat}:∀ (x:List AO) (b:AO) (y:List AO) (n:Nat),zld m kd n (x ++ b :: y)=true->b.kd=0->m.testBit b.ix=true \/ n + wNf x + 8 < kd
 | [],b,y,n,h,h0=>by
  rw [nM,zld,h0] at h
  simp only [nA,nN,nH] at h
  rcases h.1 with g | g | g
  ·exact absurd g (by decide)
  ·exact .inl g
  ·exact .inr g
 | c :: x,b,y,n,h,h0=>by
  rw [nJ,zld] at h
  simp only [nA] at h
  have:=wOf x b y _ h.2 h0
  refine this.imp id fun h=>?_
  unfold wNf at h ⊢
  rw [List.countP_cons]
  cases hf:wBn c.kd <;> rw [hf] at h <;> simp only [if_true,if_false,nQ] at h ⊢ <;> omega
theorem Pos.beq_self:∀ p:Pos,p.beq p=true
 | .H=>rfl
 | .O p=>Pos.beq_self p
 | .I p=>Pos.beq_self p
theorem wGR {b:AO} {p:Pos} (h:dne b p=true):b.dst ≠ some p:=by
 intro e
 unfold dne at h
 rw [e] at h
 simp [Pos.beq_self] at h
theorem wOg {an:List Nat} {l:List Oper}:∀ (os d:List AO),zgo an l d os=true->∀ s a t,os=s ++ a :: t->zop (an.getD a.ix 0) l (s.reverse ++ d) a t=true
 | [],d,_,s,a,t,e=>by simp at e
 | b :: os,d,h,[],a,t,e=>by
  simp only [nM,nE] at e
  obtain ⟨rfl,rfl⟩:=e
  simp only [zgo,nA] at h
  exact h.1
 | b :: os,d,h,c :: s,a,t,e=>by
  simp only [nJ,nE] at e
  obtain ⟨rfl,rfl⟩:=e
  simp only [zgo,nA] at h
  have:=wOg (s ++ a :: t) (b :: d) h.2 s a t rfl
  simpa using this
theorem wQw {α:Type} {R:α->α->Prop}:∀ (l:List α),(∀ s a t,l=s ++ a :: t->∀ b ∈ t,R a b)->l.Pairwise R
 | [],_=>List.Pairwise.nil
 | a :: l,h=>nc.2 ⟨fun b hb=>h [] a l rfl b hb,wQw l fun s b t e=>h (a :: s) b t (by rw [e];rfl)⟩
theorem wKI {P:Program} {N:Nat} {l:List Oper} {os:List AO} (hao:∀ a ∈ os,wGP P N l a=true) (hpr:∀ i,i < l.length->∀ j ∈ prI l i,j < i) (hz:zgo (wOd [] l) l [] os=true):ZOK P N l os:=by
 have han:∀ i x,((wOd [] l).getD i 0).testBit x=true->wKH l x i:=wJV hpr l [] [] rfl rfl fun i x h=>by simp at h
 have key:∀ s a t,os=s ++ a :: t->zop ((wOd [] l).getD a.ix 0) l s.reverse a t=true:=fun s a t e=>by
  have:=wOg os [] hz s a t e
  rwa [List.append_nil] at this
 have wKz:∀ s a t,os=s ++ a :: t ->
   (wBn a.kd=true->∀ b ∈ s,wKH l b.ix a.ix)/\(∀ p,a.dst=some p->∀ b ∈ s ++ t,b.dst ≠ some p) /\
   (∀ p ∈ wBr a,(∀ b ∈ a :: t,b.dst ≠ some p)/\∀ b ∈ s,b.dst=some p->wKH l b.ix a.ix/\(a.kd=1 \/ a.kd=3 \/ 8 <= a.kd->b.kd ≠ 4/\b.kd ≠ 6)) /\
   ((a.kd=1->∀ b ∈ s,b.kd=0->wKH l b.ix a.ix)/\(8 <= a.kd->∀ s1 b s2,s=s1 ++ b :: s2->b.kd=0->wKH l b.ix a.ix \/ wNf s2 + 8 < a.kd))/\(∀ b ∈ t,a.ix ≠ b.ix)/\kdOK a=true/\(∀ o,l[a.ix]?=some o->wBT o=false/\subB a.op o=true):=by
  intro s a t e
  have hk:=key s a t e
  unfold zop at hk
  simp only [nA,nS,List.mem_reverse,nN,nV] at hk
  obtain ⟨k1,k2,k3,⟨k4,k8⟩,k5,k6,k7⟩:=hk
  refine ⟨fun hf b hb=>?_,fun p hp b hb=>?_,fun p hp=>⟨fun b hb=>?_,fun b hb hd=>?_⟩,⟨fun h1 b hb h0=>?_,fun h8 s1 b s2 es h0=>?_⟩,fun b hb he=>?_,k6,fun o ho=>?_⟩
  ·rcases k1 with k1 | k1
   ·rw [hf] at k1;cases k1
   ·exact han _ _ (k1 b hb)
  ·rw [hp] at k2
   simp only [nA,nS,List.mem_reverse] at k2
   rcases nO.1 hb with hb | hb
   ·exact wGR (k2.1 b hb)
   ·exact wGR (k2.2 b hb)
  ·obtain ⟨g1,g2,g3⟩:=k3 p hp
   rcases na.1 hb with rfl | hb
   ·exact wGR g1
   ·exact wGR (g2 b hb)
  ·obtain ⟨g1,g2,g3⟩:=k3 p hp
   rcases g3 b hb with g | ⟨g,g'⟩
   ·exact absurd hd (wGR g)
   ·refine ⟨han _ _ g,fun hk=>?_⟩
    rcases g' with g' | g'
    ·rcases hk with hk | hk | hk
     ·rw [hk] at g';exact absurd g' (by decide)
     ·rw [hk] at g';exact absurd g' (by decide)
     ·simp only [Bool.or_eq_false_iff] at g'
      have h8:kB 8 a.kd=true:=by rw [nP];exact hk
      rw [g'.2.2] at h8
      cases h8
    ·constructor <;> intro h4 <;> rw [h4] at g' <;> exact absurd g' (by decide)
  ·rcases k4 with k4 | k4
   ·rw [h1] at k4;exact absurd k4 (by decide)
   ·rcases k4 b hb with g | g
    ·rw [h0] at g;exact absurd g (by decide)
    ·exact han _ _ g
  ·rcases k8 with k8 | k8
   ·rw [<- Bool.not_eq_true,nP] at k8
    exact absurd h8 k8
   ·rw [es,List.reverse_append,List.reverse_cons,np] at k8
    rcases wOf s2.reverse b (s1.reverse) 0 (by simpa using k8) h0 with g | g
    ·exact .inl (han _ _ g)
    ·refine .inr ?_
     unfold wNf at g ⊢
     rw [List.countP_reverse] at g
     omega
  ·have:=k5 b hb
   rw [he] at this
   simp at this
  ·rw [ho] at k7
   simpa using k7
 have mem:∀ a ∈ os,∃ s t,os=s ++ a :: t:=fun a ha=>List.append_of_mem ha
 refine ⟨hao,wQw os fun s a t e=>(wKz s a t e).2.2.2.2.1,hpr,fun s a t e=>(wKz s a t e).1,fun s a t e=>(wKz s a t e).2.1,fun s a t e p hp=>((wKz s a t e).2.2.1 p hp).1,fun a ha p hp b hb hd=>?_,fun a ha=>?_,fun a ha hk p hp b hb hd=>?_,fun a ha o ho=>?_,fun a ha o ho=>?_,fun s a t e=>(wKz s a t e).2.2.2.1.1,fun s a t e=>(wKz s a t e).2.2.2.1.2⟩
 ·obtain ⟨s,t,e⟩:=mem a ha
  obtain ⟨g1,g2⟩:=(wKz s a t e).2.2.1 p hp
  rw [e] at hb
  rcases nO.1 hb with hb | hb
  ·exact (g2 b hb hd).1
  ·exact absurd hd (g1 b hb)
 ·obtain ⟨s,t,e⟩:=mem a ha
  have hk:=(wKz s a t e).2.2.2.2.2.1
  unfold kdOK at hk
  simp only [nN,nA] at hk
  rcases hk with hk | ⟨h1,hk⟩
  ·exact .inl hk
  ·refine .inr ⟨fun e=>(by rw [e] at h1;cases h1),?_⟩
   rcases hk with hk | hk | ⟨hk,h2⟩ | ⟨hk,h2⟩ | ⟨hk,h2⟩
   ·exact .inl (nB hk)
   ·exact .inr (.inl (nB hk))
   ·exact .inr (.inr (.inl ⟨nB hk,nB h2⟩))
   ·exact .inr (.inr (.inr (.inl ⟨nB hk,h2⟩)))
   ·exact .inr (.inr (.inr (.inr ⟨by rwa [nP] at hk,nB h2⟩)))
 ·obtain ⟨s,t,e⟩:=mem a ha
  obtain ⟨g1,g2⟩:=(wKz s a t e).2.2.1 p hp
  rw [e] at hb
  rcases nO.1 hb with hb | hb
  ·exact (g2 b hb hd).2 hk
  ·exact absurd hd (g1 b hb)
 ·obtain ⟨s,t,e⟩:=mem a ha
  exact ((wKz s a t e).2.2.2.2.2.2 o ho).1
 ·obtain ⟨s,t,e⟩:=mem a ha
  have h1:=((wKz s a t e).2.2.2.2.2.2 o ho).2
  unfold subB at h1
  rw [nS] at h1
  intro x hx
  have:=h1 (.tmp x) (by simpa using hx)
  simp only [List.any_eq_true] at this
  obtain ⟨p,g1,g2⟩:=this
  exact ⟨p,g1,by rw [nB g2];rfl⟩
structure ZAll (P:Program) (N:Nat) (l:List Oper) (os A B:List AO):Prop where
 eq:os=A ++ B
 za:ZOK P N l A
 zb:ZOK P N l B
 cross:∀ b ∈ B,∀ a ∈ A,a.ix ≠ b.ix/\wKH l a.ix b.ix
 low:∀ b ∈ B,b.kd < 8
 far:∀ a ∈ A,8 <= a.kd->∀ p,p ∈ wBr a \/ a.dst=some p->∀ b ∈ B,b.dst ≠ some p
 all:∀ i,i < l.length->∃ a ∈ os,a.ix=i
theorem wMl {P:Program} {N:Nat} {l:List Oper} {os:List AO} (hao:∀ a ∈ os,wGP P N l a=true) (h:chkZ l os=true):∃ A B,ZAll P N l os A B:=by
 unfold chkZ at h
 rw [nA,nA,nN] at h
 obtain ⟨hpr0,hall0,hz⟩:=h
 simp only [nS,List.mem_range,nH,List.any_eq_true] at hpr0 hall0
 have hpr:∀ i,i < l.length->∀ j ∈ prI l i,j < i:=hpr0
 have hall:∀ i,i < l.length->∃ a ∈ os,a.ix=i:=fun i hi=>by
  obtain ⟨a,h1,h2⟩:=hall0 i hi
  exact ⟨a,h1,nB h2⟩
 have han:∀ i x,((wOd [] l).getD i 0).testBit x=true->wKH l x i:=wJV hpr l [] [] rfl rfl fun i x h=>by simp at h
 rcases hz with hz | hz
 ·exact ⟨os,[],by simp,wKI hao hpr hz,wKI (fun a ha=>by simp at ha) hpr rfl,fun b hb=>by simp at hb,fun b hb=>by simp at hb,fun a _ _ p _ b hb=>by simp at hb,hall⟩
 ·unfold ztl at hz
  simp only [nA,nS,nH,nV] at hz
  obtain ⟨⟨h1,h5⟩,h2,h3,h4⟩:=hz
  have e:=wOe os
  refine ⟨wPf os,wNv os,e,wKI (fun a ha=>hao a (by rw [e];simp [ha])) hpr h2,wKI (fun a ha=>hao a (by rw [e];simp [ha])) hpr h3,fun b hb a ha=>⟨fun e=>?_,han _ _ (h4 b hb a ha).2⟩,h1,fun a ha h8 p hp b hb=>?_,hall⟩
  ·have:=(h4 b hb a ha).1
   rw [e] at this
   simp at this
  ·have h6:=h5 a ha
   simp only [nN,nA,nS,nH] at h6
   rcases h6 with h6 | ⟨h6,h7⟩
   ·omega
   ·rcases hp with hp | hp
    ·exact wGR (h6 p hp b hb)
    ·rw [hp] at h7
     simp only [nS] at h7
     exact wGR (h7 b hb)
theorem wHd {tb:Tr AF} {ex exY:Run} {σf:Tr AV} {h:AH}:∀ (x y:List AO) (n:Nat),wIr tb ex exY σf h n (x ++ y)=true->wIr tb ex exY σf h n x=true
 | [],_,_,_=>rfl
 | a :: x,y,n,hl=>by
  rw [nJ,wDm] at hl
  rw [wDm]
  cases hf:wBn a.kd with
  | true =>
   rw [hf] at hl
   exact wHd x y _ hl
  | false =>
   rw [hf] at hl
   simp only [nA] at hl ⊢
   exact ⟨hl.1,wHd x y _ hl.2⟩
theorem wJW {tb:Tr AF} {ex exY:Run} {σf:Tr AV} {h:AH}:∀ (x:List AO) (a:AO) (y:List AO) (n:Nat),wIr tb ex exY σf h n (x ++ a :: y)=true->wBn a.kd=false->n + wNf x + 8 < a.kd->wGv tb ex exY σf h a=true
 | [],a,y,n,hl,hf,hn=>by
  rw [nM,wDm,hf] at hl
  simp only [nA] at hl
  have hb:nR (n + 8) a.kd=true:=by rw [nH];exact hn
  rw [hb] at hl
  exact hl.1
 | c :: x,a,y,n,hl,hf,hn=>by
  rw [nJ,wDm] at hl
  unfold wNf at hn
  rw [List.countP_cons] at hn
  cases hc:wBn c.kd with
  | true =>
   rw [hc] at hl hn
   exact wJW x a y _ hl hf (by unfold wNf;simp only [if_true] at hn;omega)
  | false =>
   rw [hc] at hl hn
   simp only [nA] at hl
   exact wJW x a y _ hl.2 hf (by unfold wNf;simp only [if_false,nQ] at hn;omega)
def LCK (tb:Tr AF) (ex exY:Run) (os:List AO) (σ0:Tr AV) (h0:AH) (σf:Tr AV):Prop :=
 ∀ s b t,os=s ++ b :: t->b.kd=0->∀ σ1 h1,wAU tb ex exY s σ0 h0=some (σ1,h1)->wIr tb ex exY σf h1 0 t=true
theorem wJX {tb:Tr AF} {ex exY:Run}:∀ (os:List AO) (σ:Tr AV) (h:AH) (r:Tr AV × AH),wMF tb ex exY os σ h=some r->wAU tb ex exY os σ h=some r/\LCK tb ex exY os σ h r.1
 | [],σ,h,r,hr=>by
  rw [wNo] at hr
  exact ⟨by rw [wAn];exact hr,fun s b t e=>by simp at e⟩
 | o :: os,σ,h,r,hr=>by
  rw [wMG] at hr
  split at hr
  ·cases hr
  ·rename_i q hq
   split at hr
   ·cases hr
   ·rename_i r' hr'
    have e:r'=r:=by
     split at hr
     ·split at hr
      ·cases hr;rfl
      ·cases hr
     ·cases hr;rfl
    subst e
    obtain ⟨g1,g2⟩:=wJX os _ _ _ hr'
    have g0:∀ s,wAU tb ex exY (o :: s) σ h=wAU tb ex exY s q.1 q.2:=by
     intro s
     rw [wAr]
     unfold wPC at hq
     cases hw:wCO σ o.grd with
     | true =>
      rw [hw] at hq
      simp only at hq ⊢
      split at hq
      ·rename_i y hy
       cases hq
       rfl
      ·cases hq
     | false =>
      rw [hw] at hq
      cases hq
      rfl
    refine ⟨by rw [g0];exact g1,fun s b t e h0 σ1 h1 hs=>?_⟩
    cases s with
    | nil =>
     simp only [nM,nE] at e
     obtain ⟨rfl,rfl⟩:=e
     rw [wAn] at hs
     cases hs
     have hb:nD o.kd 0=true:=by rw [h0];rfl
     rw [hb] at hr
     simp only at hr
     split at hr
     ·assumption
     ·cases hr
    | cons c s =>
     simp only [nJ,nE] at e
     obtain ⟨rfl,rfl⟩:=e
     rw [g0] at hs
     exact g2 s b t rfl h0 σ1 h1 hs
theorem wKJ {tb:Tr AF} {ex exY:Run} {os:List AO} {σ:Tr AV} {h:AH} {σf:Tr AV} (hk:∀ a ∈ os,a.kd < 8):LCK tb ex exY os σ h σf:=by
 intro s b t e _ σ1 h1 _
 have:∀ (l:List AO) (n:Nat),(∀ a ∈ l,a.kd < 8)->wIr tb ex exY σf h1 n l=true:=by
  intro l
  induction l with
  | nil=>intro n _;rfl
  | cons a l ih =>
   intro n hl
   rw [wDm]
   have ha:=hl a (by simp)
   have hb:nR (n + 8) a.kd=false:=by rw [<- Bool.not_eq_true,nH];omega
   cases wBn a.kd with
   | true=>exact ih _ fun b hb=>hl b (by simp [hb])
   | false =>
    simp only [hb,Bool.true_and]
    exact ih _ fun b hb=>hl b (by simp [hb])
 exact this t 0 fun a ha=>hk a (by rw [e];simp [ha])
end
end Go.KX
namespace Go.KX
noncomputable section
open Go.RowKit Go.KL
def kdAt (i:Nat):List AO->Nat
 | []=>0
 | a :: os=>match nD a.ix i with
  | true=>a.kd
  | false=>kdAt i os
def lazyA (os:List AO):Bool:=os.any fun a=>nR 3 a.kd
def chkR (P:Program) (N:Nat) (os:List AO) (l:List Oper) (draw:Bool):Bool :=
 let ks:=(nt l.length).map fun i=>kdAt i os
 os.all (fun a=>wGP P N l a && nD (kOf ks a.ix) a.kd) && (match draw with
  | true=>(match lazyA os with
   | true=>os.all (fun a=>nR a.kd 8) && chkZ l os
   | false=>wLS l ks (wIW os))
  | false=>inOrder 0 (wIW os) l.length)
def wLB (N:Nat):List Pos->List Nat->Bool
 | [],[]=>true
 | t :: ts,p :: ps=>(nD t.nat (p + 1) && nR p N) && wLB N ts ps
 | _,_=>false
theorem wKK {N:Nat}:∀ {ts:List Pos} {ps:List Nat},wLB N ts ps=true->ts.map Pos.nat=ps.map (· + 1)/\∀ x ∈ ps,x < N
 | [],[],_=>by simp
 | t :: ts,p :: ps,h=>by
  simp only [wLB,nA,nH] at h
  obtain ⟨⟨h1,h2⟩,h3⟩:=h
  obtain ⟨h4,h5⟩:=wKK h3
  refine ⟨by simp [h4,nB h1],?_⟩
  intro x hx
  rcases na.1 hx with rfl | hx
  ·exact h2
  ·exact h5 x hx
 | [],_ :: _,h=>by simp [wLB] at h
 | _ :: _,[],h=>by simp [wLB] at h
theorem wKL {μ:Mu}:∀ {ts:List Pos} {ns:List Nat} {σA σB:Tr AV} {σ:Env} {as:List AV} {vs:List Value},wPB σA ts as=some σB->ts.map Pos.nat=ns.map (· + 1)->RvL μ as vs->EnvR μ σA σ->EnvR μ σB (wOb σ ns vs)/\ns.length=vs.length
 | [],ns,σA,σB,σ,as,vs,hs,hn,hv,hE=>by
  cases ns with
  | cons _ _=>simp at hn
  | nil =>
   cases as with
   | cons _ _=>simp [wPB] at hs
   | nil=>cases hv;simp only [wPB,nk] at hs;subst hs;exact ⟨hE,rfl⟩
 | t :: ts,ns,σA,σB,σ,as,vs,hs,hn,hv,hE=>by
  cases ns with
  | nil=>simp at hn
  | cons n ns =>
   cases as with
   | nil=>simp [wPB] at hs
   | cons a as =>
    obtain ⟨v,ws,h1,h2,rfl⟩:=hv
    simp only [nI,nE] at hn
    have hp:=hE.put (p:=t) h1
    have e:t.nat - 1=n:=by omega
    rw [e] at hp
    obtain ⟨g1,g2⟩:=wKL (ts:=ts) (ns:=ns) (σA:=σA.set t a) (σ:=upd σ n v) (by simpa [wPB] using hs) hn.2 h2 hp
    exact ⟨g1,by simp [g2]⟩
def wEv (P:Program) (N:Nat):AC->Code->Bool
 | .skip,.skip=>true
 | .skip,.label _=>true
 | .rg os,.region _ ops draw=>chkR P N os ops.toList draw
 | .rl os,.region _ ops draw=>draw && (os.all (fun a=>wGP P N ops.toList a) && chkZ ops.toList os)
 | .seq a b,.seq c d=>wEv P N a c && wEv P N b d
 | .cond x a b,.cond y c d=>wBh x y && (wEv P N a c && wEv P N b d)
 | .block i a,.block j c=>nD i j && wEv P N a c
 | .loop a,.loop c=>wEv P N a c
 | .scope a,.scope c=>wEv P N a c
 | .rf g t asg body,.rangeFunc g' ps asg' body'=>wBh g g' && (wLB N t ps.toList && (wEv P N asg asg' && wEv P N body body'))
 | .exit i,.exit j=>nD i j
 | .ret,.ret=>true
 | _,_=>false
def CC (P:Program):Chk:=fun a c N=>wEv P N a c=true
section
variable {P:Program} {tb:Tr AF} {μ μ' μ'':Mu} {w w' w'':World} {h h' h'':AH} {σ:Env} {σA:Tr AV}
def Mk (μ:Mu) (w:World) (n0:Nat) (D:List Deferred):Prop:=∃ rbs:List Nat,D=rbs.map wJy/\rbs.Nodup/\∀ rb ∈ rbs,Dfr w rb/\n0 <= rb/\∀ p c,μ p=some c->c.1 ≠ rb
theorem Mk.nil (μ:Mu) (w:World) (n0:Nat):Mk μ w n0 []:=⟨[],rfl,by simp,by simp⟩
theorem Mk.ext {n0 fl:Nat} {D:List Deferred} (M:Mk μ w n0 D) (E:Ext μ fl w μ' w'):Mk μ' w' n0 D:=by
 obtain ⟨rbs,h1,h2,h3⟩:=M
 refine ⟨rbs,h1,h2,fun rb hrb=>?_⟩
 obtain ⟨g1,g2,g3⟩:=h3 rb hrb
 refine ⟨g1.keep E.keep fun ⟨p,d,q1,q2,_⟩=>g3 p d q1 q2,g2,fun p c hp=>?_⟩
 rcases E.new p c hp with q | ⟨p',d,q1,q2,_⟩ | q
 ·exact g3 p c q
 ·rw [<- q2];exact g3 p' d q1
 ·have:=g1.lt;omega
def PostX (P:Program) (μ:Mu) (fl:Pos) (w:World) (n0:Nat) (rr:Option Nat) (D:List Deferred) (e:Ex) (σA':Tr AV) (h':AH):wDC:=fun D' e' σ' w' =>
 e'=exC e/\∃ μ',Ext μ fl.nat w μ' w'/\Sim (CC P) P μ' h' w'/\EnvR μ' σA' σ'/\Mk μ' w' n0 D'/\h'.fl=fl/\(rr.isSome=true->D'=D)
def wIY (P:Program) (ex:Run) (r:Bool):Prop:=∀ c σA h e σA' h',ex c σA h=some (e,σA',h')->∀ code N,wEv P N c code=true->∀ (rr:Option Nat) (μ:Mu) (σ:Env) (w:World) (D:List Deferred) (n0:Nat),
 rr.isSome=r->Sim (CC P) P μ h w->EnvR μ σA σ->Mk μ w n0 D->n0 <= w.heap.size->CK rr N P code (PostX P μ h.fl w n0 rr D e σA' h') D σ w
def wMm (P:Program) (ex:Run) (r:Bool) (m:Nat):Prop:=∀ c σA h e σA' h',ex (.loop c) σA h=some (e,σA',h')->∀ code N,wEv P N c code=true->∀ (rr:Option Nat) (μ:Mu) (σ:Env) (w:World) (D:List Deferred) (n0:Nat),
 rr.isSome=r->Sim (CC P) P μ h w->EnvR μ σA σ->Mk μ w n0 D->n0 <= w.heap.size->∀ a,Rep N D a σ->Code.roundsIn (WF rr) 0 P code (wGg N (PostX P μ h.fl w n0 rr D e σA' h')) m a w
theorem PostX.trans {fl:Pos} {n0:Nat} {rr:Option Nat} {D D1 D':List Deferred} {e:Ex} {e':Exit} {σA':Tr AV} {σ':Env} (E:Ext μ fl.nat w μ' w') (hD:rr.isSome=true->D1=D) (hP:PostX P μ' fl w' n0 rr D1 e σA' h' D' e' σ' w''):PostX P μ fl w n0 rr D e σA' h' D' e' σ' w'':=by
 obtain ⟨h1,μ2,h2,h3,h4,h5,h6,h7⟩:=hP
 exact ⟨h1,μ2,E.trans h2,h3,h4,h5,h6,fun hr=>(h7 hr).trans (hD hr)⟩
theorem wGS {F:Fence} {n:Nat} {c:Code} {Q Q':Exit->Act->World->Prop} (hQ:∀ e a w,Q e a w->Q' e a w):∀ (m:Nat) (a:Act) (w:World),Code.roundsIn F n P c Q m a w->Code.roundsIn F n P c Q' m a w
 | 0,_,_,h=>h.elim
 | m + 1,a,w,h=>by
  rw [roundsIn_succ] at h ⊢
  refine wpIn_mono h fun e a w q=>?_
  cases e with
  | normal=>exact wGS hQ m a w q
  | _=>exact hQ _ _ _ q
theorem Ext.drew (μ:Mu) (fl:Nat) (w:World):Ext μ fl w μ { w with drawn:=w.drawn + 1 }:=⟨Mu.Le.refl μ,fun _ _ h=>.inl h,(Keep.drew w).weak fun _ _ h=>h.elim⟩
theorem Sim.keepX {C:Chk} {X:Nat->Prop} (S:Sim C P μ h w) (K:Keep w w' X) (hX:∀ p c,μ p=some c->¬ X c.1):Sim C P μ h w' :=
 ⟨S.nx,fun p c hp=>nT (S.lt p c hp) K.size,S.inj,fun p b hb=>let ⟨c,h1,h2⟩:=S.at_ p b hb;⟨c,h1,h2.keep K (hX p c h1)⟩⟩
def wDf (P:Program):List AR->List ResultVar->Bool
 | [],[]=>true
 | .t p :: l,.tmp t :: k=>nD p.nat (t + 1) && wDf P l k
 | .c p n :: l,.cell a t :: k=>nD p.nat (a + 1) && ((match n with | none=>wNq P t false | some n=>wNq P t true && szT P t n) && wDf P l k)
 | _,_=>false
def chkF (P:Program) (k:Nat) (af:AF):Bool:=match P.funcs[k]? with
 | none=>false
 | some fn=>match fn.body with
  | none=>false
  | some c => nD fn.ntmps af.n && (wDf P af.res fn.results.toList && (!(fn.name == "runtime.NumGoroutine") && wEv P fn.ntmps af.body c))
theorem wJY {C:Chk} (hE:EnvR μ σA σ) (S:Sim C P μ h w):∀ {l:List AR} {k:List ResultVar} {vs:List AV},wDf P l k=true->wQI σA h l=some vs->∃ VS,RvL μ vs VS/\wQG P w σ k VS
 | [],[],vs,_,hr=>by simp only [wQI] at hr;cases hr;exact ⟨[],rfl,trivial⟩
 | .t p :: l,.tmp t :: k,vs,hc,hr=>by
  simp only [wDf,nA] at hc
  simp only [wQI,res1] at hr
  split at hr
  ·rename_i vs' hvs
   cases hr
   obtain ⟨VS,g1,g2⟩:=wJY hE S hc.2 hvs
   have e:=nB hc.1
   have g:=hE p
   rw [e] at g
   exact ⟨_,wBI g g1,rfl,g2⟩
  ·cases hr
 | .c p n :: l,.cell a t :: k,vs,hc,hr=>by
  simp only [wDf,nA] at hc
  obtain ⟨c1,c2,c3⟩:=hc
  have e:=nB c1
  have g:=hE p
  rw [e] at g
  rw [wQI] at hr
  split at hr
  ·rename_i v hv
   split at hr
   ·rename_i vs' hvs
    cases hr
    obtain ⟨VS,g1,g2⟩:=wJY hE S c3 hvs
    simp only [res1] at hv
    split at hv
    ·rename_i b off hb
     split at hv
     ·rename_i cl hcl
      obtain ⟨c,ws,q1,q2,q3⟩:=wDw hcl S
      rw [hb] at g
      obtain ⟨c',k1,k2⟩:=g
      rw [q1] at k1;cases k1
      have k2:σ a=.pointer (some ⟨c.1,off,none⟩):=k2
      split at hv
      ·rw [wFT] at hv
       obtain ⟨cv,r1,r2⟩:=wER q2 hv
       refine ⟨_,wBI r2 g1,⟨_,k2,?_⟩,g2⟩
       simp [loadVar,wDo c2,load,Sem.run,q3 w (Keep.refl w _) _ _ r1]
      ·rename_i n
       simp only [nA] at c2
       obtain ⟨r,hr3,rfl⟩:=wCv hv
       obtain ⟨r1,r2⟩:=wES hr3 q2
       refine ⟨_,wBI ⟨_,r1,rfl⟩ g1,⟨_,k2,?_⟩,g2⟩
       have:=KL.run_loadCells (P:=P) (w:=w) (b:=c.1) (off:=off) (n:=n) ((ws.drop off).take n) (by simp;omega) fun j u hu=>q3 w (Keep.refl w _) _ _ (wEo rfl j u hu)
       simp [loadVar,wDo c2.1,wDE c2.2,this]
     ·cases hv
    ·cases hv
   ·cases hr
  ·cases hr
 | [],_ :: _,_,hc,_=>by simp [wDf] at hc
 | .t _ :: _,[],_,hc,_=>by simp [wDf] at hc
 | .c _ _ :: _,[],_,hc,_=>by simp [wDf] at hc
 | .t _ :: _,.cell _ _ :: _,_,hc,_=>by simp [wDf] at hc
 | .c _ _ :: _,.tmp _ :: _,_,hc,_=>by simp [wDf] at hc
theorem wPg {C:Chk} {l:List AR} {rs:Array ResultVar} {v:AV} (hE:EnvR μ σA σ) (S:Sim C P μ h w) (hc:wDf P l rs.toList=true) (hr:wPA σA h l=some (v,h')):h'=h/\∃ cv,Rv μ v cv/\(wCT rs σ).run P w=.ok cv w:=by
 unfold wPA at hr
 split at hr
 ·rename_i vs hvs
  cases hr
  refine ⟨rfl,?_⟩
  obtain ⟨VS,g1,g2⟩:=wJY hE S hc hvs
  have hrs:rs=rs.toList.toArray:=by simp
  unfold tupA
  split
  ·rename_i v
   obtain ⟨cv,ws,q1,q2,q3⟩:=g1
   cases q2
   subst q3
   refine ⟨cv,q1,?_⟩
   have hl:∃ r,rs=#[r]:=by
    cases hq:rs.toList with
    | nil=>rw [hq] at g2;exact g2.elim
    | cons r k =>
     cases k with
     | nil=>exact ⟨r,nK (by simpa using hq)⟩
     | cons r' k=>rw [hq] at g2;cases r <;> cases r' <;> exact g2.2.elim
   obtain ⟨r,rfl⟩:=hl
   exact wOu g2
  ·rename_i hne
   refine ⟨_,⟨VS,g1,rfl⟩,?_⟩
   rw [hrs]
   refine resLn g2 ?_
   have hl:=wCX g1
   cases hb:VS.length == 1 with
   | false=>rfl
   | true =>
    have:vs.length=1:=by rw [<- hl];exact eq_of_beq hb
    obtain ⟨v,hv⟩:=List.length_eq_one_iff.1 this
    exact absurd hv (hne v)
 ·cases hr
def wLC (P:Program) (tb:Tr AF):Prop:=∀ p af,tb.get p=some af->chkF P (p.nat - 1) af=true
theorem wMn (T:wLC P tb) {ex:Run} (HE:wIY P ex false):wFU (CC P) P tb ex:=by
 intro f args h v h' hr
 unfold wIM at hr
 split at hr
 ·rename_i af haf
  have hcf:=T f af haf
  unfold chkF at hcf
  split at hcf
  ·cases hcf
  ·rename_i fn hfn
   split at hcf
   ·cases hcf
   ·rename_i c hbody
    simp only [nA,nV] at hcf
    obtain ⟨c1,c2,c3,c4⟩:=hcf
    refine ⟨fun a w=>?_,fun μ w vs S hv=>?_⟩
    ·have c3' : ¬ fn.name = "runtime.NumGoroutine" := by simpa using c3
     simp [callFunc,program,Sem.run,hfn,hbody,c3']
    ·split at hr
     ·rename_i hle
      have hle:=nL hle
      have e1:=nB c1
      have key:∀ e σA' h1,ex af.body (wMC args .H .e) h=some (e,σA',h1)->(e=.nrm \/ e=.ret)->wPA σA' h1 af.res=some (v,h')->Gv P (f.nat - 1) vs w fun cv w'=>∃ μ',Ext μ h.fl.nat w μ' w'/\Sim (CC P) P μ' h' w'/\Rv μ' v cv/\h'.fl=h.fl:=by
       intro e σA' h1 hx he hres
       refine Gv.ofM hfn hbody rfl rfl (by rw [wCX hv,<- wDn,e1];exact hle) ?_
       refine (HE _ _ _ _ _ _ hx c fn.ntmps c4 none μ (wOR vs) w [] w.heap.size rfl S (wPD hv) (Mk.nil μ w _) (nG _)).mono ?_
       rintro D' e' σ' w' ⟨rfl,μ',q1,q2,q3,q4,q5,_⟩
       obtain ⟨rbs,m1,m2,m3⟩:=q4
       have fin:∃ rbs:List Nat,D'=rbs.map wJy/\rbs.Nodup/\(∀ rb ∈ rbs,Dfr w' rb)/\∀ w2,Keep w' w2 (· ∈ rbs)->w2.heap.size=w'.heap.size->∃ cv,(wCT fn.results σ').run P w2=.ok cv w2/\∃ μ',Ext μ h.fl.nat w μ' w2/\Sim (CC P) P μ' h' w2/\Rv μ' v cv/\h'.fl=h.fl:=by
        refine ⟨rbs,m1,m2,fun rb hrb=>(m3 rb hrb).1,fun w2 K hs=>?_⟩
        have S2:=q2.keepX K fun p c hp hm=>(m3 _ hm).2.2 p c hp rfl
        obtain ⟨rfl,cv,r1,r2⟩:=wPg q3 S2 c2 hres
        refine ⟨cv,r2,μ',⟨q1.mono,q1.new,?_⟩,S2,r1,q5⟩
        exact q1.keep.step K fun i hi hm=>absurd (m3 i hm).2.1 (Nat.not_le.2 hi)
       rcases he with rfl | rfl
       ·exact fin
       ·exact fin
      split at hr
      ·exact key _ _ _ (by assumption) (.inl rfl) hr
      ·exact key _ _ _ (by assumption) (.inr rfl) hr
      ·cases hr
     ·cases hr
 ·cases hr
theorem wNw {ex:Run} (HE:wIY P ex true):wEW (CC P) P ex:=by
 intro b args h v h' hr
 unfold wIN at hr
 split at hr
 ·rename_i σA t asg body hB
  intro μ w xv c S hx hc
  split at hr <;> first | (cases hr;done) | skip
  rename_i σS hset
  split at hr <;> first | (cases hr;done) | skip
  rename_i σ1 h1 hasg
  split at hr <;> first | (cases hr;done) | skip
  rename_i σx tx ax bx hB1
  split at hr <;> first | (cases hr;done) | skip
  rename_i h2 hput2
  split at hr <;> first | (cases hr;done) | skip
  rename_i e σ3 h3 hbody
  split at hr <;> first | (cases hr;done) | skip
  rename_i σy ty ay by_ hB3
  split at hr <;> first | (cases hr;done) | skip
  rename_i h4 hput4
  cases hr
  obtain ⟨c',g1,g2⟩:=S.at_ b _ hB
  rw [hc] at g1;cases g1
  have L:wKu (CC P) μ w c σA t asg body .ready:=g2
  obtain ⟨hSE,hSl⟩:=wKL hset L.ht hx L.env
  refine Yd.of L.at_ L.tN hSl fun σ0 hσ0=>?_
  have hE0:EnvR μ σS σ0:=by
   intro p
   rw [hσ0];exact hSE p
  refine (HE _ _ _ _ _ _ hasg c.g.ac c.g.N L.asg (some c.1) μ σ0 w [] 0 rfl S hE0 (Mk.nil μ w _) (Nat.zero_le _)).mono ?_
  rintro D' e' σ' w1 ⟨rfl,μ1,q1,q2,q3,q4,q5,q6⟩
  have hc1:=q1.mono b c hc
  obtain ⟨c',r1,r2⟩:=q2.at_ b _ hB1
  rw [hc1] at r1;cases r1
  have L1:wKu (CC P) μ1 w1 c σx tx ax bx .ready:=r2
  refine ⟨rfl,q6 rfl,L1.at_,fun w2 hl2 K hs=>?_⟩
  obtain ⟨s1,s2,s3⟩:=q2.put hput2 hB1 trivial hc1 K (B':=.loop σA t asg body .busy) ⟨hl2,L.env.mono q1.mono,L.ht,L.tN,L.asg,L.body⟩
  rw [q5] at s2 s3
  refine (HE _ _ _ _ _ _ hbody c.g.bc c.g.N L.body (some c.1) μ1 σ' w2 [] 0 rfl s1 q3 (Mk.nil μ1 w2 _) (Nat.zero_le _)).mono ?_
  rintro D'' e'' σ'' w3 ⟨rfl,μ3,t1,t2,t3,t4,t5,t6⟩
  rw [s3] at t1 t5
  have hc3:=t1.mono b c hc1
  obtain ⟨c',u1,u2⟩:=t2.at_ b _ hB3
  rw [hc3] at u1;cases u1
  have L3:wKu (CC P) μ3 w3 c σy ty ay by_ .busy:=u2
  have fin:∀ w4,LoopAt w4 c.1 c.g.N c.g.σ c.g.t c.g.ac c.g.bc c.g.rb c.g.fn (lsC e.done).1 (lsC e.done).2->Keep w3 w4 (·=c.1)->∃ μ',Ext μ h.fl.nat w μ' w4/\Sim (CC P) P μ' h' w4/\AV.bool e.go=.bool e.go/\h'.fl=h.fl:=by
   intro w4 hl4 K4
   obtain ⟨v1,v2,v3⟩:=t2.put hput4 hB3 trivial hc3 K4 (B':=.loop σA t asg body e.done) ⟨hl4,(L.env.mono q1.mono).mono t1.mono,L.ht,L.tN,L.asg,L.body⟩
   rw [t5] at v2 v3
   exact ⟨μ3,(q1.trans s2).trans (t1.trans v2),v1,rfl,v3⟩
  cases e with
  | nrm=>exact ⟨L3.at_,fun w4 hl K4 _=>fin w4 hl K4⟩
  | ret=>exact ⟨L3.at_,fun w4 hl K4 _=>fin w4 hl K4⟩
  | exit i=>exact ⟨L3.at_,fun w4 hl K4 _=>fin w4 hl K4⟩
 ·cases hr
end
end
end Go.KX
namespace Go.KX
open Go.RowKit Go.KL
theorem wJZ (b:AC) (exR:Run) (e:Ex) (σ:Tr AV) (h:AH):seqK b exR (e,σ,h)=(match e with | .nrm=>exR b σ h | e=>some (e,σ,h)):=by cases e <;> rfl
theorem wQL {x:R} {k:Ex × Tr AV × AH->R} {r:Ex × Tr AV × AH} (hr:Option.rec (motive:=fun _=>R) none k x=some r):∃ y,x=some y/\k y=some r:=by
 cases x with
 | none=>cases hr
 | some y=>exact ⟨y,rfl,hr⟩
structure Fr (h h':AH):Prop where
 nx:h.nx.nat <= h'.nx.nat
 fl:h'.fl=h.fl
 get:∀ p,p.nat < h.fl.nat->p.nat < h.nx.nat->h'.m.get p=h.m.get p
theorem Fr.refl (h:AH):Fr h h:=⟨nG _,rfl,fun _ _ _=>rfl⟩
theorem Fr.trans {a b c:AH} (h:Fr a b) (k:Fr b c):Fr a c :=
 ⟨nZ h.nx k.nx,k.fl.trans h.fl,fun p h1 h2=>(k.get p (by rw [h.fl];exact h1) (nT h2 h.nx)).trans (h.get p h1 h2)⟩
theorem Fr.push (h:AH) (B:AB):Fr h (h.push B):=by
 refine ⟨?_,rfl,fun p _ h2=>?_⟩
 ·show h.nx.nat <= h.nx.succ.nat
  rw [Pos.nat_succ];omega
 ·show (h.m.set h.nx B).get p=_
  rw [Tr.get_set,if_neg (fun e=>by subst e;omega)]
theorem Fr.put {h h':AH} {p:Pos} {B:AB} (hp:h.put p B=some h'):Fr h h':=by
 obtain ⟨h1,rfl⟩:=wHZ hp
 refine ⟨nG _,rfl,fun q h2 _=>?_⟩
 show (h.m.set p B).get q=_
 rw [Tr.get_set,if_neg (fun e=>by subst e;omega)]
theorem Fr.setAt {h h':AH} {b:Pos} {off:Nat} {vs:List AV} (hs:KX.setAt h b off vs=some h'):Fr h h':=by
 unfold KX.setAt at hs
 split at hs
 ·split at hs
  ·exact Fr.put hs
  ·cases hs
 ·split at hs
  ·exact Fr.put hs
  ·cases hs
 ·cases hs
theorem wPh {h h':AH} {o:Option AV} {v:AV} (hr:okV h o=some (v,h')):h'=h:=by
 cases o with
 | none=>cases hr
 | some x=>cases hr;rfl
theorem wGk {α:Type} {b:Bool} {x:Option α} {y:α} (hr:ifO b x=some y):x=some y:=by
 cases b with
 | true=>exact hr
 | false=>cases hr
section
variable {tb:Tr AF} {ex exY:Run} {σ:Tr AV} {h h':AH} {v:AV}
theorem wQx {T sz by_ m:Nat} {news:List AV} {x:AV} (hr:app h T sz by_ m news x=some (v,h')):Fr h h':=by
 unfold app at hr
 split at hr
 ·split at hr <;> first | (cases hr;exact Fr.refl _) | (cases hr;done)
 ·split at hr
  ·have hr:=wGk hr;cases hr;exact Fr.push _ _
  ·split at hr
   ·split at hr
    ·rename_i hs;cases hr;exact Fr.setAt hs
    ·cases hr
   ·have hr:=wGk hr
    split at hr
    ·cases hr;exact Fr.push _ _
    ·cases hr
  ·split at hr
   ·split at hr
    ·split at hr
     ·rename_i hs;cases hr;exact Fr.setAt hs
     ·cases hr
    ·have hr:=wGk hr
     split at hr
     ·rename_i hs;cases hr;exact (Fr.put hs).trans (Fr.push _ _)
     ·cases hr
   ·cases hr
  ·cases hr
theorem wOh {z:List AV} {b:Pos} {off n:Nat} (hr:clr h z b off n=some (v,h')):Fr h h':=by
 unfold clr at hr
 split at hr
 ·cases hr;exact Fr.refl _
 ·have hr:=wGk hr
  split at hr
  ·rename_i hs;cases hr;exact Fr.setAt hs
  ·cases hr
def FrX (ex:Run):Prop:=∀ c σ h e σ' h',ex c σ h=some (e,σ',h')->Fr h h'
theorem wOi {l:List AR} (hr:wPA σ h l=some (v,h')):Fr h h':=by
 unfold wPA at hr
 split at hr
 ·cases hr;exact Fr.refl _
 ·cases hr
theorem wMo (HE:FrX ex) {f:Pos} {args:List AV} (hr:wIM tb ex f args h=some (v,h')):Fr h h':=by
 unfold wIM at hr
 split at hr
 ·split at hr
  ·split at hr
   ·rename_i h1;exact (HE _ _ _ _ _ _ h1).trans (wOi hr)
   ·rename_i h1;exact (HE _ _ _ _ _ _ h1).trans (wOi hr)
   ·cases hr
  ·cases hr
 ·cases hr
theorem wNx (HY:FrX ex) {b:Pos} {args:List AV} (hr:wIN ex b args h=some (v,h')):Fr h h':=by
 unfold wIN at hr
 split at hr
 ·split at hr
  ·cases hr
  ·split at hr
   ·rename_i h1
    split at hr
    ·split at hr
     ·rename_i h2
      split at hr
      ·rename_i h3
       split at hr
       ·split at hr
        ·rename_i h4
         cases hr
         exact (HY _ _ _ _ _ _ h1).trans ((Fr.put h2).trans ((HY _ _ _ _ _ _ h3).trans (Fr.put h4)))
        ·cases hr
       ·cases hr
      ·cases hr
     ·cases hr
    ·cases hr
   ·cases hr
 ·cases hr
theorem wMp (HE:FrX ex) (HY:FrX exY) (op:AOp) (hr:opY op tb ex exY σ h=some (v,h')):Fr h h':=by
  cases op with
  | call x l =>
    have hr:wFS x l tb ex exY σ h=some (v,h'):=hr
    unfold wFS at hr
    split at hr
    · exact wMo HE hr
    · exact wNx HY hr
    · cases hr
  | new T z=>cases hr;exact Fr.push _ _
  | box T x=>cases hr;exact Fr.push _ _
  | mkm=>cases hr;exact Fr.push _ _
  | mks T sz b z x y =>
    have hr:wGC T sz b z x y σ h=some (v,h'):=hr
    unfold wGC at hr
    split at hr
    · have hr:=wGk hr;cases hr;exact Fr.push _ _
    · cases hr
  | blds T n z ps =>
    have hr:wDl T n z ps σ h=some (v,h'):=hr
    unfold wDl at hr
    split at hr
    · cases hr;exact Fr.push _ _
    · cases hr
  | st n x y =>
    have hr:wOX n x y σ h=some (v,h'):=hr
    unfold wOX at hr
    split at hr
    · split at hr
      · split at hr
        · rename_i hs;cases hr;exact Fr.setAt hs
        · cases hr
      · cases hr
    · cases hr
  | mput two k x y z =>
    have hr:wFQ two k x y z σ h=some (v,h'):=hr
    unfold wFQ at hr
    split at hr
    · split at hr
      · split at hr
        · split at hr
          · rename_i hs;cases hr;exact Fr.put hs
          · cases hr
        · cases hr
      · cases hr
    · cases hr
  | mdel two k x y =>
    have hr:wFR two k x y σ h=some (v,h'):=hr
    unfold wFR at hr
    split at hr
    · split at hr
      · split at hr
        · split at hr
          · rename_i hs;cases hr;exact Fr.put hs
          · cases hr
        · cases hr
      · cases hr
    · cases hr
  | app T sz b x y =>
    have hr:wIJ T sz b x y σ h=some (v,h'):=hr
    unfold wIJ at hr
    split at hr
    · exact wQx (wGk hr)
    · cases hr
  | cpy sz x y =>
    have hr:wIK sz x y σ h=some (v,h'):=hr
    unfold wIK at hr
    split at hr
    · split at hr
      · have hr:=wGk hr
        split at hr
        · rename_i hs;cases hr;exact Fr.setAt hs
        · cases hr
      · cases hr
    · cases hr
  | clr z x =>
    have hr:wIL z x σ h=some (v,h'):=hr
    unfold wIL at hr
    split at hr
    · exact wOh hr
    · exact wOh hr
    · cases hr;exact Fr.refl _
    · cases hr;exact Fr.refl _
    · cases hr
  | bad=>cases hr
  | apz T sz b z x y =>
    have hr:wIO T sz b z x y σ h=some (v,h'):=hr
    unfold wIO at hr
    split at hr
    · split at hr
      · cases hr;exact Fr.refl _
      · have hr:=wGk hr;cases hr;exact Fr.push _ _
    · cases hr
  | _ =>
    have e:h'=h:=by
      dsimp only [opY] at hr
      first
        | exact wPh hr
        | (simp only [wQH,wGA,wNc,wGj,wGB,wJB,wJC,wJD,wJE,wJF,wKt,wJG,wGD,wJH,wJI,wGE,wJJ,wGF,wOz,wJK,wNd,wJL,wJM,wEE,wJN,wJO] at hr
           repeat' (split at hr)
           all_goals first
             | exact wPh hr
             | (cases hr;rfl)
             | (cases hr;done)
             | exact wPh (wGk hr)
             | (have hr2:=wGk hr;cases hr2;rfl))
    subst e
    exact Fr.refl _
theorem wOj (HE:FrX ex) (HY:FrX exY) (k:Nat) (op:AOp) (hr:opK k op tb ex exY σ h=some (v,h')):Fr h h':=by
 by_cases k2:nD k 2=true
 ·have hr:wOY op tb ex exY σ h=some (v,h'):=by
   have e:opK k op=wOY op:=by unfold opK;rw [k2]
   rw [e] at hr;exact hr
  unfold wOY at hr
  split at hr
  ·rename_i v0 h0 hq
   cases hr
   have F:=wMp HE HY op hq
   exact ⟨F.nx,rfl,fun p _ h2=>F.get p h2 h2⟩
  ·cases hr
 ·have e:opK k op=opY op:=by
   unfold opK
   cases hb:nD k 2 with
   | true=>exact absurd hb k2
   | false=>rfl
  rw [e] at hr
  exact wMp HE HY op hr
theorem wQy (HE:FrX ex) (HY:FrX exY) (op:AOp) (hr:wOY op tb ex exY σ h=some (v,h')):∀ p,p.nat < h.nx.nat->h'.m.get p=h.m.get p:=by
 unfold wOY at hr
 split at hr
 ·rename_i v0 h0 hq
  cases hr
  have F:=wMp HE HY op hq
  exact fun p h2=>F.get p h2 h2
 ·cases hr
theorem wHC (HE:FrX ex) (HY:FrX exY):∀ (l:List AO) (σ:Tr AV) (h:AH) (σ':Tr AV) (h':AH),wAU tb ex exY l σ h=some (σ',h')->Fr h h'
 | [],σ,h,σ',h',hr=>by
  rw [wAn] at hr;cases hr;exact Fr.refl _
 | o :: os,σ,h,σ',h',hr=>by
  rw [wAr] at hr
  split at hr
  ·split at hr
   ·rename_i r hq
    exact (wOj HE HY _ _ hq).trans (wHC HE HY os _ _ _ _ hr)
   ·cases hr
  ·exact wHC HE HY os _ _ _ _ hr
theorem wMq {exR:Run} (HR:FrX exR) {b:AC} {r:Ex × Tr AV × AH} {e:Ex} {σ':Tr AV} (hr:seqK b exR r=some (e,σ',h')):Fr r.2.2 h':=by
 obtain ⟨e0,σ0,h0⟩:=r
 rw [wJZ] at hr
 cases e0 with
 | nrm=>exact HR _ _ _ _ _ _ hr
 | exit i=>cases hr;exact Fr.refl _
 | ret=>cases hr;exact Fr.refl _
theorem wPi {exR:Run} (HE:FrX ex) (HY:FrX exY) (HR:FrX exR) (c:AC) (f:Bool) {e:Ex} {σ':Tr AV} (hr:step c f tb ex exY exR σ h=some (e,σ',h')):Fr h h':=by
 cases c with
 | skip=>cases hr;exact Fr.refl _
 | rg l =>
  have hr:sRg l tb ex exY exR σ h=some (e,σ',h'):=hr
  unfold sRg at hr
  cases hq:wAU tb ex exY l σ h with
  | none=>rw [hq] at hr;cases hr
  | some y =>
   rw [hq] at hr
   cases hr
   exact wHC HE HY l _ _ _ _ hq
 | seq a b =>
  have hr:wQZ a b exR σ h=some (e,σ',h'):=hr
  unfold wQZ at hr
  obtain ⟨y,h1,h2⟩:=wQL hr
  exact (HR _ _ _ _ _ _ h1).trans (wMq HR h2)
 | cond c a b =>
  have hr:wMH c a b exR σ h=some (e,σ',h'):=hr
  unfold wMH at hr
  split at hr
  ·exact HR _ _ _ _ _ _ hr
  ·exact HR _ _ _ _ _ _ hr
  ·cases hr
 | block i a =>
  have hr:wJx i a exR σ h=some (e,σ',h'):=hr
  unfold wJx at hr
  obtain ⟨y,h1,h2⟩:=wQL hr
  obtain ⟨e0,σ0,h0⟩:=y
  refine (HR _ _ _ _ _ _ h1).trans ?_
  unfold wOa at h2
  cases e0 with
  | nrm=>cases h2;exact Fr.refl _
  | ret=>cases h2;exact Fr.refl _
  | exit j =>
   simp only at h2
   cases hb:nD j i with
   | true=>rw [hb] at h2;cases h2;exact Fr.refl _
   | false=>rw [hb] at h2;cases h2;exact Fr.refl _
 | loop a =>
  have hr:wMI a exR σ h=some (e,σ',h'):=hr
  unfold wMI at hr
  obtain ⟨y,h1,h2⟩:=wQL hr
  exact (HR _ _ _ _ _ _ h1).trans (wMq HR h2)
 | rf g t asg body =>
  have hr:sRf f g t asg body tb ex σ h=some (e,σ',h'):=hr
  unfold sRf at hr
  split at hr
  ·split at hr
   ·rename_i h1
    have F:=(Fr.push h (.loop σ t asg body .ready)).trans (wMo HE h1)
    split at hr
    ·split at hr
     ·rename_i h2;cases hr;exact F.trans (Fr.put h2)
     ·cases hr
    ·split at hr
     ·rename_i h2;cases hr;exact F.trans (Fr.put h2)
     ·cases hr
    ·cases hr
   ·cases hr
  ·cases hr
 | exit i=>cases hr;exact Fr.refl _
 | scope a=>exact HR _ _ _ _ _ _ hr
 | ret=>cases hr;exact Fr.refl _
 | rl l =>
  have hr:sRl l tb ex exY σ h=some (e,σ',h'):=hr
  rw [wOZ] at hr
  split at hr
  ·rename_i y hq
   cases hr
   exact wHC HE HY l _ _ _ _ (wJX _ _ _ _ hq).1
  ·cases hr
theorem wEY (tb:Tr AF):∀ (n:Nat) (r:Bool),FrX (exec tb n r)
 | 0,r=>fun c σ h e σ' h' hr=>by cases hr
 | n + 1,r=>fun c σ h e σ' h' hr=>by
  rw [wIP] at hr
  exact wPi (wEY tb n false) (wEY tb n true) (wEY tb n r) c _ hr
end
end Go.KX
namespace Go.KX
open Go.RowKit Go.KL
theorem wPj {a b:IntKind} (h:keq a b=true):a=b:=by
 cases a <;> cases b <;> first | rfl | (simp [keq] at h)
theorem wPk {a b:Int} (h:zeq a b=true):a=b:=by
 cases a with
 | ofNat a=>cases b with
  | ofNat b=>simp only [zeq] at h;rw [nB h]
  | negSucc b=>simp [zeq] at h
 | negSucc a=>cases b with
  | ofNat b=>simp [zeq] at h
  | negSucc b=>simp only [zeq] at h;rw [nB h]
mutual
theorem wMr:∀ {a b:AV},same a b=true->a=b
 | .int k n,.int k' n',h=>by simp only [same,nA] at h;rw [wPj h.1,wPk h.2]
 | .bool a,.bool b,h=>by simp only [same,beq_iff_eq] at h;rw [h]
 | .ptr b o,.ptr b' o',h=>by simp only [same,nA] at h;rw [Pos.beq_eq h.1,nB h.2]
 | .pnil,.pnil,_=>rfl
 | .sl b o n c,.sl b' o' n' c',h=>by simp only [same,nA] at h;rw [Pos.beq_eq h.1,nB h.2.1,nB h.2.2.1,nB h.2.2.2]
 | .rw b o n c,.rw b' o' n' c',h=>by simp only [same,nA] at h;rw [Pos.beq_eq h.1,nB h.2.1,nB h.2.2.1,nB h.2.2.2]
 | .snil,.snil,_=>rfl
 | .map b,.map b',h=>by simp only [same] at h;rw [Pos.beq_eq h]
 | .mnil,.mnil,_=>rfl
 | .fn f fi ca,.fn f' fi' ca',h=>by simp only [same,nA] at h;rw [Pos.beq_eq h.1,wEw h.2.1,wEw h.2.2]
 | .fnil,.fnil,_=>rfl
 | .agg l,.agg l',h=>by simp only [same] at h;rw [wEw h]
 | .tup l,.tup l',h=>by simp only [same] at h;rw [wEw h]
theorem wEw:∀ {a b:List AV},wHV a b=true->a=b
 | [],[],_=>rfl
 | a :: l,b :: k,h=>by simp only [wHV,nA] at h;rw [wMr h.1,wEw h.2]
 | [],_ :: _,h=>by simp [wHV] at h
 | _ :: _,[],h=>by simp [wHV] at h
end
section
variable {tb:Tr AF} {ex exY:Run} {σ:Tr AV} {h h':AH} {v:AV}
theorem wMs {o:Option AV} (hr:okV h o=some (v,h')) (h2:AH):okV h2 o=some (v,h2):=by
 cases o with
 | none=>cases hr
 | some x=>cases hr;rfl
end
section
variable {P:Program} {l:List Oper} {σ σ':Env} {o:Oper} {w:World}
def Agr (l:List Oper) (o:Oper) (σ σ':Env):Prop:=∀ d ∈ wDj l o,σ d=σ' d
theorem wQz (h:Agr l o σ σ'):∀ y ∈ o.op.operands,ev σ y=ev σ' y:=by
 intro y hy
 cases y with
 | tmp t=>exact h t (ni _ (kV.2 ⟨.tmp t,by simpa using hy,rfl⟩))
 | _=>rfl
theorem wBq (h:Agr l o σ σ'):wanted l σ o=wanted l σ' o:=by
 unfold wanted
 cases hg:o.guard with
 | none=>rfl
 | some g =>
  obtain ⟨j,b⟩:=g
  simp only
  cases hd:(l[j]?).bind (·.dst) with
  | none=>rfl
  | some t =>
   simp only
   rw [h t (by unfold wDj;rw [hg];simp only [hd];simp)]
theorem wMt (hs:wBT o=false) (h:Agr l o σ σ'):execOp (ev σ) o=execOp (ev σ') o:=execOp_congr o (wLR hs) (wQz h)
theorem Runs.agr (hs:wBT o=false) (h:Agr l o σ σ') {v:Value} {w':World}:Runs P σ w o v w' ↔ Runs P σ' w o v w':=by
 unfold Runs;rw [wMt hs h]
theorem Runs.det {v v':Value} {w1 w2:World} (h:Runs P σ w o v w1) (h':Runs P σ w o v' w2):v=v'/\w1=w2:=by
 have:=h.2.symm.trans h'.2
 simp only [Result.ok.injEq] at this
 obtain ⟨e,e2⟩:=this
 exact ⟨by simpa using e,e2⟩
theorem Step1.agr (hs:wBT o=false) (h:Agr l o σ σ') {R:Value->World->Prop} (hh:Step1 P l o σ w R):Step1 P l o σ' w R:=by
 have e:=wMt hs h
 have ew:=wBq h
 rcases hh with ⟨h1,⟨h2,w',h3,h4⟩ | ⟨v,w',h3,h4⟩ | ⟨f,args,R',h3,h4,h5⟩ | hy⟩ | ⟨h1,h2⟩
 ·exact .inl ⟨ew ▸ h1,.inl ⟨h2,w',by unfold Does at h3 ⊢;rw [<- e];exact h3,h4⟩⟩
 ·exact .inl ⟨ew ▸ h1,.inr (.inl ⟨v,w',by unfold Runs at h3 ⊢;rw [<- e];exact h3,h4⟩)⟩
 ·exact .inl ⟨ew ▸ h1,.inr (.inr (.inl ⟨f,args,R',by unfold Enters at h3 ⊢;rw [<- e];exact h3,h4,h5⟩))⟩
 ·exact .inl ⟨ew ▸ h1,.inr (.inr (.inr (by unfold Rounds at hy ⊢;rw [<- e];exact hy)))⟩
 ·exact .inr ⟨ew ▸ h1,h2⟩
end
end Go.KX
namespace Go.KX
open Go.RowKit Go.KL
section
variable {tb:Tr AF} {ex exY:Run} {C:Chk} {P:Program}
theorem wDG:∀ (l1 l2:List AO) (σ:Tr AV) (h:AH) (r:Tr AV × AH),wAU tb ex exY (l1 ++ l2) σ h=some r->∃ σ1 h1,wAU tb ex exY l1 σ h=some (σ1,h1)/\wAU tb ex exY l2 σ1 h1=some r
 | [],l2,σ,h,r,hr=>⟨σ,h,wAn _ _ _ _ _,hr⟩
 | a :: l1,l2,σ,h,r,hr=>by
  rw [nJ,wAr] at hr
  rw [wAr]
  cases hw:wCO σ a.grd with
  | true =>
   rw [hw] at hr
   simp only at hr ⊢
   cases hq:opK a.kd a.op tb ex exY σ h with
   | none=>rw [hq] at hr;cases hr
   | some q =>
    rw [hq] at hr
    exact wDG l1 l2 _ _ r hr
  | false =>
   rw [hw] at hr
   exact wDG l1 l2 _ _ r hr
theorem wHe {d:Option Pos} {σ:Tr AV} {v:AV} {p:Pos}:evA (wFZ d σ v) (.t p)=if d=some p then v else evA σ (.t p):=by
 cases d with
 | none =>
  rw [if_neg (by simp)]
  rfl
 | some q =>
  show evA (σ.set q v) (.t p)=_
  rw [wJR,Tr.get_set]
  by_cases e:p=q
  ·subst e
   rw [if_pos rfl,if_pos rfl]
   rfl
  ·rw [if_neg e,if_neg (fun h=>e (by cases h;rfl)),wJR]
theorem wCY:∀ (l:List AO) (σ:Tr AV) (h:AH) (σ':Tr AV) (h':AH),wAU tb ex exY l σ h=some (σ',h')->∀ p,(∀ a ∈ l,a.dst ≠ some p)->evA σ' (.t p)=evA σ (.t p)
 | [],σ,h,σ',h',hr,p,_=>by
  rw [wAn] at hr
  cases hr
  rfl
 | a :: l,σ,h,σ',h',hr,p,hp=>by
  have hn:a.dst ≠ some p:=hp a (by simp)
  rw [wAr] at hr
  cases hw:wCO σ a.grd with
  | true =>
   rw [hw] at hr
   simp only at hr
   cases hq:opK a.kd a.op tb ex exY σ h with
   | none=>rw [hq] at hr;cases hr
   | some q =>
    rw [hq] at hr
    rw [wCY l _ _ _ _ hr p fun b hb=>hp b (by simp [hb]),wHe,if_neg hn]
  | false =>
   rw [hw] at hr
   rw [wCY l _ _ _ _ hr p fun b hb=>hp b (by simp [hb]),wHe,if_neg hn]
variable {μ μ':Mu} {h:AH} {w:World}
theorem Sim.adopt {c:Cl} {B:AB} (S:Sim C P μ h w) (hlt:c.1 < w.heap.size) (hn:∀ p d,μ p=some d->d.1 ≠ c.1) (hB:AbR C P (μ.add h.nx c) w c B):Sim C P (μ.add h.nx c) (h.push B) w:=by
 have hn0:=S.nx h.nx (nG _)
 have hle:=Mu.add_le (c:=c) hn0
 refine ⟨?_,?_,?_,?_⟩
 ·intro p hp
  have hp:h.nx.succ.nat <= p.nat:=hp
  rw [Pos.nat_succ] at hp
  unfold Mu.add
  rw [if_neg (fun e=>by subst e;omega)]
  exact S.nx p (by omega)
 ·intro p d hd
  unfold Mu.add at hd
  split at hd
  ·cases hd;exact hlt
  ·exact S.lt p d hd
 ·intro p q a b d e hp hq la lb hd he hde
  simp only [AH.push,Tr.get_set] at hp hq
  unfold Mu.add at hd he
  split at hd <;> split at he
  ·rename_i h1 h2;rw [h1,h2]
  ·cases hd;exact absurd hde.symm (hn _ _ he)
  ·cases he;exact absurd hde (hn _ _ hd)
  ·rename_i h1 h2
   rw [if_neg h1] at hp
   rw [if_neg h2] at hq
   exact S.inj p q a b d e hp hq la lb hd he hde
 ·intro p b hb
  simp only [AH.push,Tr.get_set] at hb
  split at hb
  ·rename_i e
   subst e
   cases hb
   exact ⟨c,Mu.add_same _ _ _,hB⟩
  ·rename_i e
   obtain ⟨d,h1,h2⟩:=S.at_ p b hb
   exact ⟨d,hle _ _ h1,h2.mono hle⟩
end
end Go.KX
namespace Go.KX
open Go.RowKit Go.KL
theorem wFJ:∀ {l:List AOd} {p:Pos},AOd.t p ∈ l->p ∈ wCJ l
 | .t q :: l,p,h=>by
  rcases na.1 h with h | h
  ·cases h;simp [wCJ]
  ·simp only [wCJ,na];exact .inr (wFJ h)
 | .c v :: l,p,h=>by
  rcases na.1 h with h | h
  ·cases h
  ·show p ∈ wCJ l
   exact wFJ h
noncomputable def rst (σ:Tr AV):List Pos->Tr AV
 | []=>.e
 | p :: ps=>(rst σ ps).set p (evA σ (.t p))
theorem wGT (σ:Tr AV):∀ (ps:List Pos) (p:Pos),evA (rst σ ps) (.t p)=if p ∈ ps then evA σ (.t p) else u
 | [],p=>by rw [if_neg (by simp)];rfl
 | q :: ps,p=>by
  show evA ((rst σ ps).set q (evA σ (.t q))) (.t p)=_
  rw [wJR,Tr.get_set]
  by_cases e:p=q
  ·subst e
   rw [if_pos rfl,if_pos (by simp)]
   rfl
  ·rw [if_neg e,<- wJR,wGT σ ps p]
   simp [e]
open Classical in
noncomputable def rsl (σ:Env) (ps:List Pos):Env:=fun d=>if ∃ p ∈ ps,p.nat - 1=d then σ d else undef
theorem wGU {μ:Mu} {σA:Tr AV} {σ:Env} {ps:List Pos} (h:∀ p ∈ ps,Rv μ (evA σA (.t p)) (σ (p.nat - 1))):EnvR μ (rst σA ps) (rsl σ ps):=by
 intro p
 rw [wGT]
 unfold rsl
 by_cases hp:p ∈ ps
 ·rw [if_pos hp,if_pos ⟨p,hp,rfl⟩]
  exact h p hp
 ·rw [if_neg hp,if_neg]
  ·exact wMK μ
  ·rintro ⟨q,hq,e⟩
   have h1:=q.nat_pos
   have h2:=p.nat_pos
   have:q=p:=Pos.nat_inj (by omega)
   exact hp (this ▸ hq)
section
variable {tb:Tr AF} {ex exY:Run} {C:Chk} {P:Program} {μ:Mu} {σA:Tr AV} {σ:Env} {h h':AH} {v:AV} {o:Oper} {a:AOp} {w:World}
theorem wKM (hr:opY a tb ex exY σA h=some (v,h')):opY a tb ex exY (rst σA (wCJ (wBK a))) h=some (v,h'):=by
 rw [<- hr]
 refine wMk a (fun x hx=>?_) h
 cases x with
 | t p=>rw [wGT,if_pos (wFJ hx)]
 | c v=>rfl
theorem wPl (hs:wBT o=false) (hb:Sub a o):execOp (ev (rsl σ (wCJ (wBK a)))) o=execOp (ev σ) o:=by
 refine execOp_congr o (wLR hs) fun y hy=>?_
 cases y with
 | tmp t =>
  show rsl σ (wCJ (wBK a)) t=σ t
  unfold rsl
  rw [if_pos (hb t hy)]
 | _=>rfl
theorem wHf (hs:wBT o=false) (hb:Sub a o) {v:Value} {w':World}:Runs P (rsl σ (wCJ (wBK a))) w o v w' ↔ Runs P σ w o v w':=by
 unfold Runs;rw [wPl hs hb]
theorem wGV (hs:wBT o=false) (hb:Sub a o) (hk:kdA a=3) (hc:wGO P a o.op=true) (hr:opY a tb ex exY σA h=some (v,h')) (hv:∀ p ∈ wCJ (wBK a),Rv μ (evA σA (.t p)) (σ (p.nat - 1))) :
  ∃ cv,Rv μ v cv/\∀ w,Runs P σ w o cv w:=by
 obtain ⟨_,h2⟩:=wGy (tb:=tb) (ex:=ex) (exY:=exY) hk hc _ _ _ _ (wKM hr)
 obtain ⟨cv,g1,g2⟩:=h2 μ _ (wGU hv)
 exact ⟨cv,g1,fun w=>(wHf hs hb).1 (g2 o w rfl)⟩
theorem wMu (hs:wBT o=false) (hb:Sub a o) (hk:kdA a=1 \/ kdA a=3) (hc:wGO P a o.op=true) (hr:opY a tb ex exY σA h=some (v,h')) (S:Sim C P μ h w) (hv:∀ p ∈ wCJ (wBK a),Rv μ (evA σA (.t p)) (σ (p.nat - 1))) :
  ∃ cv,Rv μ v cv/\Runs P σ w o cv w:=by
 obtain ⟨_,h2⟩:=wGz (C:=C) (tb:=tb) (ex:=ex) (exY:=exY) hk hc _ _ _ _ (wKM hr)
 obtain ⟨cv,g1,g2⟩:=h2 μ _ w (wGU hv) S
 exact ⟨cv,g1,(wHf hs hb).1 (g2 o rfl w (Keep.refl w _))⟩
theorem wKN {op:Op} (hk:wLN a=true) (hc:wGO P a op=true):OkA C P op (opY a tb ex exY):=by
 cases a <;> first
  | (simp [wLN] at hk;done)
  | exact a_new hc | exact a_box hc | exact a_mkm hc | exact a_mks hc | exact wQv hc
theorem wLD (hs:wBT o=false) (hb:Sub a o) (hk:wLN a=true) (hc:wGO P a o.op=true) (hr:opY a tb ex exY σA h=some (v,h')) (hv:∀ p ∈ wCJ (wBK a),Rv μ (evA σA (.t p)) (σ (p.nat - 1))) :
  ∃ (B:AB) (vf:Pos->AV) (ob:Obj) (val:Nat->Value),h'=h.push B/\v=vf h.nx/\wKv B/\(∀ w:World,Runs P σ w o (val w.heap.size) (w.alloc ob)) /\
   (∀ μ' (w:World) b,μ.Le μ'->w.heap[b]?=some ob->AbR C P μ' w ⟨b,0,g0⟩ B)/\∀ μ' p b,μ' p=some ⟨b,0,g0⟩->Rv μ' (vf p) (val b):=by
 obtain ⟨B,vf,e1,e2,_,e4,e5⟩:=wKN (C:=C) (tb:=tb) (ex:=ex) (exY:=exY) hk hc _ _ _ _ (wKM hr)
 obtain ⟨ob,val,g1,g2,g3⟩:=e5 μ _ (wGU hv) o rfl
 exact ⟨B,vf,ob,val,e1,e2,e4,fun w=>(wHf hs hb).1 (g1 w),g2,g3⟩
end
end Go.KX
namespace Go.KX
open Go.RowKit Go.KL
section
variable {tb:Tr AF} {ex exY:Run} {P:Program}
theorem wKO {s t:List AO} {a:AO} {σ0:Tr AV} {h0:AH} {r:Tr AV × AH} (hr:wAU tb ex exY (s ++ a :: t) σ0 h0=some r) :
  ∃ σ1 h1,wAU tb ex exY s σ0 h0=some (σ1,h1) /\
   ((wCO σ1 a.grd=true/\∃ v h2,opK a.kd a.op tb ex exY σ1 h1=some (v,h2)/\wAU tb ex exY t (wFZ a.dst σ1 v) h2=some r) \/
    (wCO σ1 a.grd=false/\wAU tb ex exY t (wFZ a.dst σ1 u) h1=some r)):=by
 obtain ⟨σ1,h1,e1,e2⟩:=wDG s (a :: t) σ0 h0 r hr
 refine ⟨σ1,h1,e1,?_⟩
 rw [wAr] at e2
 cases hw:wCO σ1 a.grd with
 | true =>
  rw [hw] at e2
  simp only at e2
  cases hq:opK a.kd a.op tb ex exY σ1 h1 with
  | none=>rw [hq] at e2;cases e2
  | some q =>
   rw [hq] at e2
   exact .inl ⟨rfl,q.1,q.2,rfl,e2⟩
 | false =>
  rw [hw] at e2
  exact .inr ⟨rfl,e2⟩
theorem wDa {l:List Oper} {S:Nat->Bool} (hdc:∀ k,k < l.length->S k=true->∀ j ∈ prI l k,S j=true) {x i:Nat} (hp:∀ j ∈ prI l i,S j=true) (h:wKH l x i):S x=true:=h S hdc hp
variable {N:Nat} {l:List Oper} {os s t:List AO} {a:AO} {σ0 σ1 σf:Tr AV} {h0 h1 hf:AH}
theorem wJa (Z:ZOK P N l os) (e:os=s ++ a :: t) {v:AV} {σ2:Tr AV} {h2:AH} (hr:wAU tb ex exY t (wFZ a.dst σ2 v) h2=some (σf,hf)) {p:Pos} (hp:a.dst=some p):evA σf (.t p)=v:=by
 rw [wCY t _ _ _ _ hr p fun b hb=>Z.wr s a t e p hp b (ng _ hb),wHe,if_pos hp]
theorem wRA (Z:ZOK P N l os) (e:os=s ++ a :: t) (hr:wAU tb ex exY (a :: t) σ1 h1=some (σf,hf)) {p:Pos} (hp:p ∈ wBr a):evA σf (.t p)=evA σ1 (.t p) :=
 wCY (a :: t) _ _ _ _ hr p fun b hb=>Z.rd s a t e p hp b hb
end
end Go.KX
namespace Go.KX
open Go.RowKit Go.KL
section
variable {tb:Tr AF} {ex exY:Run} {P:Program} {N:Nat} {l:List Oper} {os s t:List AO} {a:AO} {σ0 σ1 σA σf:Tr AV} {h0 h h1 hf:AH} {μ μS:Mu} {σ σ':Env} {w:World} {o:Oper}
theorem wCZ:∀ {s s' t t':List AO} {a:AO},(s ++ a :: t).Pairwise (fun a b=>a.ix ≠ b.ix)->s ++ a :: t=s' ++ a :: t'->s=s'/\t=t'
 | [],[],t,t',a,_,e=>by
  simp only [nM,nE,true_and] at e
  exact ⟨rfl,e⟩
 | [],b :: s',t,t',a,hp,e=>by
  simp only [nM,nJ,nE] at e
  obtain ⟨rfl,rfl⟩:=e
  rw [nM] at hp
  exact absurd rfl ((nc.1 hp).1 a (by simp))
 | b :: s,[],t,t',a,hp,e=>by
  simp only [nM,nJ,nE] at e
  obtain ⟨rfl,rfl⟩:=e
  rw [nJ] at hp
  exact absurd rfl ((nc.1 hp).1 b (by simp))
 | b :: s,b' :: s',t,t',a,hp,e=>by
  simp only [nJ,nE] at e
  rw [nJ] at hp
  obtain ⟨h1,h2⟩:=wCZ (nc.1 hp).2 e.2
  exact ⟨by rw [e.1,h1],h2⟩
theorem wDx (A:AOK P N l a o) (hs:Sub a.op o):∀ d ∈ wDj l o,∃ p ∈ wBr a,p.nat - 1=d:=by
 intro d hd
 unfold wDj at hd
 rcases nO.1 hd with hd | hd
 ·obtain ⟨y,h1,h2⟩:=kV.1 hd
  cases y with
  | tmp t =>
   simp only [nk] at h2
   subst h2
   obtain ⟨p,h3,h4⟩:=hs t (by simpa using h1)
   exact ⟨p,ni _ h3,h4⟩
  | _=>simp at h2
 ·rcases A.grd with ⟨_,h2⟩ | ⟨p,b,j,d',h1,h2,h3,h4⟩
  ·rw [h2] at hd;simp at hd
  ·rw [h2] at hd
   simp only [h3,Option.toList_some,kW] at hd
   subst hd
   exact ⟨p,ng _ (by rw [h1];simp),h4.symm⟩
structure Pend (tb:Tr AF) (ex exY:Run) (P:Program) (l:List Oper) (os:List AO) (σ0:Tr AV) (h0:AH) (σf:Tr AV) (w0:World) (μ μS:Mu) (σ:Env) (w:World) (a:AO) (o:Oper) (p:Pos):Prop where
 get:l[a.ix]?=some o
 dst:a.dst=some p
 fact:(wanted l σ o=false/\σ (p.nat - 1)=undef/\evA σf (.t p)=u) \/ (wanted l σ o=true /\
  (((a.kd=1 \/ a.kd=3 \/ 8 <= a.kd)/\Rv μ (evA σf (.t p)) (σ (p.nat - 1))) \/
   (a.kd=6/\Rv μS (evA σf (.t p)) (σ (p.nat - 1))/\∃ w1 w2,Runs P σ w1 o (σ (p.nat - 1)) w2) \/
   (a.kd=4/\Rv μS (evA σf (.t p)) (σ (p.nat - 1))/\∃ w1 ob s1 t1 σ1 h1,Runs P σ w1 o (σ (p.nat - 1)) (w1.alloc ob)/\w.heap[w1.heap.size]?=some ob/\w0.heap.size <= w1.heap.size /\
    os=s1 ++ a :: t1/\wAU tb ex exY s1 σ0 h0=some (σ1,h1)/\μS h1.nx=some ⟨w1.heap.size,0,g0⟩/\∀ q c,μS q=some c->c.1=w1.heap.size->q=h1.nx)))
theorem wMv {tb:Tr AF} {ex exY:Run} {k:Nat} {op:AOp} {σ:Tr AV} {h h':AH} {v:AV} (hk:k ≠ 2) (hr:opK k op tb ex exY σ h=some (v,h')):opY op tb ex exY σ h=some (v,h'):=by
 have hb:nD k 2=false:=by
  cases hb:nD k 2 with
  | false=>rfl
  | true=>exact absurd (nB hb) hk
 have:opK k op=opY op:=by unfold opK;rw [hb]
 rwa [this] at hr
theorem wLE {k:Nat} (h:8 <= k):¬ wBn k=true:=by
 unfold wBn
 simp only [nN,not_or]
 exact ⟨fun e=>by have:=nB e;omega,fun e=>by have:=nB e;omega⟩
theorem wMw {w:World} {a b:Obj} (h:w.alloc a=w.alloc b):a=b:=by
 have h1:=heap_alloc_new w a
 rw [h,heap_alloc_new] at h1
 exact (kL h1).symm
theorem wRB (Z:ZOK P N l os) (e:os=s ++ a :: t) {μ0:Mu} {w0:World} {fl:Nat} (hs:wAU tb ex exY s σ0 h0=some (σA,h)) (hr:wAU tb ex exY (a :: t) σA h=some (σf,hf))
  (E:Ext μ0 fl w0 μ w) (S:Sim (CC P) P μ h w) (hE:EnvR μ σA σ') (hle:μ.Le μS) {p:Pos} (Pd:Pend tb ex exY P l os σ0 h0 σf w0 μ μS σ w a o p) (hag:∀ q ∈ wBr a,σ (q.nat - 1)=σ' (q.nat - 1)) :
  ∃ σB hB μB,wAU tb ex exY (s ++ [a]) σ0 h0=some (σB,hB)/\wAU tb ex exY t σB hB=some (σf,hf)/\μ.Le μB/\μB.Le μS/\Ext μ0 fl w0 μB w/\Sim (CC P) P μB hB w/\hB.fl=h.fl/\EnvR μB σB (upd σ' (p.nat - 1) (σ (p.nat - 1)))/\(a.kd=4->wanted l σ o=true->μB h.nx ≠ none):=by
 have ha:a ∈ os:=by rw [e];simp
 obtain ⟨o',A⟩:=wCe (Z.ao a ha)
 have eo:o'=o:=by have:=A.get;rw [Pd.get] at this;exact (kL this).symm
 subst eo
 have hsel:=Z.sel a ha _ A.get
 have hsub:=Z.sub a ha _ A.get
 have hagr:Agr l o' σ σ':=fun d hd=>by
  obtain ⟨q,h1,rfl⟩:=wDx A hsub d hd
  exact hag q h1
 have hw:=wHc A hE
 have hwσ:wanted l σ o'=wCO σA a.grd:=(wBq hagr).trans hw
 obtain ⟨pd,dd,d1,d2,d3,_⟩:∃ p d,a.dst=some p/\o'.dst=some d/\d=p.nat - 1/\d < N:=by
  rcases A.dst with ⟨h1,_⟩ | h
  ·rw [Pd.dst] at h1;cases h1
  ·exact h
 have ep:pd=p:=by rw [Pd.dst] at d1;exact (kL d1).symm
 subst ep
 have eput:∀ cv,put' σ' o' cv=upd σ' (pd.nat - 1) cv:=fun cv=>by unfold put';rw [d2,d3]
 obtain ⟨σx,hx,q1,q2⟩:=wKO (s:=[]) (a:=a) (t:=t) (σ0:=σA) (h0:=h) (by rw [nM];exact hr)
 rw [wAn] at q1
 cases q1
 have split1:∀ {σB hB},(match wCO σA a.grd with | true=>(match opK a.kd a.op tb ex exY σA h with | some r=>some (wFZ a.dst σA r.1,r.2) | none=>none) | false=>some (wFZ a.dst σA u,h))=some (σB,hB)->wAU tb ex exY (s ++ [a]) σ0 h0=some (σB,hB):=by
  intro σB hB hq
  have app:∀ (l1 l2:List AO) (x:Tr AV) (y:AH) (x1:Tr AV) (y1:AH),wAU tb ex exY l1 x y=some (x1,y1)->wAU tb ex exY (l1 ++ l2) x y=wAU tb ex exY l2 x1 y1:=by
   intro l1
   induction l1 with
   | nil=>intro l2 x y x1 y1 h;rw [wAn] at h;cases h;rfl
   | cons b l1 ih =>
    intro l2 x y x1 y1 h
    rw [nJ,wAr]
    rw [wAr] at h
    cases hb:wCO x b.grd with
    | true =>
     rw [hb] at h
     simp only at h ⊢
     cases hq:opK b.kd b.op tb ex exY x y with
     | none=>rw [hq] at h;cases h
     | some r=>rw [hq] at h;exact ih l2 _ _ _ _ h
    | false =>
     rw [hb] at h
     exact ih l2 _ _ _ _ h
  rw [app s [a] _ _ _ _ hs,wAr]
  cases hb:wCO σA a.grd with
  | true =>
   rw [hb] at hq
   simp only at hq ⊢
   cases hk:opK a.kd a.op tb ex exY σA h with
   | none=>rw [hk] at hq;cases hq
   | some r =>
    rw [hk] at hq
    cases hq
    exact wAn _ _ _ _ _
  | false =>
   rw [hb] at hq
   cases hq
   rw [wAn]
 rcases q2 with ⟨g1,v,h2,g2,g3⟩ | ⟨g1,g3⟩
 ·have hv:evA σf (.t pd)=v:=wJa Z e g3 Pd.dst
  have hrun:=split1 (σB:=wFZ a.dst σA v) (hB:=h2) (by rw [g1];simp only;rw [g2])
  rcases Pd.fact with ⟨f1,_⟩ | ⟨_,⟨fk,f1⟩ | ⟨fk,f1,w1,w2,f2⟩ | ⟨fk,f1,w1,ob,s1,t1,σ1,h1,f2,f3,f4,f5,f6,f7,f8⟩⟩
  ·rw [hwσ,g1] at f1;cases f1
  ·have gY:opY a.op tb ex exY σA h=some (v,h2):=wMv (by omega) g2
   have hk:kdA a.op=1 \/ kdA a.op=3:=by
    rcases fk with fk | fk | fk
    ·exact A.k1 fk
    ·exact .inr (A.k3 fk)
    ·rcases Z.kd a ha with hh | ⟨_,hh | hh | hh | hh | hh⟩
     ·exact absurd hh (wLE fk)
     ·omega
     ·omega
     ·omega
     ·omega
     ·exact .inl hh.2
   obtain ⟨e1,_⟩:=wGz (C:=CC P) hk A.op _ _ _ _ gY
   subst e1
   rw [hv] at f1
   exact ⟨_,_,μ,hrun,g3,Mu.Le.refl μ,hle,E,S,rfl,by rw [<- eput];exact wDe A hE f1,fun h4 _=>by omega⟩
  ·have gY:opY a.op tb ex exY σA h=some (v,h2):=by rw [fk] at g2;exact g2
   have hk:kdA a.op=3:=by
    rcases Z.kd a ha with hh | ⟨_,hh | hh | hh | hh | hh⟩
    ·rw [fk] at hh;exact absurd hh (by decide)
    ·omega
    ·omega
    ·exact hh.2
    ·omega
    ·omega
   obtain ⟨e1,e2⟩:=wGy hk A.op _ _ _ _ gY
   subst e1
   obtain ⟨cv,c1,c2⟩:=e2 μ σ' hE
   have:=Runs.det ((Runs.agr hsel hagr).2 (c2 o' w1 rfl)) f2
   rw [<- eput,<- this.1]
   exact ⟨_,_,μ,hrun,g3,Mu.Le.refl μ,hle,E,S,rfl,wDe A hE c1,fun h4 _=>by omega⟩
  ·have gY:opY a.op tb ex exY σA h=some (v,h2):=by rw [fk] at g2;exact g2
   have hk:wLN a.op=true:=by
    rcases Z.kd a ha with hh | ⟨_,hh | hh | hh | hh | hh⟩
    ·rw [fk] at hh;exact absurd hh (by decide)
    ·omega
    ·omega
    ·omega
    ·exact hh.2
    ·omega
   obtain ⟨B,vf,e1,e2,_,_,e5⟩:=wKN (C:=CC P) hk A.op _ _ _ _ gY
   obtain ⟨ob',val,c1,c2,c3⟩:=e5 μ σ' hE o' rfl
   obtain ⟨k1,k2⟩:=Runs.det ((Runs.agr hsel hagr).2 (c1 w1)) f2
   have k2:=wMw k2
   subst k2
   have es:s1=s:=(wCZ (f5 ▸ Z.one) (f5.symm.trans e)).1
   subst es
   rw [hs] at f6
   cases f6
   have hn0:=S.nx h.nx (nG _)
   have hadd:=Mu.add_le (c:=(⟨w1.heap.size,0,g0⟩:Cl)) hn0
   have hlt:w1.heap.size < w.heap.size:=wAK f3
   subst e1 e2
   have hv':Rv (μ.add h.nx ⟨w1.heap.size,0,g0⟩) (vf h.nx) (σ (pd.nat - 1)):=by
    rw [<- k1]
    exact c3 _ _ _ (Mu.add_same _ _ _)
   refine ⟨_,_,μ.add h.nx ⟨w1.heap.size,0,g0⟩,hrun,g3,hadd,?_,⟨E.mono.trans hadd,?_,E.keep⟩,S.adopt hlt ?_ (c2 _ w _ hadd f3),rfl,?_,fun _ _=>by rw [Mu.add_same];simp⟩
   ·intro q d hq
    unfold Mu.add at hq
    split at hq
    ·rename_i eq
     subst eq
     cases hq
     exact f7
    ·exact hle q d hq
   ·intro q c hq
    unfold Mu.add at hq
    split at hq
    ·cases hq
     exact .inr (.inr f4)
    ·exact E.new q c hq
   ·intro q d hq hd
    have:=f8 q d (hle q d hq) hd
    subst this
    rw [hn0] at hq
    cases hq
   ·rw [<- eput]
    exact wDe A (hE.mono hadd) hv'
 ·have hrun:=split1 (σB:=wFZ a.dst σA u) (hB:=h) (by rw [g1])
  rcases Pd.fact with ⟨_,f2,_⟩ | ⟨f1,_⟩
  ·refine ⟨_,_,μ,hrun,g3,Mu.Le.refl μ,hle,E,S,rfl,?_,fun _ hw'=>by rw [hwσ,g1] at hw';cases hw'⟩
   rw [f2,<- eput]
   exact wDe A hE (wMK μ)
  ·rw [hwσ,g1] at f1;cases f1
structure JS (tb:Tr AF) (ex exY:Run) (P:Program) (l:List Oper) (os:List AO) (σ0:Tr AV) (h0:AH) (σf:Tr AV) (hf:AH) (μ0:Mu) (w0:World) (S:Nat->Bool) (σ:Env) (w:World) (s t:List AO) (σA:Tr AV) (h:AH) (σ':Env) (μ μS:Mu):Prop where
 e:os=s ++ t
 hs:wAU tb ex exY s σ0 h0=some (σA,h)
 hr:wAU tb ex exY t σA h=some (σf,hf)
 inS:∀ a ∈ s,S a.ix=true
 free:∀ a ∈ t,S a.ix=true->wBn a.kd=false
 E:Ext μ0 h0.fl.nat w0 μ w
 sim:Sim (CC P) P μ h w
 fl:h.fl=h0.fl
 env:EnvR μ σA σ'
 ag:∀ q:Pos,(∀ a ∈ t,S a.ix=true->a.dst ≠ some q)->σ (q.nat - 1)=σ' (q.nat - 1)
 le:μ.Le μS
 nm:∀ q c,μS q=some c->μ q=some c \/ ∃ a o s1 t1 σ1 h1,a ∈ t/\S a.ix=true/\l[a.ix]?=some o/\wanted l σ o=true/\a.kd=4/\os=s1 ++ a :: t1/\wAU tb ex exY s1 σ0 h0=some (σ1,h1)/\q=h1.nx
 pd:∀ a ∈ t,S a.ix=true->∃ o p,Pend tb ex exY P l os σ0 h0 σf w0 μ μS σ w a o p
theorem Pend.mono {μB:Mu} {w0:World} {p:Pos} (h:Pend tb ex exY P l os σ0 h0 σf w0 μ μS σ w a o p) (hm:μ.Le μB):Pend tb ex exY P l os σ0 h0 σf w0 μB μS σ w a o p:=by
 refine ⟨h.get,h.dst,?_⟩
 rcases h.fact with f | ⟨f,⟨f1,f2⟩ | f1 | f1⟩
 ·exact .inl f
 ·exact .inr ⟨f,.inl ⟨f1,f2.mono hm⟩⟩
 ·exact .inr ⟨f,.inr (.inl f1)⟩
 ·exact .inr ⟨f,.inr (.inr f1)⟩
theorem JS.catch1 (Z:ZOK P N l os) {μ0:Mu} {w0:World} {S:Nat->Bool} (J:JS tb ex exY P l os σ0 h0 σf hf μ0 w0 S σ w s (a :: t) σA h σ' μ μS) (ha:S a.ix=true) :
  ∃ σB hB σ'' μB,JS tb ex exY P l os σ0 h0 σf hf μ0 w0 S σ w (s ++ [a]) t σB hB σ'' μB μS:=by
 obtain ⟨o,p,Pd⟩:=J.pd a (by simp) ha
 have hag:∀ q ∈ wBr a,σ (q.nat - 1)=σ' (q.nat - 1):=fun q hq=>J.ag q fun b hb _=>Z.rd s a t J.e q hq b hb
 obtain ⟨σB,hB,μB,c1,c2,c3,c4,c5,c6,c7,c8,c9⟩:=wRB Z J.e J.hs J.hr J.E J.sim J.env J.le Pd hag
 have hne:∀ b ∈ t,b.ix ≠ a.ix:=fun b hb e=>by
  have:=Z.one
  rw [J.e] at this
  exact (nc.1 (List.pairwise_append.1 this).2.1).1 b hb e.symm
 refine ⟨σB,hB,_,μB,by rw [J.e];simp,c1,c2,fun b hb=>?_,fun b hb=>J.free b (by simp [hb]),c5,c6,c7.trans J.fl,c8,fun q hq=>?_,c4,fun q c hq=>?_,fun b hb hS=>?_⟩
 ·rcases nO.1 hb with hb | hb
  ·exact J.inS b hb
  ·rw [kW.1 hb];exact ha
 ·by_cases e:q=p
  ·subst e
   rw [wCc]
  ·rw [wDM _ _ (fun h=>e (Pos.nat_inj (by have:=q.nat_pos;have:=p.nat_pos;omega)))]
   refine J.ag q fun b hb hS=>?_
   rcases na.1 hb with rfl | hb
   ·rw [Pd.dst]
    intro h
    cases h
    exact e rfl
   ·exact hq b hb hS
 ·rcases J.nm q c hq with h1 | ⟨b,ob,s1,t1,σ1,h1,k1,k2,k3,k4,k5,k6,k7,k8⟩
  ·exact .inl (c3 _ _ h1)
  ·rcases na.1 k1 with rfl | k1
   ·left
    have hs1:s1=s:=(wCZ (k6 ▸ Z.one) (k6.symm.trans J.e)).1
    subst hs1
    rw [J.hs] at k7
    cases k7
    subst k8
    rw [Pd.get] at k3
    cases k3
    have:=c9 k5 k4
    cases hm:μB h.nx with
    | none=>exact absurd hm this
    | some c' =>
     have:=c4 _ _ hm
     rw [hq] at this
     exact this.symm
   ·exact .inr ⟨b,ob,s1,t1,σ1,h1,k1,k2,k3,k4,k5,k6,k7,k8⟩
 ·obtain ⟨o',p',h'⟩:=J.pd b (by simp [hb]) hS
  exact ⟨o',p',h'.mono c3⟩
end
end Go.KX
