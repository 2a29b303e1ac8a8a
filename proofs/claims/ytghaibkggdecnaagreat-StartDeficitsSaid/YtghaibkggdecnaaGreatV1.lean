import Derived.Test.YtghaibkggdecnaaGreatV0
import Derived.Lib.AppendZeros
set_option linter.all false
open Bool renaming and_eq_true->hH,or_eq_true->nM,false_eq_true->nP,not_eq_true'->nW,eq_false_iff->ny
open Nat renaming eq_of_beq_eq_true->nA,beq->nB,le_refl->nE,blt_eq->nG,le_of_ble_eq_true->nK,ble_eq->nO,blt->nR,lt_of_lt_of_le->nT,le_trans->nZ,le_of_mul_le_mul_right->nh,ble->nz,lt_or_ge->kA,le_mul_of_pos_right->kD,add_mul->kJ,mul_le_mul_right->kL
open List.cons renaming injEq->nD
open List renaming map_cons->nH,cons_append->nI,nil_append->nL,mem_append->nN,replicate->nQ,all_eq_true->nS,mem_cons->nU,getD_eq_getElem?_getD->nV,pairwise_cons->na,eq_nil_of_length_eq_zero->nb,mem_append_right->nc,mem_append_left->ng,getElem?_eq_getElem->ni,append_assoc->nl,getElem?_map->no,getElem?_eq_none->np,range->nq,length->nt,length_append->nv,getElem?_append_right->nw,map_nil->kB,map_eq_nil_iff->kO,getElem?_take->kP,toArray_range->kQ,mem_filterMap->kR,mem_singleton->kS,size_toArray->kU
open Array renaming ext'->nJ,range->nY,getD_eq_getD_getElem?->nf,getElem?_replicate->kC,replicate->kG,getElem?_toList->kK,toList_append->kM,size_append->kV,toList_map->kW
open Int renaming ofNat_eq_natCast->nX,toNat_natCast->nk,negSucc_eq->nr,ofNat->kE
open Option.some renaming injEq->nj,inj->kH
open Go.Value renaming int->nu
open Option renaming getD_none->kX,getD_some->kY,map_some->kZ
namespace Go.KX
open Go.RowKit Go.KL
structure Gh where
 N:Nat
 σ:Env
 t:List Nat
 ac:Code
 bc:Code
 rb:Nat
 fn:FuncId
def g0:Gh:=⟨0,fun _=>undef,[],.skip,.skip,0,0⟩
structure Cl where
 b:Nat
 c:Nat
 g:Gh
abbrev Mu:=Pos->Option Cl
mutual
def Rv (μ:Mu):AV->Value->Prop
 | .int k n,v=>v=.int k n
 | .bool b,v=>v=.bool b
 | .ptr b off,v=>∃ c,μ b=some c/\v=.pointer (some ⟨c.1,off,none⟩)
 | .pnil,v=>v=.pointer none
 | .sl b off n c,v=>∃ d,μ b=some d/\n <= c/\v=.slice (some ⟨d.1,off,none⟩) n c
 | .rw b eo co n,v=>∃ d,μ b=some d/\eo + n <= d.2/\v=.slice (some ⟨d.1,co,none⟩) n (d.2 - eo)
 | .rz b eo,v=>∃ d,μ b=some d/\∃ o,v=.slice (some ⟨d.1,o,none⟩) 0 (d.2 - eo)
 | .snil,v=>v=.slice none 0 0
 | .map b,v=>∃ c,μ b=some c/\v=.map (some c.1)
 | .mnil,v=>v=.map none
 | .fn f fi ca,v=>∃ fv cv,RvL μ fi fv/\RvL μ ca cv/\v=.func (.func (f.nat - 1)) fv.toArray cv.toArray
 | .yld b,v=>∃ c,μ b=some c/\v=.func (.yield c.1) #[] #[]
 | .fnil,v=>v=.nilFunc
 | .agg l,v=>∃ vs,RvL μ l vs/\v=.agg vs.toArray
 | .tup l,v=>∃ vs,RvL μ l vs/\v=.tuple vs.toArray
def RvL (μ:Mu):List AV->List Value->Prop
 | [],vs=>vs=[]
 | a :: l,vs=>∃ v ws,Rv μ a v/\RvL μ l ws/\vs=v :: ws
end
def Mu.Le (μ μ':Mu):Prop:=∀ p c,μ p=some c->μ' p=some c
theorem Mu.Le.refl (μ:Mu):μ.Le μ:=fun _ _ h=>h
theorem Mu.Le.trans {a b c:Mu} (h:a.Le b) (k:b.Le c):a.Le c:=fun p x hx=>k p x (h p x hx)
mutual
theorem Rv.mono {μ μ':Mu} (hm:μ.Le μ'):∀ {a:AV} {v:Value},Rv μ a v->Rv μ' a v
 | .int _ _,_,h=>h
 | .bool _,_,h=>h
 | .ptr _ _,_,⟨c,h1,h2⟩=>⟨c,hm _ _ h1,h2⟩
 | .pnil,_,h=>h
 | .sl _ _ _ _,_,⟨c,h1,h2⟩=>⟨c,hm _ _ h1,h2⟩
 | .rw _ _ _ _,_,⟨c,h1,h2⟩=>⟨c,hm _ _ h1,h2⟩
 | .rz _ _,_,⟨c,h1,h2⟩=>⟨c,hm _ _ h1,h2⟩
 | .snil,_,h=>h
 | .map _,_,⟨c,h1,h2⟩=>⟨c,hm _ _ h1,h2⟩
 | .mnil,_,h=>h
 | .fn _ _ _,_,⟨fv,cv,h1,h2,h3⟩=>⟨fv,cv,RvL.mono hm h1,RvL.mono hm h2,h3⟩
 | .yld _,_,⟨c,h1,h2⟩=>⟨c,hm _ _ h1,h2⟩
 | .fnil,_,h=>h
 | .agg _,_,⟨vs,h1,h2⟩=>⟨vs,RvL.mono hm h1,h2⟩
 | .tup _,_,⟨vs,h1,h2⟩=>⟨vs,RvL.mono hm h1,h2⟩
theorem RvL.mono {μ μ':Mu} (hm:μ.Le μ'):∀ {l:List AV} {vs:List Value},RvL μ l vs->RvL μ' l vs
 | [],_,h=>h
 | _ :: _,_,⟨v,ws,h1,h2,h3⟩=>⟨v,ws,Rv.mono hm h1,RvL.mono hm h2,h3⟩
end
theorem wFJ {μ:Mu}:RvL μ [] []:=rfl
theorem wBA {μ:Mu} {a:AV} {l:List AV} {v:Value} {vs:List Value} (h:Rv μ a v) (h':RvL μ l vs):RvL μ (a :: l) (v :: vs):=⟨v,vs,h,h',rfl⟩
theorem wBr {μ:Mu}:∀ {l:List AV} {vs:List Value},RvL μ l vs->vs.length=l.length
 | [],_,h=>by cases h;rfl
 | _ :: _,_,⟨_,_,_,h2,h3⟩=>by subst h3;simp [wBr h2]
theorem wCq {μ:Mu}:∀ {l k:List AV} {vs ws:List Value},RvL μ l vs->RvL μ k ws->RvL μ (l ++ k) (vs ++ ws)
 | [],_,_,_,h,h'=>by cases h;exact h'
 | _ :: _,_,_,_,⟨v,ws,h1,h2,h3⟩,h'=>by subst h3;exact wBA h1 (wCq h2 h')
theorem wDd {μ:Mu}:∀ {l:List AV} {vs:List Value},RvL μ l vs->∀ {i:Nat} {a:AV},l[i]?=some a->∃ v,vs[i]?=some v/\Rv μ a v
 | [],_,_,i,a,hi=>by simp at hi
 | b :: l,_,⟨v,ws,h1,h2,h3⟩,i,a,hi=>by
  subst h3
  cases i with
  | zero=>simp at hi;subst hi;exact ⟨v,rfl,h1⟩
  | succ i=>simpa using wDd h2 (i:=i) (by simpa using hi)
theorem wGU {μ:Mu}:∀ {l:List AV} {vs:List Value} (n:Nat),RvL μ l vs->RvL μ (l.drop n) (vs.drop n)
 | _,_,0,h=>h
 | [],_,n + 1,h=>by cases h;exact rfl
 | _ :: _,_,n + 1,⟨_,_,_,h2,h3⟩=>by subst h3;exact wGU n h2
theorem wGV {μ:Mu}:∀ {l:List AV} {vs:List Value} (n:Nat),RvL μ l vs->RvL μ (l.take n) (vs.take n)
 | _,_,0,_=>rfl
 | [],_,n + 1,h=>by cases h;exact rfl
 | _ :: _,_,n + 1,⟨_,_,h1,h2,h3⟩=>by subst h3;exact wBA h1 (wGV n h2)
theorem wFK {μ:Mu} {l:List AV} {vs:List Value} (h:RvL μ l vs):∀ n,RvL μ (rep n l) (nQ n vs).flatten
 | 0=>rfl
 | n + 1=>by rw [List.replicate_succ,List.flatten_cons];exact wCq h (wFK h n)
section
variable {α:Type}
theorem wEZ:∀ (l:List α) (n:Nat),nth l n=l[n]?
 | [],_=>rfl
 | _ :: _,0=>rfl
 | _ :: l,n + 1=>by show nth l n=_;rw [wEZ l n];simp
theorem wDJ:∀ (l:List α),len l=l.length
 | []=>rfl
 | _ :: l=>by show Nat.succ (len l)=_;rw [wDJ l];rfl
theorem wEN {a:α} {o:Option (List α)} {r:List α} (h:wHj a o=some r):∃ r',o=some r'/\r=a :: r':=by
 cases o with
 | none=>cases h
 | some r'=>cases h;exact ⟨r',rfl,rfl⟩
theorem wHz:∀ {l:List α} {n:Nat} {r:List α},tk l n=some r->r=l.take n/\n <= l.length
 | [],0,r,h=>by cases h;simp
 | [],n + 1,r,h=>by cases h
 | a :: l,0,r,h=>by cases h;simp
 | a :: l,n + 1,r,h=>by
  obtain ⟨r',h1,rfl⟩:=wEN (show wHj a (tk l n)=some r from h)
  obtain ⟨h2,h3⟩:=wHz h1
  simp [h2,h3]
theorem wIb:∀ {l:List α} {off n:Nat} {r:List α},sub l off n=some r->r=(l.drop off).take n/\off + n <= l.length
 | [],0,n,r,h=>by have:=wHz (l:=[]) (n:=n) h;simpa using this
 | [],off + 1,n,r,h=>by cases h
 | a :: l,0,n,r,h=>by have:=wHz (l:=a :: l) (n:=n) h;simpa using this
 | a :: l,off + 1,n,r,h=>by
  obtain ⟨h1,h2⟩:=wIb (show sub l off n=some r from h)
  exact ⟨by simpa using h1,by simp;omega⟩
theorem wIA:∀ {l vs r:List α},ov l vs=some r->vs.length <= l.length/\r=vs ++ l.drop vs.length
 | [],[],r,h=>by cases h;simp
 | [],v :: vs,r,h=>by cases h
 | a :: l,[],r,h=>by cases h;simp
 | a :: l,v :: vs,r,h=>by
  obtain ⟨r',h1,rfl⟩:=wEN (show wHj v (ov l vs)=some r from h)
  obtain ⟨h2,h3⟩:=wIA h1
  subst h3
  exact ⟨by simpa using h2,by simp⟩
theorem wHC:∀ {l:List α} {off:Nat} {vs r:List α},wNF l off vs=some r->off + vs.length <= l.length/\r=l.take off ++ vs ++ l.drop (off + vs.length)
 | [],0,vs,r,h=>by have:=wIA (l:=[]) h;simp at this;simp [this]
 | [],off + 1,vs,r,h=>by cases h
 | a :: l,0,vs,r,h=>by have:=wIA (l:=a :: l) h;simp at this;simp [this]
 | a :: l,off + 1,vs,r,h=>by
  obtain ⟨r',h1,rfl⟩:=wEN (show wHj a (wNF l off vs)=some r from h)
  obtain ⟨h2,h3⟩:=wHC h1
  subst h3
  refine ⟨by simp;omega,?_⟩
  rw [show off + 1 + vs.length=(off + vs.length) + 1 from by omega]
  simp
end
theorem wKY:∀ (vs l:List Value) (off:Nat),off + vs.length <= l.length->wDq l off vs=l.take off ++ vs ++ l.drop (off + vs.length)
 | [],l,off,_=>by simp [wDq]
 | v :: vs,l,off,h=>by
  simp only [List.length_cons] at h
  have hlt:off < l.length:=by omega
  rw [wDq,wKY vs (l.set off v) (off + 1) (by simp;omega)]
  have h1:(l.set off v).take (off + 1)=l.take off ++ [v]:=by
   rw [List.take_set,List.take_add_one,ni hlt]
   rw [List.set_append_right _ _ (by simp;omega)]
   simp [Nat.min_eq_left (Nat.le_of_lt hlt)]
  rw [h1,List.drop_set_of_lt (by omega)]
  rw [show off + 1 + vs.length=off + (v :: vs).length from by simp;omega]
  simp
theorem wGW {μ:Mu} {l vs r:List AV} {L V:List Value} {off:Nat} (h:wNF l off vs=some r) (hl:RvL μ l L) (hv:RvL μ vs V):off + V.length <= L.length/\RvL μ r (wDq L off V):=by
 obtain ⟨h1,rfl⟩:=wHC h
 have e1:=wBr hl
 have e2:=wBr hv
 have h2:off + V.length <= L.length:=by omega
 refine ⟨h2,?_⟩
 rw [wKY V L off h2,e2]
 exact wCq (wCq (wGV off hl) hv) (wGU _ hl)
theorem wDe {μ:Mu} {l r:List AV} {L:List Value} {off n:Nat} (h:sub l off n=some r) (hl:RvL μ l L):RvL μ r ((L.drop off).take n)/\off + n <= L.length:=by
 obtain ⟨rfl,h1⟩:=wIb h
 have e1:=wBr hl
 exact ⟨wGV n (wGU off hl),by omega⟩
theorem wOj {μ:Mu} {a:AV} {v:Value} (h:Rv μ a v) (h1:a.one=true):one v=true:=by
 cases a <;> simp only [Rv] at h <;> first | (cases h1;done) | (subst h;rfl) | (obtain ⟨_,_,_,_,_,rfl⟩:=h;rfl) | (obtain ⟨_,_,_,_,rfl⟩:=h;rfl) | (obtain ⟨_,_,_,rfl⟩:=h;rfl) | (obtain ⟨_,_,rfl⟩:=h;rfl)
theorem wCr {μ:Mu}:∀ {l:List AV} {vs:List Value},RvL μ l vs->wNG l=true->∀ v ∈ vs,one v=true
 | [],_,h,_=>by cases h;simp
 | a :: l,_,⟨v,ws,h1,h2,h3⟩,ho=>by
  subst h3
  have ho:(a.one && wNG l)=true:=ho
  rw [hH] at ho
  intro u hu
  rcases nU.1 hu with rfl | hu
  ·exact wOj h1 ho.1
  ·exact wCr h2 ho.2 u hu
theorem wEj {μ:Mu} {a:AV} {v:Value} (h:Rv μ a v):∃ vs,RvL μ a.cells vs/\v.cells=vs.toArray:=by
 cases a with
 | agg l=>obtain ⟨vs,h1,rfl⟩:=h;exact ⟨vs,h1,rfl⟩
 | tup l=>obtain ⟨vs,h1,rfl⟩:=h;exact ⟨[_],wBA ⟨vs,h1,rfl⟩ wFJ,rfl⟩
 | _ =>
  refine ⟨[v],wBA h wFJ,?_⟩
  simp only [Rv] at h
  first | (subst h;rfl) | (obtain ⟨_,_,_,_,_,rfl⟩:=h;rfl) | (obtain ⟨_,_,_,_,rfl⟩:=h;rfl) | (obtain ⟨_,_,_,rfl⟩:=h;rfl) | (obtain ⟨_,_,rfl⟩:=h;rfl)
end Go.KX
namespace Go.KX
noncomputable section
open Go.RowKit Go.KL
def EnvR (μ:Mu) (σA:Tr AV) (σ:Env):Prop:=∀ p:Pos,Rv μ (evA σA (.t p)) (σ (p.nat - 1))
theorem wIB (σA:Tr AV) (p:Pos):evA σA (.t p)=(σA.get p).getD u:=by
 show Option.rec (motive:=fun _=>AV) u (fun v=>v) (σA.get p)=_
 cases σA.get p <;> rfl
theorem EnvR.mono {μ μ':Mu} {σA:Tr AV} {σ:Env} (h:EnvR μ σA σ) (hm:μ.Le μ'):EnvR μ' σA σ:=fun p=>(h p).mono hm
theorem EnvR.put {μ:Mu} {σA:Tr AV} {σ:Env} (h:EnvR μ σA σ) {p:Pos} {a:AV} {v:Value} (hv:Rv μ a v):EnvR μ (σA.set p a) (upd σ (p.nat - 1) v):=by
 intro q
 rw [wIB,Tr.get_set]
 by_cases e:q=p
 ·subst e;rw [if_pos rfl,wBz];exact hv
 ·rw [if_neg e,wCg,<- wIB]
  ·exact h q
  ·intro e2
   have:=p.nat_pos;have:=q.nat_pos
   exact e (Pos.nat_inj (by omega))
theorem wKZ (μ:Mu):Rv μ u undef:=⟨[],rfl,rfl⟩
theorem wIc {μ:Mu}:∀ {args:List AV} {vs:List Value},RvL μ args vs->∀ {p:Pos} {t:Tr AV} {σ σ':Env},EnvR μ t σ->(∀ i,i < p.nat - 1->σ' i=σ i)->(∀ j v,vs[j]?=some v->σ' (p.nat - 1 + j)=v) ->
  (∀ i,p.nat - 1 + vs.length <= i->σ' i=σ i)->EnvR μ (wKQ args p t) σ'
 | [],_,h,p,t,σ,σ',hE,h1,_,h3=>by
  cases h
  intro q
  have:=hE q
  by_cases e:q.nat - 1 < p.nat - 1
  ·rw [h1 _ e];exact this
  ·rw [h3 _ (by simp;omega)];exact this
 | a :: l,_,⟨v,ws,h1,h2,h3⟩,p,t,σ,σ',hE,g1,g2,g3=>by
  subst h3
  have hp:=p.nat_pos
  refine wIc h2 (p:=p.succ) (hE.put (p:=p) h1) ?_ ?_ ?_
  ·intro i hi
   rw [Pos.nat_succ] at hi
   by_cases e:i=p.nat - 1
   ·subst e;rw [wBz];exact g2 0 v rfl
   ·rw [wCg _ _ e];exact g1 i (by omega)
  ·intro j x hx
   rw [Pos.nat_succ]
   have:=g2 (j + 1) x (by simpa using hx)
   rw [<- this];congr 1;omega
  ·intro i hi
   rw [Pos.nat_succ] at hi
   rw [wCg _ _ (by omega)]
   exact g3 i (by simp;omega)
theorem wNN {μ:Mu} {args:List AV} {vs:List Value} (h:RvL μ args vs):EnvR μ (wKQ args .H .e) (wMd vs):=by
 have h0:EnvR μ .e (fun _=>undef):=by intro p;rw [wIB,Tr.get_e];exact wKZ μ
 refine wIc h (p:=.H) h0 (fun i hi=>by simp [Pos.nat] at hi) (fun j v hv=>?_) (fun i hi=>?_)
 ·simp [wMd,Pos.nat,hv]
 ·simp only [Pos.nat] at hi
  simp [wMd,np (by omega:vs.length <= i)]
mutual
def okc:AV->Value->Bool
 | .int k n,.int k' n'=>keq k k' && zeq n n'
 | .bool b,.bool b'=>b == b'
 | .pnil,.pointer none=>true
 | .snil,.slice none 0 0=>true
 | .mnil,.map none=>true
 | .fnil,.nilFunc=>true
 | .agg l,.agg vs=>wLy l vs.toList
 | .tup l,.tuple vs=>wLy l vs.toList
 | _,_=>false
def wLy:List AV->List Value->Bool
 | [],[]=>true
 | a :: l,v :: vs=>okc a v && wLy l vs
 | _,_=>false
end
theorem wId:∀ {a b:Int},zeq a b=true ↔ a=b
 | .ofNat a,.ofNat b=>by simp [zeq];omega
 | .negSucc a,.negSucc b=>by simp [zeq]
 | .ofNat a,.negSucc b=>by simp [zeq]
 | .negSucc a,.ofNat b=>by simp [zeq]
theorem wCs (a b:Int):zeq a b=decide (a=b):=by
 by_cases h:a=b
 ·rw [wId.2 h];simp [h]
 ·have:zeq a b ≠ true:=fun e=>h (wId.1 e)
  simp [h,ny.2 this]
theorem wFL:∀ (a b:Int),zlt a b=decide (a < b)
 | .ofNat a,.ofNat b=>by
  simp only [zlt,nX,Int.ofNat_lt]
  by_cases h:a < b
  ·simp [h,nG]
  ·simp [h,ny,nG]
 | .negSucc a,.negSucc b=>by
  simp only [zlt,nr]
  by_cases h:b < a
  ·have h2:-((a:Int) + 1) < -((b:Int) + 1):=by omega
   simp [h2,nG];exact h
  ·have h2:¬ -((a:Int) + 1) < -((b:Int) + 1):=by omega
   simp [h2,ny,nG];omega
 | .ofNat a,.negSucc b=>by
  simp only [zlt,nr,nX]
  have h2:¬ (a:Int) < -((b:Int) + 1):=by omega
  simp [h2]
 | .negSucc a,.ofNat b=>by
  simp only [zlt,nr,nX]
  have h2:-((a:Int) + 1) < (b:Int):=by omega
  simp [h2]
theorem wKa (a b:Int):zle a b=decide (a <= b):=by
 rw [zle,wFL]
 by_cases h:a <= b
 ·simp [h,Int.not_lt.2 h]
 ·simp [h,Int.not_le.1 h]
theorem wBE {a b:IntKind} (h:keq a b=true):a=b:=by cases a <;> cases b <;> first | rfl | cases h
mutual
theorem wKb (μ:Mu):∀ {a:AV} {v:Value},okc a v=true->Rv μ a v
 | .int k n,v,h=>by
  cases v <;> simp only [okc,hH,nP] at h
  rw [wBE h.1,wId.1 h.2];rfl
 | .bool b,v,h=>by
  cases v <;> simp only [okc,beq_iff_eq,nP] at h
  subst h;rfl
 | .pnil,v,h=>by
  unfold okc at h
  split at h <;> first | rfl | (exfalso;simp_all;done) | simp_all [Rv]
 | .snil,v,h=>by
  unfold okc at h
  split at h <;> first | rfl | (exfalso;simp_all;done) | simp_all [Rv]
 | .mnil,v,h=>by
  unfold okc at h
  split at h <;> first | rfl | (exfalso;simp_all;done) | simp_all [Rv]
 | .fnil,v,h=>by
  cases v <;> simp only [okc,nP] at h
  rfl
 | .agg l,v,h=>by
  cases v <;> simp only [okc,nP] at h
  exact ⟨_,wEO μ h,by simp⟩
 | .tup l,v,h=>by
  cases v <;> simp only [okc,nP] at h
  exact ⟨_,wEO μ h,by simp⟩
 | .ptr _ _,v,h=>by simp [okc] at h
 | .sl _ _ _ _,v,h=>by simp [okc] at h
 | .rw _ _ _ _,v,h=>by simp [okc] at h
 | .rz _ _,v,h=>by simp [okc] at h
 | .map _,v,h=>by simp [okc] at h
 | .fn _ _ _,v,h=>by simp [okc] at h
 | .yld _,v,h=>by simp [okc] at h
theorem wEO (μ:Mu):∀ {l:List AV} {vs:List Value},wLy l vs=true->RvL μ l vs
 | [],[],_=>rfl
 | a :: l,v :: vs,h=>by
  simp only [wLy,hH] at h
  exact wBA (wKb μ h.1) (wEO μ h.2)
 | [],_ :: _,h=>by simp [wLy] at h
 | _ :: _,[],h=>by simp [wLy] at h
end
def wBR:AOd->Operand->Bool
 | .t p,.tmp t=>nB p.nat (t + 1)
 | .c a,.const v=>okc a v
 | .c (.fn f [] []),.func g=>nB f.nat (g + 1)
 | _,_=>false
def wHD:List AOd->List Operand->Bool
 | [],[]=>true
 | x :: l,y :: k=>wBR x y && wHD l k
 | _,_=>false
theorem wAJ {μ:Mu} {σA:Tr AV} {σ:Env} {x:AOd} {y:Operand} (h:wBR x y=true) (hE:EnvR μ σA σ):Rv μ (evA σA x) (ev σ y):=by
 unfold wBR at h
 split at h
 ·rename_i p t
  have:=nA h
  have h2:=hE p
  rw [this] at h2
  exact h2
 ·exact wKb μ h
 ·rename_i f g
  have:=nA h
  exact ⟨[],[],rfl,rfl,by show Value.func (.func g) #[] #[]=_;rw [this];rfl⟩
 ·cases h
theorem wEk {μ:Mu} {σA:Tr AV} {σ:Env}:∀ {l:List AOd} {k:List Operand},wHD l k=true->EnvR μ σA σ->RvL μ (evs σA l) (k.map (ev σ))
 | [],[],_,_=>rfl
 | x :: l,y :: k,h,hE=>by
  simp only [wHD,hH] at h
  exact wBA (wAJ h.1 hE) (wEk h.2 hE)
 | [],_ :: _,h,_=>by simp [wHD] at h
 | _ :: _,[],h,_=>by simp [wHD] at h
def MR {K:Type} (μ:Mu) (l:List (K × AV)) (t:List (K × Value)):Prop:=l.map (·.1)=t.map (·.1)/\RvL μ (l.map (·.2)) (t.map (·.2))
def mk2 (k:IntKind) (x:Int × Int):Value:=.agg #[.int k x.1,.int k x.2]
def exC:Ex->Exit
 | .nrm=>.normal
 | .exit i=>.exit i
 | .ret=>.ret
def lsC:LS->LoopState × Option Code
 | .ready=>(.ready,none)
 | .busy=>(.busy,none)
 | .done .ret=>(.done,some .ret)
 | .done (.exit i)=>(.done,some (.exit i))
 | .done .nrm=>(.ready,none)
abbrev Chk:=AC->Code->Nat->Prop
structure wJO (C:Chk) (μ:Mu) (w:World) (c:Cl) (σA:Tr AV) (t:List Pos) (asg body:AC) (s:LS):Prop where
 at_:LoopAt w c.1 c.g.N c.g.σ c.g.t c.g.ac c.g.bc c.g.rb c.g.fn (lsC s).1 (lsC s).2
 env:EnvR μ σA c.g.σ
 ht:t.map Pos.nat=c.g.t.map (· + 1)
 tN:∀ x ∈ c.g.t,x < c.g.N
 asg:C asg c.g.ac c.g.N
 body:C body c.g.bc c.g.N
def AbR (C:Chk) (P:Program) (μ:Mu) (w:World) (c:Cl):AB->Prop
 | .cells T l=>∃ vs,RvL μ l vs/\Blk w c.1 T vs
 | .row T sz l=>∃ vs,RvL μ l vs/\RowAt w (some ⟨c.1,0,none⟩) c.2 T sz vs
 | .map0=>∃ ck,w.heap[c.1]?=some (.map #[] ck)
 | .mapI k l=>∃ es ck t,w.heap[c.1]?=some (.map es ck)/\MpR es (fun n:Int=>nu k n) id t/\MR μ l t
 | .map2 k l=>∃ es ck t,w.heap[c.1]?=some (.map es ck)/\MpR es (mk2 k) id t/\MR μ l t
 | .loop σA t asg body s=>wJO C μ w c σA t asg body s
 | .dead=>True
def wJP:AB->Prop
 | .dead=>False
 | _=>True
variable {C:Chk} {P:Program} {μ μ' μ'':Mu} {w w' w'':World} {h h' h'':AH}
theorem MR.mono {K:Type} {l:List (K × AV)} {t:List (K × Value)} (h:MR μ l t) (hm:μ.Le μ'):MR μ' l t:=⟨h.1,h.2.mono hm⟩
theorem AbR.mono {c:Cl} {B:AB} (h:AbR C P μ w c B) (hm:μ.Le μ'):AbR C P μ' w c B:=by
 cases B with
 | cells T l=>obtain ⟨vs,h1,h2⟩:=h;exact ⟨vs,h1.mono hm,h2⟩
 | row T sz l=>obtain ⟨vs,h1,h2⟩:=h;exact ⟨vs,h1.mono hm,h2⟩
 | map0=>exact h
 | mapI k l=>obtain ⟨es,ck,t,h1,h2,h3⟩:=h;exact ⟨es,ck,t,h1,h2,h3.mono hm⟩
 | map2 k l=>obtain ⟨es,ck,t,h1,h2,h3⟩:=h;exact ⟨es,ck,t,h1,h2,h3.mono hm⟩
 | loop σA t asg body s=>exact ⟨h.at_,h.env.mono hm,h.ht,h.tN,h.asg,h.body⟩
 | dead=>trivial
theorem AbR.keep {c:Cl} {B:AB} {X:Nat->Prop} (h:AbR C P μ w c B) (k:Keep w w' X) (hx:¬ X c.1):AbR C P μ w' c B:=by
 cases B with
 | cells T l=>obtain ⟨vs,h1,h2⟩:=h;exact ⟨vs,h1,h2.keep k hx⟩
 | row T sz l =>
  obtain ⟨vs,h1,h2⟩:=h
  refine ⟨vs,h1,?_⟩
  obtain ⟨cur,h3,h4⟩:=RowAt.cells h2
  exact .inr ⟨c.1,cur,rfl,(k.block _ (wAS h3) hx).trans h3,h4⟩
 | map0=>obtain ⟨ck,h1⟩:=h;exact ⟨ck,(k.block _ (wAS h1) hx).trans h1⟩
 | mapI _ l=>obtain ⟨es,ck,t,h1,h2⟩:=h;exact ⟨es,ck,t,(k.block _ (wAS h1) hx).trans h1,h2⟩
 | map2 _ l=>obtain ⟨es,ck,t,h1,h2⟩:=h;exact ⟨es,ck,t,(k.block _ (wAS h1) hx).trans h1,h2⟩
 | loop σA t asg body s=>exact ⟨h.at_.keep k hx,h.env,h.ht,h.tN,h.asg,h.body⟩
 | dead=>trivial
def img (μ:Mu) (fl:Nat) (c:Nat):Prop:=∃ p d,μ p=some d/\d.1=c/\fl <= p.nat
structure Ext (μ:Mu) (fl:Nat) (w:World) (μ':Mu) (w':World):Prop where
 mono:μ.Le μ'
 new:∀ p c,μ' p=some c->μ p=some c \/ img μ fl c.1 \/ w.heap.size <= c.1
 keep:Keep w w' (img μ fl)
theorem Ext.refl (μ:Mu) (fl:Nat) (w:World):Ext μ fl w μ w:=⟨Mu.Le.refl μ,fun _ _ h=>.inl h,Keep.refl w _⟩
theorem Ext.img {fl:Nat} {c:Nat} (E:Ext μ fl w μ' w') (hi:img μ' fl c):KX.img μ fl c \/ w.heap.size <= c:=by
 obtain ⟨p,d,h1,rfl,h2⟩:=hi
 rcases E.new p _ h1 with h3 | h3 | h3
 ·exact .inl ⟨p,d,h3,rfl,h2⟩
 ·exact .inl h3
 ·exact .inr h3
theorem Ext.trans {fl:Nat} (E:Ext μ fl w μ' w') (E':Ext μ' fl w' μ'' w''):Ext μ fl w μ'' w'':=by
 refine ⟨E.mono.trans E'.mono,fun p c hp=>?_,E.keep.step E'.keep fun i hi hm=>?_⟩
 ·rcases E'.new p c hp with h1 | h1 | h1
  ·exact E.new p c h1
  ·exact .inr (E.img h1)
  ·exact .inr (.inr (nZ E.keep.size h1))
 ·rcases E.img hm with h1 | h1
  ·exact h1
  ·omega
structure Sim (C:Chk) (P:Program) (μ:Mu) (h:AH) (w:World):Prop where
 nx:∀ p,h.nx.nat <= p.nat->μ p=none
 lt:∀ p c,μ p=some c->c.1 < w.heap.size
 inj:∀ p q a b c d,h.m.get p=some a->h.m.get q=some b->wJP a->wJP b->μ p=some c->μ q=some d->c.1=d.1->p=q
 at_:∀ p b,h.m.get p=some b->∃ c,μ p=some c/\AbR C P μ w c b
theorem Sim.keep (S:Sim C P μ h w) (k:Keep w w' Non):Sim C P μ h w' :=
 ⟨S.nx,fun p c hp=>nT (S.lt p c hp) k.size,S.inj,fun p b hb=>let ⟨c,h1,h2⟩:=S.at_ p b hb;⟨c,h1,h2.keep k id⟩⟩
theorem Sim.floor (S:Sim C P μ h w) (f:Pos):Sim C P μ ⟨h.m,h.nx,f⟩ w:=⟨S.nx,S.lt,S.inj,S.at_⟩
theorem Sim.non (S:Sim C P μ h w) (E:Ext μ h.nx.nat w μ' w') (fl:Nat):Keep w w' Non/\Ext μ fl w μ' w':=by
 have hn:∀ c,¬ img μ h.nx.nat c:=fun c ⟨p,k,h1,_,h2⟩=>by rw [S.nx p h2] at h1;cases h1
 refine ⟨E.keep.weak fun i _ hi=>hn i hi,E.mono,fun p c hp=>?_,E.keep.weak fun i _ hi=>(hn i hi).elim⟩
 rcases E.new p c hp with h1 | h1 | h1
 ·exact .inl h1
 ·exact (hn _ h1).elim
 ·exact .inr (.inr h1)
theorem wGX {h h':AH} {p:Pos} {B:AB} (hp:h.put p B=some h'):h.fl.nat <= p.nat/\h'=⟨h.m.set p B,h.nx,h.fl⟩:=by
 unfold AH.put at hp
 split at hp
 ·cases hp
 ·rename_i hf
  cases hp
  refine ⟨?_,rfl⟩
  rcases kA p.nat h.fl.nat with hlt | hge
  ·rw [(Pos.ltb_iff p h.fl false).2 (.inl hlt)] at hf;cases hf
  ·exact hge
theorem Sim.put {p:Pos} {B B':AB} {c:Cl} (S:Sim C P μ h w) (hp:h.put p B'=some h') (hB:h.m.get p=some B) (hl:wJP B) (hc:μ p=some c) (K:Keep w w' (·=c.1)) (hB':AbR C P μ w' c B') :
  Sim C P μ h' w'/\Ext μ h.fl.nat w μ w'/\h'.fl=h.fl:=by
 obtain ⟨hf,rfl⟩:=wGX hp
 refine ⟨⟨S.nx,fun p c hp=>nT (S.lt p c hp) K.size,?_,?_⟩,⟨Mu.Le.refl μ,fun _ _ h=>.inl h,K.weak fun i _ e=>⟨p,c,hc,e.symm,hf⟩⟩,rfl⟩
 ·intro q r a b d e hq hr la lb hd he hde
  simp only [Tr.get_set] at hq hr
  split at hq <;> split at hr
  ·rename_i h1 h2;rw [h1,h2]
  ·rename_i h1 h2;exact (S.inj q r B b d e (h1 ▸ hB) hr hl lb hd he hde)
  ·rename_i h1 h2;exact (S.inj q r a B d e hq (h2 ▸ hB) la hl hd he hde)
  ·exact S.inj q r a b d e hq hr la lb hd he hde
 ·intro q b hq
  simp only [Tr.get_set] at hq
  split at hq
  ·rename_i h1;subst h1;cases hq;exact ⟨c,hc,hB'⟩
  ·rename_i h1
   obtain ⟨d,h2,h3⟩:=S.at_ q b hq
   refine ⟨d,h2,?_⟩
   by_cases lb:wJP b
   ·exact h3.keep K fun e=>h1 (S.inj q p b B d c hq hB lb hl h2 hc e)
   ·cases b <;> first | trivial | exact (lb trivial).elim
def Mu.add (μ:Mu) (p:Pos) (c:Cl):Mu:=fun q=>if q=p then some c else μ q
theorem Mu.add_le {p:Pos} {c:Cl} (hn:μ p=none):μ.Le (μ.add p c):=by
 intro q d hq
 unfold Mu.add
 by_cases e:q=p
 ·subst e;rw [hn] at hq;cases hq
 ·rw [if_neg e];exact hq
theorem Mu.add_same (μ:Mu) (p:Pos) (c:Cl):μ.add p c p=some c:=by simp [Mu.add]
theorem Sim.push {c:Cl} {B:AB} (S:Sim C P μ h w) (K:Keep w w' Non) (hc:w.heap.size <= c.1) (hlt:c.1 < w'.heap.size) (hB:AbR C P (μ.add h.nx c) w' c B) :
  Sim C P (μ.add h.nx c) (h.push B) w'/\Ext μ h.fl.nat w (μ.add h.nx c) w'/\(h.push B).fl=h.fl/\(μ.add h.nx c) h.nx=some c:=by
 have hn:=S.nx h.nx (nE _)
 have hle:=Mu.add_le (c:=c) hn
 refine ⟨⟨?_,?_,?_,?_⟩,⟨hle,?_,K.weak fun _ _ h=>h.elim⟩,rfl,Mu.add_same _ _ _⟩
 ·intro p hp
  have hp:h.nx.succ.nat <= p.nat:=hp
  rw [Pos.nat_succ] at hp
  unfold Mu.add
  rw [if_neg (fun e=>by subst e;omega)]
  exact S.nx p (by omega)
 ·intro p d hd
  unfold Mu.add at hd
  split at hd
  ·cases hd;exact hlt
  ·exact nT (S.lt p d hd) K.size
 ·intro p q a b d e hp hq la lb hd he hde
  simp only [AH.push,Tr.get_set] at hp hq
  unfold Mu.add at hd he
  split at hd <;> split at he
  ·rename_i h1 h2;rw [h1,h2]
  ·cases hd;have:=S.lt _ _ he;omega
  ·cases he;have:=S.lt _ _ hd;omega
  ·rename_i h1 h2
   rw [if_neg h1] at hp
   rw [if_neg h2] at hq
   exact S.inj p q a b d e hp hq la lb hd he hde
 ·intro p b hb
  simp only [AH.push,Tr.get_set] at hb
  split at hb
  ·rename_i h1;subst h1;cases hb;exact ⟨c,Mu.add_same _ _ _,hB⟩
  ·obtain ⟨d,h2,h3⟩:=S.at_ p b hb
   exact ⟨d,hle _ _ h2,(h3.mono hle).keep K id⟩
 ·intro p d hd
  unfold Mu.add at hd
  split at hd
  ·cases hd;exact .inr (.inr hc)
  ·exact .inl hd
theorem Sim.move {p:Pos} {B B':AB} {c d:Cl} (S:Sim C P μ h w) (hp:h.put p .dead=some h') (hB:h.m.get p=some B) (hl:wJP B) (hc:μ p=some c) (K:Keep w w' (·=c.1)) (hd:d.1=c.1 \/ w.heap.size <= d.1) (hlt:d.1 < w'.heap.size)
  (hB':AbR C P (μ.add h.nx d) w' d B'):Sim C P (μ.add h.nx d) (h'.push B') w'/\Ext μ h.fl.nat w (μ.add h.nx d) w'/\(h'.push B').fl=h.fl/\(μ.add h.nx d) h.nx=some d:=by
 obtain ⟨hf,rfl⟩:=wGX hp
 have hn:=S.nx h.nx (nE _)
 have hle:=Mu.add_le (c:=d) hn
 have hpn:p ≠ h.nx:=fun e=>by rw [e,hn] at hc;cases hc
 refine ⟨⟨?_,?_,?_,?_⟩,⟨hle,?_,K.weak fun i _ e=>⟨p,c,hc,e.symm,hf⟩⟩,rfl,Mu.add_same _ _ _⟩
 ·intro q hq
  have hq:h.nx.succ.nat <= q.nat:=hq
  rw [Pos.nat_succ] at hq
  unfold Mu.add
  rw [if_neg (fun e=>by subst e;omega)]
  exact S.nx q (by omega)
 ·intro q e he
  unfold Mu.add at he
  split at he
  ·cases he;exact hlt
  ·exact nT (S.lt q e he) K.size
 ·have key:∀ q b e,q ≠ h.nx->((h.m.set p .dead).set h.nx B').get q=some b->wJP b->(μ.add h.nx d) q=some e->e.1 ≠ d.1:=by
   intro q b e hq hb lb he hed
   simp only [Tr.get_set,if_neg hq] at hb
   unfold Mu.add at he
   rw [if_neg hq] at he
   split at hb
   ·cases hb;exact lb
   ·rename_i hqp
    rcases hd with h1 | h1
    ·exact hqp (S.inj q p b B e c hb hB lb hl he hc (hed.trans h1))
    ·have:=S.lt _ _ he;omega
  intro q r a b e f hq hr la lb he hf hef
  by_cases e1:q=h.nx <;> by_cases e2:r=h.nx
  ·rw [e1,e2]
  ·subst e1;rw [Mu.add_same] at he;cases he;exact absurd hef.symm (key r b f e2 hr lb hf)
  ·subst e2;rw [Mu.add_same] at hf;cases hf;exact absurd hef (key q a e e1 hq la he)
  ·simp only [AH.push,Tr.get_set,if_neg e1,if_neg e2] at hq hr
   unfold Mu.add at he hf
   rw [if_neg e1] at he
   rw [if_neg e2] at hf
   split at hq
   ·cases hq;exact la.elim
   ·split at hr
    ·cases hr;exact lb.elim
    ·exact S.inj q r a b e f hq hr la lb he hf hef
 ·intro q b hb
  simp only [AH.push,Tr.get_set] at hb
  split at hb
  ·rename_i h1;subst h1;cases hb;exact ⟨d,Mu.add_same _ _ _,hB'⟩
  ·split at hb
   ·rename_i h1 h2;subst h2;cases hb;exact ⟨c,hle _ _ hc,trivial⟩
   ·rename_i h1 h2
    obtain ⟨e,h3,h4⟩:=S.at_ q b hb
    refine ⟨e,hle _ _ h3,?_⟩
    by_cases lb:wJP b
    ·exact (h4.mono hle).keep K fun e'=>h2 (S.inj q p b B e c hb hB lb hl h3 hc e')
    ·cases b <;> first | trivial | exact (lb trivial).elim
 ·intro q e he
  unfold Mu.add at he
  split at he
  ·cases he
   rcases hd with h1 | h1
   ·exact .inr (.inl ⟨p,c,hc,h1.symm,hf⟩)
   ·exact .inr (.inr h1)
  ·exact .inl he
end
end Go.KX
namespace Go.KX
noncomputable section
open Go.RowKit Go.KL
def aggD:TypeDesc->Bool
 | .struct _ | .array _ _=>true
 | _=>false
def wDA (P:Program) (t:TypeId) (f:TypeDesc->Bool):Bool:=match P.underlying t with
 | some d=>f d
 | none=>false
def szT (P:Program) (t n:Nat):Bool:=match P.info? t with
 | some i=>nB i.size n
 | none=>false
def byT (P:Program) (t n:Nat):Bool:=match P.info? t with
 | some i=>nB i.bytes n
 | none=>false
def zT (P:Program) (t:TypeId) (z:List AV):Bool:=match P.info? t with
 | some i=>match i.zero with
  | some v=>wLy z v.cells.toList
  | none=>false
 | none=>false
section
variable {C:Chk} {P:Program} {μ μ':Mu} {w w':World} {h h':AH} {σ:Env} {σA:Tr AV} {t e:TypeId} {o:Oper}
theorem wAb {f:TypeDesc->Bool} (hc:wDA P t f=true):∃ d,P.underlying t=some d/\f d=true:=by
 unfold wDA at hc
 split at hc
 ·exact ⟨_,by assumption,hc⟩
 ·cases hc
theorem wAe {d:TypeDesc} (hu:P.underlying t=some d) (w:World):(underlying t).run P w=.ok d w:=run_underlying hu w
theorem wCV {n:Nat} (hc:szT P t n=true) (w:World):(sizeOf t).run P w=.ok n w:=by
 unfold szT at hc
 split at hc
 ·rename_i i hi
  rw [<- nA hc]
  simp [sizeOf,typeInfo,hi]
 ·cases hc
theorem wEl {n:Nat} (hc:szT P t n=true):∃ i,P.info? t=some i/\i.size=n:=by
 unfold szT at hc
 split at hc
 ·rename_i i hi;exact ⟨i,hi,nA hc⟩
 ·cases hc
theorem wEm {n:Nat} (hc:byT P t n=true):∃ i,P.info? t=some i/\i.bytes=n:=by
 unfold byT at hc
 split at hc
 ·rename_i i hi;exact ⟨i,hi,nA hc⟩
 ·cases hc
theorem wDf {z:List AV} (hc:zT P t z=true):∃ i v,P.info? t=some i/\i.zero=some v/\∀ μ,RvL μ z v.cells.toList:=by
 unfold zT at hc
 split at hc
 ·rename_i i hi
  split at hc
  ·rename_i v hv;exact ⟨i,v,hi,hv,fun μ=>wEO μ hc⟩
  ·cases hc
 ·cases hc
theorem wCW {i:TypeInfo} {z:Value} (hi:P.info? t=some i) (hz:i.zero=some z) (w:World):(zeroValue t).run P w=.ok z w:=by
 simp [zeroValue,typeInfo,hi,hz]
theorem wFM {d:TypeDesc} (hu:P.underlying t=some d) (w:World):(isAgg t).run P w=.ok (aggD d) w:=by
 simp only [isAgg,Sem.run_bind,wAe hu,Result.andThen_ok]
 cases d <;> rfl
def wLz (P:Program) (t:TypeId) (b:Bool):Bool:=wDA P t fun d=>aggD d == b
theorem wDK {b:Bool} (hc:wLz P t b=true) (w:World):(isAgg t).run P w=.ok b w:=by
 obtain ⟨d,h1,h2⟩:=wAb hc
 rw [wFM h1,eq_of_beq h2]
def OkP (P:Program) (op:Op) (f:Tr AV->AH->Option (AV × AH)):Prop :=
 ∀ σA h v h',f σA h=some (v,h')->h'=h/\∀ μ σ,EnvR μ σA σ->∃ cv,Rv μ v cv/\∀ (o:Oper) (w:World),o.op=op->Runs P σ w o cv w
def c_mv (x:AOd):Op->Bool
 | .move y | .assign y=>wBR x y
 | _=>false
theorem p_mv {x:AOd} {op:Op} (hc:c_mv x op=true):OkP P op (wOR x):=by
 intro σA h v h' hr
 cases hr
 refine ⟨rfl,fun μ σ hE=>?_⟩
 unfold c_mv at hc
 split at hc
 ·exact ⟨_,wAJ hc hE,fun o w ho=>Runs.mv ho rfl⟩
 ·exact ⟨_,wAJ hc hE,fun o w ho=>Runs.as ho rfl⟩
 ·cases hc
def wKc (c x y:AOd):Op->Bool
 | .pick c' x' y'=>wBR c c' && (wBR x x' && wBR y y')
 | _=>false
theorem wOk {c x y:AOd} {op:Op} (hc:wKc c x y op=true):OkP P op (wFD c x y):=by
 intro σA h v h' hr
 unfold wKc at hc
 split at hc
 ·rename_i c' x' y'
  simp only [hH] at hc
  unfold wFD at hr
  split at hr
  ·rename_i hb;cases hr
   exact ⟨rfl,fun μ σ hE=>⟨_,wAJ hc.2.1 hE,fun o w ho=>Runs.pickT ho (by have:=wAJ hc.1 hE;rw [hb] at this;exact this) rfl⟩⟩
  ·rename_i hb;cases hr
   exact ⟨rfl,fun μ σ hE=>⟨_,wAJ hc.2.2 hE,fun o w ho=>Runs.pickF ho (by have:=wAJ hc.1 hE;rw [hb] at this;exact this) rfl⟩⟩
  ·cases hr
 ·cases hc
def wKd (x:AOd):Op->Bool
 | .nilCheck y=>wBR x y
 | _=>false
theorem wOl {x:AOd} {op:Op} (hc:wKd x op=true):OkP P op (wFE x):=by
 intro σA h v h' hr
 unfold wKd at hc
 split at hc
 ·unfold wFE at hr
  split at hr
  ·rename_i hb;cases hr
   refine ⟨rfl,fun μ σ hE=>?_⟩
   have:=wAJ hc hE;rw [hb] at this
   refine ⟨_,this,fun o w ho=>?_⟩
   obtain ⟨c,h1,h2⟩:=this
   rw [h2];exact Runs.nilp ho h2
  ·rename_i hb;cases hr
   refine ⟨rfl,fun μ σ hE=>?_⟩
   have:=wAJ hc hE;rw [hb] at this
   refine ⟨_,this,fun o w ho=>?_⟩
   obtain ⟨fv,cv,_,_,h2⟩:=this
   rw [h2];exact Runs.nilf ho h2
  ·rename_i hb;cases hr
   refine ⟨rfl,fun μ σ hE=>?_⟩
   have:=wAJ hc hE;rw [hb] at this
   refine ⟨_,this,fun o w ho=>?_⟩
   obtain ⟨c,h1,h2⟩:=this
   rw [h2];exact Runs.nily ho h2
  ·cases hr
 ·cases hc
theorem wGY {k:IntKind} {n:Int} (hk:inK k n=true):k.wrap n=n:=by
 unfold inK at hk
 split at hk <;> (try simp only [nG] at hk) <;> (try simp only [IntKind.wrap_i64,IntKind.wrap_u8,IntKind.wrap_u32,Go.IntKind.wrap_u64,nr,nX]) <;> first | omega | cases hk
theorem wBF {x:Option AV} {v:AV} (hr:okV h x=some (v,h')):x=some v/\h'=h:=by
 cases x <;> cases hr;exact ⟨rfl,rfl⟩
theorem wBB {α:Type} {b:Bool} {x:Option α} {v:α} (hr:ifO b x=some v):b=true/\x=some v:=by
 cases b
 ·cases hr
 ·exact ⟨rfl,hr⟩
theorem wFy {f:Int->Int->Int} {x y v:AV} (hr:wHk f x y=some v):∃ k a b,x=.int k a/\y=.int k b/\v=.int k (f a b)/\k.wrap (f a b)=f a b:=by
 unfold wHk at hr
 split at hr
 ·rename_i k a k' b
  split at hr
  ·rename_i hk
   split at hr
   ·rename_i hi;cases hr;exact ⟨k,a,b,rfl,by rw [wBE hk],rfl,wGY hi⟩
   ·cases hr
  ·cases hr
 ·cases hr
theorem wMA {f:Int->Int->Int} {x y v:AV} (hr:div f x y=some v):∃ k a b,x=.int k a/\y=.int k b/\v=.int k (f a b)/\k.wrap (f a b)=f a b/\b ≠ 0:=by
 unfold div at hr
 split at hr
 ·rename_i k a k' b
  split at hr
  ·rename_i hk
   split at hr
   ·cases hr
   ·rename_i hz
    split at hr
    ·rename_i hi;cases hr
     exact ⟨k,a,b,rfl,by rw [wBE hk],rfl,wGY hi,fun e=>by rw [wId.2 e] at hz;cases hz⟩
    ·cases hr
  ·cases hr
 ·cases hr
theorem wKe {f:Int->Int->Bool} {x y v:AV} (hr:wLu f x y=some v):∃ k a b,x=.int k a/\y=.int k b/\v=.bool (f a b):=by
 unfold wLu at hr
 split at hr
 ·rename_i k a k' b
  split at hr
  ·rename_i hk;cases hr;exact ⟨k,a,b,rfl,by rw [wBE hk],rfl⟩
  ·cases hr
 ·cases hr
def wBh (b:BinOp) (x y:AOd):Op->Bool
 | .binOp b' _ x' y' _=>(b' == b) && (wBR x x' && wBR y y')
 | _=>false
theorem wDz {b:BinOp} {x y:AOd} {op:Op} (hc:wBh b x y op=true):∃ t x' y' t',op=.binOp b t x' y' t'/\wBR x x'=true/\wBR y y'=true:=by
 unfold wBh at hc
 split at hc
 ·rename_i b' t x' y' t'
  simp only [hH,beq_iff_eq] at hc
  obtain ⟨rfl,h1,h2⟩:=hc
  exact ⟨t,x',y',t',rfl,h1,h2⟩
 ·cases hc
theorem wIC {b:BinOp} {f:Int->Int->Int} {x y:AOd} {op:Op} (hc:wBh b x y op=true)
  (hrun:∀ (o:Oper) (σ:Env) (w:World) t x' y' t' k m n,o.op=.binOp b t x' y' t'->ev σ x'=.int k m->ev σ y'=.int k n->Runs P σ w o (.int k (k.wrap (f m n))) w) :
  OkP P op (fun σ h=>okV h (wHk f (evA σ x) (evA σ y))):=by
 intro σA h v h' hr
 obtain ⟨t,x',y',t',rfl,h1,h2⟩:=wDz hc
 obtain ⟨hr2,rfl⟩:=wBF hr
 obtain ⟨k,m,n,e1,e2,rfl,e3⟩:=wFy hr2
 refine ⟨rfl,fun μ σ hE=>⟨_,rfl,fun o w ho=>?_⟩⟩
 have g1:=wAJ h1 hE;rw [e1] at g1
 have g2:=wAJ h2 hE;rw [e2] at g2
 have:=hrun o σ w t x' y' t' k m n ho g1 g2
 rwa [e3] at this
theorem p_add {x y:AOd} {op:Op} (hc:wBh .add x y op=true):OkP P op (wKB x y) :=
 wIC hc fun o σ w t x' y' t' k m n ho h1 h2=>⟨by rw [ho];rfl,by simp [execOp,ho,h1,h2,binOp,eqGuard,Op.intArith]⟩
theorem p_sub {x y:AOd} {op:Op} (hc:wBh .sub x y op=true):OkP P op (wKC x y) :=
 wIC hc fun o σ w t x' y' t' k m n ho h1 h2=>⟨by rw [ho];rfl,by simp [execOp,ho,h1,h2,binOp,eqGuard,Op.intArith];rfl⟩
theorem p_mul {x y:AOd} {op:Op} (hc:wBh .mul x y op=true):OkP P op (wKD x y) :=
 wIC hc fun o σ w t x' y' t' k m n ho h1 h2=>⟨by rw [ho];rfl,by simp [execOp,ho,h1,h2,binOp,eqGuard,Op.intArith]⟩
theorem wOm {b:BinOp} {f:Int->Int->Int} {x y:AOd} {op:Op} (hc:wBh b x y op=true)
  (hrun:∀ (o:Oper) (σ:Env) (w:World) t x' y' t' k m n,o.op=.binOp b t x' y' t'->ev σ x'=.int k m->ev σ y'=.int k n->n ≠ 0->k.wrap (f m n)=f m n->Runs P σ w o (.int k (f m n)) w) :
  OkP P op (fun σ h=>okV h (div f (evA σ x) (evA σ y))):=by
 intro σA h v h' hr
 obtain ⟨t,x',y',t',rfl,h1,h2⟩:=wDz hc
 obtain ⟨hr2,rfl⟩:=wBF hr
 obtain ⟨k,m,n,e1,e2,rfl,e3,e4⟩:=wMA hr2
 refine ⟨rfl,fun μ σ hE=>⟨_,rfl,fun o w ho=>?_⟩⟩
 have g1:=wAJ h1 hE;rw [e1] at g1
 have g2:=wAJ h2 hE;rw [e2] at g2
 exact hrun o σ w t x' y' t' k m n ho g1 g2 e4 e3
theorem p_quo {x y:AOd} {op:Op} (hc:wBh .quo x y op=true):OkP P op (wKE x y) :=
 wOm hc fun o σ w t x' y' t' k m n ho h1 h2 h3 h4=>⟨by rw [ho];rfl,by simp [execOp,ho,h1,h2,binOp,eqGuard,Op.intDiv,h3,h4]⟩
theorem p_rem {x y:AOd} {op:Op} (hc:wBh .rem x y op=true):OkP P op (wKF x y) :=
 wOm hc fun o σ w t x' y' t' k m n ho h1 h2 h3 h4=>⟨by rw [ho];rfl,by simp [execOp,ho,h1,h2,binOp,eqGuard,Op.intDiv,h3]⟩
theorem wJQ {b:BinOp} {f:Int->Int->Bool} {x y:AOd} {op:Op} (hc:wBh b x y op=true)
  (hrun:∀ (o:Oper) (σ:Env) (w:World) t x' y' t' k m n,o.op=.binOp b t x' y' t'->ev σ x'=.int k m->ev σ y'=.int k n->Runs P σ w o (.bool (f m n)) w) :
  OkP P op (fun σ h=>okV h (wLu f (evA σ x) (evA σ y))):=by
 intro σA h v h' hr
 obtain ⟨t,x',y',t',rfl,h1,h2⟩:=wDz hc
 obtain ⟨hr2,rfl⟩:=wBF hr
 obtain ⟨k,m,n,e1,e2,rfl⟩:=wKe hr2
 refine ⟨rfl,fun μ σ hE=>⟨_,rfl,fun o w ho=>?_⟩⟩
 have g1:=wAJ h1 hE;rw [e1] at g1
 have g2:=wAJ h2 hE;rw [e2] at g2
 exact hrun o σ w t x' y' t' k m n ho g1 g2
theorem p_lss {x y:AOd} {op:Op} (hc:wBh .lss x y op=true):OkP P op (wKG x y) :=
 wJQ hc fun o σ w t x' y' t' k m n ho h1 h2=>(Runs.lss ho h1 h2).to (by rw [wFL])
theorem p_leq {x y:AOd} {op:Op} (hc:wBh .leq x y op=true):OkP P op (wKH x y) :=
 wJQ hc fun o σ w t x' y' t' k m n ho h1 h2=>(Runs.leq ho h1 h2).to (by rw [wKa])
theorem p_gtr {x y:AOd} {op:Op} (hc:wBh .gtr x y op=true):OkP P op (wKI x y) :=
 wJQ hc fun o σ w t x' y' t' k m n ho h1 h2=>(Runs.gtr ho h1 h2).to (by rw [wFL])
theorem p_geq {x y:AOd} {op:Op} (hc:wBh .geq x y op=true):OkP P op (wKJ x y) :=
 wJQ hc fun o σ w t x' y' t' k m n ho h1 h2=>(Runs.geq ho h1 h2).to (by rw [wKa])
theorem p_eql {x y:AOd} {op:Op} (hc:wBh .eql x y op=true):OkP P op (wKK x y) :=
 wJQ hc fun o σ w t x' y' t' k m n ho h1 h2=>(Runs.eql ho h1 h2).to (by rw [wCs])
theorem p_neq {x y:AOd} {op:Op} (hc:wBh .neq x y op=true):OkP P op (wKL x y) :=
 wJQ hc fun o σ w t x' y' t' k m n ho h1 h2=>(Runs.neq ho h1 h2).to (by rw [wCs];simp)
def wNO (x:AOd):Op->Bool
 | .unOp .neg _ y=>wBR x y
 | _=>false
theorem p_neg {x:AOd} {op:Op} (hc:wNO x op=true):OkP P op (wKM x):=by
 intro σA h v h' hr
 unfold wNO at hc
 split at hc
 ·obtain ⟨hr2,rfl⟩:=wBF hr
  obtain ⟨k,m,n,e1,e2,rfl,e3⟩:=wFy hr2
  rw [e2] at e1
  simp only at e1
  cases e1
  refine ⟨rfl,fun μ σ hE=>⟨_,rfl,fun o w ho=>?_⟩⟩
  have g2:=wAJ hc hE;rw [e2] at g2
  refine ⟨by rw [ho];rfl,?_⟩
  have:ev σ _=.int k n:=g2
  simp only [execOp,ho,this,Op.unary,Op.intArith,Sem.run_bind,Sem.run_pure,Result.andThen_ok]
  rw [show (0:Int) - n=Int.sub 0 n from rfl,e3]
 ·cases hc
def wNP (x:AOd):Op->Bool
 | .unOp .not _ y=>wBR x y
 | _=>false
theorem p_not {x:AOd} {op:Op} (hc:wNP x op=true):OkP P op (wHo x):=by
 intro σA h v h' hr
 unfold wNP at hc
 split at hc
 ·unfold wHo at hr
  split at hr
  ·rename_i hb;cases hr
   refine ⟨rfl,fun μ σ hE=>⟨_,rfl,fun o w ho=>?_⟩⟩
   have g:=wAJ hc hE;rw [hb] at g
   exact Runs.not ho g
  ·cases hr
 ·cases hc
def wKf:TypeDesc->Option IntKind
 | .int k=>some k
 | _=>none
def wNQ (k:IntKind) (x:AOd):Op->Bool
 | .convert s t y=>wDA P s (fun d=>(wKf d).isSome) && (wDA P t (fun d=>match wKf d with | some k'=>keq k k' | none=>false) && wBR x y)
 | _=>false
theorem p_cvt {k:IntKind} {x:AOd} {op:Op} (hc:wNQ (P:=P) k x op=true):OkP P op (wHp k x):=by
 intro σA h v h' hr
 unfold wNQ at hc
 split at hc
 ·simp only [hH] at hc
  obtain ⟨c1,c2,c3⟩:=hc
  unfold wHp at hr
  split at hr
  ·rename_i k0 n hb
   obtain ⟨hi,hr⟩:=wBB hr
   cases hr
   refine ⟨rfl,fun μ σ hE=>⟨_,rfl,fun o w ho=>?_⟩⟩
   have g:=wAJ c3 hE;rw [hb] at g
   obtain ⟨d,d1,d2⟩:=wAb c1
   obtain ⟨e,e1,e2⟩:=wAb c2
   cases d <;> first | (cases d2;done) | skip
   cases e <;> first | (cases e2;done) | skip
   have:=wBE e2
   subst this
   have g':ev σ _=.int k0 n:=g
   exact ⟨by rw [ho];rfl,by simp [execOp,ho,g',convert,wAe d1,wAe e1,Conv.intToInt,wGY hi]⟩
  ·cases hr
 ·cases hc
def wNR (f:Pos) (fi ca:List AOd):Op->Bool
 | .makeFunc (.func g) fi' ca'=>nB f.nat (g + 1) && (wHD fi fi'.toList && wHD ca ca'.toList)
 | _=>false
theorem p_mkf {f:Pos} {fi ca:List AOd} {op:Op} (hc:wNR f fi ca op=true):OkP P op (wJN f fi ca):=by
 intro σA h v h' hr
 cases hr
 unfold wNR at hc
 split at hc
 ·simp only [hH] at hc
  obtain ⟨c1,c2,c3⟩:=hc
  refine ⟨rfl,fun μ σ hE=>⟨_,⟨_,_,wEk c2 hE,wEk c3 hE,rfl⟩,fun o w ho=>?_⟩⟩
  have e:=nA c1
  refine ⟨by rw [ho];rfl,?_⟩
  simp [execOp,ho,Instr.makeFunc,e,<- kW]
 ·cases hc
def wNS (i:Nat) (x:AOd):Op->Bool
 | .extract y j=>nB i j && wBR x y
 | _=>false
theorem p_ext {i:Nat} {x:AOd} {op:Op} (hc:wNS i x op=true):OkP P op (wHv i x):=by
 intro σA h v h' hr
 unfold wNS at hc
 split at hc
 ·simp only [hH] at hc
  have e:=nA hc.1
  subst e
  unfold wHv at hr
  split at hr
  ·rename_i l hb
   obtain ⟨hr2,rfl⟩:=wBF hr
   refine ⟨rfl,fun μ σ hE=>?_⟩
   have g:=wAJ hc.2 hE;rw [hb] at g
   obtain ⟨vs,g1,g2⟩:=g
   rw [wEZ] at hr2
   obtain ⟨cv,g3,g4⟩:=wDd g1 hr2
   exact ⟨cv,g4,fun o w ho=>Runs.ext ho g2 (by simpa using g3)⟩
  ·cases hr
 ·cases hc
end
end
end Go.KX
namespace Go.KX
noncomputable section
open Go.RowKit Go.KL
section
variable {C:Chk} {P:Program} {μ μ':Mu} {w w':World} {h h':AH} {σ:Env} {σA:Tr AV} {t e:TypeId} {o:Oper}
def wNT (P:Program) (ne:Bool) (x y:AOd):Op->Bool
 | .binOp b t x' y' _=>(match ne with | true=>b == .neq | false=>b == .eql) && (wDA P t (fun d=>match d with | .bool=>true | _=>false) && (wBR x x' && wBR y y'))
 | _=>false
theorem wFz (ne b:Bool):(ne != b)=(match ne with | true=>!b | false=>b):=by cases ne <;> cases b <;> rfl
theorem p_eqb {ne:Bool} {x y:AOd} {op:Op} (hc:wNT P ne x y op=true):OkP P op (wHl ne x y):=by
 intro σA h v h' hr
 unfold wNT at hc
 split at hc
 ·simp only [hH] at hc
  obtain ⟨c0,c1,c2,c3⟩:=hc
  unfold wHl at hr
  split at hr
  ·rename_i a b e1 e2
   cases hr
   refine ⟨rfl,fun μ σ hE=>⟨_,rfl,fun o w ho=>?_⟩⟩
   have g1:=wAJ c2 hE;rw [e1] at g1
   have g2:=wAJ c3 hE;rw [e2] at g2
   obtain ⟨d,d1,d2⟩:=wAb c1
   cases d <;> first | (cases d2;done) | skip
   cases ne
   ·have:=eq_of_beq c0;subst this
    exact (Runs.eqB ho g1 g2 (wAe d1)).to (by rw [wFz])
   ·have:=eq_of_beq c0;subst this
    exact (Runs.neB ho g1 g2 (wAe d1)).to (by rw [wFz])
  ·cases hr
 ·cases hc
def nilD (k:Nat) (d:TypeDesc):Bool:=match k,d with
 | 0,.pointer _=>true
 | 1,.slice _=>true
 | 2,.map _ _=>true
 | 3,.func _ _ _=>true
 | _,_=>false
theorem wKg {k:Nat} {d:TypeDesc} {a b:AV} {r:Bool} {x y:Value} (hu:P.underlying t=some d) (hd:nilD k d=true) (hr:wJJ k a b=some r) (hx:Rv μ a x) (hy:Rv μ b y) (w:World):(Op.equal t x y).run P w=.ok r w:=by
 unfold Op.equal Op.maxDepth
 rw [show (10000:Nat)=9999 + 1 from rfl,Op.equalIn]
 unfold wJJ at hr
 split at hr <;> cases hr <;> simp only [Rv] at hx hy <;> (cases d <;> first | (cases hd;done) | skip) <;>
  (try obtain ⟨_,_,_,_,_,rfl⟩:=hx) <;> (try obtain ⟨_,_,_,_,rfl⟩:=hx) <;> (try obtain ⟨_,_,_,rfl⟩:=hx) <;> (try obtain ⟨_,_,rfl⟩:=hx) <;> (try subst hx) <;>
  (try obtain ⟨_,_,_,_,_,rfl⟩:=hy) <;> (try obtain ⟨_,_,_,_,rfl⟩:=hy) <;> (try obtain ⟨_,_,_,rfl⟩:=hy) <;> (try obtain ⟨_,_,rfl⟩:=hy) <;> (try subst hy) <;>
  simp only [Sem.run_bind,wAe hu,Result.andThen_ok,Sem.run_pure] <;> rfl
theorem wID {k:Nat} {a b:AV} {r:Bool} {x y:Value} (hr:wJJ k a b=some r) (hx:Rv μ a x) (hy:Rv μ b y) (op:BinOp) (p q:Operand) (w:World):(eqGuard op t p q x y).run P w=.ok () w:=by
 unfold wJJ at hr
 split at hr <;> cases hr <;> simp only [Rv] at hx hy <;>
  (try obtain ⟨_,_,_,_,_,rfl⟩:=hx) <;> (try obtain ⟨_,_,_,_,rfl⟩:=hx) <;> (try obtain ⟨_,_,_,rfl⟩:=hx) <;> (try obtain ⟨_,_,rfl⟩:=hx) <;> (try subst hx) <;>
  (try obtain ⟨_,_,_,_,_,rfl⟩:=hy) <;> (try obtain ⟨_,_,_,_,rfl⟩:=hy) <;> (try obtain ⟨_,_,_,rfl⟩:=hy) <;> (try obtain ⟨_,_,rfl⟩:=hy) <;> (try subst hy) <;>
  simp only [eqGuard] <;> (cases op <;> rfl)
def wNU (P:Program) (k:Nat) (ne:Bool) (x y:AOd):Op->Bool
 | .binOp b t x' y' _=>(match ne with | true=>b == .neq | false=>b == .eql) && (wDA P t (nilD k) && (wBR x x' && wBR y y'))
 | _=>false
theorem p_eqn {k:Nat} {ne:Bool} {x y:AOd} {op:Op} (hc:wNU P k ne x y op=true):OkP P op (wHm k ne x y):=by
 intro σA h v h' hr
 unfold wNU at hc
 split at hc
 ·rename_i b t x' y' t'
  simp only [hH] at hc
  obtain ⟨c0,c1,c2,c3⟩:=hc
  unfold wHm at hr
  split at hr
  ·rename_i r e1
   cases hr
   refine ⟨rfl,fun μ σ hE=>⟨_,rfl,fun o w ho=>?_⟩⟩
   have g1:=wAJ c2 hE
   have g2:=wAJ c3 hE
   obtain ⟨d,d1,d2⟩:=wAb c1
   have g3:=wKg d1 d2 e1 g1 g2
   have g4:=fun op=>wID (P:=P) (t:=t) e1 g1 g2 op x' y'
   refine ⟨by rw [ho];rfl,?_⟩
   generalize hX:ev σ x'=X at g1 g3 g4
   generalize hY:ev σ y'=Y at g2 g3 g4
   have nint:(∀ k n,X ≠ .int k n)/\(∀ k n,X ≠ .float k n)/\(∀ k n m,X ≠ .complex k n m)/\(∀ s,X ≠ .string s):=by
    unfold wJJ at e1
    split at e1 <;> cases e1 <;> rename_i e2 e3 <;> rw [e2] at g1 <;> simp only [Rv] at g1 <;>
     (try obtain ⟨_,_,_,_,_,rfl⟩:=g1) <;> (try obtain ⟨_,_,_,_,rfl⟩:=g1) <;> (try obtain ⟨_,_,_,rfl⟩:=g1) <;> (try obtain ⟨_,_,rfl⟩:=g1) <;> (try subst g1) <;>
     exact ⟨by simp,by simp,by simp,by simp⟩
   obtain ⟨n1,n2,n3,n4⟩:=nint
   cases ne
   ·have:=eq_of_beq c0;subst this
    simp only [execOp,ho,Sem.run_bind,hX,hY,g4 .eql w,Result.andThen_ok]
    have:(binOp .eql t X Y).run P w=.ok (.bool r) w:=by
     cases X <;> first | exact absurd rfl (n1 _ _) | exact absurd rfl (n2 _ _) | exact absurd rfl (n3 _ _ _) | exact absurd rfl (n4 _) | (simp only [binOp,Sem.run_bind,g3 w,Result.andThen_ok];rfl)
    rw [this]
    simp [wFz]
   ·have:=eq_of_beq c0;subst this
    simp only [execOp,ho,Sem.run_bind,hX,hY,g4 .neq w,Result.andThen_ok]
    have:(binOp .neq t X Y).run P w=.ok (.bool (!r)) w:=by
     cases X <;> first | exact absurd rfl (n1 _ _) | exact absurd rfl (n2 _ _) | exact absurd rfl (n3 _ _ _) | exact absurd rfl (n4 _) | (simp only [binOp,Sem.run_bind,g3 w,Result.andThen_ok];rfl)
    rw [this]
    simp [wFz]
  ·cases hr
 ·cases hc
mutual
def Sh.depth:Sh->Nat
 | .int=>1
 | .bool=>1
 | .str fs=>wIe fs + 1
def wIe:List (Nat × Nat × Sh)->Nat
 | []=>0
 | (_,_,s) :: fs=>Nat.max s.depth (wIe fs)
end
mutual
def wIE (P:Program):Sh->TypeId->Bool
 | .int,t=>wDA P t fun d=>(wKf d).isSome
 | .bool,t=>wDA P t fun d=>match d with | .bool=>true | _=>false
 | .str fs,t=>(!P.stoodInHeld t) && wDA P t fun d=>match d with | .struct gs=>wJR P fs gs.toList | _=>false
def wJR (P:Program):List (Nat × Nat × Sh)->List Field->Bool
 | [],[]=>true
 | (off, sz, s) :: fs, g :: gs => (g.name != "_") && (nB g.offset off && (szT P g.type sz && (wIE P s g.type && wJR P fs gs)))
 | _,_=>false
end
theorem wKh {s:Sh} (hc:wIE P s t=true) (w:World):(isAgg t).run P w=.ok (match s with | .str _=>true | _=>false) w:=by
 cases s with
 | int =>
  obtain ⟨d,h1,h2⟩:=wAb hc
  rw [wFM h1];cases d <;> first | rfl | cases h2
 | bool =>
  obtain ⟨d,h1,h2⟩:=wAb hc
  rw [wFM h1];cases d <;> first | rfl | cases h2
 | str fs =>
  simp only [wIE,hH] at hc
  obtain ⟨d,h1,h2⟩:=wAb hc.2
  rw [wFM h1];cases d <;> first | rfl | cases h2
theorem wHE {s:Sh} {l:List AV} {vs:List Value} {off sz:Nat} {a:AV} (hc:wIE P s t=true) (hz:szT P t sz=true) (hp:wLv s l off sz=some a) (hl:RvL μ l vs):∃ v,Rv μ a v/\∀ w,(part t vs.toArray off).run P w=.ok v w:=by
 have hag:=wKh hc
 unfold wLv at hp
 split at hp
 ·split at hp
  ·rename_i r hs
   cases hp
   obtain ⟨h1,h2⟩:=wDe hs hl
   exact ⟨_,⟨_,h1,rfl⟩,fun w=>wGP hag (wCV hz) rfl⟩
  ·cases hp
 ·rename_i hne
  rw [wEZ] at hp
  obtain ⟨v,h1,h2⟩:=wDd hl hp
  refine ⟨v,h2,fun w=>wEq (fun w=>?_) h1⟩
  rw [hag w]
  cases s <;> first | rfl | exact absurd rfl (hne _)
mutual
theorem wIf:∀ (s:Sh) (t:TypeId) (d:Nat) (a b:AV) (x y:Value) (r:Bool),wIE P s t=true->s.depth <= d->wLw s a b=some r->Rv μ a x->Rv μ b y->∀ w,(Op.equalIn d t x y).run P w=.ok r w
 | .int,t,d,a,b,x,y,r,hc,hd,hr,hx,hy,w=>by
  obtain ⟨d,rfl⟩:∃ e,d=e + 1:=⟨d - 1,by simp only [Sh.depth] at hd;omega⟩
  unfold wLw at hr
  split at hr <;> first | (cases hr;done) | skip
  all_goals (try (rename_i h0;cases h0))
  split at hr <;> cases hr
  rename_i hk
  obtain ⟨dd,d1,d2⟩:=wAb hc
  cases dd <;> first | (cases d2;done) | skip
  simp only [Rv] at hx hy
  subst hx hy
  have:=wBE hk;subst this
  simp [Op.equalIn,wAe d1,wCs,wHg]
 | .bool,t,d,a,b,x,y,r,hc,hd,hr,hx,hy,w=>by
  obtain ⟨d,rfl⟩:∃ e,d=e + 1:=⟨d - 1,by simp only [Sh.depth] at hd;omega⟩
  unfold wLw at hr
  split at hr <;> first | (cases hr;done) | skip
  all_goals (try (rename_i h0;cases h0))
  cases hr
  obtain ⟨dd,d1,d2⟩:=wAb hc
  cases dd <;> first | (cases d2;done) | skip
  simp only [Rv] at hx hy
  subst hx hy
  simp [Op.equalIn,wAe d1]
 | .str fs,t,d,a,b,x,y,r,hc,hd,hr,hx,hy,w=>by
  simp only [Sh.depth] at hd
  obtain ⟨d,rfl⟩:∃ e,d=e + 1:=⟨d - 1,by omega⟩
  unfold wLw at hr
  split at hr <;> first | (cases hr;done) | skip
  all_goals (try (rename_i h0;cases h0))
  simp only [wIE,hH,nW] at hc
  obtain ⟨dd,d1,d2⟩:=wAb hc.2
  cases dd <;> first | (cases d2;done) | skip
  rename_i gs
  obtain ⟨xs,h1,rfl⟩:=hx
  obtain ⟨ys,h2,rfl⟩:=hy
  have hf:P.fieldsOf t=gs:=by unfold Program.fieldsOf;rw [d1]
  rw [run_equalIn_agg w d t _ _ (by rw [hf];exact d1) hc.1,hf]
  exact wIg fs gs.toList d _ _ xs ys r d2 (by omega) hr h1 h2 w
theorem wIg:∀ (fs:List (Nat × Nat × Sh)) (gs:List Field) (d:Nat) (l k:List AV) (xs ys:List Value) (r:Bool),wJR P fs gs=true->wIe fs <= d->wOd fs l k=some r->RvL μ l xs->RvL μ k ys ->
  ∀ w,(Op.eqFields d xs.toArray ys.toArray gs).run P w=.ok r w
 | [],[],d,l,k,xs,ys,r,hc,hd,hr,hx,hy,w=>by
  simp only [wOd] at hr;cases hr;rfl
 | (off,sz,s) :: fs,g :: gs,d,l,k,xs,ys,r,hc,hd,hr,hx,hy,w=>by
  simp only [wJR,hH] at hc
  obtain ⟨c1,c2,c3,c4,c5⟩:=hc
  have e:=nA c2
  subst e
  simp only [wOd] at hr
  split at hr
  ·rename_i a b ha hb
   obtain ⟨u,u1,u2⟩:=wHE c4 c3 ha hx
   obtain ⟨v,v1,v2⟩:=wHE c4 c3 hb hy
   have hne : g.name ≠ "_" := by simpa using c1
   have hd1:s.depth <= d:=nZ (Nat.le_max_left _ _) hd
   have hd2:wIe fs <= d:=nZ (Nat.le_max_right _ _) hd
   cases hq:wLw s a b with
   | none=>rw [hq] at hr;cases hr
   | some q =>
    have hE:=wIf s g.type d a b u v q c4 hd1 hq u1 v1
    rw [hq] at hr
    cases q with
    | true =>
     simp only at hr
     have hF:=wIg fs gs d l k xs ys r c5 hd2 hr hx hy
     simp [Op.eqFields,hne,u2,v2,hE,hF,Result.andThen]
    | false =>
     simp only [nj] at hr
     subst hr
     simp [Op.eqFields,hne,u2,v2,hE,Result.andThen]
  ·cases hr
 | [],_ :: _,d,l,k,xs,ys,r,hc,hd,hr,hx,hy,w=>by simp [wJR] at hc
 | _ :: _,[],d,l,k,xs,ys,r,hc,hd,hr,hx,hy,w=>by simp [wJR] at hc
end
theorem wMB {fs:List (Nat × Nat × Sh)} {r:Bool}:∀ {a b:AV},wLw (.str fs) a b=some r->∃ l k,a=.agg l/\b=.agg k:=by
 intro a b h
 cases a <;> cases b <;> first | exact ⟨_,_,rfl,rfl⟩ | (simp [wLw] at h;done)
def wNV (P:Program) (ne:Bool) (s:Sh) (x y:AOd):Op->Bool
 | .binOp b t x' y' _=>(match ne with | true=>b == .neq | false=>b == .eql) && (nz s.depth 10000 && (wIE P s t && ((match s with | .str _=>true | _=>false) && ((!P.eqGuardType P.depth t) && (wBR x x' && wBR y y')))))
 | _=>false
theorem p_eqs {ne:Bool} {s:Sh} {x y:AOd} {op:Op} (hc:wNV P ne s x y op=true):OkP P op (wHn ne s x y):=by
 intro σA h v h' hr
 unfold wNV at hc
 split at hc
 ·rename_i b t x' y' t'
  simp only [hH,nW] at hc
  obtain ⟨c0,c1,c2,c3,c4,c5,c6⟩:=hc
  unfold wHn at hr
  split at hr
  ·rename_i r e1
   cases hr
   refine ⟨rfl,fun μ σ hE=>⟨_,rfl,fun o w ho=>?_⟩⟩
   have g1:=wAJ c5 hE
   have g2:=wAJ c6 hE
   have g3:∀ w,(Op.equal t (ev σ x') (ev σ y')).run P w=.ok r w:=wIf s t 10000 _ _ _ _ r c2 (nK c1) e1 g1 g2
   cases s <;> first | (cases c3;done) | skip
   obtain ⟨l,k,h1,h2⟩:=wMB e1
   rw [h1] at g1;rw [h2] at g2
   obtain ⟨xs,_,g1⟩:=g1
   obtain ⟨ys,_,g2⟩:=g2
   rw [g1,g2] at g3
   refine ⟨by rw [ho];rfl,?_⟩
   cases ne
   ·have:=eq_of_beq c0;subst this
    simp [execOp,ho,g1,g2,binOp,eqGuard,c4,g3,wFz]
   ·have:=eq_of_beq c0;subst this
    simp [execOp,ho,g1,g2,binOp,eqGuard,c4,g3,wFz]
  ·cases hr
 ·cases hc
end
end
end Go.KX
namespace Go.KX
noncomputable section
open Go.RowKit Go.KL
section
variable {C:Chk} {P:Program} {μ μ':Mu} {w w':World} {h h':AH} {σ:Env} {σA:Tr AV} {t e:TypeId} {o:Oper}
def wNW (P:Program) (off:Nat) (x:AOd):Op->Bool
 | .fieldAddr t y i=>wDA P t (fun d=>match d with
   | .struct fs=>match fs[i]? with
    | some f=>nB f.offset off && (match P.info? f.type with | some j=>nR 0 j.size | none=>false)
    | none=>false
   | _=>false) && wBR x y
 | _=>false
theorem p_fad {off:Nat} {x:AOd} {op:Op} (hc:wNW P off x op=true):OkP P op (wHr off x):=by
 intro σA h v h' hr
 unfold wNW at hc
 split at hc
 ·rename_i t y i
  simp only [hH] at hc
  obtain ⟨c1,c2⟩:=hc
  unfold wHr at hr
  split at hr
  ·rename_i b oo hb
   cases hr
   refine ⟨rfl,fun μ σ hE=>?_⟩
   have g:=wAJ c2 hE;rw [hb] at g
   obtain ⟨c,g1,g2⟩:=g
   refine ⟨_,⟨c,g1,rfl⟩,fun o w ho=>?_⟩
   obtain ⟨d,d1,d2⟩:=wAb c1
   split at d2
   ·rename_i fs
    split at d2
    ·rename_i f hf
     simp only [hH] at d2
     have e:=nA d2.1
     subst e
     have d3:=d2.2
     split at d3
     ·rename_i j hj
      have hpos:0 < j.size:=by simpa [nG] using d3
      obtain ⟨n,hn⟩:∃ n,j.size=n + 1:=⟨j.size - 1,by omega⟩
      exact Runs.fa (n:=n) ho g2 (wAe d1) hf (fun w=>by rw [<- hn];simp [sizeOf,typeInfo,hj])
     ·cases d3
    ·cases d2
   ·cases d2
  ·cases hr
 ·cases hc
def wNX (P:Program) (off:Nat) (x:AOd):Op->Bool
 | .field t y i=>wDA P t (fun d=>match d with
   | .struct fs=>match fs[i]? with
    | some f=>nB f.offset off && wLz P f.type false
    | none=>false
   | _=>false) && wBR x y
 | _=>false
def wKi (P:Program) (off n:Nat) (x:AOd):Op->Bool
 | .field t y i=>wDA P t (fun d=>match d with
   | .struct fs=>match fs[i]? with
    | some f=>nB f.offset off && (wLz P f.type true && szT P f.type n)
    | none=>false
   | _=>false) && wBR x y
 | _=>false
theorem p_fld {off:Nat} {x:AOd} {op:Op} (hc:wNX P off x op=true):OkP P op (wHs off x):=by
 intro σA h v h' hr
 unfold wNX at hc
 split at hc
 ·rename_i t y i
  simp only [hH] at hc
  obtain ⟨c1,c2⟩:=hc
  unfold wHs at hr
  split at hr
  ·rename_i l hb
   obtain ⟨hr2,rfl⟩:=wBF hr
   refine ⟨rfl,fun μ σ hE=>?_⟩
   have g:=wAJ c2 hE;rw [hb] at g
   obtain ⟨vs,g1,g2⟩:=g
   rw [wEZ] at hr2
   obtain ⟨cv,g3,g4⟩:=wDd g1 hr2
   refine ⟨cv,g4,fun o w ho=>?_⟩
   obtain ⟨d,d1,d2⟩:=wAb c1
   split at d2
   ·split at d2
    ·rename_i f hf
     simp only [hH] at d2
     have e:=nA d2.1
     subst e
     exact Runs.fld ho g2 (wAe d1) hf (wEq (wDK d2.2) g3)
    ·cases d2
   ·cases d2
  ·cases hr
 ·cases hc
theorem wCP {x:Option (List AV)} {v:AV} (hr:wFw x=some v):∃ l,x=some l/\v=.agg l:=by
 cases x <;> cases hr;exact ⟨_,rfl,rfl⟩
theorem wOn {off n:Nat} {x:AOd} {op:Op} (hc:wKi P off n x op=true):OkP P op (wFH off n x):=by
 intro σA h v h' hr
 unfold wKi at hc
 split at hc
 ·rename_i t y i
  simp only [hH] at hc
  obtain ⟨c1,c2⟩:=hc
  unfold wFH at hr
  split at hr
  ·rename_i l hb
   obtain ⟨hr2,rfl⟩:=wBF hr
   obtain ⟨r,hr3,rfl⟩:=wCP hr2
   refine ⟨rfl,fun μ σ hE=>?_⟩
   have g:=wAJ c2 hE;rw [hb] at g
   obtain ⟨vs,g1,g2⟩:=g
   obtain ⟨g3,g4⟩:=wDe hr3 g1
   refine ⟨_,⟨_,g3,rfl⟩,fun o w ho=>?_⟩
   obtain ⟨d,d1,d2⟩:=wAb c1
   split at d2
   ·split at d2
    ·rename_i f hf
     simp only [hH] at d2
     have e:=nA d2.1
     subst e
     exact Runs.fld ho g2 (wAe d1) hf (wGP (wDK d2.2.1) (wCV d2.2.2) rfl)
    ·cases d2
   ·cases d2
  ·cases hr
 ·cases hc
theorem wBQ {a:AV} {n:Nat} (hr:wFB a=some n):a=.int .i64 n:=by
 unfold wFB at hr
 split at hr
 ·cases hr;rfl
 ·cases hr
def wNY (P:Program) (sz:Nat) (x y:AOd):Op->Bool
 | .indexAddr t x' y'=>wDA P t (fun d=>match d with
   | .slice e=>szT P e sz
   | _=>false) && (wBR x x' && wBR y y')
 | _=>false
theorem p_iad {sz:Nat} {x y:AOd} {op:Op} (hc:wNY P sz x y op=true):OkP P op (wHt sz x y):=by
 intro σA h v h' hr
 unfold wNY at hc
 split at hc
 ·rename_i t x' y'
  simp only [hH] at hc
  obtain ⟨c1,c2,c3⟩:=hc
  obtain ⟨d,d1,d2⟩:=wAb c1
  split at d2
  ·rename_i e
   unfold wHt at hr
   split at hr
   ·rename_i b off n c i hb hi
    obtain ⟨hlt,hr⟩:=wBB hr
    cases hr
    have hlt:i < n:=by simpa [nG] using hlt
    have hi:=wBQ hi
    refine ⟨rfl,fun μ σ hE=>?_⟩
    have g:=wAJ c2 hE;rw [hb] at g
    have k:=wAJ c3 hE;rw [hi] at k
    obtain ⟨m,g1,g2,g3⟩:=g
    refine ⟨_,⟨m,g1,rfl⟩,fun o w ho=>?_⟩
    have:=Runs.ia (P:=P) (o:=o) (w:=w) (i:=(i:Int)) ho g3 k (wAe d1) (wCV d2) (by omega) (by omega)
    simpa using this
   ·rename_i b eo co n i hb hi
    obtain ⟨hlt,hr⟩:=wBB hr
    cases hr
    have hlt:i < n:=by simpa [nG] using hlt
    have hi:=wBQ hi
    refine ⟨rfl,fun μ σ hE=>?_⟩
    have g:=wAJ c2 hE;rw [hb] at g
    have k:=wAJ c3 hE;rw [hi] at k
    obtain ⟨m,g1,g2,g3⟩:=g
    refine ⟨_,⟨m,g1,rfl⟩,fun o w ho=>?_⟩
    have:=Runs.ia (P:=P) (o:=o) (w:=w) (i:=(i:Int)) ho g3 k (wAe d1) (wCV d2) (by omega) (by omega)
    simpa using this
   ·cases hr
  ·cases d2
 ·cases hc
def wKj (P:Program) (sz n:Nat) (x y:AOd):Op->Bool
 | .indexAddr t x' y'=>wDA P t (fun d=>match d with
   | .array m e=>nB m n && szT P e sz
   | _=>false) && (wBR x x' && wBR y y')
 | _=>false
theorem wOo {sz n:Nat} {x y:AOd} {op:Op} (hc:wKj P sz n x y op=true):OkP P op (wFI sz n x y):=by
 intro σA h v h' hr
 unfold wKj at hc
 split at hc
 ·rename_i t x' y'
  simp only [hH] at hc
  obtain ⟨c1,c2,c3⟩:=hc
  obtain ⟨d,d1,d2⟩:=wAb c1
  split at d2
  ·rename_i m e
   simp only [hH] at d2
   have em:=nA d2.1
   subst em
   unfold wFI at hr
   split at hr
   ·rename_i b off i hb hi
    obtain ⟨hlt,hr⟩:=wBB hr
    cases hr
    have hlt:i < m:=by simpa [nG] using hlt
    have hi:=wBQ hi
    refine ⟨rfl,fun μ σ hE=>?_⟩
    have g:=wAJ c2 hE;rw [hb] at g
    have k:=wAJ c3 hE;rw [hi] at k
    obtain ⟨q,g1,g3⟩:=g
    refine ⟨_,⟨q,g1,rfl⟩,fun o w ho=>?_⟩
    have:=Runs.iaA (P:=P) (o:=o) (w:=w) (i:=(i:Int)) ho g3 k (wAe d1) (wCV d2.2) (by omega) (by omega)
    simpa using this
   ·cases hr
  ·cases d2
 ·cases hc
def c_ix (P:Program) (n:Nat) (x y:AOd):Op->Bool
 | .index t x' y'=>wDA P t (fun d=>match d with
   | .array m e=>nB m n && (szT P e 1 && wLz P e false)
   | _=>false) && (wBR x x' && wBR y y')
 | _=>false
theorem p_ix {n:Nat} {x y:AOd} {op:Op} (hc:c_ix P n x y op=true):OkP P op (wNJ n x y):=by
 intro σA h v h' hr
 unfold c_ix at hc
 split at hc
 ·rename_i t x' y'
  simp only [hH] at hc
  obtain ⟨c1,c2,c3⟩:=hc
  obtain ⟨d,d1,d2⟩:=wAb c1
  split at d2
  ·rename_i m e
   simp only [hH] at d2
   have em:=nA d2.1
   subst em
   unfold wNJ at hr
   split at hr
   ·rename_i l i hb hi
    obtain ⟨hlt,hr⟩:=wBB hr
    obtain ⟨hr2,rfl⟩:=wBF hr
    have hlt:i < m:=by simpa [nG] using hlt
    have hi:=wBQ hi
    refine ⟨rfl,fun μ σ hE=>?_⟩
    have g:=wAJ c2 hE;rw [hb] at g
    have k:=wAJ c3 hE;rw [hi] at k
    obtain ⟨vs,g1,g2⟩:=g
    rw [wEZ] at hr2
    obtain ⟨cv,g3,g4⟩:=wDd g1 hr2
    refine ⟨cv,g4,fun o w ho=>?_⟩
    exact Runs.ixA (P:=P) (o:=o) (w:=w) (i:=(i:Int)) ho g2 k (wAe d1) (wCV d2.2.1) (by omega) (by omega) (wEq (wDK d2.2.2) (by simpa using g3))
   ·cases hr
  ·cases d2
 ·cases hc
def wNZ (P:Program) (sz n:Nat) (x y:AOd):Op->Bool
 | .index t x' y'=>wDA P t (fun d=>match d with
   | .array m e=>nB m n && (szT P e sz && wLz P e true)
   | _=>false) && (wBR x x' && wBR y y')
 | _=>false
theorem p_ixA {sz n:Nat} {x y:AOd} {op:Op} (hc:wNZ P sz n x y op=true):OkP P op (wHu sz n x y):=by
 intro σA h v h' hr
 unfold wNZ at hc
 split at hc
 ·rename_i t x' y'
  simp only [hH] at hc
  obtain ⟨c1,c2,c3⟩:=hc
  obtain ⟨d,d1,d2⟩:=wAb c1
  split at d2
  ·rename_i m e
   simp only [hH] at d2
   have em:=nA d2.1
   subst em
   unfold wHu at hr
   split at hr
   ·rename_i l i hb hi
    obtain ⟨hlt,hr⟩:=wBB hr
    obtain ⟨hr2,rfl⟩:=wBF hr
    obtain ⟨r,hr3,rfl⟩:=wCP hr2
    have hlt:i < m:=by simpa [nG] using hlt
    have hi:=wBQ hi
    refine ⟨rfl,fun μ σ hE=>?_⟩
    have g:=wAJ c2 hE;rw [hb] at g
    have k:=wAJ c3 hE;rw [hi] at k
    obtain ⟨vs,g1,g2⟩:=g
    obtain ⟨g3,g4⟩:=wDe hr3 g1
    refine ⟨_,⟨_,g3,rfl⟩,fun o w ho=>?_⟩
    exact Runs.ixA (P:=P) (o:=o) (w:=w) (i:=(i:Int)) ho g2 k (wAe d1) (wCV d2.2.1) (by omega) (by omega) (wGP (wDK d2.2.2) (wCV d2.2.1) (by simp))
   ·cases hr
  ·cases d2
 ·cases hc
def wMn:Option AOd->Option Operand->Bool
 | none,none=>true
 | some x,some y=>wBR x y
 | _,_=>false
theorem wKk {x:Option AOd} {y:Option Operand} {r:Option Nat} (hr:bnd σA x=some r) (hc:wMn x y=true) (hE:EnvR μ σA σ):(r=none/\y=none) \/ ∃ n z,r=some n/\y=some z/\ev σ z=.int .i64 n:=by
 cases x with
 | none =>
  cases y with
  | none=>cases hr;exact .inl ⟨rfl,rfl⟩
  | some _=>cases hc
 | some x =>
  cases y with
  | none=>cases hc
  | some y =>
   simp only [bnd] at hr
   split at hr
   ·rename_i n hn
    cases hr
    have:=wAJ (show wBR x y=true from hc) hE
    rw [wBQ hn] at this
    exact .inr ⟨n,y,rfl,rfl,this⟩
   ·cases hr
def vI (n:Nat):Value:=.int .i64 (n:Int)
theorem wFN {P:Program} {n y:Nat} {code:BoundsCode} (hle:n <= y) (w:World):(Instr.sliceBound (vI n) y code).run P w=.ok n w:=by
 have h1:(n:Int) <= y:=by omega
 simp [Instr.sliceBound,vI,asIntOf,h1]
theorem wDO {P:Program} {s:Bool} {len cap:Nat} {lo hi mx:Option Nat} {l hh m:Nat} (hm:m=mx.getD cap) (hh':hh=hi.getD len) (hl:l=lo.getD 0) (h1:l <= hh) (h2:hh <= m) (h3:m <= cap) (hmh:mx.isSome=true->hi.isSome=true) (w:World) :
  (Instr.sliceBounds s len cap (lo.map vI) (hi.map vI) (mx.map vI)).run P w=.ok (l,hh,m) w:=by
 subst hm hh' hl
 unfold Instr.sliceBounds
 cases mx <;> cases hi <;> cases lo <;> simp only [kX,kY] at h1 h2 h3 <;> (try (simp at hmh;done)) <;> simp [wFN h1,wFN h2,wFN h3]
theorem wFO {x:Option AOd} {y:Option Operand} {r:Option Nat} (hr:bnd σA x=some r) (hc:wMn x y=true) (hE:EnvR μ σA σ):y.map (ev σ)=r.map vI:=by
 rcases wKk hr hc hE with ⟨rfl,rfl⟩ | ⟨n,z,rfl,rfl,h1⟩
 ·rfl
 ·simp [h1,vI]
theorem wDg (b off n:Nat):(Addr.add ⟨b,off,none⟩ n)=⟨b,off + n,none⟩:=wCm b off n
theorem wKl {P:Program} {sz:Nat} {a v:AV} {x:Value} {lo hi mx:Option Nat} (hr0:wOe sz a (orD lo 0) hi mx=some v) (hx:Rv μ a x) (hmh:mx.isSome=true->hi.isSome=true) :
  ∃ A len cap cv l hh m,x=.slice A len cap/\Rv μ v cv/\(∀ s w,(Instr.sliceBounds s len cap (lo.map vI) (hi.map vI) (mx.map vI)).run P w=.ok (l,hh,m) w) /\
   cv=.slice (if m=l then A else A.map (·.add (l * sz))) (hh - l) (m - l):=by
 obtain ⟨l,hl,hr⟩:∃ l,lo.getD 0=l/\wOe sz a l hi mx=some v:=⟨_,rfl,by rw [<- wKA];exact hr0⟩
 clear hr0
 unfold wOe at hr
 split at hr
 ·obtain ⟨hb,hr⟩:=wBB hr
  cases hr
  simp only [hH] at hb
  obtain ⟨⟨b1,b2⟩,b3⟩:=hb
  have l0:=nA b1
  have hx:x=.slice none 0 0:=hx
  subst hx
  have h2:hi.getD 0=0:=by cases hi with | none=>rfl | some n=>exact nA b2
  have h3:mx.getD 0=0:=by cases mx with | none=>rfl | some n=>exact nA b3
  refine ⟨none,0,0,_,0,0,0,rfl,(rfl:Rv μ .snil _),fun s w=>wDO h3.symm h2.symm (by rw [hl,l0]) (nE _) (nE _) (nE _) hmh w,by simp⟩
 ·rename_i b off n c
  obtain ⟨d,g1,g2,rfl⟩:=hx
  simp only [wKA] at hr
  obtain ⟨hb,hr⟩:=wBB hr
  cases hr
  simp only [hH,nO] at hb
  obtain ⟨⟨b1,b2⟩,b3⟩:=hb
  refine ⟨_,n,c,_,l,hi.getD n,mx.getD c,rfl,⟨d,g1,by omega,rfl⟩,fun s w=>wDO rfl rfl hl.symm b1 b2 b3 hmh w,?_⟩
  by_cases e:mx.getD c=l
  ·simp [e]
  ·have:nB (mx.getD c) l=false:=by
    cases hq:nB (mx.getD c) l with
    | false=>rfl
    | true=>exact absurd (nA hq) e
   simp [e,this,wDg]
 ·rename_i b eo co n
  obtain ⟨d,g1,g2,rfl⟩:=hx
  simp only [wKA] at hr
  split at hr
  ·obtain ⟨hb,hr⟩:=wBB hr
   simp only [hH,nO] at hb
   obtain ⟨b1,b2⟩:=hb
   have fin:∀ cv,cv=Value.slice (if d.2 - eo=l then some ⟨d.1,co,none⟩ else (some (⟨d.1,co,none⟩:Addr)).map (·.add (l * sz))) (hi.getD n - l) (d.2 - eo - l)->Rv μ v cv ->
     ∃ A len cap cv l hh m,Value.slice (some ⟨d.1,co,none⟩) n (d.2 - eo)=.slice A len cap/\Rv μ v cv/\(∀ s w,(Instr.sliceBounds s len cap (lo.map vI) (hi.map vI) ((none:Option Nat).map vI)).run P w=.ok (l,hh,m) w) /\
      cv=.slice (if m=l then A else A.map (·.add (l * sz))) (hh - l) (m - l):=fun cv e hv =>
    ⟨_,n,d.2 - eo,cv,l,hi.getD n,d.2 - eo,rfl,hv,fun s w=>wDO rfl rfl hl.symm b1 (by simp only [kX];omega) (nE _) hmh w,e⟩
   split at hr
   ·cases hr
    refine fin _ rfl ⟨d,g1,by omega,?_⟩
    simp [Addr.add]
   ·rename_i l0
    split at hr
    ·rename_i hlt
     cases hr
     have hlt:l < n:=by simpa [nG] using hlt
     refine fin _ rfl ⟨d,g1,by omega,?_⟩
     rw [if_neg (by omega)]
     simp [wDg,Nat.sub_sub]
    ·rename_i hlt
     cases hr
     have hlt:¬ l < n:=by
      intro hq
      have:nR l n=true:=by rw [nG];exact hq
      rw [this] at hlt;cases hlt
     have e1:hi.getD n - l=0:=by omega
     refine fin _ rfl ?_
     rw [e1]
     by_cases e2:d.2 - eo=l
     ·rw [if_pos e2];exact ⟨d,g1,co,by congr 1;omega⟩
     ·rw [if_neg e2];exact ⟨d,g1,co + l * sz,by simp only [kZ,wDg];congr 1;omega⟩
  ·rename_i m
   obtain ⟨hb,hr⟩:=wBB hr
   cases hr
   simp only [hH,nO] at hb
   obtain ⟨⟨b1,b2⟩,b3⟩:=hb
   refine ⟨_,n,d.2 - eo,_,l,hi.getD n,m,rfl,⟨d,g1,by omega,rfl⟩,fun s w=>wDO (mx:=some m) rfl rfl hl.symm b1 b2 (by simp only [kY];omega) hmh w,?_⟩
   by_cases e:m=l
   ·simp [e]
   ·have:nB m l=false:=by
     cases hq:nB m l with
     | false=>rfl
     | true=>exact absurd (nA hq) e
    simp [e,this,wDg]
 ·cases hr
def wNa (P:Program) (sz:Nat) (x:AOd) (lo hi mx:Option AOd):Op->Bool
 | .slice t y l m n=>wDA P t (fun d=>match d with
   | .slice e=>szT P e sz
   | _=>false) && (wBR x y && (wMn lo l && (wMn hi m && (wMn mx n && (!mx.isSome || hi.isSome)))))
 | _=>false
theorem p_slc {sz:Nat} {x:AOd} {lo hi mx:Option AOd} {op:Op} (hc:wNa P sz x lo hi mx op=true):OkP P op (wHq sz x lo hi mx):=by
 intro σA h v h' hr
 unfold wNa at hc
 split at hc
 ·rename_i t y l m n
  simp only [hH] at hc
  obtain ⟨c1,c2,c3,c4,c5,c6⟩:=hc
  obtain ⟨d,d1,d2⟩:=wAb c1
  split at d2
  ·rename_i e
   unfold wHq at hr
   split at hr
   ·rename_i rl rh rm h1 h2 h3
    obtain ⟨hr2,rfl⟩:=wBF hr
    refine ⟨rfl,fun μ σ hE=>?_⟩
    have hmh:rm.isSome=true->rh.isSome=true:=by
     intro hs
     rcases wKk h3 c5 hE with ⟨rfl,_⟩ | ⟨_,z,rfl,rfl,_⟩
     ·cases hs
     ·cases mx with
      | none=>simp [bnd] at h3
      | some _ =>
       cases hi with
       | none=>simp at c6
       | some _ =>
        rcases wKk h2 c4 hE with ⟨rfl,e0⟩ | ⟨_,_,rfl,_⟩
        ·subst e0;simp [wMn] at c4
        ·rfl
    obtain ⟨A,len,cap,cv,ll,hh,mm,e1,e2,e3,e4⟩:=wKl (P:=P) hr2 (wAJ c2 hE) hmh
    refine ⟨cv,e2,fun o w ho=>⟨by rw [ho];rfl,?_⟩⟩
    have b1:=wFO h1 c3 hE
    have b2:=wFO h2 c4 hE
    have b3:=wFO h3 c5 hE
    simp [execOp,ho,Instr.sliceAt,Instr.slice,wAe d1,e1,b1,b2,b3,e3,wCV d2,e4]
   ·cases hr
  ·cases d2
 ·cases hc
def wKm (P:Program) (sz n:Nat) (x:AOd) (lo hi:Option AOd):Op->Bool
 | .slice t y l m none=>wDA P t (fun d=>match d with
   | .array k e=>nB k n && szT P e sz
   | _=>false) && (wBR x y && (wMn lo l && wMn hi m))
 | _=>false
theorem wOp {sz n:Nat} {x:AOd} {lo hi:Option AOd} {op:Op} (hc:wKm P sz n x lo hi op=true):OkP P op (wFG sz n x lo hi):=by
 intro σA h v h' hr
 unfold wKm at hc
 split at hc
 ·rename_i t y l m
  simp only [hH] at hc
  obtain ⟨c1,c2,c3,c4⟩:=hc
  obtain ⟨d,d1,d2⟩:=wAb c1
  split at d2
  ·rename_i k e
   simp only [hH] at d2
   have ek:=nA d2.1
   subst ek
   unfold wFG at hr
   split at hr
   ·rename_i rl rh b off h1 h2 hb
    obtain ⟨hr2,rfl⟩:=wBF hr
    refine ⟨rfl,fun μ σ hE=>?_⟩
    have g:=wAJ c2 hE;rw [hb] at g
    obtain ⟨c,g1,g2⟩:=g
    obtain ⟨A,len,cap,cv,ll,hh,mm,e1,e2,e3,e4⟩:=wKl (P:=P) (μ:=μ) (x:=.slice (some ⟨c.1,off,none⟩) k k) hr2 ⟨c,g1,nE _,rfl⟩ (by intro hs;cases hs)
    cases e1
    refine ⟨cv,e2,fun o w ho=>⟨by rw [ho];rfl,?_⟩⟩
    have b1:=wFO h1 c3 hE
    have b2:=wFO h2 c4 hE
    have e3':=e3 false
    simp only [Option.map_none] at e3'
    simp [execOp,ho,Instr.sliceAt,wAe d1,g2,Instr.sureAddr,b1,b2,e3',wCV d2.2,e4]
    split <;> simp
   ·cases hr
  ·cases d2
 ·cases hc
end
end
end Go.KX
namespace Go.KX
noncomputable section
open Go.RowKit Go.KL
section
variable {C:Chk} {P:Program} {μ μ':Mu} {w w':World} {h h':AH} {σ:Env} {σA:Tr AV} {t e:TypeId} {o:Oper}
def wHF (place:Nat->Option (Nat × Nat)):List (Nat × Nat × AOd)->List (Nat × Operand)->Bool
 | [],[]=>true
 | (off,n,x) :: ps,(i,y) :: qs=>(match place i with | some (o,s)=>nB o off && nB s n | none=>false) && (wBR x y && wHF place ps qs)
 | _,_=>false
theorem wFP {place:Nat->Option (Nat × Nat)} (hE:EnvR μ σA σ):∀ {ps:List (Nat × Nat × AOd)} {qs:List (Nat × Operand)} {cs r:List AV} {CS:List Value},wGS σA cs ps=some r->wHF place ps qs=true->RvL μ cs CS ->
  ∃ R,lay place CS (qs.map fun (p:Nat × Operand)=>(p.1,ev σ p.2))=some R/\RvL μ r R/\R.length=CS.length
 | [],[],cs,r,CS,hr,_,hl=>by
  simp only [wGS] at hr;cases hr;exact ⟨CS,rfl,hl,rfl⟩
 | (off,n,x) :: ps,(i,y) :: qs,cs,r,CS,hr,hc,hl=>by
  simp only [wHF,hH] at hc
  obtain ⟨c1,c2,c3⟩:=hc
  split at c1
  ·rename_i o s hp
   simp only [hH] at c1
   have e1:=nA c1.1
   have e2:=nA c1.2
   subst e1 e2
   simp only [wGS] at hr
   split at hr
   ·rename_i hn
    have hn:=nA hn
    split at hr
    ·rename_i cs' ho
     obtain ⟨vs,v1,v2⟩:=wEj (wAJ c2 hE)
     obtain ⟨g1,g2⟩:=wGW ho hl v1
     have hlen:vs.length=s:=by rw [wBr v1,<- wDJ,hn]
     obtain ⟨R,r1,r2,r3⟩:=wFP hE hr c3 g2
     refine ⟨R,?_,r2,by rw [r3,wBf]⟩
     rw [nH,lay,hp]
     simp only [v2,kU,hlen,beq_self_eq_true,Bool.true_and]
     rw [if_pos (by rw [nO];omega)]
     exact r1
    ·cases hr
   ·cases hr
  ·cases c1
 | [],_ :: _,cs,r,CS,hr,hc,hl=>by simp [wHF] at hc
 | _ :: _,[],cs,r,CS,hr,hc,hl=>by simp [wHF] at hc
def plL (P:Program):List Field->Option (List (Nat × Nat))
 | []=>some []
 | f :: fs=>match P.info? f.type,plL P fs with
  | some i,some l=>some ((f.offset,i.size) :: l)
  | _,_=>none
theorem wOq:∀ {fs:List Field} {pl:List (Nat × Nat)},plL P fs=some pl->wMh P fs.toArray pl:=by
 intro fs pl hp w
 rw [List.mapM_toArray]
 have key:∀ (fs:List Field) (pl:List (Nat × Nat)),plL P fs=some pl->((fs.mapM fun f=>do pure (f.offset,<- sizeOf f.type):Sem (List (Nat × Nat)))).run P w=.ok pl w:=by
  intro fs
  induction fs with
  | nil=>intro pl hp;cases hp;simp
  | cons f fs ih =>
   intro pl hp
   unfold plL at hp
   split at hp
   ·rename_i i l h1 h2
    cases hp
    have hs:(sizeOf f.type).run P w=.ok i.size w:=by simp [sizeOf,typeInfo,h1]
    simp only [List.mapM_cons,Sem.run_bind,hs,Result.andThen_ok,Sem.run_pure,ih l h2]
   ·cases hp
 have:=key fs pl hp
 simp only [Sem.run_map,this,Result.andThen_ok]
def wNb (P:Program) (z:List AV) (ps:List (Nat × Nat × AOd)):Op->Bool
 | .build t qs=>zT P t z && wDA P t (fun d=>match d with
   | .struct fs=>match plL P fs.toList with
    | some pl=>wHF (fun i=>pl[i]?) ps qs.toList
    | none=>false
   | .array _ e=>match P.info? e with
    | some j=>wHF (fun i=>some (i * j.size,j.size)) ps qs.toList
    | none=>false
   | _=>false)
 | _=>false
theorem p_bld {z:List AV} {ps:List (Nat × Nat × AOd)} {op:Op} (hc:wNb P z ps op=true):OkP P op (wKN z ps):=by
 intro σA h v h' hr
 unfold wNb at hc
 split at hc
 ·rename_i t qs
  simp only [hH] at hc
  obtain ⟨c1,c2⟩:=hc
  obtain ⟨hr2,rfl⟩:=wBF hr
  obtain ⟨r,hr3,rfl⟩:=wCP hr2
  obtain ⟨i,zv,z1,z2,z3⟩:=wDf c1
  obtain ⟨d,d1,d2⟩:=wAb c2
  refine ⟨rfl,fun μ σ hE=>?_⟩
  split at d2
  ·rename_i fs
   split at d2
   ·rename_i pl hpl
    obtain ⟨R,r1,r2,_⟩:=wFP hE hr3 d2 (z3 μ)
    refine ⟨_,⟨R,r2,rfl⟩,fun o w ho=>?_⟩
    exact Runs.build (P:=P) (ps:=qs.toList) (z:=zv.cells.toList) ho rfl (wCW z1 z2) ⟨fs,wAe d1,wOq hpl⟩ (by simp) r1
   ·cases d2
  ·rename_i n e
   split at d2
   ·rename_i j hj
    obtain ⟨R,r1,r2,_⟩:=wFP hE hr3 d2 (z3 μ)
    refine ⟨_,⟨R,r2,rfl⟩,fun o w ho=>?_⟩
    exact Runs.buildA (P:=P) (ps:=qs.toList) (z:=zv.cells.toList) ho rfl (wCW z1 z2) (wAe d1) (fun w=>by simp [sizeOf,typeInfo,hj]) (by simp) r1
   ·cases d2
  ·cases d2
 ·cases hc
def wJS (P:Program) (b:Builtin) (x:AOd):Op->Bool
 | .call c=>match c.callee with
  | .builtin b'=>(b' == b) && (match c.args.toList,c.argTypes.toList with
   | [y],[t]=>wDA P t (fun d=>match d with | .slice _=>true | _=>false) && wBR x y
   | _,_=>false)
  | _=>false
 | _=>false
theorem wIh {b:Builtin} {x:AOd} {op:Op} (hc:wJS P b x op=true):∃ y t e,op=.call { callee:=.builtin b,args:=#[y],argTypes:=#[t] }/\P.underlying t=some (.slice e)/\wBR x y=true:=by
 unfold wJS at hc
 split at hc
 ·rename_i c
  obtain ⟨ce,args,tys⟩:=c
  simp only at hc
  split at hc
  ·rename_i b'
   simp only [hH,beq_iff_eq] at hc
   obtain ⟨rfl,h2⟩:=hc
   split at h2
   ·rename_i y t h3 h4
    simp only [hH] at h2
    obtain ⟨d,d1,d2⟩:=wAb h2.1
    cases d <;> first | (cases d2;done) | skip
    refine ⟨y,t,_,?_,d1,h2.2⟩
    congr 2
    ·exact nJ (by simpa using h3)
    ·exact nJ (by simpa using h4)
   ·cases h2
  ·cases hc
 ·cases hc
theorem p_len {x:AOd} {op:Op} (hc:wJS P .len x op=true):OkP P op (wHw x):=by
 intro σA h v h' hr
 obtain ⟨y,t,e,rfl,d1,c2⟩:=wIh hc
 unfold wHw at hr
 split at hr <;> cases hr <;> rename_i hb
 ·refine ⟨rfl,fun μ σ hE=>⟨_,rfl,fun o w ho=>?_⟩⟩
  have g:=wAJ c2 hE;rw [hb] at g
  exact Runs.len ho g (wAe d1)
 ·refine ⟨rfl,fun μ σ hE=>⟨_,rfl,fun o w ho=>?_⟩⟩
  have g:=wAJ c2 hE;rw [hb] at g
  obtain ⟨c,_,_,g⟩:=g
  exact Runs.len ho g (wAe d1)
 ·refine ⟨rfl,fun μ σ hE=>⟨_,rfl,fun o w ho=>?_⟩⟩
  have g:=wAJ c2 hE;rw [hb] at g
  obtain ⟨c,_,_,g⟩:=g
  exact Runs.len ho g (wAe d1)
 ·refine ⟨rfl,fun μ σ hE=>⟨_,rfl,fun o w ho=>?_⟩⟩
  have g:=wAJ c2 hE;rw [hb] at g
  obtain ⟨c,_,q,g⟩:=g
  exact Runs.len ho g (wAe d1)
theorem Runs.cap {t e:TypeId} {x:Operand} {a:Option Addr} {n c:Nat} (ho:o.op=.call { callee:=.builtin .cap,args:=#[x],argTypes:=#[t] }) (hx:ev σ x=.slice a n c)
  (ht:∀ w,(underlying t).run P w=.ok (.slice e) w):Runs P σ w o (.int .i64 c) w :=
 ⟨by rw [ho];rfl,by simp [execOp,ho,resolve,invoke,builtin,Builtin.cap_,hx,ht,goInt]⟩
theorem p_cap {x:AOd} {op:Op} (hc:wJS P .cap x op=true):OkP P op (wHx x):=by
 intro σA h v h' hr
 obtain ⟨y,t,e,rfl,d1,c2⟩:=wIh hc
 unfold wHx at hr
 split at hr <;> cases hr <;> rename_i hb
 ·refine ⟨rfl,fun μ σ hE=>⟨_,rfl,fun o w ho=>?_⟩⟩
  have g:=wAJ c2 hE;rw [hb] at g
  exact Runs.cap ho g (wAe d1)
 ·refine ⟨rfl,fun μ σ hE=>⟨_,rfl,fun o w ho=>?_⟩⟩
  have g:=wAJ c2 hE;rw [hb] at g
  obtain ⟨c,_,_,g⟩:=g
  exact Runs.cap ho g (wAe d1)
def wOT (b:Builtin) (x y:AOd):Op->Bool
 | .call c=>match c.callee with
  | .builtin b'=>(b' == b) && (match c.args.toList with
   | [x',y']=>wBR x x' && wBR y y'
   | _=>false)
  | _=>false
 | _=>false
theorem wKn {b:Builtin} {x y:AOd} {op:Op} (hc:wOT b x y op=true):∃ x' y' tys,op=.call { callee:=.builtin b,args:=#[x',y'],argTypes:=tys }/\wBR x x'=true/\wBR y y'=true:=by
 unfold wOT at hc
 split at hc
 ·rename_i c
  obtain ⟨ce,args,tys⟩:=c
  simp only at hc
  split at hc
  ·rename_i b'
   simp only [hH,beq_iff_eq] at hc
   obtain ⟨rfl,h2⟩:=hc
   split at h2
   ·rename_i x' y' h3
    simp only [hH] at h2
    refine ⟨x',y',tys,?_,h2.1,h2.2⟩
    congr 2
    exact nJ (by simpa using h3)
   ·cases h2
  ·cases hc
 ·cases hc
theorem p_min {x y:AOd} {op:Op} (hc:wOT .min x y op=true):OkP P op (wKO x y):=by
 intro σA h v h' hr
 obtain ⟨x',y',tys,rfl,c1,c2⟩:=wKn hc
 obtain ⟨hr2,rfl⟩:=wBF hr
 split at hr2
 ·rename_i a b e1 e2
  cases hr2
  refine ⟨rfl,fun μ σ hE=>⟨_,rfl,fun o w ho=>?_⟩⟩
  have g1:=wAJ c1 hE;rw [e1] at g1
  have g2:=wAJ c2 hE;rw [e2] at g2
  refine (Runs.min ho g1 g2).to ?_
  have:(match zlt b a with | true=>b | false=>a)=Min.min a b:=by
   rw [wFL,Int.min_def]
   by_cases hq:b < a
   ·simp [hq,Int.not_le.2 hq]
   ·simp [hq,Int.not_lt.1 hq]
  exact congrArg (nu .i64) this.symm
 ·cases hr2
theorem p_max {x y:AOd} {op:Op} (hc:wOT .max x y op=true):OkP P op (wKP x y):=by
 intro σA h v h' hr
 obtain ⟨x',y',tys,rfl,c1,c2⟩:=wKn hc
 obtain ⟨hr2,rfl⟩:=wBF hr
 split at hr2
 ·rename_i a b e1 e2
  cases hr2
  refine ⟨rfl,fun μ σ hE=>⟨_,rfl,fun o w ho=>?_⟩⟩
  have g1:=wAJ c1 hE;rw [e1] at g1
  have g2:=wAJ c2 hE;rw [e2] at g2
  refine (Runs.max ho g1 g2).to ?_
  have:(match zlt a b with | true=>b | false=>a)=Max.max a b:=by
   rw [wFL,Int.max_def]
   by_cases hq:a < b
   ·simp [hq,Int.le_of_lt hq]
   ·by_cases hq2:a <= b
    ·have:a=b:=by omega
     simp [this]
    ·simp [hq,hq2]
  exact congrArg (nu .i64) this.symm
 ·cases hr2
def OkL (C:Chk) (P:Program) (op:Op) (f:Tr AV->AH->Option (AV × AH)):Prop :=
 ∀ σA h v h',f σA h=some (v,h')->h'=h/\∀ μ σ w,EnvR μ σA σ->Sim C P μ h w->∃ cv,Rv μ v cv/\∀ (o:Oper),o.op=op->wEb P σ w o cv
theorem wDP {b:Pos} {l:List AV} (hr:wCO h b=some l) (S:Sim C P μ h w):∃ c vs,μ b=some c/\RvL μ l vs/\∀ w',Keep w w' Non->∀ j v,vs[j]?=some v->w'.cell? ⟨c.1,j,none⟩=some v:=by
 unfold wCO at hr
 split at hr
 ·rename_i B hB
  obtain ⟨c,h1,h2⟩:=S.at_ b B hB
  cases B <;> simp only [wIY] at hr <;> first | (cases hr;done) | cases hr
  ·obtain ⟨vs,h3,h4⟩:=h2
   exact ⟨c,vs,h1,h3,fun w' K j v hv=>(h4.non K).cell hv⟩
  ·obtain ⟨vs,h3,h4⟩:=h2
   refine ⟨c,vs,h1,h3,fun w' K j v hv=>?_⟩
   obtain ⟨cur,g1,g2,g3,g4,g5⟩:=RowAt.cells h4
   have g1':=(K.block _ (wAS g1) id).trans g1
   have:cur.toList[j]?=some v:=by
    rw [<- g5,kP] at hv
    split at hv
    ·exact hv
    ·cases hv
   simp only [World.cell?,g1']
   simpa using this
 ·cases hr
def wOr (P:Program) (x:AOd):Op->Bool
 | .load t y=>wLz P t false && wBR x y
 | _=>false
theorem l_ld {x:AOd} {op:Op} (hc:wOr P x op=true):OkL C P op (wLo x):=by
 intro σA h v h' hr
 unfold wOr at hc
 split at hc
 ·simp only [hH] at hc
  unfold wLo at hr
  split at hr
  ·rename_i b off hb
   split at hr
   ·rename_i l hl
    obtain ⟨hr2,rfl⟩:=wBF hr
    refine ⟨rfl,fun μ σ w hE S=>?_⟩
    obtain ⟨c,vs,h1,h2,h3⟩:=wDP hl S
    have g:=wAJ hc.2 hE;rw [hb] at g
    obtain ⟨c',g1,g2⟩:=g
    rw [h1] at g1;cases g1
    rw [wEZ] at hr2
    obtain ⟨cv,g3,g4⟩:=wDd h2 hr2
    exact ⟨cv,g4,fun o ho w' K=>Runs.ld ho g2 (wDK hc.1) (h3 w' K _ _ g3)⟩
   ·cases hr
  ·cases hr
 ·cases hc
def wKo (P:Program) (n:Nat) (x:AOd):Op->Bool
 | .load t y=>(wLz P t true && szT P t n) && wBR x y
 | _=>false
theorem l_ldA {n:Nat} {x:AOd} {op:Op} (hc:wKo P n x op=true):OkL C P op (wFm n x):=by
 intro σA h v h' hr
 unfold wKo at hc
 split at hc
 ·simp only [hH] at hc
  unfold wFm at hr
  split at hr
  ·rename_i b off hb
   split at hr
   ·rename_i l hl
    obtain ⟨hr2,rfl⟩:=wBF hr
    obtain ⟨r,hr3,rfl⟩:=wCP hr2
    refine ⟨rfl,fun μ σ w hE S=>?_⟩
    obtain ⟨c,vs,h1,h2,h3⟩:=wDP hl S
    have g:=wAJ hc.2 hE;rw [hb] at g
    obtain ⟨c',g1,g2⟩:=g
    rw [h1] at g1;cases g1
    obtain ⟨g3,g4⟩:=wDe hr3 h2
    refine ⟨_,⟨_,g3,rfl⟩,fun o ho w' K=>Runs.ldA ho g2 (wDK hc.1.1) (wCV hc.1.2) (by simp;omega) fun j u hu=>?_⟩
    exact h3 w' K _ _ (wDx rfl j u hu)
   ·cases hr
  ·cases hr
 ·cases hc
def OkE (C:Chk) (P:Program) (op:Op) (f:Tr AV->AH->Option (AV × AH)):Prop :=
 ∀ σA h v h',f σA h=some (v,h')->∀ μ σ w,EnvR μ σA σ->Sim C P μ h w->∀ (o:Oper),o.op=op->∃ μ' w' cv,Ext μ h.fl.nat w μ' w'/\Sim C P μ' h' w'/\Rv μ' v cv/\h'.fl=h.fl/\Runs P σ w o cv w'
def OkU (C:Chk) (P:Program) (op:Op) (f:Tr AV->AH->Option (AV × AH)):Prop :=
 ∀ σA h v h',f σA h=some (v,h')->∀ μ σ w,EnvR μ σA σ->Sim C P μ h w->∀ (o:Oper),o.op=op->∃ μ' w',Ext μ h.fl.nat w μ' w'/\Sim C P μ' h' w'/\v=u/\h'.fl=h.fl/\Does P σ w o w'
theorem OkP.toL {op:Op} {f:Tr AV->AH->Option (AV × AH)} (hp:OkP P op f):OkL C P op f:=by
 intro σA h v h' hr
 obtain ⟨h1,h2⟩:=hp σA h v h' hr
 exact ⟨h1,fun μ σ w hE _=>let ⟨cv,g1,g2⟩:=h2 μ σ hE;⟨cv,g1,fun o ho w' _=>g2 o w' ho⟩⟩
theorem OkL.toE {op:Op} {f:Tr AV->AH->Option (AV × AH)} (hp:OkL C P op f):OkE C P op f:=by
 intro σA h v h' hr μ σ w hE S o ho
 obtain ⟨rfl,h2⟩:=hp σA h v h' hr
 obtain ⟨cv,g1,g2⟩:=h2 μ σ w hE S
 exact ⟨μ,w,cv,Ext.refl μ _ w,S,g1,rfl,g2 o ho w (Keep.refl w _)⟩
theorem wEA {T:TypeId} {z:List AV} {cs:List Value} (S:Sim C P μ h w) (hz:RvL μ z cs):∃ μ',Ext μ h.fl.nat w μ' (w.alloc (.cells cs.toArray T))/\Sim C P μ' (h.push (.cells T z)) (w.alloc (.cells cs.toArray T))/\(h.push (.cells T z)).fl=h.fl/\μ' h.nx=some ⟨w.heap.size,0,g0⟩:=by
 have hle:=Mu.add_le (c:=⟨w.heap.size,0,g0⟩) (S.nx h.nx (nE _))
 obtain ⟨h1,h2,h3,h4⟩:=S.push (w':=w.alloc (.cells cs.toArray T)) (c:=⟨w.heap.size,0,g0⟩) (B:=.cells T z) (wAw w _) (nE _) (by rw [wFt];exact Nat.lt_succ_self _) ⟨cs,hz.mono hle,wDu w cs T⟩
 exact ⟨_,h2,h1,h3,h4⟩
def wKp (P:Program) (T:Nat) (z:List AV):Op->Bool
 | .alloc t=>nB T t && zT P t z
 | _=>false
theorem e_new {T:Nat} {z:List AV} {op:Op} (hc:wKp P T z op=true):OkE C P op (wNH T z):=by
 intro σA h v h' hr μ σ w hE S o ho
 cases hr
 unfold wKp at hc
 split at hc
 ·simp only [hH] at hc
  have e:=nA hc.1
  subst e
  obtain ⟨i,zv,z1,z2,z3⟩:=wDf hc.2
  obtain ⟨μ',h1,h2,h3,h4⟩:=wEA (T:=T) S (z3 μ)
  refine ⟨μ',_,_,h1,h2,⟨_,h4,rfl⟩,h3,by rw [ho];rfl,?_⟩
  simp [execOp,ho,Instr.alloc,wCW z1 z2,newVar,newRow,newObj,Sem.run]
 ·cases hc
def wKq (T:Nat) (x:AOd):Op->Bool
 | .box t y=>nB T t && wBR x y
 | _=>false
theorem e_box {T:Nat} {x:AOd} {op:Op} (hc:wKq T x op=true):OkE C P op (wJM T x):=by
 intro σA h v h' hr μ σ w hE S o ho
 cases hr
 unfold wKq at hc
 split at hc
 ·simp only [hH] at hc
  have e:=nA hc.1
  subst e
  obtain ⟨vs,v1,v2⟩:=wEj (wAJ hc.2 hE)
  obtain ⟨μ',h1,h2,h3,h4⟩:=wEA (T:=T) S v1
  refine ⟨μ',_,_,h1,h2,⟨_,h4,rfl⟩,h3,by rw [ho];rfl,?_⟩
  simp [execOp,ho,Instr.box,newVar,newRow,newObj,v2,Sem.run]
 ·cases hc
theorem wNc (S:Sim C P μ h w):∃ μ',Ext μ h.fl.nat w μ' (w.alloc (.map #[] 0))/\Sim C P μ' (h.push .map0) (w.alloc (.map #[] 0))/\(h.push .map0).fl=h.fl/\μ' h.nx=some ⟨w.heap.size,0,g0⟩:=by
 obtain ⟨h1,h2,h3,h4⟩:=S.push (w':=w.alloc (.map #[] 0)) (c:=⟨w.heap.size,0,g0⟩) (B:=.map0) (wAw w _) (nE _) (by rw [wFt];exact Nat.lt_succ_self _) ⟨0,heap_alloc_new w _⟩
 exact ⟨_,h2,h1,h3,h4⟩
def wKr:Op->Bool
 | .makeMap _ none=>true
 | _=>false
theorem e_mkm {op:Op} (hc:wKr op=true):OkE C P op wNI:=by
 intro σA h v h' hr μ σ w hE S o ho
 cases hr
 unfold wKr at hc
 split at hc
 ·obtain ⟨μ',h1,h2,h3,h4⟩:=wNc S
  refine ⟨μ',_,_,h1,h2,⟨_,h4,rfl⟩,h3,by rw [ho];rfl,?_⟩
  simp [execOp,ho,Instr.makeMap,newObj,Sem.run,Result.andThen]
 ·cases hc
theorem wDh {zc:Array Value} {n:Nat}:∀ c,((nY (c * zc.size)).map (zc[· % zc.size]!)).toList=(nQ c zc.toList).flatten \/ False:=by
 intro c
 left
 induction c with
 | zero=>simp
 | succ c ih =>
  rw [kW,Array.toList_range] at ih ⊢
  rw [Nat.succ_mul,List.range_add,List.map_append,ih,List.replicate_succ',List.flatten_append]
  congr 1
  simp only [List.map_map,List.flatten_singleton]
  apply List.ext_getElem
  ·simp
  ·intro i h1 h2
   simp at h1
   simp [Nat.add_mul_mod_self_right,Nat.mod_eq_of_lt h1,Nat.add_comm (c * zc.size) i,h1]
def wKs (P:Program) (T sz by_:Nat) (z:List AV) (x y:AOd):Op->Bool
 | .makeSlice t x' y'=>wDA P t (fun d=>match d with | .slice e=>nB e T | _=>false) && (szT P T sz && (byT P T by_ && (zT P T z && (nB (len z) sz && (wBR x x' && wBR y y')))))
 | _=>false
theorem e_mks {T sz by_:Nat} {z:List AV} {x y:AOd} {op:Op} (hc:wKs P T sz by_ z x y op=true):OkE C P op (wFF T sz by_ z x y):=by
 intro σA h v h' hr μ σ w hE S o ho
 unfold wKs at hc
 split at hc
 ·rename_i t x' y'
  simp only [hH] at hc
  obtain ⟨c1,c2,c3,c4,c5,c6,c7⟩:=hc
  obtain ⟨d,d1,d2⟩:=wAb c1
  split at d2 <;> first | (cases d2;done) | skip
  have e:=nA d2
  subst e
  rename_i e
  obtain ⟨i,i1,i2⟩:=wEl c2
  obtain ⟨i',j1,j2⟩:=wEm c3
  obtain ⟨i'',zv,k1,k2,k3⟩:=wDf c4
  rw [i1] at j1 k1;cases j1;cases k1
  have hz:=nA c5
  unfold wFF at hr
  split at hr
  ·rename_i l c hl hcc
   obtain ⟨hb,hr⟩:=wBB hr
   cases hr
   simp only [hH,nO] at hb
   obtain ⟨⟨⟨b1,b2⟩,b3⟩,b4⟩:=hb
   have hx:=wAJ c6 hE;rw [wBQ hl] at hx
   have hy:=wAJ c7 hE;rw [wBQ hcc] at hy
   have hx:ev σ x'=.int .i64 (l:Int):=hx
   have hy:ev σ y'=.int .i64 (c:Int):=hy
   have zlen:zv.cells.size=sz:=by rw [<- hz,wDJ,<- wBr (k3 μ)];simp
   have hrun:=run_makeSlice (P:=P) w t e i zv d1 i1 k2 .i64 .i64 (l:Int) (c:Int) (by omega) (by omega) (by rw [i2,nk];exact b2) (by rw [j2];have hb:=Int.ofNat_le.2 b3;rw [Int.natCast_mul] at hb;exact hb) (by omega)
   simp only [nk,i2] at hrun
   have hcells:(madeCells zv.cells (c * sz))=((nQ c zv.cells.toList).flatten).toArray:=by
    apply nJ
    have:=wDh (zc:=zv.cells) (n:=0) c
    simp only [or_false] at this
    rw [zlen] at this
    show ((nY (c * sz)).map (zv.cells[· % zv.cells.size]!)).toList=_
    rw [zlen,this]
   rw [hcells] at hrun
   obtain ⟨μ',h1,h2,h3,h4⟩:=wEA (T:=e) S (wFK (k3 μ) c)
   refine ⟨μ',_,_,h1,h2,⟨_,h4,b1,rfl⟩,h3,by rw [ho];rfl,?_⟩
   simp [execOp,ho,hx,hy,hrun,Result.andThen]
  ·cases hr
 ·cases hc
def wHG (P:Program) (T n:Nat) (z:List AV) (ps:List (Nat × Nat × AOd)):Op->Bool
 | .buildSlice t m qs=>nB m n && (wDA P t (fun d=>match d with | .slice e=>nB e T | _=>false) && (match P.info? T with
   | some i=>nz (n * i.size) 16777216 && (wHF (fun k=>some (k * i.size,i.size)) ps qs.toList && (match i.zero with
    | some v=>wLy z ((nq (n * i.size)).map fun k=>v.cells[k % v.cells.size]!)
    | none=>false))
   | none=>false))
 | _=>false
theorem wOs {T n:Nat} {z:List AV} {ps:List (Nat × Nat × AOd)} {op:Op} (hc:wHG P T n z ps op=true):OkE C P op (wDH T n z ps):=by
 intro σA h v h' hr μ σ w hE S o ho
 unfold wHG at hc
 split at hc
 ·rename_i t m qs
  simp only [hH] at hc
  obtain ⟨c1,c2,c3⟩:=hc
  have e:=nA c1
  subst e
  obtain ⟨d,d1,d2⟩:=wAb c2
  split at d2 <;> first | (cases d2;done) | skip
  have e:=nA d2
  subst e
  rename_i e
  split at c3
  ·rename_i i hi
   simp only [hH,nO] at c3
   obtain ⟨c3,c4,c5⟩:=c3
   split at c5
   ·rename_i zv hz
    unfold wDH at hr
    split at hr
    ·rename_i r hr3
     cases hr
     obtain ⟨R,r1,r2,r3⟩:=wFP hE hr3 c4 (wEO μ c5)
     have hf:=wCN _ _ _ _ r1
     obtain ⟨μ',h1,h2,h3,h4⟩:=wEA (T:=e) S r2
     refine ⟨μ',_,_,h1,h2,⟨_,h4,nE _,rfl⟩,h3,by rw [ho];rfl,?_⟩
     have hs:∀ w,(sizeOf e).run P w=.ok i.size w:=fun w=>by simp [sizeOf,typeInfo,hi]
     have hn':¬ m * i.size > 2 ^ 24:=by omega
     have hq:(qs.map fun (p:Nat × Operand)=>(p.1,ev σ p.2)).toList=qs.toList.map fun (p:Nat × Operand)=>(p.1,ev σ p.2):=by simp
     by_cases h0:m * i.size=0
     ·rw [h0] at hf
      simp only [List.range_zero,kB] at hf
      have hr0:(nY 0).map (fun x=>(#[]:Array Value)[x % (#[]:Array Value).size]!)=#[]:=by rw [show (nY 0)=#[] from rfl,Array.map_empty]
      have hn0:¬ (0:Nat) > 2 ^ 24:=by decide
      simp only [execOp,ho,Instr.buildSlice,Sem.run_bind,wAe d1,hs,Result.andThen_ok,h0,if_neg hn0,if_true,Sem.run_pure,hq,hr0,hf]
      simp [newRow,newObj,Sem.run,Result.andThen]
     ·have hzs:(nY (m * i.size)).map (zv.cells[· % zv.cells.size]!)=((nq (m * i.size)).map fun k=>zv.cells[k % zv.cells.size]!).toArray:=by rw [<- kQ,List.map_toArray]
      simp only [execOp,ho,Instr.buildSlice,Sem.run_bind,wAe d1,hs,wCW hi hz,Result.andThen_ok,if_neg hn',if_neg h0,Sem.run_pure,hq,hzs,hf]
      simp [newRow,newObj,Sem.run,Result.andThen]
    ·cases hr
   ·cases c5
  ·cases c3
 ·cases hc
end
end
end Go.KX
namespace Go.KX
noncomputable section
open Go.RowKit Go.KL
section
variable {C:Chk} {P:Program} {μ μ':Mu} {w w':World} {h h':AH} {σ:Env} {σA:Tr AV} {t e:TypeId} {o:Oper}
theorem wEB {b:Pos} {off:Nat} {vs:List AV} {VS:List Value} {c:Cl} (hr:setAt h b off vs=some h') (S:Sim C P μ h w) (hv:RvL μ vs VS) (h1:∀ v ∈ VS,one v=true) (hc:μ b=some c) :
  ∃ w',(storeCells ⟨c.1,off,none⟩ VS).run P w=.ok () w'/\Sim C P μ h' w'/\Ext μ h.fl.nat w μ w'/\h'.fl=h.fl:=by
 unfold setAt at hr
 split at hr
 ·rename_i T l hB
  split at hr
  ·rename_i l' hl
   obtain ⟨c',g1,vs0,g2,g3⟩:=S.at_ b _ hB
   rw [hc] at g1;cases g1
   obtain ⟨k1,k2⟩:=wGW hl g2 hv
   obtain ⟨w',q1,q2,q3,q4⟩:=wCA (P:=P) off VS 0 vs0 w g3 k1 h1
   obtain ⟨s1,s2,s3⟩:=S.put hr hB trivial hc q3 (B':=.cells T l') ⟨_,k2,q2⟩
   exact ⟨w',q1,s1,s2,s3⟩
  ·cases hr
 ·rename_i T sz l hB
  split at hr
  ·rename_i l' hl
   obtain ⟨c',g1,vs0,g2,g3⟩:=S.at_ b _ hB
   rw [hc] at g1;cases g1
   obtain ⟨k1,k2⟩:=wGW hl g2 hv
   obtain ⟨cur,r1,r2,r3,r4,r5⟩:=RowAt.cells g3
   have hB':Blk w c.1 T cur.toList:=by unfold Blk;rw [r1]
   have hcl:vs0.length <= cur.toList.length:=by rw [<- r5];simp;omega
   obtain ⟨w',q1,q2,q3,q4⟩:=wCA (P:=P) off VS 0 cur.toList w hB' (by omega) h1
   obtain ⟨s1,s2,s3⟩:=S.put hr hB trivial hc q3 (B':=.row T sz l') ⟨_,k2,.inr ⟨c.1,(wDq cur.toList (off + 0) VS).toArray,rfl,q2,by rw [wBf];exact r2,r3,by simp [wBf,r4],by
    rw [wBf,Nat.add_zero]
    show (wDq cur.toList off VS).take vs0.length=_
    rw [wGs _ _ _ _ k1,r5]⟩⟩
   exact ⟨w',q1,s1,s2,s3⟩
  ·cases hr
 ·cases hr
def c_st (P:Program) (n:Nat) (x y:AOd):Op->Bool
 | .store t x' y'=>szT P t n && (wBR x x' && wBR y y')
 | _=>false
theorem u_st {n:Nat} {x y:AOd} {op:Op} (hc:c_st P n x y op=true):OkU C P op (wMi n x y):=by
 intro σA h v h' hr μ σ w hE S o ho
 unfold c_st at hc
 split at hc
 ·rename_i t x' y'
  simp only [hH] at hc
  obtain ⟨c1,c2,c3⟩:=hc
  unfold wMi at hr
  split at hr
  ·rename_i b off hb
   split at hr
   ·rename_i hk
    simp only [hH] at hk
    split at hr
    ·rename_i h1 hs
     cases hr
     have g:=wAJ c2 hE;rw [hb] at g
     obtain ⟨c,g1,g2⟩:=g
     obtain ⟨VS,v1,v2⟩:=wEj (wAJ c3 hE)
     obtain ⟨w',q1,q2,q3,q4⟩:=wEB hs S v1 (wCr v1 hk.2) g1
     have hn:=nA hk.1
     have hlen:VS.length=n:=by rw [wBr v1,<- wDJ,hn]
     refine ⟨μ,w',q3,q2,rfl,q4,by rw [ho];rfl,?_⟩
     simp [execOp,ho,Instr.storeAt,g2,Instr.sureAddr,storeVar,v2,wCV c1,hlen,q1]
    ·cases hr
   ·cases hr
  ·cases hr
 ·cases hc
theorem wGZ {sz m:Nat} {a:AV} {l:List AV} {y:Value} (hr:slice h sz a=some (m,l)) (S:Sim C P μ h w) (hy:Rv μ a y) :
  ∃ A c VS,y=.slice A m c/\RvL μ l VS/\VS.length=m * sz/\(m=0 \/ ∃ ad,A=some ad/\∀ j u,VS[j]?=some u->w.cell? (ad.add j)=some u):=by
 have key:∀ (b:Pos) (off m:Nat) (c:Cl) (l0 r:List AV),μ b=some c->wCO h b=some l0->sub l0 off (m * sz)=some r->∃ VS,RvL μ r VS/\VS.length=m * sz/\∀ j u,VS[j]?=some u->w.cell? ((⟨c.1,off,none⟩:Addr).add j)=some u:=by
  intro b off m c l0 r hc hl hs
  obtain ⟨c',vs,h1,h2,h3⟩:=wDP hl S
  rw [hc] at h1;cases h1
  obtain ⟨g1,g2⟩:=wDe hs h2
  exact ⟨_,g1,by simp;omega,fun j u hu=>by rw [wDg];exact h3 w (Keep.refl w _) _ _ (wDx rfl j u hu)⟩
 unfold slice at hr
 split at hr
 ·cases hr
  have hy:y=.slice none 0 0:=hy
  exact ⟨none,0,[],hy,rfl,by simp,.inl rfl⟩
 ·cases hr
  obtain ⟨d,_,q,rfl⟩:=hy
  exact ⟨_,_,[],rfl,rfl,by simp,.inl rfl⟩
 ·split at hr
  ·rename_i l0 hl
   split at hr
   ·rename_i r hs
    cases hr
    obtain ⟨d,h1,_,rfl⟩:=hy
    obtain ⟨VS,v1,v2,v3⟩:=key _ _ _ _ _ _ h1 hl hs
    exact ⟨_,_,VS,rfl,v1,v2,.inr ⟨_,rfl,v3⟩⟩
   ·cases hr
  ·cases hr
 ·split at hr
  ·rename_i l0 hl
   split at hr
   ·rename_i r hs
    cases hr
    obtain ⟨d,h1,_,rfl⟩:=hy
    obtain ⟨VS,v1,v2,v3⟩:=key _ _ _ _ _ _ h1 hl hs
    exact ⟨_,_,VS,rfl,v1,v2,.inr ⟨_,rfl,v3⟩⟩
   ·cases hr
  ·cases hr
 ·cases hr
theorem wFQ {A A2:Option Addr} {n c c2 ty:Nat} {inf:TypeInfo} (ht:P.underlying t=some (.slice e)) (hi:P.info? e=some inf) (hnc:n <= c):(Builtin.append_ #[t,t] ty #[.slice A n c,.slice A2 0 c2]).run P w=.ok (.slice A n c) w:=by
 have hs:∀ w,(sizeOf e).run P w=.ok inf.size w:=fun w=>by simp [sizeOf,typeInfo,hi]
 cases A <;> cases A2 <;> simp [Builtin.append_,wAe ht,hs,Builtin.lenOf,Builtin.firstCells,hnc,storeCells,loadCells,loadCellsFrom]
theorem wKt {T sz c:Nat} {l:List AV} {cs:List Value} {cur:Array Value} (S:Sim C P μ h w) (K:Keep w w' Non) (hl:RvL μ l cs) (hn:w'.heap[w.heap.size]?=some (.cells cur T (0,0))) (h1:cs.length <= c * sz) (h2:c <= maxLen) (h3:cur.size=c * sz) (h4:cur.toList.take cs.length=cs) :
  ∃ μ',Ext μ h.fl.nat w μ' w'/\Sim C P μ' (h.push (.row T sz l)) w'/\(h.push (.row T sz l)).fl=h.fl/\μ' h.nx=some ⟨w.heap.size,c,g0⟩:=by
 have hle:=Mu.add_le (c:=⟨w.heap.size,c,g0⟩) (S.nx h.nx (nE _))
 obtain ⟨q1,q2,q3,q4⟩:=S.push (w':=w') (c:=⟨w.heap.size,c,g0⟩) (B:=.row T sz l) K (nE _) (wAS hn) ⟨cs,hl.mono hle,.inr ⟨_,cur,rfl,hn,h1,h2,h3,h4⟩⟩
 exact ⟨_,q2,q1,q3,q4⟩
def wMC (P:Program) (T sz by_:Nat) (x y:AOd):Op->Bool
 | .call c=>match c.callee with
  | .builtin b=>(b == .append) && (match c.args.toList,c.argTypes.toList with
   | [x',y'],[t,t']=>nB t t' && (wDA P t (fun d=>match d with | .slice e=>nB e T | _=>false) && (wBR x x' && (wBR y y' && (szT P T sz && (byT P T by_ && (match P.info? T with
    | some i=>match i.zero with | some v=>nB v.cells.size sz && (nR 0 sz && nR 0 by_) | none=>false
    | none=>false))))))
   | _,_=>false)
  | _=>false
 | _=>false
theorem wMD {T sz by_:Nat} {x y:AOd} {op:Op} (hc:wMC P T sz by_ x y op=true) :
  ∃ x' y' t i z,op=.call { callee:=.builtin .append,args:=#[x',y'],argTypes:=#[t,t] }/\P.underlying t=some (.slice T)/\wBR x x'=true/\wBR y y'=true/\P.info? T=some i/\i.zero=some z/\i.size=sz/\i.bytes=by_/\z.cells.size=sz/\0 < sz/\0 < by_:=by
 unfold wMC at hc
 split at hc
 ·rename_i c
  obtain ⟨ce,args,tys⟩:=c
  simp only at hc
  split at hc
  ·rename_i b
   simp only [hH,beq_iff_eq] at hc
   obtain ⟨rfl,h2⟩:=hc
   split at h2
   ·rename_i x' y' t t' h3 h4
    simp only [hH] at h2
    obtain ⟨a1,a2,a3,a4,a5,a6,a7⟩:=h2
    have e:=nA a1
    subst e
    obtain ⟨d,d1,d2⟩:=wAb a2
    split at d2 <;> first | (cases d2;done) | skip
    have e:=nA d2
    subst e
    obtain ⟨i,i1,i2⟩:=wEl a5
    obtain ⟨j,j1,j2⟩:=wEm a6
    rw [i1] at j1;cases j1
    rw [i1] at a7
    simp only at a7
    split at a7
    ·rename_i z hz
     simp only [hH,nG] at a7
     refine ⟨x',y',t,i,z,?_,d1,a3,a4,i1,hz,i2,j2,nA a7.1,a7.2.1,a7.2.2⟩
     congr 2
     ·exact nJ (by simpa using h3)
     ·exact nJ (by simpa using h4)
    ·cases a7
   ·cases h2
  ·cases hc
 ·cases hc
theorem wOt (v:Value) (h1:one v=true):v.oneCell'=true:=by cases v <;> first | rfl | cases h1
theorem e_app {T sz by_:Nat} {x y:AOd} {op:Op} (hc:wMC P T sz by_ x y op=true):OkE C P op (wGv T sz by_ x y):=by
 intro σA h v h' hr μ σ w hE S o ho
 obtain ⟨x',y',t,i,z,rfl,ht,c1,c2,hi,hz,i2,j2,hzs,hsz,hby⟩:=wMD hc
 unfold wGv at hr
 split at hr
 ·rename_i m news hs
  obtain ⟨hones,hr'⟩:=wBB hr
  clear hr;have hr:=hr';clear hr'
  obtain ⟨A2,cc2,NS,e2,n1,n2,n3⟩:=wGZ hs S (wAJ c2 hE)
  have hx:=wAJ c1 hE
  have h1:∀ u ∈ NS,u.oneCell'=true:=fun u hu=>wOt u (wCr n1 hones u hu)
  have fin:∀ {μ':Mu} {w':World} {cv:Value},Ext μ h.fl.nat w μ' w'->Sim C P μ' h' w'->Rv μ' v cv->h'.fl=h.fl->(Builtin.append_ #[t,t] o.type #[ev σ x',ev σ y']).run P w=.ok cv w' ->
    ∃ μ' w' cv,Ext μ h.fl.nat w μ' w'/\Sim C P μ' h' w'/\Rv μ' v cv/\h'.fl=h.fl/\Runs P σ w o cv w':=fun a b c d f =>
   ⟨_,_,_,a,b,c,d,by rw [ho];rfl,by simp [execOp,ho,resolve,invoke,builtin,f]⟩
  unfold app at hr
  split at hr
  ·have zero:∀ {A:Option Addr} {n c:Nat},ev σ x'=.slice A n c->n <= c->Rv μ v (.slice A n c)->h'=h->∃ μ' w' cv,Ext μ h.fl.nat w μ' w'/\Sim C P μ' h' w'/\Rv μ' v cv/\h'.fl=h.fl/\Runs P σ w o cv w':=by
    intro A n c hA hnc hv hh
    subst hh
    exact fin (Ext.refl μ _ w) S hv rfl (by rw [hA,e2];exact wFQ ht hi hnc)
   split at hr <;> cases hr <;> rename_i hb <;> rw [hb] at hx
   ·have g:ev σ x'=.slice none 0 0:=hx
    exact zero g (nE _) rfl rfl
   ·obtain ⟨d,g1,g2,g3⟩:=hx
    exact zero g3 g2 ⟨d,g1,g2,rfl⟩ rfl
   ·obtain ⟨d,g1,g2,g3⟩:=hx
    exact zero g3 (by omega) ⟨d,g1,g2,rfl⟩ rfl
  ·rename_i m
   obtain ⟨ad,rfl,hcell⟩:∃ ad,A2=some ad/\∀ j u,NS[j]?=some u->w.cell? (ad.add j)=some u:=by
    rcases n3 with h0 | h0
    ·cases h0
    ·exact h0
   have maxb:(140737488355328:Nat) <= maxLen:=by decide
   have lenb:∀ n:Nat,n * by_ <= 140737488355328->n <= 140737488355328:=fun n hn=>nZ (kD _ hby) hn
   split at hr
   ·rename_i hb
    rw [hb] at hx
    have hx:ev σ x'=.slice none 0 0:=hx
    obtain ⟨hble,hr'⟩:=wBB hr
    clear hr;have hr:=hr';clear hr'
    cases hr
    have hble:=nK hble
    obtain ⟨A',c',w',r1,r2,r3,r4⟩:=wCb (P:=P) (w:=w) (A:=none) (c:=0) (n:=0) (cs:=[]) (ty:=o.type) (c2:=cc2) ht hi hz i2 hzs hsz (.inl ⟨rfl,rfl,rfl⟩) (by simp) n2 (.inr ⟨ad,rfl,hcell⟩) h1 (by rw [j2,Nat.zero_add];exact hble) (by omega)
    rcases r2 with ⟨_,_,q⟩ | ⟨b,cur,rfl,q1,q2,q3,q4,q5⟩
    ·exfalso
     have:([] ++ NS).length=0:=by rw [q];rfl
     rw [nL,n2] at this
     have:=Nat.mul_pos (Nat.succ_pos m) hsz
     omega
    ·have hb:w.heap.size <= b:=by
      rcases r4 b rfl with q | q
      ·cases q
      ·exact q
     have K:Keep w w' Non:=r3.weak fun i _ q=>by cases q
     rw [nL] at q2 q5
     have hle:=Mu.add_le (c:=⟨b,c',g0⟩) (S.nx h.nx (nE _))
     obtain ⟨s1,s2,s3,s4⟩:=S.push (w':=w') (c:=⟨b,c',g0⟩) (B:=.row T sz news) K hb (wAS q1) ⟨NS,n1.mono hle,.inr ⟨_,cur,rfl,q1,q2,q3,q4,q5⟩⟩
     refine fin s2 s1 ⟨_,s4,?_,?_⟩ s3 (by rw [hx,e2];exact r1)
     ·rw [n2] at q2
      have:=nh q2 hsz
      simpa using this
     ·simp
   ·rename_i b off n c hb
    rw [hb] at hx
    obtain ⟨d,g1,g2,g3⟩:=hx
    split at hr
    ·rename_i hle
     have hle:=nK hle
     split at hr
     ·rename_i h1' hset
      cases hr
      obtain ⟨w',q1,q2,q3,q4⟩:=wEB hset S n1 (wCr n1 hones) g1
      refine fin q3 q2 ⟨d,g1,hle,rfl⟩ q4 ?_
      rw [g3,e2]
      have hf:=run_firstCells_some (P:=P) w i.size (m + 1) ad (m + 1) cc2 NS (by rw [i2];exact n2) hcell
      rw [i2] at hf
      simp [Builtin.append_,wAe ht,sizeOf,typeInfo,hi,Builtin.lenOf,hle,hf,wDg,i2,q1]
     ·cases hr
    ·rename_i hlt
     obtain ⟨hble,hr'⟩:=wBB hr
     clear hr;have hr:=hr';clear hr'
     have hble:=nK hble
     split at hr
     ·rename_i nn olds hold
      cases hr
      have hgt:c < n + (m + 1):=by
       rcases kA c (n + (m + 1)) with q | q
       ·exact q
       ·have q':nz (n + (m + 1)) c=true:=by rw [nO];exact q
        rw [q'] at hlt;cases hlt
      obtain ⟨A1,cc1,OS,k1,k2,k3,k4⟩:=wGZ hold S (show Rv μ (.sl b off n c) _ from ⟨d,g1,g2,rfl⟩)
      cases k1
      have hlen:=lenb _ hble
      have olds':∀ j v,OS[j]?=some v->w.cell? ((⟨d.1,off,none⟩:Addr).add j)=some v:=by
       rcases k4 with q | ⟨ad',q1,q2⟩
       ·intro j v hv
        have hnil:OS=[]:=nb (by rw [k3,q];simp)
        rw [hnil] at hv
        simp at hv
       ·cases q1;exact q2
      have hr:=run_append_grow (P:=P) w t o.type T i z ht hi hz ⟨d.1,off,none⟩ n c OS (by rw [i2];exact k3) olds' ad (m + 1) cc2 NS (by rw [i2];exact n2) hcell hgt (by omega) (growslice_fits hgt (by rw [j2];exact hble))
      have hge:=grownCap_ge w (n + (m + 1)) c T
      have hcm:grownCap w (n + (m + 1)) c T <= maxLen:=grownCap_le_maxLen w (n + (m + 1)) c T (by omega)
      have hlen2:(OS ++ NS).length=(n + (m + 1)) * sz:=by rw [nv,k3,n2,kJ]
      obtain ⟨μ',s1,s2,s3,s4⟩:=wKt (T:=T) (sz:=sz) (c:=grownCap w (n + (m + 1)) c T) (w':=w.drew.alloc (.cells (OS.toArray ++ NS.toArray ++ Builtin.zeroCells z.cells (grownCap w (n + (m + 1)) c T - (n + (m + 1)))) T)) (cur:=OS.toArray ++ NS.toArray ++ Builtin.zeroCells z.cells (grownCap w (n + (m + 1)) c T - (n + (m + 1)))) S
       ((Keep.drew w).non (wAw w.drew _)) (wCq k2 n1) (heap_alloc_new w.drew _) (by rw [hlen2];exact kL _ hge) hcm
       (by
        simp only [kV,kU,size_zeroCells,hzs,k3,n2,<- kJ]
        congr 1
        omega)
       (by simp only [kM,nl];rw [<- nl];exact List.take_left)
      refine fin s1 s2 ⟨_,s4,?_,?_⟩ s3 (by rw [g3,e2];exact hr)
      ·simpa using hge
      ·simp
     ·cases hr
   ·rename_i b eo co n hb
    rw [hb] at hx
    obtain ⟨d,g1,g2,g3⟩:=hx
    split at hr
    ·rename_i T' sz' l hB
     split at hr
     ·rename_i hin
      simp only [hH] at hin
      obtain ⟨p1,p2,p3,p4⟩:=hin
      have p1:=nK p1
      have p2:=nA p2
      have p3:=nA p3
      have p4:=nA p4
      subst p2 p3 p4
      split at hr
      ·rename_i h1' hset
       cases hr
       obtain ⟨d',k1,OS,k2,k3⟩:=S.at_ b _ hB
       rw [g1] at k1;cases k1
       obtain ⟨cur,r1,r2,_⟩:=RowAt.cells k3
       have hle:n + (m + 1) <= d.2:=by
        rw [wDJ,<- wBr k2] at p1
        exact nh (nZ p1 r2) hsz
       obtain ⟨w',q1,q2,q3,q4⟩:=wEB hset S n1 (wCr n1 hones) g1
       refine fin q3 q2 ⟨d,g1,by omega,rfl⟩ q4 ?_
       rw [g3,e2]
       have hf:=run_firstCells_some (P:=P) w i.size (m + 1) ad (m + 1) cc2 NS (by rw [i2];exact n2) hcell
       rw [i2] at hf
       simp [Builtin.append_,wAe ht,sizeOf,typeInfo,hi,Builtin.lenOf,hle,hf,wDg,i2,q1]
      ·cases hr
     obtain ⟨hcond,hr'⟩:=wBB hr
     clear hr;have hr:=hr';clear hr'
     simp only [hH] at hcond
     obtain ⟨⟨⟨⟨⟨q1,q2⟩,q3⟩,q4⟩,q5⟩,q6⟩:=hcond
     have q1:=nA q1
     have q2:=nA q2
     have q3:=nA q3
     have q4:=nA q4
     have q5:=nA q5
     have hble:=nK q6
     subst q1 q2 q3 q4
     split at hr
     ·rename_i h1' hput
      cases hr
      obtain ⟨d',k1,OS,k2,k3⟩:=S.at_ b _ hB
      rw [g1] at k1;cases k1
      have hol:OS.length=n * sz:=by rw [wBr k2,<- wDJ,<- q5]
      obtain ⟨A',c',w',r1,r2,r3,r4⟩:=wCb (P:=P) (w:=w) (A:=some ⟨d.1,0,none⟩) (c:=d.2) (n:=n) (cs:=OS) (ty:=o.type) (c2:=cc2) ht hi hz i2 hzs hsz k3 hol n2 (.inr ⟨ad,rfl,hcell⟩) h1 (by rw [j2];exact hble) (by omega)
      rcases r2 with ⟨_,_,q⟩ | ⟨b',cur,rfl,p1,p2,p3,p4,p5⟩
      ·exfalso
       have:(OS ++ NS).length=0:=by rw [q];rfl
       rw [nv,n2] at this
       have:=Nat.mul_pos (Nat.succ_pos m) hsz
       omega
      ·have hb':b'=d.1 \/ w.heap.size <= b':=by
        rcases r4 b' rfl with q | q
        ·cases q;exact .inl rfl
        ·exact .inr q
       have K:Keep w w' (·=d.1):=r3.weak fun i _ q=>by cases q;rfl
       have hle:=Mu.add_le (c:=⟨b',c',g0⟩) (S.nx h.nx (nE _))
       have hnx:h.nx=h.nx:=rfl
       obtain ⟨s1,s2,s3,s4⟩:=S.move (w':=w') (d:=⟨b',c',g0⟩) (B':=.row T sz (l ++ news)) hput hB trivial g1 K hb' (wAS p1) ⟨OS ++ NS,(wCq k2 n1).mono hle,.inr ⟨_,cur,rfl,p1,p2,p3,p4,p5⟩⟩
       refine fin s2 s1 ⟨_,s4,?_,?_⟩ s3 (by rw [g3,e2];simpa using r1)
       ·rw [nv,hol,n2,<- kJ] at p2
        have:=nh p2 hsz
        simpa using this
       ·simp
     ·cases hr
    ·cases hr
   ·cases hr
 ·cases hr
def wNd (P:Program) (sz:Nat) (x y:AOd):Op->Bool
 | .call c=>match c.callee with
  | .builtin b=>(b == .copy) && (match c.args.toList,c.argTypes.toList with
   | [x',y'],t :: _=>wDA P t (fun d=>match d with | .slice e=>szT P e sz | _=>false) && (wBR x x' && wBR y y')
   | _,_=>false)
  | _=>false
 | _=>false
theorem e_cpy {sz:Nat} {x y:AOd} {op:Op} (hc:wNd P sz x y op=true):OkE C P op (wGw sz x y):=by
 intro σA h v h' hr μ σ w hE S o ho
 unfold wNd at hc
 split at hc
 ·rename_i c
  obtain ⟨ce,args,tys⟩:=c
  simp only at hc
  split at hc
  ·rename_i b
   simp only [hH,beq_iff_eq] at hc
   obtain ⟨rfl,h2⟩:=hc
   split at h2
   ·rename_i x' y' t ts h3 h4
    simp only [hH] at h2
    obtain ⟨a1,a2,a3⟩:=h2
    obtain ⟨d,d1,d2⟩:=wAb a1
    split at d2 <;> first | (cases d2;done) | skip
    rename_i e
    have ea:args=#[x',y']:=nJ (by simpa using h3)
    have et:tys[0]?=some t:=by rw [<- kK,h4];rfl
    unfold wGw at hr
    split at hr
    ·rename_i b off n cc m news hx hs
     split at hr
     ·rename_i vs hsub
      obtain ⟨hones,hr'⟩:=wBB hr
      clear hr;have hr:=hr';clear hr'
      split at hr
      ·rename_i h1' hset
       cases hr
       have g:=wAJ a2 hE;rw [hx] at g
       obtain ⟨c0,g1,_,g3⟩:=g
       obtain ⟨A2,cc2,NS,e2,n1,n2,n3⟩:=wGZ hs S (wAJ a3 hE)
       generalize hk:(if nz m n=true then m else n)=k at hsub ⊢
       have hmin:Nat.min m n=k:=by
        rw [<- hk]
        by_cases q:m <= n
        ·rw [if_pos (by rw [nO];exact q)];exact Nat.min_eq_left q
        ·rw [if_neg (by rw [nO];exact q)];exact Nat.min_eq_right (by omega)
       obtain ⟨k1,k2⟩:=wDe hsub n1
       rw [List.drop_zero] at k1
       obtain ⟨w',q1,q2,q3,q4⟩:=wEB hset S k1 (wCr k1 hones) g1
       refine ⟨μ,w',_,q3,q2,rfl,q4,by rw [ho];rfl,?_⟩
       have hf:∀ (w1:World),w1=w->(Builtin.firstCells sz k (.slice A2 m cc2)).run P w1=.ok (NS.take (k * sz)).toArray w1:=by
        intro w1 hw1
        subst hw1
        cases A2 with
        | none =>
         have hm:m=0:=by
          rcases n3 with q | ⟨_,q,_⟩
          ·exact q
          ·cases q
         have hN:NS=[]:=nb (by rw [n2,hm];simp)
         subst hN
         simp [Builtin.firstCells]
        | some ad =>
         have hcell:∀ j u,(NS.take (k * sz))[j]?=some u->w1.cell? (ad.add j)=some u:=by
          intro j u hu
          rw [kP] at hu
          split at hu
          ·rcases n3 with q | ⟨ad',q,q'⟩
           ·have hN:NS=[]:=nb (by rw [n2,q];simp)
            subst hN;simp at hu
           ·cases q;exact q' j u hu
          ·cases hu
         exact run_firstCells_some (P:=P) w1 sz k ad m cc2 (NS.take (k * sz)) (by rw [List.length_take];omega) hcell
       have hs2:=wCV d2
       simp [execOp,ho,ea,et,resolve,invoke,builtin,Builtin.copy_,wAe d1,g3,e2,Builtin.lenOf,hmin,hs2,hf w rfl,q1,goInt,Result.andThen]
      ·cases hr
     ·cases hr
    ·cases hr
   ·cases h2
  ·cases hc
 ·cases hc
def wNe (P:Program) (z:List AV) (x:AOd):Op->Bool
 | .call c=>match c.callee with
  | .builtin b=>(b == .clear) && (match c.args.toList,c.argTypes.toList with
   | [x'],[t]=>wDA P t (fun d=>match d with | .slice e=>zT P e z | _=>false) && wBR x x'
   | _,_=>false)
  | _=>false
 | _=>false
theorem wCc {zc:Array Value} (c:Nat):(Builtin.zeroCells zc c).toList=(nQ c zc.toList).flatten:=by
 have:=wDh (zc:=zc) (n:=0) c
 simp only [or_false] at this
 exact this
def wNf (P:Program) (T sz by_:Nat) (z:List AV) (x y:AOd):Op->Bool
 | .call c=>match c.callee with
  | .builtin b=>(b == .append) && (match c.args.toList,c.argTypes.toList with
   | [x',y'],[t,t']=>wDA P t (fun d=>match d with | .slice e=>nB e T | _=>false) && (wDA P t' (fun d=>match d with | .int _=>true | _=>false) && (wBR x x' && (wBR y y' && (szT P T sz && (byT P T by_ && (zT P T z && (nB (len z) sz && (nR 0 sz && nR 0 by_))))))))
   | _,_=>false)
  | _=>false
 | _=>false
theorem e_apz {T sz by_:Nat} {z:List AV} {x y:AOd} {op:Op} (hc:wNf P T sz by_ z x y op=true):OkE C P op (wHA T sz by_ z x y):=by
 intro σA h v h' hr μ σ w hE S o ho
 unfold wNf at hc
 split at hc <;> first | (cases hc;done) | skip
 rename_i c
 obtain ⟨ce,args,tys⟩:=c
 simp only at hc
 split at hc <;> first | (cases hc;done) | skip
 rename_i b
 simp only [hH,beq_iff_eq] at hc
 obtain ⟨rfl,h2⟩:=hc
 split at h2 <;> first | (cases h2;done) | skip
 rename_i x' y' t t' h3 h4
 simp only [hH] at h2
 obtain ⟨a1,a2,a3,a4,a5,a6,a7,a8,a9,a10⟩:=h2
 have hargs:args=#[x',y']:=nJ (by simpa using h3)
 have htys:tys=#[t,t']:=nJ (by simpa using h4)
 subst hargs htys
 obtain ⟨d,d1,d2⟩:=wAb a1
 split at d2 <;> first | (cases d2;done) | skip
 have e:=nA d2
 subst e
 rename_i e
 obtain ⟨dn,n1,n2⟩:=wAb a2
 split at n2 <;> first | (cases n2;done) | skip
 rename_i kn
 obtain ⟨i,i1,i2⟩:=wEl a5
 obtain ⟨i',j1,j2⟩:=wEm a6
 obtain ⟨i'',zv,k1,k2,k3⟩:=wDf a7
 rw [i1] at j1 k1;cases j1;cases k1
 have hz:=nA a8
 have hsz:0 < sz:=by simpa [nG] using a9
 have hx:=wAJ a3 hE
 have hy:=wAJ a4 hE
 have fin:∀ {μ':Mu} {w':World} {cv:Value},Ext μ h.fl.nat w μ' w'->Sim C P μ' h' w'->Rv μ' v cv->h'.fl=h.fl->(Builtin.append_ #[t,t'] o.type #[ev σ x',ev σ y']).run P w=.ok cv w' ->
   ∃ μ' w' cv,Ext μ h.fl.nat w μ' w'/\Sim C P μ' h' w'/\Rv μ' v cv/\h'.fl=h.fl/\Runs P σ w o cv w':=fun a b c d f =>
  ⟨_,_,_,a,b,c,d,by rw [ho];rfl,by simp [execOp,ho,resolve,invoke,builtin,f]⟩
 have zlen:zv.cells.size=sz:=by rw [<- hz,wDJ,<- wBr (k3 μ)];simp
 unfold wHA at hr
 split at hr
 ·rename_i nn hxs hn
  rw [hxs] at hx
  rw [wBQ hn] at hy
  have hx:ev σ x'=.slice none 0 0:=hx
  have hy:ev σ y'=.int .i64 (nn:Int):=hy
  cases nn with
  | zero =>
   cases hr
   refine fin (Ext.refl μ _ w) S rfl rfl ?_
   rw [hx,hy]
   simp [Builtin.append_,run_underlying d1,run_underlying n1,sizeOf,typeInfo,i1,asInt,asIntOf,IntKind.wrap_i64]
  | succ m =>
   obtain ⟨hble,hr⟩:=wBB hr
   have hble:=nK hble
   cases hr
   have hby:0 < by_:=by simpa [nG] using a10
   have hnb:m + 1 <= 140737488355328:=nZ (kD _ hby) hble
   have hrun:=Go.Lib.run_append_nil_zeros (P:=P) w t t' o.type e i zv .i64 kn d1 n1 i1 k2 (m + 1) (by omega) (by rw [i2];exact hsz) (by omega) (by rw [j2];omega)
   have hge:=grownCap_ge w (m + 1) 0 e
   have maxb:(140737488355328:Nat) <= maxLen:=by decide
   have hcm:grownCap w (m + 1) 0 e <= maxLen:=grownCap_le_maxLen w (m + 1) 0 e (by omega)
   have hcs:((nQ (m + 1) zv.cells.toList).flatten).length=(m + 1) * sz:=by rw [<- wCc];simp [size_zeroCells,zlen]
   obtain ⟨μ',s1,s2,s3,s4⟩:=wKt (T:=e) (sz:=sz) (c:=grownCap w (m + 1) 0 e) (w':=w.drew.alloc (.cells (Builtin.zeroCells zv.cells (m + 1) ++ Builtin.zeroCells zv.cells (grownCap w (m + 1) 0 e - (m + 1))) e)) (cur:=Builtin.zeroCells zv.cells (m + 1) ++ Builtin.zeroCells zv.cells (grownCap w (m + 1) 0 e - (m + 1))) S
    ((Keep.drew w).non (wAw w.drew _)) (wFK (k3 μ) (m + 1)) (heap_alloc_new w.drew _) (by rw [hcs];exact kL _ hge) hcm
    (by
     simp only [kV,size_zeroCells,zlen,<- kJ]
     congr 1
     omega)
    (by
     rw [kM,wCc]
     exact List.take_left)
   refine fin s1 s2 ⟨_,s4,?_,?_⟩ s3 (by rw [hx,hy];exact hrun)
   ·simpa using hge
   ·simp
 ·cases hr
theorem e_clr {z:List AV} {x:AOd} {op:Op} (hc:wNe P z x op=true):OkE C P op (wGx z x):=by
 intro σA h v h' hr μ σ w hE S o ho
 unfold wNe at hc
 split at hc
 ·rename_i c
  obtain ⟨ce,args,tys⟩:=c
  simp only at hc
  split at hc
  ·rename_i b
   simp only [hH,beq_iff_eq] at hc
   obtain ⟨rfl,h2⟩:=hc
   split at h2
   ·rename_i x' t h3 h4
    simp only [hH] at h2
    obtain ⟨a1,a2⟩:=h2
    obtain ⟨d,d1,d2⟩:=wAb a1
    split at d2 <;> first | (cases d2;done) | skip
    rename_i e
    have ea:args=#[x']:=nJ (by simpa using h3)
    have et:tys=#[t]:=nJ (by simpa using h4)
    subst ea et
    have hx:=wAJ a2 hE
    obtain ⟨i,zv,z1,z2,z3⟩:=wDf d2
    have zero:∀ {A:Option Addr} {c:Nat},ev σ x'=.slice A 0 c->v=u->h'=h->∃ μ' w' cv,Ext μ h.fl.nat w μ' w'/\Sim C P μ' h' w'/\Rv μ' v cv/\h'.fl=h.fl/\Runs P σ w o cv w':=by
     intro A c hA hv hh
     subst hv hh
     refine ⟨μ,w,undef,Ext.refl μ _ w,S,wKZ μ,rfl,by rw [ho];rfl,?_⟩
     cases A <;> simp [execOp,ho,resolve,invoke,builtin,Builtin.clear_,hA,wAe d1,undef]
    have full:∀ {b:Pos} {c:Cl} {off n cap:Nat},μ b=some c->ev σ x'=.slice (some ⟨c.1,off,none⟩) n cap->clr h z b off n=some (v,h')->∃ μ' w' cv,Ext μ h.fl.nat w μ' w'/\Sim C P μ' h' w'/\Rv μ' v cv/\h'.fl=h.fl/\Runs P σ w o cv w':=by
     intro b c off n cap hb hA hr
     unfold clr at hr
     split at hr
     ·cases hr;exact zero hA rfl rfl
     ·rename_i n
      obtain ⟨hones,hr'⟩:=wBB hr
      split at hr'
      ·rename_i h1' hset
       cases hr'
       have k1:=wFK (z3 μ) (n + 1)
       have k2:∀ v ∈ (nQ (n + 1) zv.cells.toList).flatten,one v=true:=by
        intro v hv
        simp only [List.mem_flatten,List.mem_replicate] at hv
        obtain ⟨l,⟨_,rfl⟩,hv⟩:=hv
        exact wCr (z3 μ) hones v hv
       obtain ⟨w',q1,q2,q3,q4⟩:=wEB hset S k1 k2 hb
       refine ⟨μ,w',undef,q3,q2,wKZ μ,q4,by rw [ho];rfl,?_⟩
       rw [<- wCc] at q1
       simp [execOp,ho,resolve,invoke,builtin,Builtin.clear_,hA,wAe d1,wCW z1 z2,q1,undef,Result.andThen]
      ·cases hr'
    unfold wGx at hr
    split at hr
    ·rename_i hb;rw [hb] at hx;obtain ⟨c,g1,_,g3⟩:=hx;exact full g1 g3 hr
    ·rename_i hb;rw [hb] at hx;obtain ⟨c,g1,_,g3⟩:=hx;exact full g1 g3 hr
    ·rename_i hb;rw [hb] at hx;cases hr;obtain ⟨c,g1,q,g3⟩:=hx;exact zero g3 rfl rfl
    ·rename_i hb;rw [hb] at hx;cases hr;have hx:ev σ x'=.slice none 0 0:=hx;exact zero hx rfl rfl
    ·cases hr
   ·cases h2
  ·cases hc
 ·cases hc
end
end
end Go.KX
namespace Go.KX
noncomputable section
open Go.RowKit Go.KL
section
variable {C:Chk} {P:Program} {μ μ':Mu} {w w':World} {h h':AH} {σ:Env} {σA:Tr AV} {t e:TypeId} {o:Oper} {K:Type} [DecidableEq K]
def wLq (P:Program) (two:Bool) (k:IntKind) (kt:TypeId):Bool:=match two with
 | false=>wDA P kt fun d=>match wKf d with | some k'=>keq k k' | none=>false
 | true=>(!P.stoodInHeld kt) && wDA P kt fun d=>match d with
  | .struct fs=>match fs.toList with
   | [f, g] => nB f.type g.type && (nB f.offset 0 && (nB g.offset 1 && ((f.name != "_") && ((g.name != "_") && wDA P f.type fun d => match wKf d with | some k' => keq k k' | none => false))))
   | _=>false
  | _=>false
theorem keyI {k:IntKind} {kt:TypeId} (hc:wLq P false k kt=true):KeyR P kt (fun n:Int=>nu k n):=by
 obtain ⟨d,d1,d2⟩:=wAb hc
 cases d <;> first | (cases d2;done) | skip
 have:=wBE d2
 subst this
 exact KeyR.ofInt d1
theorem wJT {k:IntKind} {kt:TypeId} (hc:wLq P true k kt=true):KeyR P kt (mk2 k):=by
 simp only [wLq,hH,nW] at hc
 obtain ⟨c0,c1⟩:=hc
 obtain ⟨d,d1,d2⟩:=wAb c1
 split at d2
 ·rename_i fs
  split at d2
  ·rename_i f g hfs
   simp only [hH] at d2
   obtain ⟨a1,a2,a3,a4,a5,a6⟩:=d2
   obtain ⟨di,i1,i2⟩:=wAb a6
   cases di <;> first | (cases i2;done) | skip
   have ek:=wBE i2
   subst ek
   have efs:fs=#[f,g]:=nJ (by simpa using hfs)
   subst efs
   have T:Two P kt f.type f g k:=⟨d1,rfl,nA a2,by simpa using a4,(nA a1).symm,nA a3,by simpa using a5,i1,fun w=>wFM i1 w,c0⟩
   exact T.keyR (mk2 k) (·.1) (·.2) (fun _=>rfl) fun x y h1 h2=>Prod.ext h1 h2
  ·cases d2
 ·cases d2
theorem mrI {l:List (Int × AV)} {tt:List (Int × Value)} (hm:MR μ l tt) (n:Int):(wJL l n=none/\wFk tt n=none) \/ ∃ a v,wJL l n=some a/\wFk tt n=some v/\Rv μ a v:=by
 induction l generalizing tt with
 | nil=>cases tt with
  | nil=>exact .inl ⟨rfl,rfl⟩
  | cons q tt=>have:=hm.1;simp at this
 | cons p l ih =>
  cases tt with
  | nil=>have:=hm.1;simp at this
  | cons q tt =>
   obtain ⟨a,x⟩:=p
   obtain ⟨b,v⟩:=q
   obtain ⟨h1,h2⟩:=hm
   simp only [nH,nD] at h1
   obtain ⟨v',ws,g1,g2,g3⟩:=h2
   simp only [nH,nD] at g3
   obtain ⟨rfl,rfl⟩:=g3
   obtain ⟨rfl,h1⟩:=h1
   simp only [wJL,wFk]
   by_cases e:n=a
   ·right;exact ⟨x,v,by simp [wCs,e],by simp [e],g1⟩
   ·have:=ih (tt:=tt) ⟨h1,g2⟩
    simpa [wCs,e] using this
theorem wNg {l:List (Int × AV)} {tt:List (Int × Value)} (hm:MR μ l tt) (n:Int) {a:AV} {v:Value} (hv:Rv μ a v):MR μ (wJx l n a) (mput tt n v):=by
 induction l generalizing tt with
 | nil=>cases tt with
  | nil=>exact ⟨rfl,wBA hv wFJ⟩
  | cons q tt=>have:=hm.1;simp at this
 | cons p l ih =>
  cases tt with
  | nil=>have:=hm.1;simp at this
  | cons q tt =>
   obtain ⟨b,x⟩:=p
   obtain ⟨b',v0⟩:=q
   obtain ⟨h1,h2⟩:=hm
   simp only [nH,nD] at h1
   obtain ⟨v',ws,g1,g2,g3⟩:=h2
   simp only [nH,nD] at g3
   obtain ⟨rfl,rfl⟩:=g3
   obtain ⟨rfl,h1⟩:=h1
   simp only [wJx,mput,wCs]
   by_cases e:n=b
   ·simp only [e,decide_true,if_true]
    exact ⟨by simp [h1],wBA hv g2⟩
   ·have:=ih (tt:=tt) ⟨h1,g2⟩
    simp only [e,decide_false,if_false]
    exact ⟨by simp [this.1],wBA g1 this.2⟩
theorem wNh {l:List (Int × AV)} {tt:List (Int × Value)} (hm:MR μ l tt) (n:Int):MR μ (wJz l n) (mdel tt n):=by
 induction l generalizing tt with
 | nil=>cases tt with
  | nil=>exact ⟨rfl,rfl⟩
  | cons q tt=>have:=hm.1;simp at this
 | cons p l ih =>
  cases tt with
  | nil=>have:=hm.1;simp at this
  | cons q tt =>
   obtain ⟨b,x⟩:=p
   obtain ⟨b',v0⟩:=q
   obtain ⟨h1,h2⟩:=hm
   simp only [nH,nD] at h1
   obtain ⟨v',ws,g1,g2,g3⟩:=h2
   simp only [nH,nD] at g3
   obtain ⟨rfl,rfl⟩:=g3
   obtain ⟨rfl,h1⟩:=h1
   simp only [wJz,mdel,wCs]
   by_cases e:n=b
   ·simp only [e,decide_true,if_true]
    exact ⟨h1,g2⟩
   ·have:=ih (tt:=tt) ⟨h1,g2⟩
    simp only [e,decide_false,if_false]
    exact ⟨by simp [this.1],wBA g1 this.2⟩
theorem z2 (x y a b:Int):(zeq x a && zeq y b)=decide ((x,y)=(a,b)):=by
 rw [wCs,wCs]
 by_cases h1:x=a <;> by_cases h2:y=b <;> simp [h1,h2]
theorem mr2 {l:List ((Int × Int) × AV)} {tt:List ((Int × Int) × Value)} (hm:MR μ l tt) (x y:Int):(wJK l x y=none/\wFk tt (x,y)=none) \/ ∃ a v,wJK l x y=some a/\wFk tt (x,y)=some v/\Rv μ a v:=by
 induction l generalizing tt with
 | nil=>cases tt with
  | nil=>exact .inl ⟨rfl,rfl⟩
  | cons q tt=>have:=hm.1;simp at this
 | cons p l ih =>
  cases tt with
  | nil=>have:=hm.1;simp at this
  | cons q tt =>
   obtain ⟨⟨a,b⟩,x0⟩:=p
   obtain ⟨b',v⟩:=q
   obtain ⟨h1,h2⟩:=hm
   simp only [nH,nD] at h1
   obtain ⟨v',ws,g1,g2,g3⟩:=h2
   simp only [nH,nD] at g3
   obtain ⟨rfl,rfl⟩:=g3
   obtain ⟨rfl,h1⟩:=h1
   simp only [wJK,wFk,z2]
   by_cases e:(x,y)=(a,b)
   ·right;exact ⟨x0,v,by simp only [e,decide_true],by simp only [e,if_true],g1⟩
   ·have:=ih (tt:=tt) ⟨h1,g2⟩
    simp only [e,decide_false,if_false]
    exact this
theorem wNi {l:List ((Int × Int) × AV)} {tt:List ((Int × Int) × Value)} (hm:MR μ l tt) (x y:Int) {a:AV} {v:Value} (hv:Rv μ a v):MR μ (wJw l x y a) (mput tt (x,y) v):=by
 induction l generalizing tt with
 | nil=>cases tt with
  | nil=>exact ⟨rfl,wBA hv wFJ⟩
  | cons q tt=>have:=hm.1;simp at this
 | cons p l ih =>
  cases tt with
  | nil=>have:=hm.1;simp at this
  | cons q tt =>
   obtain ⟨⟨b1,b2⟩,x0⟩:=p
   obtain ⟨b',v0⟩:=q
   obtain ⟨h1,h2⟩:=hm
   simp only [nH,nD] at h1
   obtain ⟨v',ws,g1,g2,g3⟩:=h2
   simp only [nH,nD] at g3
   obtain ⟨rfl,rfl⟩:=g3
   obtain ⟨rfl,h1⟩:=h1
   simp only [wJw,mput,z2]
   by_cases e:(x,y)=(b1,b2)
   ·simp only [e,decide_true,if_true]
    exact ⟨by simp [h1],wBA hv g2⟩
   ·have:=ih (tt:=tt) ⟨h1,g2⟩
    simp only [e,decide_false,if_false]
    exact ⟨by simp [this.1],wBA g1 this.2⟩
theorem wNj {l:List ((Int × Int) × AV)} {tt:List ((Int × Int) × Value)} (hm:MR μ l tt) (x y:Int):MR μ (wJy l x y) (mdel tt (x,y)):=by
 induction l generalizing tt with
 | nil=>cases tt with
  | nil=>exact ⟨rfl,rfl⟩
  | cons q tt=>have:=hm.1;simp at this
 | cons p l ih =>
  cases tt with
  | nil=>have:=hm.1;simp at this
  | cons q tt =>
   obtain ⟨⟨b1,b2⟩,x0⟩:=p
   obtain ⟨b',v0⟩:=q
   obtain ⟨h1,h2⟩:=hm
   simp only [nH,nD] at h1
   obtain ⟨v',ws,g1,g2,g3⟩:=h2
   simp only [nH,nD] at g3
   obtain ⟨rfl,rfl⟩:=g3
   obtain ⟨rfl,h1⟩:=h1
   simp only [wJy,mdel,z2]
   by_cases e:(x,y)=(b1,b2)
   ·simp only [e,decide_true,if_true]
    exact ⟨h1,g2⟩
   ·have:=ih (tt:=tt) ⟨h1,g2⟩
    simp only [e,decide_false,if_false]
    exact ⟨by simp [this.1],wBA g1 this.2⟩
theorem wOu {mt kt et:TypeId} {m ck:Nat} {es:Array MapEntry} {mk:K->Value} {tt:List (K × Value)} {a:K} {z:Value} {ok:Bool} (hm:w.heap[m]?=some (.map es ck)) (hu:P.underlying mt=some (.map kt et)) (R:KeyR P kt mk) (hz:∀ w,(zeroValue et).run P w=.ok z w) (hh:MpR es mk id tt) :
  (Instr.lookup mt (.map (some m)) (mk a) ok).run P w=.ok (if ok then .tuple #[wDY tt a z,.bool (wNE tt a)] else wDY tt a z) w:=by
 have hf:=R.find id es.toList tt a w hh
 have hg:=wEw tt a 0
 unfold wDY wNE
 simp [Instr.lookup,run_underlying hu,MapKept.run_getObj_map hm,R.chk,hf,Result.andThen,<- hg]
 cases e:wBo tt a 0 <;> simp [hz,Result.andThen]
theorem wNk {mt kt et:TypeId} {m ck:Nat} {es:Array MapEntry} {mk:K->Value} {tt:List (K × Value)} {a:K} {v:Value} (hm:w.heap[m]?=some (.map es ck)) (hu:P.underlying mt=some (.map kt et)) (R:KeyR P kt mk) (hh:MpR es mk id tt) :
  ∃ es' ck',MpR es' mk id (mput tt a v)/\(Instr.mapUpdate mt (.map (some m)) (mk a) v).run P w=.ok () (w.putObj m (.map es' ck')):=by
 have hf:=R.find id es.toList tt a w hh
 cases e:wBo tt a 0 with
 | none =>
  obtain ⟨e1,_⟩:=wDZ e v
  refine ⟨es.push { key:=mk a,val:=v,born:=ck },ck + 1,?_,?_⟩
  ·unfold MpR at hh ⊢;rw [e1];simp [hh]
  ·simp [Instr.mapUpdate,run_underlying hu,MapKept.run_getObj_map hm,R.chk,hf,e,Result.andThen,MapKept.run_setObj_map _ hm]
   rfl
 | some p =>
  obtain ⟨q,u⟩:=p
  obtain ⟨_,h2,h3,_⟩:=wDa e v
  rw [Nat.sub_zero] at h2 h3
  have hq:q < tt.length:=(List.getElem?_eq_some_iff.1 h2).1
  have hl:es.size=tt.length:=by have:=congrArg nt hh;simpa using this
  have hkq:((es[q]?).map (·.key)).getD (mk a)=mk a:=by
   have h4:(es.toList.map (fun e=>(e.key,e.val)))[q]?=some (mk a,u):=by rw [hh,no,h2];rfl
   rw [no] at h4
   cases h5:es.toList[q]? with
   | none=>rw [h5] at h4;cases h4
   | some e =>
    rw [h5] at h4
    simp only [kZ,nj,Prod.mk.injEq] at h4
    have h6:es[q]?=some e:=by simpa using h5
    rw [h6];simp [h4.1]
  refine ⟨es.modify q fun e=>{ e with key:=mk a,val:=v },ck,?_,?_⟩
  ·unfold MpR at hh ⊢
   rw [h3]
   apply List.ext_getElem?
   intro n
   have hn:=congrArg (·[n]?) hh
   simp only [no] at hn ⊢
   rw [List.getElem?_set]
   simp only [Array.toList_modify,List.getElem?_modify]
   by_cases hqn:q=n
   ·subst hqn
    have h5:es.toList[q]?=some (es.toList[q]'(by simpa [hl] using hq)):=ni _
    simp [h5,hq]
   ·simp only [hqn,if_false]
    simpa [hqn] using hn
  ·simp [Instr.mapUpdate,run_underlying hu,MapKept.run_getObj_map hm,R.chk,hf,e,Result.andThen,MapKept.run_setObj_map _ hm,Instr.keyThatStays,hkq,R.same]
   rfl
theorem wNl {mt kt et ty:TypeId} {tys:Array TypeId} {m ck:Nat} {es:Array MapEntry} {mk:K->Value} {tt:List (K × Value)} {a:K} (hty:tys[0]?=some mt) (hm:w.heap[m]?=some (.map es ck)) (hu:P.underlying mt=some (.map kt et)) (R:KeyR P kt mk) (hh:MpR es mk id tt) :
  ∃ es' ck',MpR es' mk id (mdel tt a)/\(Builtin.delete_ tys ty #[.map (some m),mk a]).run P w=.ok (.tuple #[]) (w.putObj m (.map es' ck')):=by
 have hf:=R.find id es.toList tt a w hh
 cases e:wBo tt a 0 with
 | none =>
  obtain ⟨_,e1⟩:=wDZ e (.bool true)
  refine ⟨es,ck,by rw [e1];exact hh,?_⟩
  simp [Builtin.delete_,hty,run_underlying hu,MapKept.run_getObj_map hm,R.chk,hf,e,Result.andThen,MapKept.run_setObj_map _ hm]
  rfl
 | some p =>
  obtain ⟨q,u⟩:=p
  obtain ⟨_,h2,_,h3⟩:=wDa e (.bool true)
  rw [Nat.sub_zero] at h2 h3
  refine ⟨es.eraseIdxIfInBounds q,ck,?_,?_⟩
  ·unfold MpR at hh ⊢
   rw [h3,<- wCp,<- hh,wCp]
   simp
  ·simp [Builtin.delete_,hty,run_underlying hu,MapKept.run_getObj_map hm,R.chk,hf,e,Result.andThen,MapKept.run_setObj_map _ hm]
   rfl
def wNm (C:Chk) (P:Program) (μ:Mu) (w:World) (c:Cl) (two:Bool) (k:IntKind) (kt:TypeId) (B:AB) (y:AV) (Y:Value):Prop :=
  ∃ (K:Type) (_:DecidableEq K) (mk:K->Value) (a:K) (es:Array MapEntry) (ck:Nat) (tt:List (K × Value)),Y=mk a/\w.heap[c.1]?=some (.map es ck)/\KeyR P kt mk/\MpR es mk id tt /\
   (∀ q,wFC two k B y=some q->(q=none/\wFk tt a=none) \/ ∃ x v,q=some x/\wFk tt a=some v/\Rv μ x v) /\
   (∀ x v B',wLm two k B y x=some B'->Rv μ x v->wJP B'/\∀ w' es' ck',w'.heap[c.1]?=some (.map es' ck')->MpR es' mk id (mput tt a v)->AbR C P μ w' c B') /\
   (∀ B',wLn two k B y=some B'->wJP B'/\∀ w' es' ck',w'.heap[c.1]?=some (.map es' ck')->MpR es' mk id (mdel tt a)->AbR C P μ w' c B')
theorem wKu {two:Bool} {k:IntKind} {kt:TypeId} {B:AB} {y:AV} {Y:Value} {c:Cl} (hk:wLq P two k kt=true) (hB:AbR C P μ w c B) (hY:Rv μ y Y) (hr:(wFC two k B y).isSome=true \/ (∃ v,(wLm two k B y v).isSome=true) \/ (wLn two k B y).isSome=true) :
  wNm C P μ w c two k kt B y Y/\wJP B:=by
 have caseI:two=false->∀ (n:Int) (es:Array MapEntry) (ck:Nat) (tt:List (Int × Value)) (l:List (Int × AV)),y=.int k n->w.heap[c.1]?=some (.map es ck)->MpR es (fun n:Int=>nu k n) id tt->MR μ l tt ->
   (∀ q,wFC two k B y=some q->q=wJL l n)->(∀ x B',wLm two k B y x=some B'->B'=.mapI k (wJx l n x))->(∀ B',wLn two k B y=some B'->B'=.mapI k (wJz l n) \/ (B'=.map0/\l=[]))->wNm C P μ w c two k kt B y Y:=by
  intro h2 n es ck tt l hy hm hp hM q1 q2 q3
  subst h2 hy
  have hY:Y=.int k n:=hY
  refine ⟨Int,inferInstance,fun n=>nu k n,n,es,ck,tt,hY,hm,keyI hk,hp,?_,?_,?_⟩
  ·intro q hq
   rw [q1 q hq]
   exact mrI hM n
  ·intro x v B' hB' hv
   have:=q2 x B' hB'
   subst this
   exact ⟨trivial,fun w' es' ck' g1 g2=>⟨es',ck',_,g1,g2,wNg hM n hv⟩⟩
  ·intro B' hB'
   rcases q3 B' hB' with rfl | ⟨rfl,rfl⟩
   ·exact ⟨trivial,fun w' es' ck' g1 g2=>⟨es',ck',_,g1,g2,wNh hM n⟩⟩
   ·refine ⟨trivial,fun w' es' ck' g1 g2=>⟨ck',?_⟩⟩
    cases tt with
    | cons p tt=>have:=hM.1;simp at this
    | nil =>
     have:es'=#[]:=by
      unfold MpR at g2
      simp only [mdel,kB,kO] at g2
      exact nJ (by simpa using g2)
     rw [this] at g1;exact g1
 have case2:two=true->∀ (n m:Int) (es:Array MapEntry) (ck:Nat) (tt:List ((Int × Int) × Value)) (l:List ((Int × Int) × AV)),y=.agg [.int k n,.int k m]->w.heap[c.1]?=some (.map es ck)->MpR es (mk2 k) id tt->MR μ l tt ->
   (∀ q,wFC two k B y=some q->q=wJK l n m)->(∀ x B',wLm two k B y x=some B'->B'=.map2 k (wJw l n m x))->(∀ B',wLn two k B y=some B'->B'=.map2 k (wJy l n m) \/ (B'=.map0/\l=[]))->wNm C P μ w c two k kt B y Y:=by
  intro h2 n m es ck tt l hy hm hp hM q1 q2 q3
  subst h2 hy
  have hY:Y=mk2 k (n,m):=by
   obtain ⟨vs,g1,rfl⟩:=hY
   obtain ⟨v1,ws,g2,g3,rfl⟩:=g1
   obtain ⟨v2,ws2,g4,g5,rfl⟩:=g3
   cases g5
   have g2:v1=.int k n:=g2
   have g4:v2=.int k m:=g4
   subst g2 g4
   rfl
  refine ⟨Int × Int,inferInstance,mk2 k,(n,m),es,ck,tt,hY,hm,wJT hk,hp,?_,?_,?_⟩
  ·intro q hq
   rw [q1 q hq]
   exact mr2 hM n m
  ·intro x v B' hB' hv
   have:=q2 x B' hB'
   subst this
   exact ⟨trivial,fun w' es' ck' g1 g2=>⟨es',ck',_,g1,g2,wNi hM n m hv⟩⟩
  ·intro B' hB'
   rcases q3 B' hB' with rfl | ⟨rfl,rfl⟩
   ·exact ⟨trivial,fun w' es' ck' g1 g2=>⟨es',ck',_,g1,g2,wNj hM n m⟩⟩
   ·refine ⟨trivial,fun w' es' ck' g1 g2=>⟨ck',?_⟩⟩
    cases tt with
    | cons p tt=>have:=hM.1;simp at this
    | nil =>
     have:es'=#[]:=by
      unfold MpR at g2
      simp only [mdel,kB,kO] at g2
      exact nJ (by simpa using g2)
     rw [this] at g1;exact g1
 have shape:(∃ n,two=false/\y=.int k n/\(B=.map0 \/ ∃ l,B=.mapI k l)) \/ (∃ n m,two=true/\y=.agg [.int k n,.int k m]/\(B=.map0 \/ ∃ l,B=.map2 k l)):=by
  have fI:∀ {k':IntKind} {b:Bool} {α:Type} {x:Option α},(ifO b x).isSome=true->b=true:=fun {k' b α x} hq=>by cases b <;> first | rfl | cases hq
  rcases hr with hr | ⟨v,hr⟩ | hr
  ·unfold wFC at hr
   split at hr <;> first | (cases hr;done) | skip
   ·have:=wBE (fI (k':=k) hr);subst this;exact .inl ⟨_,rfl,rfl,.inl rfl⟩
   ·have:=fI (k':=k) hr;simp only [hH] at this
    have e1:=wBE this.1;have e2:=wBE this.2;subst e1 e2;exact .inr ⟨_,_,rfl,rfl,.inl rfl⟩
   ·have:=fI (k':=k) hr;simp only [hH] at this
    have e1:=wBE this.1;have e2:=wBE this.2;subst e1 e2;exact .inl ⟨_,rfl,rfl,.inr ⟨_,rfl⟩⟩
   ·have:=fI (k':=k) hr;simp only [hH] at this
    have e1:=wBE this.1;have e2:=wBE this.2.1;have e3:=wBE this.2.2;subst e1 e2 e3;exact .inr ⟨_,_,rfl,rfl,.inr ⟨_,rfl⟩⟩
  ·unfold wLm at hr
   split at hr <;> first | (cases hr;done) | skip
   ·have:=wBE (fI (k':=k) hr);subst this;exact .inl ⟨_,rfl,rfl,.inl rfl⟩
   ·have:=fI (k':=k) hr;simp only [hH] at this
    have e1:=wBE this.1;have e2:=wBE this.2;subst e1 e2;exact .inr ⟨_,_,rfl,rfl,.inl rfl⟩
   ·have:=fI (k':=k) hr;simp only [hH] at this
    have e1:=wBE this.1;have e2:=wBE this.2;subst e1 e2;exact .inl ⟨_,rfl,rfl,.inr ⟨_,rfl⟩⟩
   ·have:=fI (k':=k) hr;simp only [hH] at this
    have e1:=wBE this.1;have e2:=wBE this.2.1;have e3:=wBE this.2.2;subst e1 e2 e3;exact .inr ⟨_,_,rfl,rfl,.inr ⟨_,rfl⟩⟩
  ·unfold wLn at hr
   split at hr <;> first | (cases hr;done) | skip
   ·have:=wBE (fI (k':=k) hr);subst this;exact .inl ⟨_,rfl,rfl,.inl rfl⟩
   ·have:=fI (k':=k) hr;simp only [hH] at this
    have e1:=wBE this.1;have e2:=wBE this.2;subst e1 e2;exact .inr ⟨_,_,rfl,rfl,.inl rfl⟩
   ·have:=fI (k':=k) hr;simp only [hH] at this
    have e1:=wBE this.1;have e2:=wBE this.2;subst e1 e2;exact .inl ⟨_,rfl,rfl,.inr ⟨_,rfl⟩⟩
   ·have:=fI (k':=k) hr;simp only [hH] at this
    have e1:=wBE this.1;have e2:=wBE this.2.1;have e3:=wBE this.2.2;subst e1 e2 e3;exact .inr ⟨_,_,rfl,rfl,.inr ⟨_,rfl⟩⟩
 have iS:∀ {b:Bool} {α:Type} {x:Option α} {v:α},ifO b x=some v->x=some v:=fun hq=>(wBB hq).2
 rcases shape with ⟨n,rfl,rfl,rfl | ⟨l,rfl⟩⟩ | ⟨n,m,rfl,rfl,rfl | ⟨l,rfl⟩⟩
 ·obtain ⟨ck,hm⟩:=hB
  refine ⟨?_,trivial⟩
  exact caseI rfl n #[] ck [] [] rfl hm rfl ⟨rfl,rfl⟩ (fun q hq=>by simp only [wFC] at hq;cases iS hq;rfl) (fun x B' hq=>by simp only [wLm] at hq;cases iS hq;rfl) (fun B' hq=>by simp only [wLn] at hq;cases iS hq;exact .inr ⟨rfl,rfl⟩)
 ·obtain ⟨es,ck,tt,hm,hp,hM⟩:=hB
  refine ⟨?_,trivial⟩
  exact caseI rfl n es ck tt l rfl hm hp hM (fun q hq=>by simp only [wFC] at hq;cases iS hq;rfl) (fun x B' hq=>by simp only [wLm] at hq;cases iS hq;rfl) (fun B' hq=>by simp only [wLn] at hq;cases iS hq;exact .inl rfl)
 ·obtain ⟨ck,hm⟩:=hB
  refine ⟨?_,trivial⟩
  exact case2 rfl n m #[] ck [] [] rfl hm rfl ⟨rfl,rfl⟩ (fun q hq=>by simp only [wFC] at hq;cases iS hq;rfl) (fun x B' hq=>by simp only [wLm] at hq;cases iS hq;rfl) (fun B' hq=>by simp only [wLn] at hq;cases iS hq;exact .inr ⟨rfl,rfl⟩)
 ·obtain ⟨es,ck,tt,hm,hp,hM⟩:=hB
  refine ⟨?_,trivial⟩
  exact case2 rfl n m es ck tt l rfl hm hp hM (fun q hq=>by simp only [wFC] at hq;cases iS hq;rfl) (fun x B' hq=>by simp only [wLm] at hq;cases iS hq;rfl) (fun B' hq=>by simp only [wLn] at hq;cases iS hq;exact .inl rfl)
def wOv (P:Program) (two:Bool) (k:IntKind) (ok:Bool) (z:AV) (x y:AOd):Op->Bool
 | .lookup t x' y' ok'=>wDA P t (fun d=>match d with
   | .map kt et=>wLq P two k kt && (match P.info? et with
    | some i=>match i.zero with | some v=>okc z v | none=>false
    | none=>false)
   | _=>false) && ((ok == ok') && (wBR x x' && wBR y y'))
 | _=>false
def lkV (ok:Bool) (z:AV) (q:Option AV):AV:=match ok with
 | true=>.tup [q.getD z,.bool q.isSome]
 | false=>q.getD z
theorem l_lk {two:Bool} {k:IntKind} {ok:Bool} {z:AV} {x y:AOd} {op:Op} (hc:wOv P two k ok z x y op=true):OkL C P op (wLp two k ok z x y):=by
 intro σA h v h' hr
 unfold wOv at hc
 split at hc
 ·rename_i t x' y' ok'
  simp only [hH,beq_iff_eq] at hc
  obtain ⟨c1,rfl,c2,c3⟩:=hc
  obtain ⟨d,d1,d2⟩:=wAb c1
  split at d2 <;> first | (cases d2;done) | skip
  rename_i kt et
  simp only [hH] at d2
  obtain ⟨k1,k2⟩:=d2
  split at k2 <;> first | (cases k2;done) | skip
  rename_i i hi
  split at k2 <;> first | (cases k2;done) | skip
  rename_i zv hz
  unfold wLp at hr
  split at hr <;> first | (cases hr;done) | skip
  rename_i b hx
  split at hr <;> first | (cases hr;done) | skip
  rename_i B hB
  have key:∀ q,wFC two k B (evA σA y)=some q->h'=h->v=lkV ok z q->h'=h/\∀ μ σ w,EnvR μ σA σ->Sim C P μ h w->∃ cv,Rv μ v cv/\∀ (o:Oper),o.op=.lookup t x' y' ok->wEb P σ w o cv:=by
   intro q hq hh hv
   subst hh hv
   refine ⟨rfl,fun μ σ w hE S=>?_⟩
   have g:=wAJ c2 hE;rw [hx] at g
   obtain ⟨c,g1,g2⟩:=g
   obtain ⟨c',g3,g4⟩:=S.at_ b B hB
   rw [g1] at g3;cases g3
   obtain ⟨⟨K,_,mk,a,es,ck,tt,e1,e2,e3,e4,e5,_,_⟩,hl⟩:=wKu k1 g4 (wAJ c3 hE) (.inl (by rw [hq];rfl))
   have hrun:∀ w',Keep w w' Non->∀ (o:Oper),o.op=.lookup t x' y' ok->Runs P σ w' o (if ok then .tuple #[wDY tt a zv,.bool (wNE tt a)] else wDY tt a zv) w':=by
    intro w' K o ho
    have hm:=(K.block _ (wAS e2) id).trans e2
    have:=wOu (P:=P) (ok:=ok) hm d1 e3 (wCW hi hz) e4 (a:=a)
    exact ⟨by rw [ho];rfl,by simp [execOp,ho,g2,e1,this,Result.andThen]⟩
   refine ⟨_,?_,fun o ho w' K=>hrun w' K o ho⟩
   have hval:Rv μ (q.getD z) (wDY tt a zv)/\q.isSome=wNE tt a:=by
    rcases e5 q hq with ⟨rfl,q2⟩ | ⟨x,v,rfl,q2,q3⟩
    ·unfold wDY wNE;rw [q2];exact ⟨wKb μ k2,rfl⟩
    ·unfold wDY wNE;rw [q2];exact ⟨q3,rfl⟩
   cases ok
   ·exact hval.1
   ·exact ⟨_,wBA hval.1 (wBA (v:=.bool (wNE tt a)) (by rw [<- hval.2];rfl) wFJ),rfl⟩
  split at hr
  ·rename_i q hq
   cases hr
   exact key _ hq rfl (by cases ok <;> rfl)
  ·rename_i hq
   cases hr
   exact key _ hq rfl (by cases ok <;> rfl)
  ·cases hr
 ·cases hc
def wIi (P:Program) (two:Bool) (k:IntKind) (x y z:AOd):Op->Bool
 | .mapUpdate t x' y' z' | .insert t x' y' z'=>wDA P t (fun d=>match d with
   | .map kt et=>wLq P two k kt
   | _=>false) && (wBR x x' && (wBR y y' && wBR z z'))
 | _=>false
theorem wKv {two:Bool} {k:IntKind} {x y z:AOd} {op:Op} (hc:wIi P two k x y z op=true):∃ t kt et x' y' z',(op=.mapUpdate t x' y' z' \/ op=.insert t x' y' z')/\P.underlying t=some (.map kt et)/\wLq P two k kt=true/\wBR x x'=true/\wBR y y'=true/\wBR z z'=true:=by
 have key:∀ {t:TypeId} {x' y' z':Operand},(wDA P t (fun d=>match d with | .map kt et=>wLq P two k kt | _=>false) && (wBR x x' && (wBR y y' && wBR z z')))=true->∃ kt et,P.underlying t=some (.map kt et)/\wLq P two k kt=true/\wBR x x'=true/\wBR y y'=true/\wBR z z'=true:=by
  intro t x' y' z' hq
  simp only [hH] at hq
  obtain ⟨d,d1,d2⟩:=wAb hq.1
  split at d2 <;> first | (cases d2;done) | skip
  exact ⟨_,_,d1,d2,hq.2⟩
 unfold wIi at hc
 split at hc
 ·obtain ⟨kt,et,g⟩:=key hc;exact ⟨_,kt,et,_,_,_,.inl rfl,g⟩
 ·obtain ⟨kt,et,g⟩:=key hc;exact ⟨_,kt,et,_,_,_,.inr rfl,g⟩
 ·cases hc
theorem wOw {two:Bool} {k:IntKind} {x y z:AOd} {op:Op} (hc:wIi P two k x y z op=true):OkU C P op (wEW two k x y z):=by
 intro σA h v h' hr μ σ w hE S o ho
 obtain ⟨t,kt,et,x',y',z',hop,d1,k1,c1,c2,c3⟩:=wKv hc
 unfold wEW at hr
 split at hr <;> first | (cases hr;done) | skip
 rename_i b hx
 split at hr <;> first | (cases hr;done) | skip
 rename_i B hB
 split at hr <;> first | (cases hr;done) | skip
 rename_i B' hp
 split at hr <;> first | (cases hr;done) | skip
 rename_i h1' hput
 cases hr
 have g:=wAJ c1 hE;rw [hx] at g
 obtain ⟨c,g1,g2⟩:=g
 obtain ⟨c',g3,g4⟩:=S.at_ b B hB
 rw [g1] at g3;cases g3
 obtain ⟨⟨K,_,mk,a,es,ck,tt,e1,e2,e3,e4,_,e6,_⟩,hl⟩:=wKu k1 g4 (wAJ c2 hE) (.inr (.inl ⟨_,by rw [hp];rfl⟩))
 obtain ⟨es',ck',r1,r2⟩:=wNk (P:=P) (v:=ev σ z') e2 d1 e3 e4 (a:=a)
 obtain ⟨l1,l2⟩:=e6 _ (ev σ z') B' hp (wAJ c3 hE)
 obtain ⟨s1,s2,s3⟩:=S.put hput hB hl g1 (wBK w c.1 (.map es' ck')) (l2 _ es' ck' (wDc _ (wAS e2)) r1)
 refine ⟨μ,_,s2,s1,rfl,s3,by rw [ho];rcases hop with e | e <;> (rw [e];rfl),?_⟩
 rcases hop with e | e <;> rw [e] at ho <;> simp [execOp,ho,g2,e1,r2,Result.andThen]
def wKw (P:Program) (two:Bool) (k:IntKind) (x y:AOd):Op->Bool
 | .call c=>match c.callee with
  | .builtin b=>(b == .delete) && (match c.args.toList,c.argTypes.toList with
   | [x',y'],t :: _=>wDA P t (fun d=>match d with | .map kt _=>wLq P two k kt | _=>false) && (wBR x x' && wBR y y')
   | _,_=>false)
  | _=>false
 | _=>false
theorem wOx {two:Bool} {k:IntKind} {x y:AOd} {op:Op} (hc:wKw P two k x y op=true):OkE C P op (wEX two k x y):=by
 intro σA h v h' hr μ σ w hE S o ho
 unfold wKw at hc
 split at hc <;> first | (cases hc;done) | skip
 rename_i c
 obtain ⟨ce,args,tys⟩:=c
 simp only at hc
 split at hc <;> first | (cases hc;done) | skip
 rename_i b
 simp only [hH,beq_iff_eq] at hc
 obtain ⟨rfl,h2⟩:=hc
 split at h2 <;> first | (cases h2;done) | skip
 rename_i x' y' t ts h3 h4
 simp only [hH] at h2
 obtain ⟨a1,a2,a3⟩:=h2
 obtain ⟨d,d1,d2⟩:=wAb a1
 split at d2 <;> first | (cases d2;done) | skip
 rename_i kt et
 have ea:args=#[x',y']:=nJ (by simpa using h3)
 have et':tys[0]?=some t:=by rw [<- kK,h4];rfl
 unfold wEX at hr
 split at hr <;> first | (cases hr;done) | skip
 rename_i b hx
 split at hr <;> first | (cases hr;done) | skip
 rename_i B hB
 split at hr <;> first | (cases hr;done) | skip
 rename_i B' hp
 split at hr <;> first | (cases hr;done) | skip
 rename_i h1' hput
 cases hr
 have g:=wAJ a2 hE;rw [hx] at g
 obtain ⟨c,g1,g2⟩:=g
 obtain ⟨c',g3,g4⟩:=S.at_ b B hB
 rw [g1] at g3;cases g3
 obtain ⟨⟨K,_,mk,a,es,ck,tt,e1,e2,e3,e4,_,_,e7⟩,hl⟩:=wKu d2 g4 (wAJ a3 hE) (.inr (.inr (by rw [hp];rfl)))
 obtain ⟨es',ck',r1,r2⟩:=wNl (P:=P) (ty:=o.type) et' e2 d1 e3 e4 (a:=a)
 obtain ⟨l1,l2⟩:=e7 B' hp
 obtain ⟨s1,s2,s3⟩:=S.put hput hB hl g1 (wBK w c.1 (.map es' ck')) (l2 _ es' ck' (wDc _ (wAS e2)) r1)
 refine ⟨μ,_,_,s2,s1,wKZ μ,s3,by rw [ho];rfl,?_⟩
 simp [execOp,ho,ea,resolve,invoke,builtin,g2,e1,r2,undef,Result.andThen]
def wHH (P:Program) (x:AOd):Op->Bool
 | .call c=>match c.callee with
  | .builtin b=>(b == .len) && (match c.args.toList,c.argTypes.toList with
   | [x'],[t]=>wDA P t (fun d=>match d with | .map _ _=>true | _=>false) && wBR x x'
   | _,_=>false)
  | _=>false
 | _=>false
theorem wOy {x:AOd} {op:Op} (hc:wHH P x op=true):OkL C P op (wDU x):=by
 intro σA h v h' hr
 unfold wHH at hc
 split at hc <;> first | (cases hc;done) | skip
 rename_i c
 obtain ⟨ce,args,tys⟩:=c
 simp only at hc
 split at hc <;> first | (cases hc;done) | skip
 rename_i b
 simp only [hH,beq_iff_eq] at hc
 obtain ⟨rfl,h2⟩:=hc
 split at h2 <;> first | (cases h2;done) | skip
 rename_i x' t h3 h4
 simp only [hH] at h2
 obtain ⟨a1,a2⟩:=h2
 obtain ⟨d,d1,d2⟩:=wAb a1
 split at d2 <;> first | (cases d2;done) | skip
 rename_i kt et
 have ea:args=#[x']:=nJ (by simpa using h3)
 have et':tys=#[t]:=nJ (by simpa using h4)
 subst ea et'
 unfold wDU at hr
 split at hr
 ·rename_i hx
  cases hr
  refine ⟨rfl,fun μ σ w hE S=>⟨_,rfl,fun o ho w' K=>?_⟩⟩
  have g:=wAJ a2 hE;rw [hx] at g
  have g:ev σ x'=.map none:=g
  exact ⟨by rw [ho];rfl,by simp [execOp,ho,resolve,invoke,builtin,Builtin.len_,g,run_underlying d1,goInt,Result.andThen]⟩
 ·rename_i b hx
  split at hr <;> first | (cases hr;done) | skip
  rename_i B hB
  split at hr <;> first | (cases hr;done) | skip
  rename_i n hn
  cases hr
  refine ⟨rfl,fun μ σ w hE S=>⟨_,rfl,fun o ho w' K=>?_⟩⟩
  have g:=wAJ a2 hE;rw [hx] at g
  obtain ⟨c,g1,g2⟩:=g
  obtain ⟨c',g3,g4⟩:=S.at_ b B hB
  rw [g1] at g3;cases g3
  have hmap:∃ es ck,w.heap[c.1]?=some (.map es ck)/\es.size=n:=by
   unfold lenB at hn
   split at hn <;> first | (cases hn;done) | skip
   ·cases hn;obtain ⟨ck,q⟩:=g4;exact ⟨_,ck,q,rfl⟩
   ·cases hn
    obtain ⟨es,ck,tt,q1,q2,q3⟩:=g4
    refine ⟨es,ck,q1,?_⟩
    have e1:=congrArg nt q2
    have e2:=congrArg nt q3.1
    simp at e1 e2
    rw [wDJ];omega
   ·cases hn
    obtain ⟨es,ck,tt,q1,q2,q3⟩:=g4
    refine ⟨es,ck,q1,?_⟩
    have e1:=congrArg nt q2
    have e2:=congrArg nt q3.1
    simp at e1 e2
    rw [wDJ];omega
  obtain ⟨es,ck,q1,q2⟩:=hmap
  have hm:=(K.block _ (wAS q1) id).trans q1
  refine ⟨by rw [ho];rfl,?_⟩
  simp [execOp,ho,resolve,invoke,builtin,Builtin.len_,g2,run_underlying d1,MapKept.run_getObj_map hm,goInt,Result.andThen,q2]
 ·cases hr
end
end
end Go.KX
namespace Go.KX
noncomputable section
open Go.RowKit Go.KL
def kdA:AOp->Nat
 | .mv _ | .pick _ _ _ | .nilc _ | .add _ _ | .sub _ _ | .mul _ _ | .quo _ _ | .rem _ _ | .lss _ _ | .leq _ _ | .gtr _ _ | .geq _ _ | .eql _ _ | .neq _ _ | .eqb _ _ _ | .eqn _ _ _ _ | .eqs _ _ _ _
 | .bad | .and _ _ | .shr _ _ | .ixs _ _ | .neg _ | .not _ | .cvt _ _ | .mkf _ _ _ | .slc _ _ _ _ _ | .slcA _ _ _ _ _ | .fad _ _ | .fld _ _ | .fldA _ _ _ | .iad _ _ _ | .iadA _ _ _ _ | .ix _ _ _ | .ixA _ _ _ _ | .ext _ _ | .bld _ _ | .len _ | .cap _ | .min _ _ | .max _ _=>3
 | .ld _ | .ldA _ _ | .lk _ _ _ _ _ _ | .lenM _=>1
 | .st _ _ _ | .mput _ _ _ _ _=>4
 | .call _ _=>5
 | _=>0
def wKx (x:AOd) (l:List AOd):Op->Bool
 | .call c=>match c.callee with
  | .value f=>wBR x f && wHD l c.args.toList
  | _=>false
 | _=>false
def wOU:List UInt8->List Nat->Bool
 | [],[]=>true
 | a :: l,b :: k=>nB a.toNat b && wOU l k
 | _,_=>false
theorem wKy:∀ {l:List UInt8} {k:List Nat},wOU l k=true->l.map UInt8.toNat=k
 | [],[],_=>rfl
 | a :: l,b :: k,h=>by
  simp only [wOU,hH] at h
  rw [nH,nA h.1,wKy h.2]
 | [],_ :: _,h=>by simp [wOU] at h
 | _ :: _,[],h=>by simp [wOU] at h
def wNn (P:Program) (l:List Nat) (y:AOd):Op->Bool
 | .index t (.const (.string s)) y'=>wDA P t (fun d=>match d with | .string=>true | _=>false) && (wOU s.data.toList l && wBR y y')
 | _=>false
def wFR (P:Program) (a:AOp) (op:Op):Bool:=match a with
 | .mv x=>c_mv x op
 | .pick c x y=>wKc c x y op
 | .new T z=>wKp P T z op
 | .box T x=>wKq T x op
 | .ld x=>wOr P x op
 | .ldA n x=>wKo P n x op
 | .st n x y=>c_st P n x y op
 | .nilc x=>wKd x op
 | .add x y=>wBh .add x y op
 | .sub x y=>wBh .sub x y op
 | .mul x y=>wBh .mul x y op
 | .quo x y=>wBh .quo x y op
 | .rem x y=>wBh .rem x y op
 | .lss x y=>wBh .lss x y op
 | .leq x y=>wBh .leq x y op
 | .gtr x y=>wBh .gtr x y op
 | .geq x y=>wBh .geq x y op
 | .eql x y=>wBh .eql x y op
 | .neq x y=>wBh .neq x y op
 | .eqb ne x y=>wNT P ne x y op
 | .eqn k ne x y=>wNU P k ne x y op
 | .eqs ne s x y=>wNV P ne s x y op
 | .neg x=>wNO x op
 | .not x=>wNP x op
 | .cvt k x=>wNQ (P:=P) k x op
 | .mkf f fi ca=>wNR f fi ca op
 | .mkm=>wKr op
 | .mks T sz by_ z x y=>wKs P T sz by_ z x y op
 | .slc sz x lo hi mx=>wNa P sz x lo hi mx op
 | .slcA sz n x lo hi=>wKm P sz n x lo hi op
 | .fad off x=>wNW P off x op
 | .fld off x=>wNX P off x op
 | .fldA off n x=>wKi P off n x op
 | .iad sz x y=>wNY P sz x y op
 | .iadA sz n x y=>wKj P sz n x y op
 | .ix n x y=>c_ix P n x y op
 | .ixA sz n x y=>wNZ P sz n x y op
 | .lk two k ok z x y=>wOv P two k ok z x y op
 | .mput two k x y z=>wIi P two k x y z op
 | .mdel two k x y=>wKw P two k x y op
 | .ext i x=>wNS i x op
 | .bld z ps=>wNb P z ps op
 | .blds T n z ps=>wHG P T n z ps op
 | .len x=>wJS P .len x op
 | .lenM x=>wHH P x op
 | .cap x=>wJS P .cap x op
 | .app T sz by_ x y=>wMC P T sz by_ x y op
 | .cpy sz x y=>wNd P sz x y op
 | .clr z x=>wNe P z x op
 | .min x y=>wOT .min x y op
 | .max x y=>wOT .max x y op
 | .call x l=>wKx x l op
 | .bad=>true
 | .and x y=>wBh .and x y op
 | .shr x y=>wBh .shr x y op
 | .ixs l y=>wNn P l y op
 | .apz T sz by_ z x y=>wNf P T sz by_ z x y op
section
variable {C:Chk} {P:Program} {tb:Tr AF} {ex exY:Run}
theorem p_bad {op:Op}:OkP P op (wOf):=by
 intro σA h v h' hr
 cases hr
theorem p_and {x y:AOd} {op:Op} (hc:wBh .and x y op=true):OkP P op (wKR x y):=by
 intro σA h v h' hr
 obtain ⟨t,x',y',t',rfl,h1,h2⟩:=wDz hc
 obtain ⟨hr2,rfl⟩:=wBF hr
 split at hr2
 ·rename_i k a k' b ha hb
  split at hr2
  ·rename_i hk
   cases hr2
   have hk:=wBE hk
   subst hk
   refine ⟨rfl,fun μ σ hE=>⟨_,rfl,fun o w ho=>?_⟩⟩
   have g1:=wAJ h1 hE;rw [ha] at g1
   have g2:=wAJ h2 hE;rw [hb] at g2
   have g1:ev σ x'=.int k a:=g1
   have g2:ev σ y'=.int k b:=g2
   exact ⟨by rw [ho];rfl,by simp [execOp,ho,g1,g2,binOp,eqGuard,Op.intBits,andI]⟩
  ·cases hr2
 ·cases hr2
theorem p_shr {x y:AOd} {op:Op} (hc:wBh .shr x y op=true):OkP P op (wKS x y):=by
 intro σA h v h' hr
 obtain ⟨t,x',y',t',rfl,h1,h2⟩:=wDz hc
 obtain ⟨hr2,rfl⟩:=wBF hr
 split at hr2
 ·rename_i k a k' b ha hb
  cases hr2
  refine ⟨rfl,fun μ σ hE=>⟨_,rfl,fun o w ho=>?_⟩⟩
  have g1:=wAJ h1 hE;rw [ha] at g1
  have g2:=wAJ h2 hE;rw [hb] at g2
  have g1:ev σ x'=.int k a:=g1
  have g2:ev σ y'=.int k' (kE b):=g2
  have hn:¬ (kE b) < 0:=by simp
  exact ⟨by rw [ho];rfl,by simp [execOp,ho,g1,g2,binOp,eqGuard,Op.shift];intro hb0;omega⟩
 ·cases hr2
theorem p_ixs {l:List Nat} {y:AOd} {op:Op} (hc:wNn P l y op=true):OkP P op (wHy l y):=by
 intro σA h v h' hr
 unfold wNn at hc
 split at hc <;> first | (cases hc;done) | skip
 rename_i t s y'
 simp only [hH] at hc
 obtain ⟨c1,c2,c3⟩:=hc
 obtain ⟨d,d1,d2⟩:=wAb c1
 split at d2 <;> first | (cases d2;done) | skip
 have hl:=wKy c2
 unfold wHy at hr
 split at hr
 ·rename_i k i hy
  obtain ⟨hr2,rfl⟩:=wBF hr
  split at hr2
  ·rename_i b hb
   cases hr2
   rw [wEZ,<- hl,no] at hb
   have hi:i < s.data.toList.length:=by
    rcases kA i s.data.toList.length with q | q
    ·exact q
    ·rw [np q] at hb;cases hb
   have hi2:i < s.size:=by simpa using hi
   rw [ni hi] at hb
   have hb:(s.data.toList[i]).toNat=b:=by simpa using hb
   refine ⟨rfl,fun μ σ hE=>⟨_,rfl,fun o w ho=>?_⟩⟩
   have g:=wAJ c3 hE;rw [hy] at g
   have g:ev σ y'=.int k (kE i):=g
   have hx:ev σ (.const (.string s))=.string s:=rfl
   have hrun:=run_index_string (P:=P) w t s k (kE i) d1
   rw [dif_pos ⟨by simp,by simpa using hi2⟩] at hrun
   have hbb:(s[(kE i).toNat]'(by simpa using hi2)).toNat=b:=by rw [<- hb];rfl
   rw [hbb] at hrun
   simp only [nX] at hrun
   exact ⟨by rw [ho];rfl,by simp only [execOp,ho,hx,g];simp [hrun]⟩
  ·cases hr2
 ·cases hr
theorem wGA {a:AOp} {op:Op} (hk:kdA a=3) (hc:wFR P a op=true):OkP P op (opY a tb ex exY):=by
 cases a <;> first
  | (simp [kdA] at hk;done)
  | exact p_bad | exact p_and hc | exact p_shr hc | exact p_ixs hc | exact p_mv hc | exact wOk hc | exact wOl hc | exact p_add hc | exact p_sub hc | exact p_mul hc | exact p_quo hc | exact p_rem hc
  | exact p_lss hc | exact p_leq hc | exact p_gtr hc | exact p_geq hc | exact p_eql hc | exact p_neq hc | exact p_eqb hc | exact p_eqn hc | exact p_eqs hc
  | exact p_neg hc | exact p_not hc | exact p_cvt hc | exact p_mkf hc | exact p_slc hc | exact wOp hc | exact p_fad hc | exact p_fld hc | exact wOn hc
  | exact p_iad hc | exact wOo hc | exact p_ix hc | exact p_ixA hc | exact p_ext hc | exact p_bld hc | exact p_len hc | exact p_cap hc | exact p_min hc | exact p_max hc
theorem wGB {a:AOp} {op:Op} (hk:kdA a=1 \/ kdA a=3) (hc:wFR P a op=true):OkL C P op (opY a tb ex exY):=by
 rcases hk with hk | hk
 ·cases a <;> first
   | (simp [kdA] at hk;done)
   | exact l_ld hc | exact l_ldA hc | exact l_lk hc | exact wOy hc
 ·exact (wGA hk hc).toL
theorem wOz {a:AOp} {op:Op} (hk:kdA a=0 \/ kdA a=1 \/ kdA a=3) (hc:wFR P a op=true):OkE C P op (opY a tb ex exY):=by
 rcases hk with hk | hk
 ·cases a <;> first
   | (simp [kdA] at hk;done)
   | exact e_new hc | exact e_box hc | exact e_mkm hc | exact e_mks hc | exact wOx hc | exact wOs hc | exact e_app hc | exact e_apz hc | exact e_cpy hc | exact e_clr hc
 ·exact (wGB hk hc).toE
theorem wPA {a:AOp} {op:Op} (hk:kdA a=4) (hc:wFR P a op=true):OkU C P op (opY a tb ex exY):=by
 cases a <;> first
  | (simp [kdA] at hk;done)
  | exact u_st hc | exact wOw hc
def wEa (C:Chk) (P:Program) (tb:Tr AF) (ex:Run):Prop:=∀ f args h v h',wGy tb ex f args h=some (v,h') ->
 (∀ (a:Array Value) (w:World),(callFunc (f.nat - 1) a).run P w=.ok (.enter (f.nat - 1) a) w) /\
 ∀ μ w vs,Sim C P μ h w->RvL μ args vs->Gv P (f.nat - 1) vs w fun cv w'=>∃ μ',Ext μ h.fl.nat w μ' w'/\Sim C P μ' h' w'/\Rv μ' v cv/\h'.fl=h.fl
def wDi (C:Chk) (P:Program) (ex:Run):Prop:=∀ b args h v h',wGz ex b args h=some (v,h') ->
 ∀ μ w x c,Sim C P μ h w->RvL μ args x->μ b=some c->Yd P c.1 x w fun t w'=>∃ μ',Ext μ h.fl.nat w μ' w'/\Sim C P μ' h' w'/\v=.bool t/\h'.fl=h.fl
def wFS (P:Program) (N:Nat) (l:List Oper) (a:AO):Bool:=match l[a.ix]? with
 | none=>false
 | some o=>wFR P a.op o.op && ((match a.dst,o.dst with
   | none,none=>true
   | some p,some d=>nB p.nat (d + 1) && nR d N
   | _,_=>false) && ((match a.grd,o.guard with
   | none,none=>true
   | some (p,b),some (j,b')=>(b == b') && (match (l[j]?).bind (·.dst) with | some d=>nB p.nat (d + 1) | none=>false)
   | _,_=>false) && ((match a.kd with
   | 3=>nB (kdA a.op) 3
   | 1=>nB (kdA a.op) 1 || nB (kdA a.op) 3
   | _=>true) && ((!Nat.beq (kdA a.op) 4 || o.dst.isNone) && !Nat.beq a.kd 1005))))
structure AOK (P:Program) (N:Nat) (l:List Oper) (a:AO) (o:Oper):Prop where
 get:l[a.ix]?=some o
 op:wFR P a.op o.op=true
 dst:(a.dst=none/\o.dst=none) \/ ∃ p d,a.dst=some p/\o.dst=some d/\d=p.nat - 1/\d < N
 grd:(a.grd=none/\o.guard=none) \/ ∃ p b j d,a.grd=some (p,b)/\o.guard=some (j,b)/\(l[j]?).bind (·.dst)=some d/\d=p.nat - 1
 k3:a.kd=3->kdA a.op=3
 k1:a.kd=1->kdA a.op=1 \/ kdA a.op=3
 un:kdA a.op=4->o.dst=none
 k5:a.kd ≠ 1005
theorem wCC {N:Nat} {l:List Oper} {a:AO} (hc:wFS P N l a=true):∃ o,AOK P N l a o:=by
 unfold wFS at hc
 split at hc
 ·cases hc
 ·rename_i o ho
  simp only [hH] at hc
  obtain ⟨c1,c2,c3,c4,c5,c6⟩:=hc
  refine ⟨o,ho,c1,?_,?_,?_,?_,?_,?_⟩
  ·split at c2
   ·rename_i h1 h2;exact .inl ⟨h1,h2⟩
   ·rename_i p d h1 h2
    simp only [hH,nG] at c2
    have:=nA c2.1
    exact .inr ⟨p,d,h1,h2,by rw [this];rfl,c2.2⟩
   ·cases c2
  ·split at c3
   ·rename_i h1 h2;exact .inl ⟨h1,h2⟩
   ·rename_i p b j b' h1 h2
    simp only [hH,beq_iff_eq] at c3
    obtain ⟨rfl,c3⟩:=c3
    split at c3
    ·rename_i d hd
     have:=nA c3
     exact .inr ⟨p,b,j,d,h1,h2,hd,by rw [this];rfl⟩
    ·cases c3
   ·cases c3
  ·intro hk;rw [hk] at c4;exact nA c4
  ·intro hk;rw [hk] at c4
   simp only [nM] at c4
   exact c4.imp nA nA
  ·intro hk;rw [hk] at c5
   simpa using c5
  ·intro hk;rw [hk] at c6
   simp at c6
theorem wGa {N:Nat} {l:List Oper} {a:AO} {o:Oper} {μ:Mu} {σA:Tr AV} {σ:Env} (A:AOK P N l a o) (hE:EnvR μ σA σ):wanted l σ o=wBl σA a.grd:=by
 unfold wanted
 rcases A.grd with ⟨h1,h2⟩ | ⟨p,b,j,d,h1,h2,h3,h4⟩
 ·rw [h1,h2];rfl
 ·rw [h1,h2]
  simp only [h3]
  show _=isB b (evA σA (.t p))
  have g:=hE p
  rw [<- h4] at g
  unfold isB
  cases hv:evA σA (.t p) <;> rw [hv] at g <;> simp only [Rv] at g <;>
   first | (rw [g];done) | (obtain ⟨_,_,_,_,_,g⟩:=g;rw [g];done) | (obtain ⟨_,_,_,_,g⟩:=g;rw [g];done) | (obtain ⟨_,_,_,g⟩:=g;rw [g];done) | (obtain ⟨_,_,g⟩:=g;rw [g];done) | (obtain ⟨_,g⟩:=g;rw [g];done) | rw [g]
theorem wCy {N:Nat} {l:List Oper} {a:AO} {o:Oper} {μ:Mu} {σA:Tr AV} {σ:Env} {v:AV} {cv:Value} (A:AOK P N l a o) (hE:EnvR μ σA σ) (hv:Rv μ v cv):EnvR μ (wEd a.dst σA v) (put' σ o cv):=by
 rcases A.dst with ⟨h1,h2⟩ | ⟨p,d,h1,h2,h3,_⟩
 ·rw [h1];unfold put';rw [h2];exact hE
 ·rw [h1];unfold put';rw [h2];subst h3;exact hE.put hv
theorem wGC {N:Nat} {l:List Oper} {a:AO} {o:Oper} (A:AOK P N l a o):∀ d,o.dst=some d->d < N:=by
 intro d hd
 rcases A.dst with ⟨_,h2⟩ | ⟨p,d',_,h2,_,h4⟩
 ·rw [h2] at hd;cases hd
 ·rw [h2] at hd;cases hd;exact h4
theorem wPB (HC:wEa C P tb ex) (HY:wDi C P exY) {N:Nat} {l:List Oper} {a:AO} {o:Oper} {μ:Mu} {σA:Tr AV} {σ:Env} {h h':AH} {v:AV} {w:World} (A:AOK P N l a o) (hw:wanted l σ o=true) (hr:opY a.op tb ex exY σA h=some (v,h')) (hE:EnvR μ σA σ) (S:Sim C P μ h w) :
  Step1 P l o σ w fun cv w'=>∃ μ',Ext μ h.fl.nat w μ' w'/\Sim C P μ' h' w'/\EnvR μ' (wEd a.dst σA v) (put' σ o cv)/\h'.fl=h.fl:=by
 have hop:=A.op
 by_cases k4:kdA a.op=4
 ·obtain ⟨μ',w',h1,h2,rfl,h4,h5⟩:=wPA (C:=C) k4 hop σA h v h' hr μ σ w hE S o rfl
  exact .inl ⟨hw,.inl ⟨A.un k4,w',h5,μ',h1,h2,wCy A (hE.mono h1.mono) (wKZ μ'),h4⟩⟩
 ·by_cases k5:kdA a.op=5
  ·cases hq:a.op <;> rw [hq] at k5 <;> first | (simp [kdA] at k5;done) | skip
   rename_i x args
   rw [hq] at hop hr
   have hop:wKx x args o.op=true:=hop
   unfold wKx at hop
   split at hop <;> first | (cases hop;done) | skip
   rename_i c hoc
   obtain ⟨ce,cargs,tys⟩:=c
   simp only at hop
   split at hop <;> first | (cases hop;done) | skip
   rename_i f
   simp only [hH] at hop
   have hx:=wAJ hop.1 hE
   have ha:=wEk hop.2 hE
   have hr:wEY x args tb ex exY σA h=some (v,h'):=hr
   unfold wEY at hr
   split at hr
   ·rename_i g fi ca hg
    rw [hg] at hx
    obtain ⟨fv,cv,g1,g2,g3⟩:=hx
    obtain ⟨hcall,hgv⟩:=HC _ _ _ _ _ hr
    have G:=hgv μ w _ S (wCq g1 (wCq ha g2))
    refine .inl ⟨hw,.inr (.inr (.inl ⟨_,_,_,Enters.mk (l:=cargs.toList) hoc g3 hcall rfl (by rw [nl]),G,?_⟩))⟩
    rintro cv' w' ⟨μ',h1,h2,h3,h4⟩
    exact ⟨μ',h1,h2,wCy A (hE.mono h1.mono) h3,h4⟩
   ·rename_i b hb
    rw [hb] at hx
    obtain ⟨c,g1,g2⟩:=hx
    have hy:=HY _ _ _ _ _ hr
    have Y:=hy μ w _ c S ha g1
    have R:=Yd.rounds (σ:=σ) hoc g2 rfl Y
    refine .inl ⟨hw,.inr (.inr (.inr (R.mono ?_)))⟩
    rintro cv w' ⟨t,rfl,μ',h1,h2,rfl,h4⟩
    exact ⟨μ',h1,h2,wCy A (hE.mono h1.mono) rfl,h4⟩
   ·cases hr
  ·have hk:kdA a.op=0 \/ kdA a.op=1 \/ kdA a.op=3:=by
    cases hq:a.op <;> rw [hq] at k4 k5 <;> simp [kdA] at k4 k5 ⊢
   obtain ⟨μ',w',cv,h1,h2,h3,h4,h5⟩:=wOz (C:=C) hk hop σA h v h' hr μ σ w hE S o rfl
   exact .inl ⟨hw,.inr (.inl ⟨cv,w',h5,μ',h1,h2,wCy A (hE.mono h1.mono) h3,h4⟩)⟩
theorem wPC (HC:wEa C P tb ex) (HY:wDi C P exY) {N:Nat} {l:List Oper} {a:AO} {o:Oper} {μ:Mu} {σA:Tr AV} {σ:Env} {h h':AH} {v:AV} {w:World} (A:AOK P N l a o) (hw:wanted l σ o=true) (hr:opK a.kd a.op tb ex exY σA h=some (v,h')) (hE:EnvR μ σA σ) (S:Sim C P μ h w) :
  Step1 P l o σ w fun cv w'=>(a.kd=2->Keep w w' Non)/\∃ μ',Ext μ h.fl.nat w μ' w'/\Sim C P μ' h' w'/\EnvR μ' (wEd a.dst σA v) (put' σ o cv)/\h'.fl=h.fl:=by
 by_cases k2:a.kd=2
 ·have hr:wMj a.op tb ex exY σA h=some (v,h'):=by rw [k2] at hr;exact hr
  unfold wMj at hr
  split at hr
  ·rename_i v0 h0 hq
   cases hr
   refine (wPB HC HY A hw hq hE (S.floor h.nx)).mono ?_
   rintro cv w' ⟨μ',h1,h2,h3,h4⟩
   obtain ⟨g1,g2⟩:=S.non h1 h.fl.nat
   exact ⟨fun _=>g1,μ',g2,h2.floor h.fl,h3,rfl⟩
  ·cases hr
 ·have hr:opY a.op tb ex exY σA h=some (v,h'):=by
   have hb:nB a.kd 2=false:=by
    cases hb:nB a.kd 2 with
    | false=>rfl
    | true=>exact absurd (nA hb) k2
   have:opK a.kd a.op=opY a.op:=by unfold opK;rw [hb]
   rw [this] at hr;exact hr
  exact (wPB HC HY A hw hr hE S).mono fun cv w' hq=>⟨fun e=>absurd e k2,hq⟩
def flK (k:Nat):Bool:=nB k 1 || nB k 3
def wHI:List AO->Sch
 | []=>.nil
 | a :: os=>match flK a.kd with
  | true=>.fl a.ix (wHI os)
  | false=>.fx a.ix (wHI os) .stop
theorem wHJ (HC:wEa C P tb ex) (HY:wDi C P exY) {N:Nat} {l:List Oper} {ks:List Nat} {Q:wCT} {D:List Deferred}:∀ (os:List AO) (σA:Tr AV) (h:AH) (σA':Tr AV) (h':AH),wAX tb ex exY os σA h=some (σA',h') ->
  (∀ a ∈ os,wFS P N l a=true/\kOf ks a.ix=a.kd)->∀ (μ:Mu) (σ:Env) (w:World),Sim C P μ h w->EnvR μ σA σ ->
  (∀ μ' w' σ',Ext μ h.fl.nat w μ' w'->Sim C P μ' h' w'->EnvR μ' σA' σ'->h'.fl=h.fl->Q D .normal σ' w')->OKS N P l Q D ks (wHI os) σ w
 | [],σA,h,σA',h',hr,_,μ,σ,w,S,hE,hQ=>by
  rw [wAf] at hr;cases hr
  exact hQ μ w σ (Ext.refl μ _ w) S hE rfl
 | a :: os,σA,h,σA',h',hr,hc,μ,σ,w,S,hE,hQ=>by
  obtain ⟨hc1,hk⟩:=hc a (by simp)
  obtain ⟨o,A⟩:=wCC hc1
  have hc2:∀ b ∈ os,wFS P N l b=true/\kOf ks b.ix=b.kd:=fun b hb=>hc b (by simp [hb])
  rw [wAh] at hr
  have hw:=wGa A hE
  cases hwa:wBl σA a.grd with
  | false =>
   rw [hwa] at hr hw
   simp only at hr
   have IH:=wHJ HC HY os _ h σA' h' hr hc2 μ (put' σ o undef) w S (wCy A hE (wKZ μ)) hQ
   unfold wHI
   split
   ·exact ⟨o,A.get,wGC A,.inr ⟨hw,IH⟩⟩
   ·exact ⟨⟨o,A.get,wGC A,.inr ⟨hw,KeepD.refl l ks _ w,IH⟩⟩,trivial⟩
  | true =>
   rw [hwa] at hr hw
   simp only at hr
   split at hr
   ·rename_i r hop
    obtain ⟨v,h1⟩:=r
    simp only at hr
    unfold wHI
    split
    ·rename_i hfl
     have hk13:a.kd=1 \/ a.kd=3:=by
      unfold flK at hfl
      simp only [nM] at hfl
      exact hfl.imp nA nA
     have hop:opY a.op tb ex exY σA h=some (v,h1):=by
      rcases hk13 with e | e <;> (rw [e] at hop;exact hop)
     have hL:kdA a.op=1 \/ kdA a.op=3:=by
      rcases hk13 with e | e
      ·exact A.k1 e
      ·exact .inr (A.k3 e)
     obtain ⟨rfl,hh⟩:=wGB (C:=C) hL A.op σA h v h1 hop
     obtain ⟨cv,g1,g2⟩:=hh μ σ w hE S
     refine ⟨o,A.get,wGC A,.inl ⟨hw,?_⟩⟩
     by_cases k3:a.kd=3
     ·obtain ⟨_,hp⟩:=wGA (tb:=tb) (ex:=ex) (exY:=exY) (A.k3 k3) A.op σA h1 v h1 hop
      obtain ⟨cv,g1,g2⟩:=hp μ σ hE
      exact ⟨cv,fun w' _=>g2 o w' rfl,⟨fun _ w'=>g2 o w' rfl,fun _ w' _=>g2 o w' rfl⟩,wHJ HC HY os _ h1 σA' h' hr hc2 μ _ w S (wCy A hE g1) hQ⟩
     ·exact ⟨cv,g2 o rfl,⟨fun e=>absurd (hk ▸ e) k3,fun e=>by rw [hk] at e;rcases hk13 with q | q <;> omega⟩,wHJ HC HY os _ h1 σA' h' hr hc2 μ _ w S (wCy A hE g1) hQ⟩
    ·refine ⟨⟨o,A.get,wGC A,(wPC HC HY A hw hop hE S).mono ?_⟩,trivial⟩
     rintro cv w1 ⟨q0,μ1,q1,q2,q3,q4⟩
     refine ⟨⟨fun e=>q0 (hk ▸ e),fun e=>absurd (hk ▸ e) A.k5⟩,wHJ HC HY os _ h1 σA' h' hr hc2 μ1 _ w1 q2 q3 fun μ' w' σ' r1 r2 r3 r4=>?_⟩
     rw [q4] at r1 r4
     exact hQ μ' w' σ' (q1.trans r1) r2 r3 r4
   ·cases hr
end
end
end Go.KX
namespace Go.KX
open Go.RowKit Go.KL
section
variable {C:Chk} {P:Program} {tb:Tr AF} {ex exY:Run}
def OkA (C:Chk) (P:Program) (op:Op) (f:Tr AV->AH->Option (AV × AH)):Prop :=
 ∀ σA h v h',f σA h=some (v,h')->∃ (B:AB) (vf:Pos->AV),h'=h.push B/\v=vf h.nx/\(∀ h2:AH,f σA h2=some (vf h2.nx,h2.push B))/\wJP B/\∀ μ σ,EnvR μ σA σ->∀ o:Oper,o.op=op ->
  ∃ (ob:Obj) (val:Nat->Value),(∀ w:World,Runs P σ w o (val w.heap.size) (w.alloc ob)) /\
   (∀ μ' (w:World) b,μ.Le μ'->w.heap[b]?=some ob->AbR C P μ' w ⟨b,0,g0⟩ B)/\∀ μ' p b,μ' p=some ⟨b,0,g0⟩->Rv μ' (vf p) (val b)
theorem wJU {α:Type} {b:Bool} {x:Option α} (h:b=true):ifO b x=x:=by subst h;rfl
theorem a_new {T:Nat} {z:List AV} {op:Op} (hc:wKp P T z op=true):OkA C P op (wNH T z):=by
 intro σA h v h' hr
 cases hr
 unfold wKp at hc
 split at hc
 ·simp only [hH] at hc
  have e:=nA hc.1
  subst e
  obtain ⟨i,zv,z1,z2,z3⟩:=wDf hc.2
  refine ⟨.cells T z,fun p=>.ptr p 0,rfl,rfl,fun h2=>rfl,trivial,fun μ σ hE o ho=>?_⟩
  refine ⟨_,fun b=>.pointer (some ⟨b,0,none⟩),fun w=>⟨by rw [ho];rfl,?_⟩,fun μ' w b hm hb=>⟨_,z3 μ',hb⟩,fun μ' p b hp=>⟨_,hp,rfl⟩⟩
  simp [execOp,ho,Instr.alloc,wCW z1 z2,newVar,newRow,newObj,Sem.run]
 ·cases hc
theorem a_box {T:Nat} {x:AOd} {op:Op} (hc:wKq T x op=true):OkA C P op (wJM T x):=by
 intro σA h v h' hr
 cases hr
 unfold wKq at hc
 split at hc
 ·simp only [hH] at hc
  have e:=nA hc.1
  subst e
  refine ⟨.cells T _,fun p=>.ptr p 0,rfl,rfl,fun h2=>rfl,trivial,fun μ σ hE o ho=>?_⟩
  obtain ⟨vs,v1,v2⟩:=wEj (wAJ hc.2 hE)
  refine ⟨.cells vs.toArray T,fun b=>.pointer (some ⟨b,0,none⟩),fun w=>⟨by rw [ho];rfl,?_⟩,fun μ' w b hm hb=>⟨vs,v1.mono hm,hb⟩,fun μ' p b hp=>⟨_,hp,rfl⟩⟩
  simp [execOp,ho,Instr.box,newVar,newRow,newObj,v2,Sem.run]
 ·cases hc
theorem a_mkm {op:Op} (hc:wKr op=true):OkA C P op wNI:=by
 intro σA h v h' hr
 cases hr
 unfold wKr at hc
 split at hc
 ·refine ⟨.map0,fun p=>.map p,rfl,rfl,fun h2=>rfl,trivial,fun μ σ hE o ho=>?_⟩
  refine ⟨.map #[] 0,fun b=>.map (some b),fun w=>⟨by rw [ho];rfl,?_⟩,fun μ' w b hm hb=>⟨0,hb⟩,fun μ' p b hp=>⟨_,hp,rfl⟩⟩
  simp [execOp,ho,Instr.makeMap,newObj,Sem.run,Result.andThen]
 ·cases hc
theorem a_mks {T sz by_:Nat} {z:List AV} {x y:AOd} {op:Op} (hc:wKs P T sz by_ z x y op=true):OkA C P op (wFF T sz by_ z x y):=by
 intro σA h v h' hr
 unfold wKs at hc
 split at hc
 ·rename_i t x' y'
  simp only [hH] at hc
  obtain ⟨c1,c2,c3,c4,c5,c6,c7⟩:=hc
  obtain ⟨d,d1,d2⟩:=wAb c1
  split at d2 <;> first | (cases d2;done) | skip
  have e:=nA d2
  subst e
  rename_i e
  obtain ⟨i,i1,i2⟩:=wEl c2
  obtain ⟨i',j1,j2⟩:=wEm c3
  obtain ⟨i'',zv,k1,k2,k3⟩:=wDf c4
  rw [i1] at j1 k1;cases j1;cases k1
  have hz:=nA c5
  unfold wFF at hr
  split at hr
  ·rename_i l c hl hcc
   obtain ⟨hb,hr⟩:=wBB hr
   cases hr
   simp only [hH,nO] at hb
   obtain ⟨⟨⟨b1,b2⟩,b3⟩,b4⟩:=hb
   refine ⟨.cells e (rep c z),fun p=>.sl p 0 l c,rfl,rfl,fun h2=>(by simp only [wFF,hl,hcc];exact wJU (by simp [b1,b2,b3,b4])),trivial,fun μ σ hE o ho=>?_⟩
   have hx:=wAJ c6 hE;rw [wBQ hl] at hx
   have hy:=wAJ c7 hE;rw [wBQ hcc] at hy
   have hx:ev σ x'=.int .i64 (l:Int):=hx
   have hy:ev σ y'=.int .i64 (c:Int):=hy
   have zlen:zv.cells.size=sz:=by rw [<- hz,wDJ,<- wBr (k3 μ)];simp
   have hcells:(madeCells zv.cells (c * sz))=((nQ c zv.cells.toList).flatten).toArray:=by
    apply nJ
    have:=wDh (zc:=zv.cells) (n:=0) c
    simp only [or_false] at this
    rw [zlen] at this
    show ((nY (c * sz)).map (zv.cells[· % zv.cells.size]!)).toList=_
    rw [zlen,this]
   refine ⟨.cells ((nQ c zv.cells.toList).flatten).toArray e,fun b=>.slice (some ⟨b,0,none⟩) l c,fun w=>⟨by rw [ho];rfl,?_⟩,fun μ' w b hm hb=>⟨_,wFK (k3 μ') c,hb⟩,fun μ' p b hp=>⟨_,hp,b1,rfl⟩⟩
   have hrun:=run_makeSlice (P:=P) w t e i zv d1 i1 k2 .i64 .i64 (l:Int) (c:Int) (by omega) (by omega) (by rw [i2,nk];exact b2) (by rw [j2];have hb:=Int.ofNat_le.2 b3;rw [Int.natCast_mul] at hb;exact hb) (by omega)
   simp only [nk,i2] at hrun
   rw [hcells] at hrun
   simp [execOp,ho,hx,hy,hrun,Result.andThen]
  ·cases hr
 ·cases hc
theorem wPD {T n:Nat} {z:List AV} {ps:List (Nat × Nat × AOd)} {op:Op} (hc:wHG P T n z ps op=true):OkA C P op (wDH T n z ps):=by
 intro σA h v h' hr
 unfold wHG at hc
 split at hc
 ·rename_i t m qs
  simp only [hH] at hc
  obtain ⟨c1,c2,c3⟩:=hc
  have e:=nA c1
  subst e
  obtain ⟨d,d1,d2⟩:=wAb c2
  split at d2 <;> first | (cases d2;done) | skip
  have e:=nA d2
  subst e
  rename_i e
  split at c3
  ·rename_i i hi
   simp only [hH,nO] at c3
   obtain ⟨c3,c4,c5⟩:=c3
   split at c5
   ·rename_i zv hz
    unfold wDH at hr
    split at hr
    ·rename_i r hr3
     cases hr
     refine ⟨.cells e r,fun p=>.sl p 0 m m,rfl,rfl,fun h2=>by simp only [wDH,hr3],trivial,fun μ σ hE o ho=>?_⟩
     obtain ⟨R,r1,r2,r3⟩:=wFP hE hr3 c4 (wEO μ c5)
     have hf:=wCN _ _ _ _ r1
     refine ⟨.cells R.toArray e,fun b=>.slice (some ⟨b,0,none⟩) m m,fun w=>⟨by rw [ho];rfl,?_⟩,fun μ' w b hm hb=>⟨_,r2.mono hm,hb⟩,fun μ' p b hp=>⟨_,hp,nE _,rfl⟩⟩
     have hs:∀ w,(sizeOf e).run P w=.ok i.size w:=fun w=>by simp [sizeOf,typeInfo,hi]
     have hn':¬ m * i.size > 2 ^ 24:=by omega
     have hq:(qs.map fun (p:Nat × Operand)=>(p.1,ev σ p.2)).toList=qs.toList.map fun (p:Nat × Operand)=>(p.1,ev σ p.2):=by simp
     by_cases h0:m * i.size=0
     ·rw [h0] at hf
      simp only [List.range_zero,kB] at hf
      have hr0:(nY 0).map (fun x=>(#[]:Array Value)[x % (#[]:Array Value).size]!)=#[]:=by rw [show (nY 0)=#[] from rfl,Array.map_empty]
      have hn0:¬ (0:Nat) > 2 ^ 24:=by decide
      simp only [execOp,ho,Instr.buildSlice,Sem.run_bind,wAe d1,hs,Result.andThen_ok,h0,if_neg hn0,if_true,Sem.run_pure,hq,hr0,hf]
      simp [newRow,newObj,Sem.run,Result.andThen]
     ·have hzs:(nY (m * i.size)).map (zv.cells[· % zv.cells.size]!)=((nq (m * i.size)).map fun k=>zv.cells[k % zv.cells.size]!).toArray:=by rw [<- kQ,List.map_toArray]
      simp only [execOp,ho,Instr.buildSlice,Sem.run_bind,wAe d1,hs,wCW hi hz,Result.andThen_ok,if_neg hn',if_neg h0,Sem.run_pure,hq,hzs,hf]
      simp [newRow,newObj,Sem.run,Result.andThen]
    ·cases hr
   ·cases c5
  ·cases c3
 ·cases hc
def wBC:AOp->List AOd
 | .mv x=>[x]
 | .pick c x y=>[c] ++ [x] ++ [y]
 | .new _ _=>[]
 | .box _ x=>[x]
 | .ld x=>[x]
 | .ldA _ x=>[x]
 | .st _ x y=>[x] ++ [y]
 | .nilc x=>[x]
 | .add x y=>[x] ++ [y]
 | .sub x y=>[x] ++ [y]
 | .mul x y=>[x] ++ [y]
 | .quo x y=>[x] ++ [y]
 | .rem x y=>[x] ++ [y]
 | .lss x y=>[x] ++ [y]
 | .leq x y=>[x] ++ [y]
 | .gtr x y=>[x] ++ [y]
 | .geq x y=>[x] ++ [y]
 | .eql x y=>[x] ++ [y]
 | .neq x y=>[x] ++ [y]
 | .eqb _ x y=>[x] ++ [y]
 | .eqn _ _ x y=>[x] ++ [y]
 | .eqs _ _ x y=>[x] ++ [y]
 | .neg x=>[x]
 | .not x=>[x]
 | .cvt _ x=>[x]
 | .mkf _ fi ca=>fi ++ ca
 | .mkm =>[]
 | .mks _ _ _ _ x y=>[x] ++ [y]
 | .slc _ x lo hi mx=>[x] ++ lo.toList ++ hi.toList ++ mx.toList
 | .slcA _ _ x lo hi=>[x] ++ lo.toList ++ hi.toList
 | .fad _ x=>[x]
 | .fld _ x=>[x]
 | .fldA _ _ x=>[x]
 | .iad _ x y=>[x] ++ [y]
 | .iadA _ _ x y=>[x] ++ [y]
 | .ix _ x y=>[x] ++ [y]
 | .ixA _ _ x y=>[x] ++ [y]
 | .lk _ _ _ _ x y=>[x] ++ [y]
 | .mput _ _ x y z=>[x] ++ [y] ++ [z]
 | .mdel _ _ x y=>[x] ++ [y]
 | .ext _ x=>[x]
 | .bld _ ps=>(ps.map fun q=>q.2.2)
 | .blds _ _ _ ps=>(ps.map fun q=>q.2.2)
 | .len x=>[x]
 | .lenM x=>[x]
 | .cap x=>[x]
 | .app _ _ _ x y=>[x] ++ [y]
 | .cpy _ x y=>[x] ++ [y]
 | .clr _ x=>[x]
 | .min x y=>[x] ++ [y]
 | .max x y=>[x] ++ [y]
 | .and x y=>[x] ++ [y]
 | .shr x y=>[x] ++ [y]
 | .ixs _ y=>[y]
 | .apz _ _ _ _ x y=>[x] ++ [y]
 | .call x l=>[x] ++ l
 | .bad=>[]
theorem wEC {σ1 σ2:Tr AV}:∀ {l:List AOd},(∀ x ∈ l,evA σ1 x=evA σ2 x)->evs σ1 l=evs σ2 l
 | [],_=>rfl
 | x :: l,h=>by
  show evA σ1 x :: evs σ1 l=evA σ2 x :: evs σ2 l
  rw [h x (by simp),wEC fun y hy=>h y (by simp [hy])]
theorem wDj {σ1 σ2:Tr AV}:∀ {ps:List (Nat × Nat × AOd)} {cs:List AV},(∀ q ∈ ps,evA σ1 q.2.2=evA σ2 q.2.2)->wGS σ1 cs ps=wGS σ2 cs ps
 | [],cs,_=>rfl
 | (off,n,x) :: ps,cs,h=>by
  have e:evA σ1 x=evA σ2 x:=h (off,n,x) (by simp)
  simp only [wGS,e]
  cases nB (len (evA σ2 x).cells) n with
  | false=>rfl
  | true =>
   cases wNF cs off (evA σ2 x).cells with
   | none=>rfl
   | some cs'=>exact wDj fun q hq=>h q (by simp [hq])
theorem wDL {σ1 σ2:Tr AV} {o:Option AOd} (h:∀ x ∈ o.toList,evA σ1 x=evA σ2 x):bnd σ1 o=bnd σ2 o:=by
 cases o with
 | none=>rfl
 | some x =>
  have e:=h x (by simp)
  simp only [bnd,e]
theorem wKz {σ1 σ2:Tr AV} (op:AOp) (h:∀ x ∈ wBC op,evA σ1 x=evA σ2 x) (hh:AH):opY op tb ex exY σ1 hh=opY op tb ex exY σ2 hh:=by
 cases op with
 | bld z ps=>exact (show wKN z ps σ1 hh=wKN z ps σ2 hh by simp only [wKN];rw [wDj fun q hq=>h q.2.2 (List.mem_map.2 ⟨q,hq,rfl⟩)])
 | blds T n z ps=>exact (show wDH T n z ps σ1 hh=wDH T n z ps σ2 hh by simp only [wDH];rw [wDj fun q hq=>h q.2.2 (List.mem_map.2 ⟨q,hq,rfl⟩)])
 | mkf f fi ca=>exact (show wJN f fi ca σ1 hh=wJN f fi ca σ2 hh by simp only [wJN];rw [wEC fun x hx=>h x (ng _ hx),wEC fun x hx=>h x (nc _ hx)])
 | call x l=>exact (show wEY x l tb ex exY σ1 hh=wEY x l tb ex exY σ2 hh by simp only [wEY];rw [h x (ng _ (by simp)),wEC fun y hy=>h y (nc _ hy)])
 | slc sz x lo hi mx=>exact (show wHq sz x lo hi mx σ1 hh=wHq sz x lo hi mx σ2 hh by
   simp only [wHq]
   rw [h x (by simp [wBC]),wDL fun y hy=>h y (by simp only [wBC,nN];exact .inl (.inl (.inr hy))),wDL fun y hy=>h y (by simp only [wBC,nN];exact .inl (.inr hy)),wDL fun y hy=>h y (by simp only [wBC,nN];exact .inr hy)])
 | slcA sz n x lo hi=>exact (show wFG sz n x lo hi σ1 hh=wFG sz n x lo hi σ2 hh by
   simp only [wFG]
   rw [h x (by simp [wBC]),wDL fun y hy=>h y (by simp only [wBC,nN];exact .inl (.inr hy)),wDL fun y hy=>h y (by simp only [wBC,nN];exact .inr hy)])
 | mv a_x=>exact (show wOR a_x σ1 hh=wOR a_x σ2 hh by simp only [wOR,h a_x (by simp [wBC])])
 | pick a_c a_x a_y=>exact (show wFD a_c a_x a_y σ1 hh=wFD a_c a_x a_y σ2 hh by simp only [wFD,h a_c (by simp [wBC]),h a_x (by simp [wBC]),h a_y (by simp [wBC])])
 | new a_T a_z=>rfl
 | box a_T a_x=>exact (show wJM a_T a_x σ1 hh=wJM a_T a_x σ2 hh by simp only [wJM,h a_x (by simp [wBC])])
 | ld a_x=>exact (show wLo a_x σ1 hh=wLo a_x σ2 hh by simp only [wLo,h a_x (by simp [wBC])])
 | ldA a_n a_x=>exact (show wFm a_n a_x σ1 hh=wFm a_n a_x σ2 hh by simp only [wFm,h a_x (by simp [wBC])])
 | st a_n a_x a_y=>exact (show wMi a_n a_x a_y σ1 hh=wMi a_n a_x a_y σ2 hh by simp only [wMi,h a_x (by simp [wBC]),h a_y (by simp [wBC])])
 | nilc a_x=>exact (show wFE a_x σ1 hh=wFE a_x σ2 hh by simp only [wFE,h a_x (by simp [wBC])])
 | add a_x a_y=>exact (show wKB a_x a_y σ1 hh=wKB a_x a_y σ2 hh by simp only [wKB,h a_x (by simp [wBC]),h a_y (by simp [wBC])])
 | sub a_x a_y=>exact (show wKC a_x a_y σ1 hh=wKC a_x a_y σ2 hh by simp only [wKC,h a_x (by simp [wBC]),h a_y (by simp [wBC])])
 | mul a_x a_y=>exact (show wKD a_x a_y σ1 hh=wKD a_x a_y σ2 hh by simp only [wKD,h a_x (by simp [wBC]),h a_y (by simp [wBC])])
 | quo a_x a_y=>exact (show wKE a_x a_y σ1 hh=wKE a_x a_y σ2 hh by simp only [wKE,h a_x (by simp [wBC]),h a_y (by simp [wBC])])
 | rem a_x a_y=>exact (show wKF a_x a_y σ1 hh=wKF a_x a_y σ2 hh by simp only [wKF,h a_x (by simp [wBC]),h a_y (by simp [wBC])])
 | lss a_x a_y=>exact (show wKG a_x a_y σ1 hh=wKG a_x a_y σ2 hh by simp only [wKG,h a_x (by simp [wBC]),h a_y (by simp [wBC])])
 | leq a_x a_y=>exact (show wKH a_x a_y σ1 hh=wKH a_x a_y σ2 hh by simp only [wKH,h a_x (by simp [wBC]),h a_y (by simp [wBC])])
 | gtr a_x a_y=>exact (show wKI a_x a_y σ1 hh=wKI a_x a_y σ2 hh by simp only [wKI,h a_x (by simp [wBC]),h a_y (by simp [wBC])])
 | geq a_x a_y=>exact (show wKJ a_x a_y σ1 hh=wKJ a_x a_y σ2 hh by simp only [wKJ,h a_x (by simp [wBC]),h a_y (by simp [wBC])])
 | eql a_x a_y=>exact (show wKK a_x a_y σ1 hh=wKK a_x a_y σ2 hh by simp only [wKK,h a_x (by simp [wBC]),h a_y (by simp [wBC])])
 | neq a_x a_y=>exact (show wKL a_x a_y σ1 hh=wKL a_x a_y σ2 hh by simp only [wKL,h a_x (by simp [wBC]),h a_y (by simp [wBC])])
 | eqb a_ne a_x a_y=>exact (show wHl a_ne a_x a_y σ1 hh=wHl a_ne a_x a_y σ2 hh by simp only [wHl,h a_x (by simp [wBC]),h a_y (by simp [wBC])])
 | eqn a_k a_ne a_x a_y=>exact (show wHm a_k a_ne a_x a_y σ1 hh=wHm a_k a_ne a_x a_y σ2 hh by simp only [wHm,h a_x (by simp [wBC]),h a_y (by simp [wBC])])
 | eqs a_ne a_s a_x a_y=>exact (show wHn a_ne a_s a_x a_y σ1 hh=wHn a_ne a_s a_x a_y σ2 hh by simp only [wHn,h a_x (by simp [wBC]),h a_y (by simp [wBC])])
 | neg a_x=>exact (show wKM a_x σ1 hh=wKM a_x σ2 hh by simp only [wKM,h a_x (by simp [wBC])])
 | not a_x=>exact (show wHo a_x σ1 hh=wHo a_x σ2 hh by simp only [wHo,h a_x (by simp [wBC])])
 | cvt a_k a_x=>exact (show wHp a_k a_x σ1 hh=wHp a_k a_x σ2 hh by simp only [wHp,h a_x (by simp [wBC])])
 | mkm =>rfl
 | mks a_T a_sz a_bytes a_z a_x a_y=>exact (show wFF a_T a_sz a_bytes a_z a_x a_y σ1 hh=wFF a_T a_sz a_bytes a_z a_x a_y σ2 hh by simp only [wFF,h a_x (by simp [wBC]),h a_y (by simp [wBC])])
 | fad a_off a_x=>exact (show wHr a_off a_x σ1 hh=wHr a_off a_x σ2 hh by simp only [wHr,h a_x (by simp [wBC])])
 | fld a_off a_x=>exact (show wHs a_off a_x σ1 hh=wHs a_off a_x σ2 hh by simp only [wHs,h a_x (by simp [wBC])])
 | fldA a_off a_n a_x=>exact (show wFH a_off a_n a_x σ1 hh=wFH a_off a_n a_x σ2 hh by simp only [wFH,h a_x (by simp [wBC])])
 | iad a_sz a_x a_y=>exact (show wHt a_sz a_x a_y σ1 hh=wHt a_sz a_x a_y σ2 hh by simp only [wHt,h a_x (by simp [wBC]),h a_y (by simp [wBC])])
 | iadA a_sz a_n a_x a_y=>exact (show wFI a_sz a_n a_x a_y σ1 hh=wFI a_sz a_n a_x a_y σ2 hh by simp only [wFI,h a_x (by simp [wBC]),h a_y (by simp [wBC])])
 | ix a_n a_x a_y=>exact (show wNJ a_n a_x a_y σ1 hh=wNJ a_n a_x a_y σ2 hh by simp only [wNJ,h a_x (by simp [wBC]),h a_y (by simp [wBC])])
 | ixA a_sz a_n a_x a_y=>exact (show wHu a_sz a_n a_x a_y σ1 hh=wHu a_sz a_n a_x a_y σ2 hh by simp only [wHu,h a_x (by simp [wBC]),h a_y (by simp [wBC])])
 | lk a_two a_k a_ok a_z a_x a_y=>exact (show wLp a_two a_k a_ok a_z a_x a_y σ1 hh=wLp a_two a_k a_ok a_z a_x a_y σ2 hh by simp only [wLp,h a_x (by simp [wBC]),h a_y (by simp [wBC])])
 | mput a_two a_k a_x a_y a_z=>exact (show wEW a_two a_k a_x a_y a_z σ1 hh=wEW a_two a_k a_x a_y a_z σ2 hh by simp only [wEW,h a_x (by simp [wBC]),h a_y (by simp [wBC]),h a_z (by simp [wBC])])
 | mdel a_two a_k a_x a_y=>exact (show wEX a_two a_k a_x a_y σ1 hh=wEX a_two a_k a_x a_y σ2 hh by simp only [wEX,h a_x (by simp [wBC]),h a_y (by simp [wBC])])
 | ext a_i a_x=>exact (show wHv a_i a_x σ1 hh=wHv a_i a_x σ2 hh by simp only [wHv,h a_x (by simp [wBC])])
 | len a_x=>exact (show wHw a_x σ1 hh=wHw a_x σ2 hh by simp only [wHw,h a_x (by simp [wBC])])
 | lenM a_x=>exact (show wDU a_x σ1 hh=wDU a_x σ2 hh by simp only [wDU,h a_x (by simp [wBC])])
 | cap a_x=>exact (show wHx a_x σ1 hh=wHx a_x σ2 hh by simp only [wHx,h a_x (by simp [wBC])])
 | app a_T a_sz a_bytes a_x a_y=>exact (show wGv a_T a_sz a_bytes a_x a_y σ1 hh=wGv a_T a_sz a_bytes a_x a_y σ2 hh by simp only [wGv,h a_x (by simp [wBC]),h a_y (by simp [wBC])])
 | cpy a_sz a_x a_y=>exact (show wGw a_sz a_x a_y σ1 hh=wGw a_sz a_x a_y σ2 hh by simp only [wGw,h a_x (by simp [wBC]),h a_y (by simp [wBC])])
 | clr a_z a_x=>exact (show wGx a_z a_x σ1 hh=wGx a_z a_x σ2 hh by simp only [wGx,h a_x (by simp [wBC])])
 | min a_x a_y=>exact (show wKO a_x a_y σ1 hh=wKO a_x a_y σ2 hh by simp only [wKO,h a_x (by simp [wBC]),h a_y (by simp [wBC])])
 | max a_x a_y=>exact (show wKP a_x a_y σ1 hh=wKP a_x a_y σ2 hh by simp only [wKP,h a_x (by simp [wBC]),h a_y (by simp [wBC])])
 | bad=>rfl
 | and a_x a_y=>exact (show wKR a_x a_y σ1 hh=wKR a_x a_y σ2 hh by simp only [wKR,h a_x (by simp [wBC]),h a_y (by simp [wBC])])
 | ixs a_l a_y=>exact (show wHy a_l a_y σ1 hh=wHy a_l a_y σ2 hh by simp only [wHy,h a_y (by simp [wBC])])
 | apz a_T a_sz a_b a_z a_x a_y=>exact (show wHA a_T a_sz a_b a_z a_x a_y σ1 hh=wHA a_T a_sz a_b a_z a_x a_y σ2 hh by simp only [wHA,h a_x (by simp [wBC]),h a_y (by simp [wBC])])
 | shr a_x a_y=>exact (show wKS a_x a_y σ1 hh=wKS a_x a_y σ2 hh by simp only [wKS,h a_x (by simp [wBC]),h a_y (by simp [wBC])])
variable {r:Option Nat} {N:Nat} {Q:wCT} {D:List Deferred} {l:List Oper}
theorem CK.anyRel {id:Nat} {σ:Env} {w:World} (hm:P.follows .mixedOrders=true) (hpr:∀ i,i < l.length->∀ j ∈ prI l i,j < i) (J:(Nat->Bool)->Env->World->Prop)
  (h0:J (fun _=>false) σ { w with drawn:=w.drawn + 1 })
  (step:∀ S i σ w,i < l.length->S i=false->(∀ j ∈ prI l i,S j=true)->(∀ k,k < l.length->S k=true->∀ j ∈ prI l k,S j=true)->(∀ k,S k=true->k < l.length)->J S σ w ->
   ∃ o,l[i]?=some o/\(∀ d,o.dst=some d->d < N)/\Step1 P l o σ w fun v w'=>J (fun k=>k == i || S k) (put' σ o v) w')
  (fin:∀ S σ w,(∀ i,i < l.length->S i=true)->J S σ w->Q D .normal σ w):CK r N P (.region id l.toArray true) Q D σ w:=by
 intro a ha
 refine wpIn_region_any hm ?_
 have prog:∀ (listed:Array Bool),listed.size=l.length->Region.ready .any l.toArray listed=[]->∀ i,i < l.length->listed.getD i false=true:=by
  intro listed hsz hnil i
  induction i using Nat.strongRecOn with
  | _ i ih =>
   intro hi
   cases hb:listed.getD i false with
   | true=>rfl
   | false =>
    have:i ∈ Region.ready .any l.toArray listed:=(wCM hsz).2 ⟨hi,hb,fun j hj=>ih j (hpr i hi j hj) (Nat.lt_trans (hpr i hi j hj) hi)⟩
    rw [hnil] at this;cases this
 have core:∀ (fuel:Nat) (listed:Array Bool) (σ:Env) (a:Act) (w:World),listed.size=l.length->Rep N D a σ->(∀ k,k < l.length->listed.getD k false=true->∀ j ∈ prI l k,listed.getD j false=true) ->
   J (fun i=>listed.getD i false) σ w->(listed.toList.filter (! ·)).length <= fuel->wpAnyIn (WF r) 0 P .any l.toArray (wGL N Q) fuel listed a w:=by
  intro fuel
  induction fuel with
  | zero =>
   intro listed σ a w hsz hr hdc hJ hf
   have hall:∀ i,i < l.length->listed.getD i false=true:=by
    intro i hi
    cases hb:listed.getD i false with
    | true=>rfl
    | false=>have:=wDw listed i (by omega) hb;omega
   refine ⟨?_,σ,D,hr,fin _ σ w hall hJ⟩
   cases hr:Region.ready .any l.toArray listed with
   | nil=>rfl
   | cons x xs =>
    have hx:x ∈ Region.ready .any l.toArray listed:=by rw [hr];simp
    obtain ⟨h1,h2,_⟩:=(wCM hsz).1 hx
    rw [hall x h1] at h2;cases h2
  | succ fuel ih =>
   intro listed σ a w hsz hr hdc hJ hf
   refine ⟨fun hnil=>⟨σ,D,hr,fin _ σ w (prog listed hsz hnil) hJ⟩,fun i hi=>?_⟩
   obtain ⟨hlt,hun,hpi⟩:=(wCM hsz).1 hi
   have hsz':(listed.setIfInBounds i true).size=l.length:=by simpa using hsz
   have hf':((listed.setIfInBounds i true).toList.filter (! ·)).length <= fuel:=by have:=wDw listed i (by omega) hun;omega
   have hS:∀ k,listed.getD k false=true->k < l.length:=by
    intro k hk
    rcases kA k l.length with h | h
    ·exact h
    ·rw [nf,Array.getElem?_eq_none (by omega)] at hk;cases hk
   obtain ⟨o,ho,hN,hst⟩:=step _ i σ w hlt hun hpi hdc hS hJ
   refine wEt ho hr hN hst ?_
   intro v w' a' hr' hJ'
   refine ih _ (KL.put' σ o v) a' w' hsz' hr' ?_ ?_ hf'
   ·intro k hk hkl j hj
    rw [wDv (by omega)] at hkl ⊢
    rcases hkl with rfl | hkl
    ·exact .inr (hpi j hj)
    ·exact .inr (hdc k hk hkl j hj)
   ·have e:(fun k=>(listed.setIfInBounds i true).getD k false)=fun k=>k == i || listed.getD k false:=by
     funext k
     rw [Bool.eq_iff_iff,wDv (by omega),nM,beq_iff_eq]
    rw [e]
    exact hJ'
 have rep:∀ k,(kG l.toArray.size false).getD k false=false:=by
  intro k
  rw [nf,kC]
  split <;> rfl
 refine core l.toArray.size (kG l.toArray.size false) σ a _ (by simp) ha ?_ ?_ ?_
 ·intro k hk hkl
  rw [rep k] at hkl
  cases hkl
 ·have e:(fun i=>(kG l.toArray.size false).getD i false)=fun _=>false:=by
   funext i
   rw [nf,kC]
   split <;> rfl
  rw [e]
  exact h0
 ·exact nZ (List.length_filter_le _ _) (by simp)
end
end Go.KX
namespace Go.KX
noncomputable section
open Go.RowKit Go.KL
def wBj:List AOd->List Pos
 | []=>[]
 | .t p :: l=>p :: wBj l
 | .c _ :: l=>wBj l
def wJj:AOp->Bool
 | .new _ _ | .box _ _ | .mkm | .mks _ _ _ _ _ _ | .blds _ _ _ _=>true
 | _=>false
def wBX (a:AO):List Pos:=wBj (wBC a.op) ++ (match a.grd with | some (p,_)=>[p] | none=>[])
def Sub (a:AOp) (o:Oper):Prop:=∀ t,Operand.tmp t ∈ o.op.operands->∃ p ∈ wBj (wBC a),p.nat - 1=t
def wIj (l:List Oper) (x i:Nat):Prop:=∀ S:Nat->Bool,(∀ k,k < l.length->S k=true->∀ j ∈ prI l k,S j=true)->(∀ j ∈ prI l i,S j=true)->S x=true
def wFT (acc:List Nat):List Nat->Nat
 | []=>0
 | p :: ps=>wFT acc ps ||| (2 ^ p ||| acc.getD p 0)
def wMo (acc:List Nat):List Oper->List Nat
 | []=>acc
 | o :: r=>wMo (acc ++ [wFT acc (wJE o)]) r
theorem wGD {acc:List Nat} {x:Nat}:∀ {ps:List Nat},(wFT acc ps).testBit x=true->∃ p ∈ ps,x=p \/ (acc.getD p 0).testBit x=true
 | [],h=>by simp [wFT] at h
 | p :: ps,h=>by
  simp only [wFT,Nat.testBit_or,nM,Nat.testBit_two_pow,decide_eq_true_eq] at h
  rcases h with h | h | h
  ·obtain ⟨q,h1,h2⟩:=wGD h
   exact ⟨q,by simp [h1],h2⟩
  ·exact ⟨p,by simp,.inl h.symm⟩
  ·exact ⟨p,by simp,.inr h⟩
theorem wIF {l:List Oper} (hpr:∀ i,i < l.length->∀ j ∈ prI l i,j < i):∀ (rest done:List Oper) (acc:List Nat),l=done ++ rest->acc.length=done.length->(∀ i x,(acc.getD i 0).testBit x=true->wIj l x i) ->
  ∀ i x,((wMo acc rest).getD i 0).testBit x=true->wIj l x i
 | [],done,acc,_,_,h,i,x,hx=>h i x hx
 | o :: r,done,acc,hl,hlen,h,i,x,hx=>by
  refine wIF hpr r (done ++ [o]) (acc ++ [wFT acc (wJE o)]) (by rw [hl];simp) (by simp [hlen]) ?_ i x hx
  intro i x hx
  rcases Nat.lt_trichotomy i acc.length with hi | hi | hi
  ·rw [nV,List.getElem?_append_left hi,<- nV] at hx
   exact h i x hx
  ·rw [nV,hi,nw (nE _),Nat.sub_self] at hx
   have hx:(wFT acc (wJE o)).testBit x=true:=hx
   have hlt:done.length < l.length:=by rw [hl];simp
   have hp:prI l done.length=wJE o:=by
    unfold prI
    rw [hl,nw (nE _),Nat.sub_self]
    rfl
   obtain ⟨p,h1,h2⟩:=wGD hx
   intro S hdc hS
   rw [hi,hlen] at hS
   have hSp:S p=true:=hS p (by rw [hp];exact h1)
   rcases h2 with rfl | h2
   ·exact hSp
   ·have:=hpr _ hlt p (by rw [hp];exact h1)
    exact h p x h2 S hdc (hdc p (by omega) hSp)
  ·rw [nV,np (by simp;omega)] at hx
   simp at hx
def dne (b:AO) (p:Pos):Bool:=match b.dst with
 | none=>true
 | some q=>!Pos.beq q p
def subB (a:AOp) (o:Oper):Bool:=o.op.operands.toList.all fun
 | .tmp t=>(wBj (wBC a)).any fun p=>nB p.nat (t + 1)
 | _=>true
def kdOK (a:AO):Bool:=wBT a.kd || (a.dst.isSome && (nB a.kd 1 || (nB a.kd 3 || ((nB a.kd 6 && nB (kdA a.op) 3) || ((nB a.kd 4 && wJj a.op) || (nz 8 a.kd && nB (kdA a.op) 1))))))
def zld (m kd:Nat):Nat->List AO->Bool
 | _,[]=>true
 | n,b :: d=>(!Nat.beq b.kd 0 || (m.testBit b.ix || nR (n + 8) kd)) && zld m kd (match wBT b.kd with | true=>n + 1 | false=>n) d
def zop (m:Nat) (l:List Oper) (d:List AO) (a:AO) (t:List AO):Bool :=
 (!wBT a.kd || d.all fun b=>m.testBit b.ix) &&
 ((match a.dst with | none=>true | some p=>d.all (fun b=>dne b p) && t.all (fun b=>dne b p)) &&
 ((wBX a).all (fun p=>dne a p && (t.all (fun b=>dne b p) && d.all (fun b=>dne b p || (m.testBit b.ix && (!(nB a.kd 1 || (nB a.kd 3 || nz 8 a.kd)) || !(nB b.kd 4 || nB b.kd 6)))))) &&
 ((!Nat.beq a.kd 1 || d.all fun b=>!Nat.beq b.kd 0 || m.testBit b.ix) && (!Nat.ble 8 a.kd || zld m a.kd 0 d) &&
 (t.all (fun b=>!Nat.beq b.ix a.ix) &&
 (kdOK a && (match l[a.ix]? with | none=>false | some o=>!wBI o && subB a.op o))))))
def zgo (an:List Nat) (l:List Oper) (d:List AO):List AO->Bool
 | []=>true
 | a :: t=>zop (an.getD a.ix 0) l d a t && zgo an l (a :: d) t
def wNo (a:AO):Bool:=nB a.kd 0 && (match a.op with | .mv _=>true | _=>false)
def wNp:List AO->List AO
 | []=>[]
 | a :: t=>match wNo a with
  | true=>[]
  | false=>a :: wNp t
def wME:List AO->List AO
 | []=>[]
 | a :: t=>match wNo a with
  | true=>a :: t
  | false=>wME t
theorem wMp:∀ os:List AO,os=wNp os ++ wME os
 | []=>rfl
 | a :: t=>by
  unfold wNp wME
  cases wNo a with
  | true=>rfl
  | false=>exact congrArg (a :: ·) (wMp t)
def ztl (an:List Nat) (l:List Oper) (os:List AO):Bool :=
 ((wME os).all (fun a=>nR a.kd 8) && (wNp os).all fun a=>nR a.kd 8 || ((wBX a).all (fun p=>(wME os).all fun b=>dne b p) && (match a.dst with | some p=>(wME os).all fun b=>dne b p | none=>true))) && (zgo an l [] (wNp os) && (zgo an l [] (wME os) && (wME os).all fun b=>(wNp os).all fun a=>!Nat.beq a.ix b.ix && (an.getD b.ix 0).testBit a.ix))
def chkZ (l:List Oper) (os:List AO):Bool :=
 (nq l.length).all (fun i=>(prI l i).all (nR · i)) && ((nq l.length).all (fun i=>os.any fun a=>nB a.ix i) && (zgo (wMo [] l) l [] os || ztl (wMo [] l) l os))
def wLr (l:List AO):Nat:=l.countP fun b=>wBT b.kd
structure ZOK (P:Program) (N:Nat) (l:List Oper) (os:List AO):Prop where
 ao:∀ a ∈ os,wFS P N l a=true
 one:os.Pairwise fun a b=>a.ix ≠ b.ix
 pr:∀ i,i < l.length->∀ j ∈ prI l i,j < i
 anc:∀ s a t,os=s ++ a :: t->wBT a.kd=true->∀ b ∈ s,wIj l b.ix a.ix
 wr:∀ s a t,os=s ++ a :: t->∀ p,a.dst=some p->∀ b ∈ s ++ t,b.dst ≠ some p
 rd:∀ s a t,os=s ++ a :: t->∀ p ∈ wBX a,∀ b ∈ a :: t,b.dst ≠ some p
 rdS:∀ a ∈ os,∀ p ∈ wBX a,∀ b ∈ os,b.dst=some p->wIj l b.ix a.ix
 kd:∀ a ∈ os,wBT a.kd=true \/ (a.dst ≠ none/\(a.kd=1 \/ a.kd=3 \/ (a.kd=6/\kdA a.op=3) \/ (a.kd=4/\wJj a.op=true) \/ (8 <= a.kd/\kdA a.op=1)))
 cl:∀ a ∈ os,a.kd=1 \/ a.kd=3 \/ 8 <= a.kd->∀ p ∈ wBX a,∀ b ∈ os,b.dst=some p->b.kd ≠ 4/\b.kd ≠ 6
 sel:∀ a ∈ os,∀ o,l[a.ix]?=some o->wBI o=false
 sub:∀ a ∈ os,∀ o,l[a.ix]?=some o->Sub a.op o
 ld:∀ s a t,os=s ++ a :: t->a.kd=1->∀ b ∈ s,b.kd=0->wIj l b.ix a.ix
 ld8:∀ s a t,os=s ++ a :: t->8 <= a.kd->∀ s1 b s2,s=s1 ++ b :: s2->b.kd=0->wIj l b.ix a.ix \/ wLr s2 + 8 < a.kd
theorem wMq {m kd:Nat}:∀ (x:List AO) (b:AO) (y:List AO) (n:Nat),zld m kd n (x ++ b :: y)=true->b.kd=0->m.testBit b.ix=true \/ n + wLr x + 8 < kd
 | [],b,y,n,h,h0=>by
  rw [nL,zld,h0] at h
  simp only [hH,nM,nG] at h
  rcases h.1 with g | g | g
  ·exact absurd g (by decide)
  ·exact .inl g
  ·exact .inr g
 | c :: x,b,y,n,h,h0=>by
  rw [nI,zld] at h
  simp only [hH] at h
  have:=wMq x b y _ h.2 h0
  refine this.imp id fun h=>?_
  unfold wLr at h ⊢
  rw [List.countP_cons]
  cases hf:wBT c.kd <;> rw [hf] at h <;> simp only [if_true,if_false,nP] at h ⊢ <;> omega
theorem Pos.beq_self:∀ p:Pos,p.beq p=true
 | .H=>rfl
 | .O p=>Pos.beq_self p
 | .I p=>Pos.beq_self p
theorem wFU {b:AO} {p:Pos} (h:dne b p=true):b.dst ≠ some p:=by
 intro e
 unfold dne at h
 rw [e] at h
 simp [Pos.beq_self] at h
theorem wMr {an:List Nat} {l:List Oper}:∀ (os d:List AO),zgo an l d os=true->∀ s a t,os=s ++ a :: t->zop (an.getD a.ix 0) l (s.reverse ++ d) a t=true
 | [],d,_,s,a,t,e=>by simp at e
 | b :: os,d,h,[],a,t,e=>by
  simp only [nL,nD] at e
  obtain ⟨rfl,rfl⟩:=e
  simp only [zgo,hH] at h
  exact h.1
 | b :: os,d,h,c :: s,a,t,e=>by
  simp only [nI,nD] at e
  obtain ⟨rfl,rfl⟩:=e
  simp only [zgo,hH] at h
  have:=wMr (s ++ a :: t) (b :: d) h.2 s a t rfl
  simpa using this
theorem wPE {α:Type} {R:α->α->Prop}:∀ (l:List α),(∀ s a t,l=s ++ a :: t->∀ b ∈ t,R a b)->l.Pairwise R
 | [],_=>List.Pairwise.nil
 | a :: l,h=>na.2 ⟨fun b hb=>h [] a l rfl b hb,wPE l fun s b t e=>h (a :: s) b t (by rw [e];rfl)⟩
theorem wIk {P:Program} {N:Nat} {l:List Oper} {os:List AO} (hao:∀ a ∈ os,wFS P N l a=true) (hpr:∀ i,i < l.length->∀ j ∈ prI l i,j < i) (hz:zgo (wMo [] l) l [] os=true):ZOK P N l os:=by
 have han:∀ i x,((wMo [] l).getD i 0).testBit x=true->wIj l x i:=wIF hpr l [] [] rfl rfl fun i x h=>by simp at h
 have key:∀ s a t,os=s ++ a :: t->zop ((wMo [] l).getD a.ix 0) l s.reverse a t=true:=fun s a t e=>by
  have:=wMr os [] hz s a t e
  rwa [List.append_nil] at this
 have wJT:∀ s a t,os=s ++ a :: t ->
   (wBT a.kd=true->∀ b ∈ s,wIj l b.ix a.ix)/\(∀ p,a.dst=some p->∀ b ∈ s ++ t,b.dst ≠ some p) /\
   (∀ p ∈ wBX a,(∀ b ∈ a :: t,b.dst ≠ some p)/\∀ b ∈ s,b.dst=some p->wIj l b.ix a.ix/\(a.kd=1 \/ a.kd=3 \/ 8 <= a.kd->b.kd ≠ 4/\b.kd ≠ 6)) /\
   ((a.kd=1->∀ b ∈ s,b.kd=0->wIj l b.ix a.ix)/\(8 <= a.kd->∀ s1 b s2,s=s1 ++ b :: s2->b.kd=0->wIj l b.ix a.ix \/ wLr s2 + 8 < a.kd))/\(∀ b ∈ t,a.ix ≠ b.ix)/\kdOK a=true/\(∀ o,l[a.ix]?=some o->wBI o=false/\subB a.op o=true):=by
  intro s a t e
  have hk:=key s a t e
  unfold zop at hk
  simp only [hH,nS,List.mem_reverse,nM,nW] at hk
  obtain ⟨k1,k2,k3,⟨k4,k8⟩,k5,k6,k7⟩:=hk
  refine ⟨fun hf b hb=>?_,fun p hp b hb=>?_,fun p hp=>⟨fun b hb=>?_,fun b hb hd=>?_⟩,⟨fun h1 b hb h0=>?_,fun h8 s1 b s2 es h0=>?_⟩,fun b hb he=>?_,k6,fun o ho=>?_⟩
  ·rcases k1 with k1 | k1
   ·rw [hf] at k1;cases k1
   ·exact han _ _ (k1 b hb)
  ·rw [hp] at k2
   simp only [hH,nS,List.mem_reverse] at k2
   rcases nN.1 hb with hb | hb
   ·exact wFU (k2.1 b hb)
   ·exact wFU (k2.2 b hb)
  ·obtain ⟨g1,g2,g3⟩:=k3 p hp
   rcases nU.1 hb with rfl | hb
   ·exact wFU g1
   ·exact wFU (g2 b hb)
  ·obtain ⟨g1,g2,g3⟩:=k3 p hp
   rcases g3 b hb with g | ⟨g,g'⟩
   ·exact absurd hd (wFU g)
   ·refine ⟨han _ _ g,fun hk=>?_⟩
    rcases g' with g' | g'
    ·rcases hk with hk | hk | hk
     ·rw [hk] at g';exact absurd g' (by decide)
     ·rw [hk] at g';exact absurd g' (by decide)
     ·simp only [Bool.or_eq_false_iff] at g'
      have h8:nz 8 a.kd=true:=by rw [nO];exact hk
      rw [g'.2.2] at h8
      cases h8
    ·constructor <;> intro h4 <;> rw [h4] at g' <;> exact absurd g' (by decide)
  ·rcases k4 with k4 | k4
   ·rw [h1] at k4;exact absurd k4 (by decide)
   ·rcases k4 b hb with g | g
    ·rw [h0] at g;exact absurd g (by decide)
    ·exact han _ _ g
  ·rcases k8 with k8 | k8
   ·rw [<- Bool.not_eq_true,nO] at k8
    exact absurd h8 k8
   ·rw [es,List.reverse_append,List.reverse_cons,nl] at k8
    rcases wMq s2.reverse b (s1.reverse) 0 (by simpa using k8) h0 with g | g
    ·exact .inl (han _ _ g)
    ·refine .inr ?_
     unfold wLr at g ⊢
     rw [List.countP_reverse] at g
     omega
  ·have:=k5 b hb
   rw [he] at this
   simp at this
  ·rw [ho] at k7
   simpa using k7
 have mem:∀ a ∈ os,∃ s t,os=s ++ a :: t:=fun a ha=>List.append_of_mem ha
 refine ⟨hao,wPE os fun s a t e=>(wJT s a t e).2.2.2.2.1,hpr,fun s a t e=>(wJT s a t e).1,fun s a t e=>(wJT s a t e).2.1,fun s a t e p hp=>((wJT s a t e).2.2.1 p hp).1,fun a ha p hp b hb hd=>?_,fun a ha=>?_,fun a ha hk p hp b hb hd=>?_,fun a ha o ho=>?_,fun a ha o ho=>?_,fun s a t e=>(wJT s a t e).2.2.2.1.1,fun s a t e=>(wJT s a t e).2.2.2.1.2⟩
 ·obtain ⟨s,t,e⟩:=mem a ha
  obtain ⟨g1,g2⟩:=(wJT s a t e).2.2.1 p hp
  rw [e] at hb
  rcases nN.1 hb with hb | hb
  ·exact (g2 b hb hd).1
  ·exact absurd hd (g1 b hb)
 ·obtain ⟨s,t,e⟩:=mem a ha
  have hk:=(wJT s a t e).2.2.2.2.2.1
  unfold kdOK at hk
  simp only [nM,hH] at hk
  rcases hk with hk | ⟨h1,hk⟩
  ·exact .inl hk
  ·refine .inr ⟨fun e=>(by rw [e] at h1;cases h1),?_⟩
   rcases hk with hk | hk | ⟨hk,h2⟩ | ⟨hk,h2⟩ | ⟨hk,h2⟩
   ·exact .inl (nA hk)
   ·exact .inr (.inl (nA hk))
   ·exact .inr (.inr (.inl ⟨nA hk,nA h2⟩))
   ·exact .inr (.inr (.inr (.inl ⟨nA hk,h2⟩)))
   ·exact .inr (.inr (.inr (.inr ⟨by rwa [nO] at hk,nA h2⟩)))
 ·obtain ⟨s,t,e⟩:=mem a ha
  obtain ⟨g1,g2⟩:=(wJT s a t e).2.2.1 p hp
  rw [e] at hb
  rcases nN.1 hb with hb | hb
  ·exact (g2 b hb hd).2 hk
  ·exact absurd hd (g1 b hb)
 ·obtain ⟨s,t,e⟩:=mem a ha
  exact ((wJT s a t e).2.2.2.2.2.2 o ho).1
 ·obtain ⟨s,t,e⟩:=mem a ha
  have h1:=((wJT s a t e).2.2.2.2.2.2 o ho).2
  unfold subB at h1
  rw [nS] at h1
  intro x hx
  have:=h1 (.tmp x) (by simpa using hx)
  simp only [List.any_eq_true] at this
  obtain ⟨p,g1,g2⟩:=this
  exact ⟨p,g1,by rw [nA g2];rfl⟩
structure ZAll (P:Program) (N:Nat) (l:List Oper) (os A B:List AO):Prop where
 eq:os=A ++ B
 za:ZOK P N l A
 zb:ZOK P N l B
 cross:∀ b ∈ B,∀ a ∈ A,a.ix ≠ b.ix/\wIj l a.ix b.ix
 low:∀ b ∈ B,b.kd < 8
 far:∀ a ∈ A,8 <= a.kd->∀ p,p ∈ wBX a \/ a.dst=some p->∀ b ∈ B,b.dst ≠ some p
 all:∀ i,i < l.length->∃ a ∈ os,a.ix=i
theorem wLA {P:Program} {N:Nat} {l:List Oper} {os:List AO} (hao:∀ a ∈ os,wFS P N l a=true) (h:chkZ l os=true):∃ A B,ZAll P N l os A B:=by
 unfold chkZ at h
 rw [hH,hH,nM] at h
 obtain ⟨hpr0,hall0,hz⟩:=h
 simp only [nS,List.mem_range,nG,List.any_eq_true] at hpr0 hall0
 have hpr:∀ i,i < l.length->∀ j ∈ prI l i,j < i:=hpr0
 have hall:∀ i,i < l.length->∃ a ∈ os,a.ix=i:=fun i hi=>by
  obtain ⟨a,h1,h2⟩:=hall0 i hi
  exact ⟨a,h1,nA h2⟩
 have han:∀ i x,((wMo [] l).getD i 0).testBit x=true->wIj l x i:=wIF hpr l [] [] rfl rfl fun i x h=>by simp at h
 rcases hz with hz | hz
 ·exact ⟨os,[],by simp,wIk hao hpr hz,wIk (fun a ha=>by simp at ha) hpr rfl,fun b hb=>by simp at hb,fun b hb=>by simp at hb,fun a _ _ p _ b hb=>by simp at hb,hall⟩
 ·unfold ztl at hz
  simp only [hH,nS,nG,nW] at hz
  obtain ⟨⟨h1,h5⟩,h2,h3,h4⟩:=hz
  have e:=wMp os
  refine ⟨wNp os,wME os,e,wIk (fun a ha=>hao a (by rw [e];simp [ha])) hpr h2,wIk (fun a ha=>hao a (by rw [e];simp [ha])) hpr h3,fun b hb a ha=>⟨fun e=>?_,han _ _ (h4 b hb a ha).2⟩,h1,fun a ha h8 p hp b hb=>?_,hall⟩
  ·have:=(h4 b hb a ha).1
   rw [e] at this
   simp at this
  ·have h6:=h5 a ha
   simp only [nM,hH,nS,nG] at h6
   rcases h6 with h6 | ⟨h6,h7⟩
   ·omega
   ·rcases hp with hp | hp
    ·exact wFU (h6 p hp b hb)
    ·rw [hp] at h7
     simp only [nS] at h7
     exact wFU (h7 b hb)
theorem wGb {tb:Tr AF} {ex exY:Run} {σf:Tr AV} {h:AH}:∀ (x y:List AO) (n:Nat),wHe tb ex exY σf h n (x ++ y)=true->wHe tb ex exY σf h n x=true
 | [],_,_,_=>rfl
 | a :: x,y,n,hl=>by
  rw [nI,wDI] at hl
  rw [wDI]
  cases hf:wBT a.kd with
  | true =>
   rw [hf] at hl
   exact wGb x y _ hl
  | false =>
   rw [hf] at hl
   simp only [hH] at hl ⊢
   exact ⟨hl.1,wGb x y _ hl.2⟩
theorem wIG {tb:Tr AF} {ex exY:Run} {σf:Tr AV} {h:AH}:∀ (x:List AO) (a:AO) (y:List AO) (n:Nat),wHe tb ex exY σf h n (x ++ a :: y)=true->wBT a.kd=false->n + wLr x + 8 < a.kd->wFx tb ex exY σf h a=true
 | [],a,y,n,hl,hf,hn=>by
  rw [nL,wDI,hf] at hl
  simp only [hH] at hl
  have hb:nR (n + 8) a.kd=true:=by rw [nG];exact hn
  rw [hb] at hl
  exact hl.1
 | c :: x,a,y,n,hl,hf,hn=>by
  rw [nI,wDI] at hl
  unfold wLr at hn
  rw [List.countP_cons] at hn
  cases hc:wBT c.kd with
  | true =>
   rw [hc] at hl hn
   exact wIG x a y _ hl hf (by unfold wLr;simp only [if_true] at hn;omega)
  | false =>
   rw [hc] at hl hn
   simp only [hH] at hl
   exact wIG x a y _ hl.2 hf (by unfold wLr;simp only [if_false,nP] at hn;omega)
def LCK (tb:Tr AF) (ex exY:Run) (os:List AO) (σ0:Tr AV) (h0:AH) (σf:Tr AV):Prop :=
 ∀ s b t,os=s ++ b :: t->b.kd=0->∀ σ1 h1,wAX tb ex exY s σ0 h0=some (σ1,h1)->wHe tb ex exY σf h1 0 t=true
theorem wIH {tb:Tr AF} {ex exY:Run}:∀ (os:List AO) (σ:Tr AV) (h:AH) (r:Tr AV × AH),wKT tb ex exY os σ h=some r->wAX tb ex exY os σ h=some r/\LCK tb ex exY os σ h r.1
 | [],σ,h,r,hr=>by
  rw [wLx] at hr
  exact ⟨by rw [wAf];exact hr,fun s b t e=>by simp at e⟩
 | o :: os,σ,h,r,hr=>by
  rw [wKU] at hr
  split at hr
  ·cases hr
  ·rename_i q hq
   split at hr
   ·cases hr
   ·rename_i r' hr'
    have e:r'=r:=by
     split at hr
     ·split at hr
      ·cases hr;rfl
      ·cases hr
     ·cases hr;rfl
    subst e
    obtain ⟨g1,g2⟩:=wIH os _ _ _ hr'
    have g0:∀ s,wAX tb ex exY (o :: s) σ h=wAX tb ex exY s q.1 q.2:=by
     intro s
     rw [wAh]
     unfold wNM at hq
     cases hw:wBl σ o.grd with
     | true =>
      rw [hw] at hq
      simp only at hq ⊢
      split at hq
      ·rename_i y hy
       cases hq
       rfl
      ·cases hq
     | false =>
      rw [hw] at hq
      cases hq
      rfl
    refine ⟨by rw [g0];exact g1,fun s b t e h0 σ1 h1 hs=>?_⟩
    cases s with
    | nil =>
     simp only [nL,nD] at e
     obtain ⟨rfl,rfl⟩:=e
     rw [wAf] at hs
     cases hs
     have hb:nB o.kd 0=true:=by rw [h0];rfl
     rw [hb] at hr
     simp only at hr
     split at hr
     ·assumption
     ·cases hr
    | cons c s =>
     simp only [nI,nD] at e
     obtain ⟨rfl,rfl⟩:=e
     rw [g0] at hs
     exact g2 s b t rfl h0 σ1 h1 hs
theorem wIl {tb:Tr AF} {ex exY:Run} {os:List AO} {σ:Tr AV} {h:AH} {σf:Tr AV} (hk:∀ a ∈ os,a.kd < 8):LCK tb ex exY os σ h σf:=by
 intro s b t e _ σ1 h1 _
 have:∀ (l:List AO) (n:Nat),(∀ a ∈ l,a.kd < 8)->wHe tb ex exY σf h1 n l=true:=by
  intro l
  induction l with
  | nil=>intro n _;rfl
  | cons a l ih =>
   intro n hl
   rw [wDI]
   have ha:=hl a (by simp)
   have hb:nR (n + 8) a.kd=false:=by rw [<- Bool.not_eq_true,nG];omega
   cases wBT a.kd with
   | true=>exact ih _ fun b hb=>hl b (by simp [hb])
   | false =>
    simp only [hb,Bool.true_and]
    exact ih _ fun b hb=>hl b (by simp [hb])
 exact this t 0 fun a ha=>hk a (by rw [e];simp [ha])
end
end Go.KX
namespace Go.KX
noncomputable section
open Go.RowKit Go.KL
def kdAt (i:Nat):List AO->Nat
 | []=>0
 | a :: os=>match nB a.ix i with
  | true=>a.kd
  | false=>kdAt i os
def lazyA (os:List AO):Bool:=os.any fun a=>nR 3 a.kd
def chkR (P:Program) (N:Nat) (os:List AO) (l:List Oper) (draw:Bool):Bool :=
 let ks:=(nq l.length).map fun i=>kdAt i os
 os.all (fun a=>wFS P N l a && nB (kOf ks a.ix) a.kd) && (match draw with
  | true=>(match lazyA os with
   | true=>os.all (fun a=>nR a.kd 8) && chkZ l os
   | false=>wJo l ks (wHI os))
  | false=>inOrder 0 (wHI os) l.length)
def wJV (N:Nat):List Pos->List Nat->Bool
 | [],[]=>true
 | t :: ts,p :: ps=>(nB t.nat (p + 1) && nR p N) && wJV N ts ps
 | _,_=>false
theorem wIm {N:Nat}:∀ {ts:List Pos} {ps:List Nat},wJV N ts ps=true->ts.map Pos.nat=ps.map (· + 1)/\∀ x ∈ ps,x < N
 | [],[],_=>by simp
 | t :: ts,p :: ps,h=>by
  simp only [wJV,hH,nG] at h
  obtain ⟨⟨h1,h2⟩,h3⟩:=h
  obtain ⟨h4,h5⟩:=wIm h3
  refine ⟨by simp [h4,nA h1],?_⟩
  intro x hx
  rcases nU.1 hx with rfl | hx
  ·exact h2
  ·exact h5 x hx
 | [],_ :: _,h=>by simp [wJV] at h
 | _ :: _,[],h=>by simp [wJV] at h
theorem wIn {μ:Mu}:∀ {ts:List Pos} {ns:List Nat} {σA σB:Tr AV} {σ:Env} {as:List AV} {vs:List Value},wNL σA ts as=some σB->ts.map Pos.nat=ns.map (· + 1)->RvL μ as vs->EnvR μ σA σ->EnvR μ σB (wMm σ ns vs)/\ns.length=vs.length
 | [],ns,σA,σB,σ,as,vs,hs,hn,hv,hE=>by
  cases ns with
  | cons _ _=>simp at hn
  | nil =>
   cases as with
   | cons _ _=>simp [wNL] at hs
   | nil=>cases hv;simp only [wNL,nj] at hs;subst hs;exact ⟨hE,rfl⟩
 | t :: ts,ns,σA,σB,σ,as,vs,hs,hn,hv,hE=>by
  cases ns with
  | nil=>simp at hn
  | cons n ns =>
   cases as with
   | nil=>simp [wNL] at hs
   | cons a as =>
    obtain ⟨v,ws,h1,h2,rfl⟩:=hv
    simp only [nH,nD] at hn
    have hp:=hE.put (p:=t) h1
    have e:t.nat - 1=n:=by omega
    rw [e] at hp
    obtain ⟨g1,g2⟩:=wIn (ts:=ts) (ns:=ns) (σA:=σA.set t a) (σ:=upd σ n v) (by simpa [wNL] using hs) hn.2 h2 hp
    exact ⟨g1,by simp [g2]⟩
def wED (P:Program) (N:Nat):AC->Code->Bool
 | .skip,.skip=>true
 | .skip,.label _=>true
 | .rg os,.region _ ops draw=>chkR P N os ops.toList draw
 | .rl os,.region _ ops draw=>draw && (os.all (fun a=>wFS P N ops.toList a) && chkZ ops.toList os)
 | .seq a b,.seq c d=>wED P N a c && wED P N b d
 | .cond x a b,.cond y c d=>wBR x y && (wED P N a c && wED P N b d)
 | .block i a,.block j c=>nB i j && wED P N a c
 | .loop a,.loop c=>wED P N a c
 | .scope a,.scope c=>wED P N a c
 | .rf g t asg body,.rangeFunc g' ps asg' body'=>wBR g g' && (wJV N t ps.toList && (wED P N asg asg' && wED P N body body'))
 | .exit i,.exit j=>nB i j
 | .ret,.ret=>true
 | _,_=>false
def CC (P:Program):Chk:=fun a c N=>wED P N a c=true
section
variable {P:Program} {tb:Tr AF} {μ μ' μ'':Mu} {w w' w'':World} {h h' h'':AH} {σ:Env} {σA:Tr AV}
def Mk (μ:Mu) (w:World) (n0:Nat) (D:List Deferred):Prop:=∃ rbs:List Nat,D=rbs.map wIa/\rbs.Nodup/\∀ rb ∈ rbs,Dfr w rb/\n0 <= rb/\∀ p c,μ p=some c->c.1 ≠ rb
theorem Mk.nil (μ:Mu) (w:World) (n0:Nat):Mk μ w n0 []:=⟨[],rfl,by simp,by simp⟩
theorem Mk.ext {n0 fl:Nat} {D:List Deferred} (M:Mk μ w n0 D) (E:Ext μ fl w μ' w'):Mk μ' w' n0 D:=by
 obtain ⟨rbs,h1,h2,h3⟩:=M
 refine ⟨rbs,h1,h2,fun rb hrb=>?_⟩
 obtain ⟨g1,g2,g3⟩:=h3 rb hrb
 refine ⟨g1.keep E.keep fun ⟨p,d,q1,q2,_⟩=>g3 p d q1 q2,g2,fun p c hp=>?_⟩
 rcases E.new p c hp with q | ⟨p',d,q1,q2,_⟩ | q
 ·exact g3 p c q
 ·rw [<- q2];exact g3 p' d q1
 ·have:=g1.lt;omega
def PostX (P:Program) (μ:Mu) (fl:Pos) (w:World) (n0:Nat) (rr:Option Nat) (D:List Deferred) (e:Ex) (σA':Tr AV) (h':AH):wCT:=fun D' e' σ' w' =>
 e'=exC e/\∃ μ',Ext μ fl.nat w μ' w'/\Sim (CC P) P μ' h' w'/\EnvR μ' σA' σ'/\Mk μ' w' n0 D'/\h'.fl=fl/\(rr.isSome=true->D'=D)
def wHK (P:Program) (ex:Run) (r:Bool):Prop:=∀ c σA h e σA' h',ex c σA h=some (e,σA',h')->∀ code N,wED P N c code=true->∀ (rr:Option Nat) (μ:Mu) (σ:Env) (w:World) (D:List Deferred) (n0:Nat),
 rr.isSome=r->Sim (CC P) P μ h w->EnvR μ σA σ->Mk μ w n0 D->n0 <= w.heap.size->CK rr N P code (PostX P μ h.fl w n0 rr D e σA' h') D σ w
def wLB (P:Program) (ex:Run) (r:Bool) (m:Nat):Prop:=∀ c σA h e σA' h',ex (.loop c) σA h=some (e,σA',h')->∀ code N,wED P N c code=true->∀ (rr:Option Nat) (μ:Mu) (σ:Env) (w:World) (D:List Deferred) (n0:Nat),
 rr.isSome=r->Sim (CC P) P μ h w->EnvR μ σA σ->Mk μ w n0 D->n0 <= w.heap.size->∀ a,Rep N D a σ->Code.roundsIn (WF rr) 0 P code (wGL N (PostX P μ h.fl w n0 rr D e σA' h')) m a w
theorem PostX.trans {fl:Pos} {n0:Nat} {rr:Option Nat} {D D1 D':List Deferred} {e:Ex} {e':Exit} {σA':Tr AV} {σ':Env} (E:Ext μ fl.nat w μ' w') (hD:rr.isSome=true->D1=D) (hP:PostX P μ' fl w' n0 rr D1 e σA' h' D' e' σ' w''):PostX P μ fl w n0 rr D e σA' h' D' e' σ' w'':=by
 obtain ⟨h1,μ2,h2,h3,h4,h5,h6,h7⟩:=hP
 exact ⟨h1,μ2,E.trans h2,h3,h4,h5,h6,fun hr=>(h7 hr).trans (hD hr)⟩
theorem wFV {F:Fence} {n:Nat} {c:Code} {Q Q':Exit->Act->World->Prop} (hQ:∀ e a w,Q e a w->Q' e a w):∀ (m:Nat) (a:Act) (w:World),Code.roundsIn F n P c Q m a w->Code.roundsIn F n P c Q' m a w
 | 0,_,_,h=>h.elim
 | m + 1,a,w,h=>by
  rw [roundsIn_succ] at h ⊢
  refine wpIn_mono h fun e a w q=>?_
  cases e with
  | normal=>exact wFV hQ m a w q
  | _=>exact hQ _ _ _ q
theorem Ext.drew (μ:Mu) (fl:Nat) (w:World):Ext μ fl w μ { w with drawn:=w.drawn + 1 }:=⟨Mu.Le.refl μ,fun _ _ h=>.inl h,(Keep.drew w).weak fun _ _ h=>h.elim⟩
theorem Sim.keepX {C:Chk} {X:Nat->Prop} (S:Sim C P μ h w) (K:Keep w w' X) (hX:∀ p c,μ p=some c->¬ X c.1):Sim C P μ h w' :=
 ⟨S.nx,fun p c hp=>nT (S.lt p c hp) K.size,S.inj,fun p b hb=>let ⟨c,h1,h2⟩:=S.at_ p b hb;⟨c,h1,h2.keep K (hX p c h1)⟩⟩
def wCz (P:Program):List AR->List ResultVar->Bool
 | [],[]=>true
 | .t p :: l,.tmp t :: k=>nB p.nat (t + 1) && wCz P l k
 | .c p n :: l,.cell a t :: k=>nB p.nat (a + 1) && ((match n with | none=>wLz P t false | some n=>wLz P t true && szT P t n) && wCz P l k)
 | _,_=>false
def chkF (P:Program) (k:Nat) (af:AF):Bool:=match P.funcs[k]? with
 | none=>false
 | some fn=>match fn.body with
  | none=>false
  | some c => nB fn.ntmps af.n && (wCz P af.res fn.results.toList && (!(fn.name == "runtime.NumGoroutine") && wED P fn.ntmps af.body c))
theorem wII {C:Chk} (hE:EnvR μ σA σ) (S:Sim C P μ h w):∀ {l:List AR} {k:List ResultVar} {vs:List AV},wCz P l k=true->wOS σA h l=some vs->∃ VS,RvL μ vs VS/\wOQ P w σ k VS
 | [],[],vs,_,hr=>by simp only [wOS] at hr;cases hr;exact ⟨[],rfl,trivial⟩
 | .t p :: l,.tmp t :: k,vs,hc,hr=>by
  simp only [wCz,hH] at hc
  simp only [wOS,res1] at hr
  split at hr
  ·rename_i vs' hvs
   cases hr
   obtain ⟨VS,g1,g2⟩:=wII hE S hc.2 hvs
   have e:=nA hc.1
   have g:=hE p
   rw [e] at g
   exact ⟨_,wBA g g1,rfl,g2⟩
  ·cases hr
 | .c p n :: l,.cell a t :: k,vs,hc,hr=>by
  simp only [wCz,hH] at hc
  obtain ⟨c1,c2,c3⟩:=hc
  have e:=nA c1
  have g:=hE p
  rw [e] at g
  rw [wOS] at hr
  split at hr
  ·rename_i v hv
   split at hr
   ·rename_i vs' hvs
    cases hr
    obtain ⟨VS,g1,g2⟩:=wII hE S c3 hvs
    simp only [res1] at hv
    split at hv
    ·rename_i b off hb
     split at hv
     ·rename_i cl hcl
      obtain ⟨c,ws,q1,q2,q3⟩:=wDP hcl S
      rw [hb] at g
      obtain ⟨c',k1,k2⟩:=g
      rw [q1] at k1;cases k1
      have k2:σ a=.pointer (some ⟨c.1,off,none⟩):=k2
      split at hv
      ·rw [wEZ] at hv
       obtain ⟨cv,r1,r2⟩:=wDd q2 hv
       refine ⟨_,wBA r2 g1,⟨_,k2,?_⟩,g2⟩
       simp [loadVar,wDK c2,load,Sem.run,q3 w (Keep.refl w _) _ _ r1]
      ·rename_i n
       simp only [hH] at c2
       obtain ⟨r,hr3,rfl⟩:=wCP hv
       obtain ⟨r1,r2⟩:=wDe hr3 q2
       refine ⟨_,wBA ⟨_,r1,rfl⟩ g1,⟨_,k2,?_⟩,g2⟩
       have:=KL.run_loadCells (P:=P) (w:=w) (b:=c.1) (off:=off) (n:=n) ((ws.drop off).take n) (by simp;omega) fun j u hu=>q3 w (Keep.refl w _) _ _ (wDx rfl j u hu)
       simp [loadVar,wDK c2.1,wCV c2.2,this]
     ·cases hv
    ·cases hv
   ·cases hr
  ·cases hr
 | [],_ :: _,_,hc,_=>by simp [wCz] at hc
 | .t _ :: _,[],_,hc,_=>by simp [wCz] at hc
 | .c _ _ :: _,[],_,hc,_=>by simp [wCz] at hc
 | .t _ :: _,.cell _ _ :: _,_,hc,_=>by simp [wCz] at hc
 | .c _ _ :: _,.tmp _ :: _,_,hc,_=>by simp [wCz] at hc
theorem wNq {C:Chk} {l:List AR} {rs:Array ResultVar} {v:AV} (hE:EnvR μ σA σ) (S:Sim C P μ h w) (hc:wCz P l rs.toList=true) (hr:wNK σA h l=some (v,h')):h'=h/\∃ cv,Rv μ v cv/\(wBn rs σ).run P w=.ok cv w:=by
 unfold wNK at hr
 split at hr
 ·rename_i vs hvs
  cases hr
  refine ⟨rfl,?_⟩
  obtain ⟨VS,g1,g2⟩:=wII hE S hc hvs
  have hrs:rs=rs.toList.toArray:=by simp
  unfold tupA
  split
  ·rename_i v
   obtain ⟨cv,ws,q1,q2,q3⟩:=g1
   cases q2
   subst q3
   refine ⟨cv,q1,?_⟩
   have hl:∃ r,rs=#[r]:=by
    cases hq:rs.toList with
    | nil=>rw [hq] at g2;exact g2.elim
    | cons r k =>
     cases k with
     | nil=>exact ⟨r,nJ (by simpa using hq)⟩
     | cons r' k=>rw [hq] at g2;cases r <;> cases r' <;> exact g2.2.elim
   obtain ⟨r,rfl⟩:=hl
   exact resL1 g2
  ·rename_i hne
   refine ⟨_,⟨VS,g1,rfl⟩,?_⟩
   rw [hrs]
   refine resLn g2 ?_
   have hl:=wBr g1
   cases hb:VS.length == 1 with
   | false=>rfl
   | true =>
    have:vs.length=1:=by rw [<- hl];exact eq_of_beq hb
    obtain ⟨v,hv⟩:=List.length_eq_one_iff.1 this
    exact absurd hv (hne v)
 ·cases hr
def wJW (P:Program) (tb:Tr AF):Prop:=∀ p af,tb.get p=some af->chkF P (p.nat - 1) af=true
theorem wLC (T:wJW P tb) {ex:Run} (HE:wHK P ex false):wEa (CC P) P tb ex:=by
 intro f args h v h' hr
 unfold wGy at hr
 split at hr
 ·rename_i af haf
  have hcf:=T f af haf
  unfold chkF at hcf
  split at hcf
  ·cases hcf
  ·rename_i fn hfn
   split at hcf
   ·cases hcf
   ·rename_i c hbody
    simp only [hH,nW] at hcf
    obtain ⟨c1,c2,c3,c4⟩:=hcf
    refine ⟨fun a w=>?_,fun μ w vs S hv=>?_⟩
    ·have c3' : ¬ fn.name = "runtime.NumGoroutine" := by simpa using c3
     simp [callFunc,program,Sem.run,hfn,hbody,c3']
    ·split at hr
     ·rename_i hle
      have hle:=nK hle
      have e1:=nA c1
      have key:∀ e σA' h1,ex af.body (wKQ args .H .e) h=some (e,σA',h1)->(e=.nrm \/ e=.ret)->wNK σA' h1 af.res=some (v,h')->Gv P (f.nat - 1) vs w fun cv w'=>∃ μ',Ext μ h.fl.nat w μ' w'/\Sim (CC P) P μ' h' w'/\Rv μ' v cv/\h'.fl=h.fl:=by
       intro e σA' h1 hx he hres
       refine Gv.ofM hfn hbody rfl rfl (by rw [wBr hv,<- wDJ,e1];exact hle) ?_
       refine (HE _ _ _ _ _ _ hx c fn.ntmps c4 none μ (wMd vs) w [] w.heap.size rfl S (wNN hv) (Mk.nil μ w _) (nE _)).mono ?_
       rintro D' e' σ' w' ⟨rfl,μ',q1,q2,q3,q4,q5,_⟩
       obtain ⟨rbs,m1,m2,m3⟩:=q4
       have fin:∃ rbs:List Nat,D'=rbs.map wIa/\rbs.Nodup/\(∀ rb ∈ rbs,Dfr w' rb)/\∀ w2,Keep w' w2 (· ∈ rbs)->w2.heap.size=w'.heap.size->∃ cv,(wBn fn.results σ').run P w2=.ok cv w2/\∃ μ',Ext μ h.fl.nat w μ' w2/\Sim (CC P) P μ' h' w2/\Rv μ' v cv/\h'.fl=h.fl:=by
        refine ⟨rbs,m1,m2,fun rb hrb=>(m3 rb hrb).1,fun w2 K hs=>?_⟩
        have S2:=q2.keepX K fun p c hp hm=>(m3 _ hm).2.2 p c hp rfl
        obtain ⟨rfl,cv,r1,r2⟩:=wNq q3 S2 c2 hres
        refine ⟨cv,r2,μ',⟨q1.mono,q1.new,?_⟩,S2,r1,q5⟩
        exact q1.keep.step K fun i hi hm=>absurd (m3 i hm).2.1 (Nat.not_le.2 hi)
       rcases he with rfl | rfl
       ·exact fin
       ·exact fin
      split at hr
      ·exact key _ _ _ (by assumption) (.inl rfl) hr
      ·exact key _ _ _ (by assumption) (.inr rfl) hr
      ·cases hr
     ·cases hr
 ·cases hr
theorem wMF {ex:Run} (HE:wHK P ex true):wDi (CC P) P ex:=by
 intro b args h v h' hr
 unfold wGz at hr
 split at hr
 ·rename_i σA t asg body hB
  intro μ w xv c S hx hc
  split at hr <;> first | (cases hr;done) | skip
  rename_i σS hset
  split at hr <;> first | (cases hr;done) | skip
  rename_i σ1 h1 hasg
  split at hr <;> first | (cases hr;done) | skip
  rename_i σx tx ax bx hB1
  split at hr <;> first | (cases hr;done) | skip
  rename_i h2 hput2
  split at hr <;> first | (cases hr;done) | skip
  rename_i e σ3 h3 hbody
  split at hr <;> first | (cases hr;done) | skip
  rename_i σy ty ay by_ hB3
  split at hr <;> first | (cases hr;done) | skip
  rename_i h4 hput4
  cases hr
  obtain ⟨c',g1,g2⟩:=S.at_ b _ hB
  rw [hc] at g1;cases g1
  have L:wJO (CC P) μ w c σA t asg body .ready:=g2
  obtain ⟨hSE,hSl⟩:=wIn hset L.ht hx L.env
  refine Yd.of L.at_ L.tN hSl fun σ0 hσ0=>?_
  have hE0:EnvR μ σS σ0:=by
   intro p
   rw [hσ0];exact hSE p
  refine (HE _ _ _ _ _ _ hasg c.g.ac c.g.N L.asg (some c.1) μ σ0 w [] 0 rfl S hE0 (Mk.nil μ w _) (Nat.zero_le _)).mono ?_
  rintro D' e' σ' w1 ⟨rfl,μ1,q1,q2,q3,q4,q5,q6⟩
  have hc1:=q1.mono b c hc
  obtain ⟨c',r1,r2⟩:=q2.at_ b _ hB1
  rw [hc1] at r1;cases r1
  have L1:wJO (CC P) μ1 w1 c σx tx ax bx .ready:=r2
  refine ⟨rfl,q6 rfl,L1.at_,fun w2 hl2 K hs=>?_⟩
  obtain ⟨s1,s2,s3⟩:=q2.put hput2 hB1 trivial hc1 K (B':=.loop σA t asg body .busy) ⟨hl2,L.env.mono q1.mono,L.ht,L.tN,L.asg,L.body⟩
  rw [q5] at s2 s3
  refine (HE _ _ _ _ _ _ hbody c.g.bc c.g.N L.body (some c.1) μ1 σ' w2 [] 0 rfl s1 q3 (Mk.nil μ1 w2 _) (Nat.zero_le _)).mono ?_
  rintro D'' e'' σ'' w3 ⟨rfl,μ3,t1,t2,t3,t4,t5,t6⟩
  rw [s3] at t1 t5
  have hc3:=t1.mono b c hc1
  obtain ⟨c',u1,u2⟩:=t2.at_ b _ hB3
  rw [hc3] at u1;cases u1
  have L3:wJO (CC P) μ3 w3 c σy ty ay by_ .busy:=u2
  have fin:∀ w4,LoopAt w4 c.1 c.g.N c.g.σ c.g.t c.g.ac c.g.bc c.g.rb c.g.fn (lsC e.done).1 (lsC e.done).2->Keep w3 w4 (·=c.1)->∃ μ',Ext μ h.fl.nat w μ' w4/\Sim (CC P) P μ' h' w4/\AV.bool e.go=.bool e.go/\h'.fl=h.fl:=by
   intro w4 hl4 K4
   obtain ⟨v1,v2,v3⟩:=t2.put hput4 hB3 trivial hc3 K4 (B':=.loop σA t asg body e.done) ⟨hl4,(L.env.mono q1.mono).mono t1.mono,L.ht,L.tN,L.asg,L.body⟩
   rw [t5] at v2 v3
   exact ⟨μ3,(q1.trans s2).trans (t1.trans v2),v1,rfl,v3⟩
  cases e with
  | nrm=>exact ⟨L3.at_,fun w4 hl K4 _=>fin w4 hl K4⟩
  | ret=>exact ⟨L3.at_,fun w4 hl K4 _=>fin w4 hl K4⟩
  | exit i=>exact ⟨L3.at_,fun w4 hl K4 _=>fin w4 hl K4⟩
 ·cases hr
end
end
end Go.KX
namespace Go.KX
open Go.RowKit Go.KL
theorem wIJ (b:AC) (exR:Run) (e:Ex) (σ:Tr AV) (h:AH):seqK b exR (e,σ,h)=(match e with | .nrm=>exR b σ h | e=>some (e,σ,h)):=by cases e <;> rfl
theorem wOV {x:R} {k:Ex × Tr AV × AH->R} {r:Ex × Tr AV × AH} (hr:Option.rec (motive:=fun _=>R) none k x=some r):∃ y,x=some y/\k y=some r:=by
 cases x with
 | none=>cases hr
 | some y=>exact ⟨y,rfl,hr⟩
structure Fr (h h':AH):Prop where
 nx:h.nx.nat <= h'.nx.nat
 fl:h'.fl=h.fl
 get:∀ p,p.nat < h.fl.nat->p.nat < h.nx.nat->h'.m.get p=h.m.get p
theorem Fr.refl (h:AH):Fr h h:=⟨nE _,rfl,fun _ _ _=>rfl⟩
theorem Fr.trans {a b c:AH} (h:Fr a b) (k:Fr b c):Fr a c :=
 ⟨nZ h.nx k.nx,k.fl.trans h.fl,fun p h1 h2=>(k.get p (by rw [h.fl];exact h1) (nT h2 h.nx)).trans (h.get p h1 h2)⟩
theorem Fr.push (h:AH) (B:AB):Fr h (h.push B):=by
 refine ⟨?_,rfl,fun p _ h2=>?_⟩
 ·show h.nx.nat <= h.nx.succ.nat
  rw [Pos.nat_succ];omega
 ·show (h.m.set h.nx B).get p=_
  rw [Tr.get_set,if_neg (fun e=>by subst e;omega)]
theorem Fr.put {h h':AH} {p:Pos} {B:AB} (hp:h.put p B=some h'):Fr h h':=by
 obtain ⟨h1,rfl⟩:=wGX hp
 refine ⟨nE _,rfl,fun q h2 _=>?_⟩
 show (h.m.set p B).get q=_
 rw [Tr.get_set,if_neg (fun e=>by subst e;omega)]
theorem Fr.setAt {h h':AH} {b:Pos} {off:Nat} {vs:List AV} (hs:KX.setAt h b off vs=some h'):Fr h h':=by
 unfold KX.setAt at hs
 split at hs
 ·split at hs
  ·exact Fr.put hs
  ·cases hs
 ·split at hs
  ·exact Fr.put hs
  ·cases hs
 ·cases hs
theorem wNr {h h':AH} {o:Option AV} {v:AV} (hr:okV h o=some (v,h')):h'=h:=by
 cases o with
 | none=>cases hr
 | some x=>cases hr;rfl
theorem wFn {α:Type} {b:Bool} {x:Option α} {y:α} (hr:ifO b x=some y):x=some y:=by
 cases b with
 | true=>exact hr
 | false=>cases hr
section
variable {tb:Tr AF} {ex exY:Run} {σ:Tr AV} {h h':AH} {v:AV}
theorem wPF {T sz by_ m:Nat} {news:List AV} {x:AV} (hr:app h T sz by_ m news x=some (v,h')):Fr h h':=by
 unfold app at hr
 split at hr
 ·split at hr <;> first | (cases hr;exact Fr.refl _) | (cases hr;done)
 ·split at hr
  ·have hr:=wFn hr;cases hr;exact Fr.push _ _
  ·split at hr
   ·split at hr
    ·rename_i hs;cases hr;exact Fr.setAt hs
    ·cases hr
   ·have hr:=wFn hr
    split at hr
    ·cases hr;exact Fr.push _ _
    ·cases hr
  ·split at hr
   ·split at hr
    ·split at hr
     ·rename_i hs;cases hr;exact Fr.setAt hs
     ·cases hr
    ·have hr:=wFn hr
     split at hr
     ·rename_i hs;cases hr;exact (Fr.put hs).trans (Fr.push _ _)
     ·cases hr
   ·cases hr
  ·cases hr
theorem wMs {z:List AV} {b:Pos} {off n:Nat} (hr:clr h z b off n=some (v,h')):Fr h h':=by
 unfold clr at hr
 split at hr
 ·cases hr;exact Fr.refl _
 ·have hr:=wFn hr
  split at hr
  ·rename_i hs;cases hr;exact Fr.setAt hs
  ·cases hr
def FrX (ex:Run):Prop:=∀ c σ h e σ' h',ex c σ h=some (e,σ',h')->Fr h h'
theorem wMt {l:List AR} (hr:wNK σ h l=some (v,h')):Fr h h':=by
 unfold wNK at hr
 split at hr
 ·cases hr;exact Fr.refl _
 ·cases hr
theorem wLD (HE:FrX ex) {f:Pos} {args:List AV} (hr:wGy tb ex f args h=some (v,h')):Fr h h':=by
 unfold wGy at hr
 split at hr
 ·split at hr
  ·split at hr
   ·rename_i h1;exact (HE _ _ _ _ _ _ h1).trans (wMt hr)
   ·rename_i h1;exact (HE _ _ _ _ _ _ h1).trans (wMt hr)
   ·cases hr
  ·cases hr
 ·cases hr
theorem wMG (HY:FrX ex) {b:Pos} {args:List AV} (hr:wGz ex b args h=some (v,h')):Fr h h':=by
 unfold wGz at hr
 split at hr
 ·split at hr
  ·cases hr
  ·split at hr
   ·rename_i h1
    split at hr
    ·split at hr
     ·rename_i h2
      split at hr
      ·rename_i h3
       split at hr
       ·split at hr
        ·rename_i h4
         cases hr
         exact (HY _ _ _ _ _ _ h1).trans ((Fr.put h2).trans ((HY _ _ _ _ _ _ h3).trans (Fr.put h4)))
        ·cases hr
       ·cases hr
      ·cases hr
     ·cases hr
    ·cases hr
   ·cases hr
 ·cases hr
theorem wLE (HE:FrX ex) (HY:FrX exY) (op:AOp) (hr:opY op tb ex exY σ h=some (v,h')):Fr h h':=by
  cases op with
  | call x l =>
    have hr:wEY x l tb ex exY σ h=some (v,h'):=hr
    unfold wEY at hr
    split at hr
    · exact wLD HE hr
    · exact wMG HY hr
    · cases hr
  | new T z=>cases hr;exact Fr.push _ _
  | box T x=>cases hr;exact Fr.push _ _
  | mkm=>cases hr;exact Fr.push _ _
  | mks T sz b z x y =>
    have hr:wFF T sz b z x y σ h=some (v,h'):=hr
    unfold wFF at hr
    split at hr
    · have hr:=wFn hr;cases hr;exact Fr.push _ _
    · cases hr
  | blds T n z ps =>
    have hr:wDH T n z ps σ h=some (v,h'):=hr
    unfold wDH at hr
    split at hr
    · cases hr;exact Fr.push _ _
    · cases hr
  | st n x y =>
    have hr:wMi n x y σ h=some (v,h'):=hr
    unfold wMi at hr
    split at hr
    · split at hr
      · split at hr
        · rename_i hs;cases hr;exact Fr.setAt hs
        · cases hr
      · cases hr
    · cases hr
  | mput two k x y z =>
    have hr:wEW two k x y z σ h=some (v,h'):=hr
    unfold wEW at hr
    split at hr
    · split at hr
      · split at hr
        · split at hr
          · rename_i hs;cases hr;exact Fr.put hs
          · cases hr
        · cases hr
      · cases hr
    · cases hr
  | mdel two k x y =>
    have hr:wEX two k x y σ h=some (v,h'):=hr
    unfold wEX at hr
    split at hr
    · split at hr
      · split at hr
        · split at hr
          · rename_i hs;cases hr;exact Fr.put hs
          · cases hr
        · cases hr
      · cases hr
    · cases hr
  | app T sz b x y =>
    have hr:wGv T sz b x y σ h=some (v,h'):=hr
    unfold wGv at hr
    split at hr
    · exact wPF (wFn hr)
    · cases hr
  | cpy sz x y =>
    have hr:wGw sz x y σ h=some (v,h'):=hr
    unfold wGw at hr
    split at hr
    · split at hr
      · have hr:=wFn hr
        split at hr
        · rename_i hs;cases hr;exact Fr.setAt hs
        · cases hr
      · cases hr
    · cases hr
  | clr z x =>
    have hr:wGx z x σ h=some (v,h'):=hr
    unfold wGx at hr
    split at hr
    · exact wMs hr
    · exact wMs hr
    · cases hr;exact Fr.refl _
    · cases hr;exact Fr.refl _
    · cases hr
  | bad=>cases hr
  | apz T sz b z x y =>
    have hr:wHA T sz b z x y σ h=some (v,h'):=hr
    unfold wHA at hr
    split at hr
    · split at hr
      · cases hr;exact Fr.refl _
      · have hr:=wFn hr;cases hr;exact Fr.push _ _
    · cases hr
  | _ =>
    have e:h'=h:=by
      dsimp only [opY] at hr
      first
        | exact wNr hr
        | (simp only [wOR,wFD,wLo,wFm,wFE,wHl,wHm,wHn,wHo,wHp,wJN,wHq,wFG,wHr,wHs,wFH,wHt,wFI,wNJ,wHu,wLp,wHv,wHw,wDU,wHx,wHy] at hr
           repeat' (split at hr)
           all_goals first
             | exact wNr hr
             | (cases hr;rfl)
             | (cases hr;done)
             | exact wNr (wFn hr)
             | (have hr2:=wFn hr;cases hr2;rfl))
    subst e
    exact Fr.refl _
theorem wMu (HE:FrX ex) (HY:FrX exY) (k:Nat) (op:AOp) (hr:opK k op tb ex exY σ h=some (v,h')):Fr h h':=by
 by_cases k2:nB k 2=true
 ·have hr:wMj op tb ex exY σ h=some (v,h'):=by
   have e:opK k op=wMj op:=by unfold opK;rw [k2]
   rw [e] at hr;exact hr
  unfold wMj at hr
  split at hr
  ·rename_i v0 h0 hq
   cases hr
   have F:=wLE HE HY op hq
   exact ⟨F.nx,rfl,fun p _ h2=>F.get p h2 h2⟩
  ·cases hr
 ·have e:opK k op=opY op:=by
   unfold opK
   cases hb:nB k 2 with
   | true=>exact absurd hb k2
   | false=>rfl
  rw [e] at hr
  exact wLE HE HY op hr
theorem wPG (HE:FrX ex) (HY:FrX exY) (op:AOp) (hr:wMj op tb ex exY σ h=some (v,h')):∀ p,p.nat < h.nx.nat->h'.m.get p=h.m.get p:=by
 unfold wMj at hr
 split at hr
 ·rename_i v0 h0 hq
  cases hr
  have F:=wLE HE HY op hq
  exact fun p h2=>F.get p h2 h2
 ·cases hr
theorem wGE (HE:FrX ex) (HY:FrX exY):∀ (l:List AO) (σ:Tr AV) (h:AH) (σ':Tr AV) (h':AH),wAX tb ex exY l σ h=some (σ',h')->Fr h h'
 | [],σ,h,σ',h',hr=>by
  rw [wAf] at hr;cases hr;exact Fr.refl _
 | o :: os,σ,h,σ',h',hr=>by
  rw [wAh] at hr
  split at hr
  ·split at hr
   ·rename_i r hq
    exact (wMu HE HY _ _ hq).trans (wGE HE HY os _ _ _ _ hr)
   ·cases hr
  ·exact wGE HE HY os _ _ _ _ hr
theorem wLF {exR:Run} (HR:FrX exR) {b:AC} {r:Ex × Tr AV × AH} {e:Ex} {σ':Tr AV} (hr:seqK b exR r=some (e,σ',h')):Fr r.2.2 h':=by
 obtain ⟨e0,σ0,h0⟩:=r
 rw [wIJ] at hr
 cases e0 with
 | nrm=>exact HR _ _ _ _ _ _ hr
 | exit i=>cases hr;exact Fr.refl _
 | ret=>cases hr;exact Fr.refl _
theorem wNs {exR:Run} (HE:FrX ex) (HY:FrX exY) (HR:FrX exR) (c:AC) (f:Bool) {e:Ex} {σ':Tr AV} (hr:step c f tb ex exY exR σ h=some (e,σ',h')):Fr h h':=by
 cases c with
 | skip=>cases hr;exact Fr.refl _
 | rg l =>
  have hr:sRg l tb ex exY exR σ h=some (e,σ',h'):=hr
  unfold sRg at hr
  cases hq:wAX tb ex exY l σ h with
  | none=>rw [hq] at hr;cases hr
  | some y =>
   rw [hq] at hr
   cases hr
   exact wGE HE HY l _ _ _ _ hq
 | seq a b =>
  have hr:wOh a b exR σ h=some (e,σ',h'):=hr
  unfold wOh at hr
  obtain ⟨y,h1,h2⟩:=wOV hr
  exact (HR _ _ _ _ _ _ h1).trans (wLF HR h2)
 | cond c a b =>
  have hr:wKV c a b exR σ h=some (e,σ',h'):=hr
  unfold wKV at hr
  split at hr
  ·exact HR _ _ _ _ _ _ hr
  ·exact HR _ _ _ _ _ _ hr
  ·cases hr
 | block i a =>
  have hr:wIZ i a exR σ h=some (e,σ',h'):=hr
  unfold wIZ at hr
  obtain ⟨y,h1,h2⟩:=wOV hr
  obtain ⟨e0,σ0,h0⟩:=y
  refine (HR _ _ _ _ _ _ h1).trans ?_
  unfold wMl at h2
  cases e0 with
  | nrm=>cases h2;exact Fr.refl _
  | ret=>cases h2;exact Fr.refl _
  | exit j =>
   simp only at h2
   cases hb:nB j i with
   | true=>rw [hb] at h2;cases h2;exact Fr.refl _
   | false=>rw [hb] at h2;cases h2;exact Fr.refl _
 | loop a =>
  have hr:wKW a exR σ h=some (e,σ',h'):=hr
  unfold wKW at hr
  obtain ⟨y,h1,h2⟩:=wOV hr
  exact (HR _ _ _ _ _ _ h1).trans (wLF HR h2)
 | rf g t asg body =>
  have hr:sRf f g t asg body tb ex σ h=some (e,σ',h'):=hr
  unfold sRf at hr
  split at hr
  ·split at hr
   ·rename_i h1
    have F:=(Fr.push h (.loop σ t asg body .ready)).trans (wLD HE h1)
    split at hr
    ·split at hr
     ·rename_i h2;cases hr;exact F.trans (Fr.put h2)
     ·cases hr
    ·split at hr
     ·rename_i h2;cases hr;exact F.trans (Fr.put h2)
     ·cases hr
    ·cases hr
   ·cases hr
  ·cases hr
 | exit i=>cases hr;exact Fr.refl _
 | scope a=>exact HR _ _ _ _ _ _ hr
 | ret=>cases hr;exact Fr.refl _
 | rl l =>
  have hr:sRl l tb ex exY σ h=some (e,σ',h'):=hr
  rw [wMk] at hr
  split at hr
  ·rename_i y hq
   cases hr
   exact wGE HE HY l _ _ _ _ (wIH _ _ _ _ hq).1
  ·cases hr
theorem wDk (tb:Tr AF):∀ (n:Nat) (r:Bool),FrX (exec tb n r)
 | 0,r=>fun c σ h e σ' h' hr=>by cases hr
 | n + 1,r=>fun c σ h e σ' h' hr=>by
  rw [wHB] at hr
  exact wNs (wDk tb n false) (wDk tb n true) (wDk tb n r) c _ hr
end
end Go.KX
namespace Go.KX
open Go.RowKit Go.KL
theorem wNt {a b:IntKind} (h:keq a b=true):a=b:=by
 cases a <;> cases b <;> first | rfl | (simp [keq] at h)
theorem wNu {a b:Int} (h:zeq a b=true):a=b:=by
 cases a with
 | ofNat a=>cases b with
  | ofNat b=>simp only [zeq] at h;rw [nA h]
  | negSucc b=>simp [zeq] at h
 | negSucc a=>cases b with
  | ofNat b=>simp [zeq] at h
  | negSucc b=>simp only [zeq] at h;rw [nA h]
mutual
theorem wLG:∀ {a b:AV},same a b=true->a=b
 | .int k n,.int k' n',h=>by simp only [same,hH] at h;rw [wNt h.1,wNu h.2]
 | .bool a,.bool b,h=>by simp only [same,beq_iff_eq] at h;rw [h]
 | .ptr b o,.ptr b' o',h=>by simp only [same,hH] at h;rw [Pos.beq_eq h.1,nA h.2]
 | .pnil,.pnil,_=>rfl
 | .sl b o n c,.sl b' o' n' c',h=>by simp only [same,hH] at h;rw [Pos.beq_eq h.1,nA h.2.1,nA h.2.2.1,nA h.2.2.2]
 | .rw b o n c,.rw b' o' n' c',h=>by simp only [same,hH] at h;rw [Pos.beq_eq h.1,nA h.2.1,nA h.2.2.1,nA h.2.2.2]
 | .snil,.snil,_=>rfl
 | .map b,.map b',h=>by simp only [same] at h;rw [Pos.beq_eq h]
 | .mnil,.mnil,_=>rfl
 | .fn f fi ca,.fn f' fi' ca',h=>by simp only [same,hH] at h;rw [Pos.beq_eq h.1,wEE h.2.1,wEE h.2.2]
 | .fnil,.fnil,_=>rfl
 | .agg l,.agg l',h=>by simp only [same] at h;rw [wEE h]
 | .tup l,.tup l',h=>by simp only [same] at h;rw [wEE h]
theorem wEE:∀ {a b:List AV},wGT a b=true->a=b
 | [],[],_=>rfl
 | a :: l,b :: k,h=>by simp only [wGT,hH] at h;rw [wLG h.1,wEE h.2]
 | [],_ :: _,h=>by simp [wGT] at h
 | _ :: _,[],h=>by simp [wGT] at h
end
section
variable {tb:Tr AF} {ex exY:Run} {σ:Tr AV} {h h':AH} {v:AV}
theorem wLH {o:Option AV} (hr:okV h o=some (v,h')) (h2:AH):okV h2 o=some (v,h2):=by
 cases o with
 | none=>cases hr
 | some x=>cases hr;rfl
end
section
variable {P:Program} {l:List Oper} {σ σ':Env} {o:Oper} {w:World}
def Agr (l:List Oper) (o:Oper) (σ σ':Env):Prop:=∀ d ∈ wDE l o,σ d=σ' d
theorem wPH (h:Agr l o σ σ'):∀ y ∈ o.op.operands,ev σ y=ev σ' y:=by
 intro y hy
 cases y with
 | tmp t=>exact h t (ng _ (kR.2 ⟨.tmp t,by simpa using hy,rfl⟩))
 | _=>rfl
theorem wBV (h:Agr l o σ σ'):wanted l σ o=wanted l σ' o:=by
 unfold wanted
 cases hg:o.guard with
 | none=>rfl
 | some g =>
  obtain ⟨j,b⟩:=g
  simp only
  cases hd:(l[j]?).bind (·.dst) with
  | none=>rfl
  | some t =>
   simp only
   rw [h t (by unfold wDE;rw [hg];simp only [hd];simp)]
theorem wLI (hs:wBI o=false) (h:Agr l o σ σ'):execOp (ev σ) o=execOp (ev σ') o:=execOp_congr o (wJn hs) (wPH h)
theorem Runs.agr (hs:wBI o=false) (h:Agr l o σ σ') {v:Value} {w':World}:Runs P σ w o v w' ↔ Runs P σ' w o v w':=by
 unfold Runs;rw [wLI hs h]
theorem Runs.det {v v':Value} {w1 w2:World} (h:Runs P σ w o v w1) (h':Runs P σ w o v' w2):v=v'/\w1=w2:=by
 have:=h.2.symm.trans h'.2
 simp only [Result.ok.injEq] at this
 obtain ⟨e,e2⟩:=this
 exact ⟨by simpa using e,e2⟩
theorem Step1.agr (hs:wBI o=false) (h:Agr l o σ σ') {R:Value->World->Prop} (hh:Step1 P l o σ w R):Step1 P l o σ' w R:=by
 have e:=wLI hs h
 have ew:=wBV h
 rcases hh with ⟨h1,⟨h2,w',h3,h4⟩ | ⟨v,w',h3,h4⟩ | ⟨f,args,R',h3,h4,h5⟩ | hy⟩ | ⟨h1,h2⟩
 ·exact .inl ⟨ew ▸ h1,.inl ⟨h2,w',by unfold Does at h3 ⊢;rw [<- e];exact h3,h4⟩⟩
 ·exact .inl ⟨ew ▸ h1,.inr (.inl ⟨v,w',by unfold Runs at h3 ⊢;rw [<- e];exact h3,h4⟩)⟩
 ·exact .inl ⟨ew ▸ h1,.inr (.inr (.inl ⟨f,args,R',by unfold Enters at h3 ⊢;rw [<- e];exact h3,h4,h5⟩))⟩
 ·exact .inl ⟨ew ▸ h1,.inr (.inr (.inr (by unfold Rounds at hy ⊢;rw [<- e];exact hy)))⟩
 ·exact .inr ⟨ew ▸ h1,h2⟩
end
end Go.KX
namespace Go.KX
open Go.RowKit Go.KL
section
variable {tb:Tr AF} {ex exY:Run} {C:Chk} {P:Program}
theorem wCX:∀ (l1 l2:List AO) (σ:Tr AV) (h:AH) (r:Tr AV × AH),wAX tb ex exY (l1 ++ l2) σ h=some r->∃ σ1 h1,wAX tb ex exY l1 σ h=some (σ1,h1)/\wAX tb ex exY l2 σ1 h1=some r
 | [],l2,σ,h,r,hr=>⟨σ,h,wAf _ _ _ _ _,hr⟩
 | a :: l1,l2,σ,h,r,hr=>by
  rw [nI,wAh] at hr
  rw [wAh]
  cases hw:wBl σ a.grd with
  | true =>
   rw [hw] at hr
   simp only at hr ⊢
   cases hq:opK a.kd a.op tb ex exY σ h with
   | none=>rw [hq] at hr;cases hr
   | some q =>
    rw [hq] at hr
    exact wCX l1 l2 _ _ r hr
  | false =>
   rw [hw] at hr
   exact wCX l1 l2 _ _ r hr
theorem wGc {d:Option Pos} {σ:Tr AV} {v:AV} {p:Pos}:evA (wEd d σ v) (.t p)=if d=some p then v else evA σ (.t p):=by
 cases d with
 | none =>
  rw [if_neg (by simp)]
  rfl
 | some q =>
  show evA (σ.set q v) (.t p)=_
  rw [wIB,Tr.get_set]
  by_cases e:p=q
  ·subst e
   rw [if_pos rfl,if_pos rfl]
   rfl
  ·rw [if_neg e,if_neg (fun h=>e (by cases h;rfl)),wIB]
theorem wBs:∀ (l:List AO) (σ:Tr AV) (h:AH) (σ':Tr AV) (h':AH),wAX tb ex exY l σ h=some (σ',h')->∀ p,(∀ a ∈ l,a.dst ≠ some p)->evA σ' (.t p)=evA σ (.t p)
 | [],σ,h,σ',h',hr,p,_=>by
  rw [wAf] at hr
  cases hr
  rfl
 | a :: l,σ,h,σ',h',hr,p,hp=>by
  have hn:a.dst ≠ some p:=hp a (by simp)
  rw [wAh] at hr
  cases hw:wBl σ a.grd with
  | true =>
   rw [hw] at hr
   simp only at hr
   cases hq:opK a.kd a.op tb ex exY σ h with
   | none=>rw [hq] at hr;cases hr
   | some q =>
    rw [hq] at hr
    rw [wBs l _ _ _ _ hr p fun b hb=>hp b (by simp [hb]),wGc,if_neg hn]
  | false =>
   rw [hw] at hr
   rw [wBs l _ _ _ _ hr p fun b hb=>hp b (by simp [hb]),wGc,if_neg hn]
variable {μ μ':Mu} {h:AH} {w:World}
theorem Sim.adopt {c:Cl} {B:AB} (S:Sim C P μ h w) (hlt:c.1 < w.heap.size) (hn:∀ p d,μ p=some d->d.1 ≠ c.1) (hB:AbR C P (μ.add h.nx c) w c B):Sim C P (μ.add h.nx c) (h.push B) w:=by
 have hn0:=S.nx h.nx (nE _)
 have hle:=Mu.add_le (c:=c) hn0
 refine ⟨?_,?_,?_,?_⟩
 ·intro p hp
  have hp:h.nx.succ.nat <= p.nat:=hp
  rw [Pos.nat_succ] at hp
  unfold Mu.add
  rw [if_neg (fun e=>by subst e;omega)]
  exact S.nx p (by omega)
 ·intro p d hd
  unfold Mu.add at hd
  split at hd
  ·cases hd;exact hlt
  ·exact S.lt p d hd
 ·intro p q a b d e hp hq la lb hd he hde
  simp only [AH.push,Tr.get_set] at hp hq
  unfold Mu.add at hd he
  split at hd <;> split at he
  ·rename_i h1 h2;rw [h1,h2]
  ·cases hd;exact absurd hde.symm (hn _ _ he)
  ·cases he;exact absurd hde (hn _ _ hd)
  ·rename_i h1 h2
   rw [if_neg h1] at hp
   rw [if_neg h2] at hq
   exact S.inj p q a b d e hp hq la lb hd he hde
 ·intro p b hb
  simp only [AH.push,Tr.get_set] at hb
  split at hb
  ·rename_i e
   subst e
   cases hb
   exact ⟨c,Mu.add_same _ _ _,hB⟩
  ·rename_i e
   obtain ⟨d,h1,h2⟩:=S.at_ p b hb
   exact ⟨d,hle _ _ h1,h2.mono hle⟩
end
end Go.KX
namespace Go.KX
open Go.RowKit Go.KL
theorem wEP:∀ {l:List AOd} {p:Pos},AOd.t p ∈ l->p ∈ wBj l
 | .t q :: l,p,h=>by
  rcases nU.1 h with h | h
  ·cases h;simp [wBj]
  ·simp only [wBj,nU];exact .inr (wEP h)
 | .c v :: l,p,h=>by
  rcases nU.1 h with h | h
  ·cases h
  ·show p ∈ wBj l
   exact wEP h
noncomputable def rst (σ:Tr AV):List Pos->Tr AV
 | []=>.e
 | p :: ps=>(rst σ ps).set p (evA σ (.t p))
theorem wFW (σ:Tr AV):∀ (ps:List Pos) (p:Pos),evA (rst σ ps) (.t p)=if p ∈ ps then evA σ (.t p) else u
 | [],p=>by rw [if_neg (by simp)];rfl
 | q :: ps,p=>by
  show evA ((rst σ ps).set q (evA σ (.t q))) (.t p)=_
  rw [wIB,Tr.get_set]
  by_cases e:p=q
  ·subst e
   rw [if_pos rfl,if_pos (by simp)]
   rfl
  ·rw [if_neg e,<- wIB,wFW σ ps p]
   simp [e]
open Classical in
noncomputable def rsl (σ:Env) (ps:List Pos):Env:=fun d=>if ∃ p ∈ ps,p.nat - 1=d then σ d else undef
theorem wFX {μ:Mu} {σA:Tr AV} {σ:Env} {ps:List Pos} (h:∀ p ∈ ps,Rv μ (evA σA (.t p)) (σ (p.nat - 1))):EnvR μ (rst σA ps) (rsl σ ps):=by
 intro p
 rw [wFW]
 unfold rsl
 by_cases hp:p ∈ ps
 ·rw [if_pos hp,if_pos ⟨p,hp,rfl⟩]
  exact h p hp
 ·rw [if_neg hp,if_neg]
  ·exact wKZ μ
  ·rintro ⟨q,hq,e⟩
   have h1:=q.nat_pos
   have h2:=p.nat_pos
   have:q=p:=Pos.nat_inj (by omega)
   exact hp (this ▸ hq)
section
variable {tb:Tr AF} {ex exY:Run} {C:Chk} {P:Program} {μ:Mu} {σA:Tr AV} {σ:Env} {h h':AH} {v:AV} {o:Oper} {a:AOp} {w:World}
theorem wIo (hr:opY a tb ex exY σA h=some (v,h')):opY a tb ex exY (rst σA (wBj (wBC a))) h=some (v,h'):=by
 rw [<- hr]
 refine wKz a (fun x hx=>?_) h
 cases x with
 | t p=>rw [wFW,if_pos (wEP hx)]
 | c v=>rfl
theorem wNv (hs:wBI o=false) (hb:Sub a o):execOp (ev (rsl σ (wBj (wBC a)))) o=execOp (ev σ) o:=by
 refine execOp_congr o (wJn hs) fun y hy=>?_
 cases y with
 | tmp t =>
  show rsl σ (wBj (wBC a)) t=σ t
  unfold rsl
  rw [if_pos (hb t hy)]
 | _=>rfl
theorem wGd (hs:wBI o=false) (hb:Sub a o) {v:Value} {w':World}:Runs P (rsl σ (wBj (wBC a))) w o v w' ↔ Runs P σ w o v w':=by
 unfold Runs;rw [wNv hs hb]
theorem wFY (hs:wBI o=false) (hb:Sub a o) (hk:kdA a=3) (hc:wFR P a o.op=true) (hr:opY a tb ex exY σA h=some (v,h')) (hv:∀ p ∈ wBj (wBC a),Rv μ (evA σA (.t p)) (σ (p.nat - 1))) :
  ∃ cv,Rv μ v cv/\∀ w,Runs P σ w o cv w:=by
 obtain ⟨_,h2⟩:=wGA (tb:=tb) (ex:=ex) (exY:=exY) hk hc _ _ _ _ (wIo hr)
 obtain ⟨cv,g1,g2⟩:=h2 μ _ (wFX hv)
 exact ⟨cv,g1,fun w=>(wGd hs hb).1 (g2 o w rfl)⟩
theorem wLJ (hs:wBI o=false) (hb:Sub a o) (hk:kdA a=1 \/ kdA a=3) (hc:wFR P a o.op=true) (hr:opY a tb ex exY σA h=some (v,h')) (S:Sim C P μ h w) (hv:∀ p ∈ wBj (wBC a),Rv μ (evA σA (.t p)) (σ (p.nat - 1))) :
  ∃ cv,Rv μ v cv/\Runs P σ w o cv w:=by
 obtain ⟨_,h2⟩:=wGB (C:=C) (tb:=tb) (ex:=ex) (exY:=exY) hk hc _ _ _ _ (wIo hr)
 obtain ⟨cv,g1,g2⟩:=h2 μ _ w (wFX hv) S
 exact ⟨cv,g1,(wGd hs hb).1 (g2 o rfl w (Keep.refl w _))⟩
theorem wIp {op:Op} (hk:wJj a=true) (hc:wFR P a op=true):OkA C P op (opY a tb ex exY):=by
 cases a <;> first
  | (simp [wJj] at hk;done)
  | exact a_new hc | exact a_box hc | exact a_mkm hc | exact a_mks hc | exact wPD hc
theorem wJX (hs:wBI o=false) (hb:Sub a o) (hk:wJj a=true) (hc:wFR P a o.op=true) (hr:opY a tb ex exY σA h=some (v,h')) (hv:∀ p ∈ wBj (wBC a),Rv μ (evA σA (.t p)) (σ (p.nat - 1))) :
  ∃ (B:AB) (vf:Pos->AV) (ob:Obj) (val:Nat->Value),h'=h.push B/\v=vf h.nx/\wJP B/\(∀ w:World,Runs P σ w o (val w.heap.size) (w.alloc ob)) /\
   (∀ μ' (w:World) b,μ.Le μ'->w.heap[b]?=some ob->AbR C P μ' w ⟨b,0,g0⟩ B)/\∀ μ' p b,μ' p=some ⟨b,0,g0⟩->Rv μ' (vf p) (val b):=by
 obtain ⟨B,vf,e1,e2,_,e4,e5⟩:=wIp (C:=C) (tb:=tb) (ex:=ex) (exY:=exY) hk hc _ _ _ _ (wIo hr)
 obtain ⟨ob,val,g1,g2,g3⟩:=e5 μ _ (wFX hv) o rfl
 exact ⟨B,vf,ob,val,e1,e2,e4,fun w=>(wGd hs hb).1 (g1 w),g2,g3⟩
end
end Go.KX
namespace Go.KX
open Go.RowKit Go.KL
section
variable {tb:Tr AF} {ex exY:Run} {P:Program}
theorem wIq {s t:List AO} {a:AO} {σ0:Tr AV} {h0:AH} {r:Tr AV × AH} (hr:wAX tb ex exY (s ++ a :: t) σ0 h0=some r) :
  ∃ σ1 h1,wAX tb ex exY s σ0 h0=some (σ1,h1) /\
   ((wBl σ1 a.grd=true/\∃ v h2,opK a.kd a.op tb ex exY σ1 h1=some (v,h2)/\wAX tb ex exY t (wEd a.dst σ1 v) h2=some r) \/
    (wBl σ1 a.grd=false/\wAX tb ex exY t (wEd a.dst σ1 u) h1=some r)):=by
 obtain ⟨σ1,h1,e1,e2⟩:=wCX s (a :: t) σ0 h0 r hr
 refine ⟨σ1,h1,e1,?_⟩
 rw [wAh] at e2
 cases hw:wBl σ1 a.grd with
 | true =>
  rw [hw] at e2
  simp only at e2
  cases hq:opK a.kd a.op tb ex exY σ1 h1 with
  | none=>rw [hq] at e2;cases e2
  | some q =>
   rw [hq] at e2
   exact .inl ⟨rfl,q.1,q.2,rfl,e2⟩
 | false =>
  rw [hw] at e2
  exact .inr ⟨rfl,e2⟩
theorem wCt {l:List Oper} {S:Nat->Bool} (hdc:∀ k,k < l.length->S k=true->∀ j ∈ prI l k,S j=true) {x i:Nat} (hp:∀ j ∈ prI l i,S j=true) (h:wIj l x i):S x=true:=h S hdc hp
variable {N:Nat} {l:List Oper} {os s t:List AO} {a:AO} {σ0 σ1 σf:Tr AV} {h0 h1 hf:AH}
theorem wIK (Z:ZOK P N l os) (e:os=s ++ a :: t) {v:AV} {σ2:Tr AV} {h2:AH} (hr:wAX tb ex exY t (wEd a.dst σ2 v) h2=some (σf,hf)) {p:Pos} (hp:a.dst=some p):evA σf (.t p)=v:=by
 rw [wBs t _ _ _ _ hr p fun b hb=>Z.wr s a t e p hp b (nc _ hb),wGc,if_pos hp]
theorem wPI (Z:ZOK P N l os) (e:os=s ++ a :: t) (hr:wAX tb ex exY (a :: t) σ1 h1=some (σf,hf)) {p:Pos} (hp:p ∈ wBX a):evA σf (.t p)=evA σ1 (.t p) :=
 wBs (a :: t) _ _ _ _ hr p fun b hb=>Z.rd s a t e p hp b hb
end
end Go.KX
namespace Go.KX
open Go.RowKit Go.KL
section
variable {tb:Tr AF} {ex exY:Run} {P:Program} {N:Nat} {l:List Oper} {os s t:List AO} {a:AO} {σ0 σ1 σA σf:Tr AV} {h0 h h1 hf:AH} {μ μS:Mu} {σ σ':Env} {w:World} {o:Oper}
theorem wBt:∀ {s s' t t':List AO} {a:AO},(s ++ a :: t).Pairwise (fun a b=>a.ix ≠ b.ix)->s ++ a :: t=s' ++ a :: t'->s=s'/\t=t'
 | [],[],t,t',a,_,e=>by
  simp only [nL,nD,true_and] at e
  exact ⟨rfl,e⟩
 | [],b :: s',t,t',a,hp,e=>by
  simp only [nL,nI,nD] at e
  obtain ⟨rfl,rfl⟩:=e
  rw [nL] at hp
  exact absurd rfl ((na.1 hp).1 a (by simp))
 | b :: s,[],t,t',a,hp,e=>by
  simp only [nL,nI,nD] at e
  obtain ⟨rfl,rfl⟩:=e
  rw [nI] at hp
  exact absurd rfl ((na.1 hp).1 b (by simp))
 | b :: s,b' :: s',t,t',a,hp,e=>by
  simp only [nI,nD] at e
  rw [nI] at hp
  obtain ⟨h1,h2⟩:=wBt (na.1 hp).2 e.2
  exact ⟨by rw [e.1,h1],h2⟩
theorem wDQ (A:AOK P N l a o) (hs:Sub a.op o):∀ d ∈ wDE l o,∃ p ∈ wBX a,p.nat - 1=d:=by
 intro d hd
 unfold wDE at hd
 rcases nN.1 hd with hd | hd
 ·obtain ⟨y,h1,h2⟩:=kR.1 hd
  cases y with
  | tmp t =>
   simp only [nj] at h2
   subst h2
   obtain ⟨p,h3,h4⟩:=hs t (by simpa using h1)
   exact ⟨p,ng _ h3,h4⟩
  | _=>simp at h2
 ·rcases A.grd with ⟨_,h2⟩ | ⟨p,b,j,d',h1,h2,h3,h4⟩
  ·rw [h2] at hd;simp at hd
  ·rw [h2] at hd
   simp only [h3,Option.toList_some,kS] at hd
   subst hd
   exact ⟨p,nc _ (by rw [h1];simp),h4.symm⟩
structure Pend (tb:Tr AF) (ex exY:Run) (P:Program) (l:List Oper) (os:List AO) (σ0:Tr AV) (h0:AH) (σf:Tr AV) (w0:World) (μ μS:Mu) (σ:Env) (w:World) (a:AO) (o:Oper) (p:Pos):Prop where
 get:l[a.ix]?=some o
 dst:a.dst=some p
 fact:(wanted l σ o=false/\σ (p.nat - 1)=undef/\evA σf (.t p)=u) \/ (wanted l σ o=true /\
  (((a.kd=1 \/ a.kd=3 \/ 8 <= a.kd)/\Rv μ (evA σf (.t p)) (σ (p.nat - 1))) \/
   (a.kd=6/\Rv μS (evA σf (.t p)) (σ (p.nat - 1))/\∃ w1 w2,Runs P σ w1 o (σ (p.nat - 1)) w2) \/
   (a.kd=4/\Rv μS (evA σf (.t p)) (σ (p.nat - 1))/\∃ w1 ob s1 t1 σ1 h1,Runs P σ w1 o (σ (p.nat - 1)) (w1.alloc ob)/\w.heap[w1.heap.size]?=some ob/\w0.heap.size <= w1.heap.size /\
    os=s1 ++ a :: t1/\wAX tb ex exY s1 σ0 h0=some (σ1,h1)/\μS h1.nx=some ⟨w1.heap.size,0,g0⟩/\∀ q c,μS q=some c->c.1=w1.heap.size->q=h1.nx)))
theorem wLK {tb:Tr AF} {ex exY:Run} {k:Nat} {op:AOp} {σ:Tr AV} {h h':AH} {v:AV} (hk:k ≠ 2) (hr:opK k op tb ex exY σ h=some (v,h')):opY op tb ex exY σ h=some (v,h'):=by
 have hb:nB k 2=false:=by
  cases hb:nB k 2 with
  | false=>rfl
  | true=>exact absurd (nA hb) hk
 have:opK k op=opY op:=by unfold opK;rw [hb]
 rwa [this] at hr
theorem wJY {k:Nat} (h:8 <= k):¬ wBT k=true:=by
 unfold wBT
 simp only [nM,not_or]
 exact ⟨fun e=>by have:=nA e;omega,fun e=>by have:=nA e;omega⟩
theorem wLL {w:World} {a b:Obj} (h:w.alloc a=w.alloc b):a=b:=by
 have h1:=heap_alloc_new w a
 rw [h,heap_alloc_new] at h1
 exact (kH h1).symm
theorem wPJ (Z:ZOK P N l os) (e:os=s ++ a :: t) {μ0:Mu} {w0:World} {fl:Nat} (hs:wAX tb ex exY s σ0 h0=some (σA,h)) (hr:wAX tb ex exY (a :: t) σA h=some (σf,hf))
  (E:Ext μ0 fl w0 μ w) (S:Sim (CC P) P μ h w) (hE:EnvR μ σA σ') (hle:μ.Le μS) {p:Pos} (Pd:Pend tb ex exY P l os σ0 h0 σf w0 μ μS σ w a o p) (hag:∀ q ∈ wBX a,σ (q.nat - 1)=σ' (q.nat - 1)) :
  ∃ σB hB μB,wAX tb ex exY (s ++ [a]) σ0 h0=some (σB,hB)/\wAX tb ex exY t σB hB=some (σf,hf)/\μ.Le μB/\μB.Le μS/\Ext μ0 fl w0 μB w/\Sim (CC P) P μB hB w/\hB.fl=h.fl/\EnvR μB σB (upd σ' (p.nat - 1) (σ (p.nat - 1)))/\(a.kd=4->wanted l σ o=true->μB h.nx ≠ none):=by
 have ha:a ∈ os:=by rw [e];simp
 obtain ⟨o',A⟩:=wCC (Z.ao a ha)
 have eo:o'=o:=by have:=A.get;rw [Pd.get] at this;exact (kH this).symm
 subst eo
 have hsel:=Z.sel a ha _ A.get
 have hsub:=Z.sub a ha _ A.get
 have hagr:Agr l o' σ σ':=fun d hd=>by
  obtain ⟨q,h1,rfl⟩:=wDQ A hsub d hd
  exact hag q h1
 have hw:=wGa A hE
 have hwσ:wanted l σ o'=wBl σA a.grd:=(wBV hagr).trans hw
 obtain ⟨pd,dd,d1,d2,d3,_⟩:∃ p d,a.dst=some p/\o'.dst=some d/\d=p.nat - 1/\d < N:=by
  rcases A.dst with ⟨h1,_⟩ | h
  ·rw [Pd.dst] at h1;cases h1
  ·exact h
 have ep:pd=p:=by rw [Pd.dst] at d1;exact (kH d1).symm
 subst ep
 have eput:∀ cv,put' σ' o' cv=upd σ' (pd.nat - 1) cv:=fun cv=>by unfold put';rw [d2,d3]
 obtain ⟨σx,hx,q1,q2⟩:=wIq (s:=[]) (a:=a) (t:=t) (σ0:=σA) (h0:=h) (by rw [nL];exact hr)
 rw [wAf] at q1
 cases q1
 have split1:∀ {σB hB},(match wBl σA a.grd with | true=>(match opK a.kd a.op tb ex exY σA h with | some r=>some (wEd a.dst σA r.1,r.2) | none=>none) | false=>some (wEd a.dst σA u,h))=some (σB,hB)->wAX tb ex exY (s ++ [a]) σ0 h0=some (σB,hB):=by
  intro σB hB hq
  have app:∀ (l1 l2:List AO) (x:Tr AV) (y:AH) (x1:Tr AV) (y1:AH),wAX tb ex exY l1 x y=some (x1,y1)->wAX tb ex exY (l1 ++ l2) x y=wAX tb ex exY l2 x1 y1:=by
   intro l1
   induction l1 with
   | nil=>intro l2 x y x1 y1 h;rw [wAf] at h;cases h;rfl
   | cons b l1 ih =>
    intro l2 x y x1 y1 h
    rw [nI,wAh]
    rw [wAh] at h
    cases hb:wBl x b.grd with
    | true =>
     rw [hb] at h
     simp only at h ⊢
     cases hq:opK b.kd b.op tb ex exY x y with
     | none=>rw [hq] at h;cases h
     | some r=>rw [hq] at h;exact ih l2 _ _ _ _ h
    | false =>
     rw [hb] at h
     exact ih l2 _ _ _ _ h
  rw [app s [a] _ _ _ _ hs,wAh]
  cases hb:wBl σA a.grd with
  | true =>
   rw [hb] at hq
   simp only at hq ⊢
   cases hk:opK a.kd a.op tb ex exY σA h with
   | none=>rw [hk] at hq;cases hq
   | some r =>
    rw [hk] at hq
    cases hq
    exact wAf _ _ _ _ _
  | false =>
   rw [hb] at hq
   cases hq
   rw [wAf]
 rcases q2 with ⟨g1,v,h2,g2,g3⟩ | ⟨g1,g3⟩
 ·have hv:evA σf (.t pd)=v:=wIK Z e g3 Pd.dst
  have hrun:=split1 (σB:=wEd a.dst σA v) (hB:=h2) (by rw [g1];simp only;rw [g2])
  rcases Pd.fact with ⟨f1,_⟩ | ⟨_,⟨fk,f1⟩ | ⟨fk,f1,w1,w2,f2⟩ | ⟨fk,f1,w1,ob,s1,t1,σ1,h1,f2,f3,f4,f5,f6,f7,f8⟩⟩
  ·rw [hwσ,g1] at f1;cases f1
  ·have gY:opY a.op tb ex exY σA h=some (v,h2):=wLK (by omega) g2
   have hk:kdA a.op=1 \/ kdA a.op=3:=by
    rcases fk with fk | fk | fk
    ·exact A.k1 fk
    ·exact .inr (A.k3 fk)
    ·rcases Z.kd a ha with hh | ⟨_,hh | hh | hh | hh | hh⟩
     ·exact absurd hh (wJY fk)
     ·omega
     ·omega
     ·omega
     ·omega
     ·exact .inl hh.2
   obtain ⟨e1,_⟩:=wGB (C:=CC P) hk A.op _ _ _ _ gY
   subst e1
   rw [hv] at f1
   exact ⟨_,_,μ,hrun,g3,Mu.Le.refl μ,hle,E,S,rfl,by rw [<- eput];exact wCy A hE f1,fun h4 _=>by omega⟩
  ·have gY:opY a.op tb ex exY σA h=some (v,h2):=by rw [fk] at g2;exact g2
   have hk:kdA a.op=3:=by
    rcases Z.kd a ha with hh | ⟨_,hh | hh | hh | hh | hh⟩
    ·rw [fk] at hh;exact absurd hh (by decide)
    ·omega
    ·omega
    ·exact hh.2
    ·omega
    ·omega
   obtain ⟨e1,e2⟩:=wGA hk A.op _ _ _ _ gY
   subst e1
   obtain ⟨cv,c1,c2⟩:=e2 μ σ' hE
   have:=Runs.det ((Runs.agr hsel hagr).2 (c2 o' w1 rfl)) f2
   rw [<- eput,<- this.1]
   exact ⟨_,_,μ,hrun,g3,Mu.Le.refl μ,hle,E,S,rfl,wCy A hE c1,fun h4 _=>by omega⟩
  ·have gY:opY a.op tb ex exY σA h=some (v,h2):=by rw [fk] at g2;exact g2
   have hk:wJj a.op=true:=by
    rcases Z.kd a ha with hh | ⟨_,hh | hh | hh | hh | hh⟩
    ·rw [fk] at hh;exact absurd hh (by decide)
    ·omega
    ·omega
    ·omega
    ·exact hh.2
    ·omega
   obtain ⟨B,vf,e1,e2,_,_,e5⟩:=wIp (C:=CC P) hk A.op _ _ _ _ gY
   obtain ⟨ob',val,c1,c2,c3⟩:=e5 μ σ' hE o' rfl
   obtain ⟨k1,k2⟩:=Runs.det ((Runs.agr hsel hagr).2 (c1 w1)) f2
   have k2:=wLL k2
   subst k2
   have es:s1=s:=(wBt (f5 ▸ Z.one) (f5.symm.trans e)).1
   subst es
   rw [hs] at f6
   cases f6
   have hn0:=S.nx h.nx (nE _)
   have hadd:=Mu.add_le (c:=(⟨w1.heap.size,0,g0⟩:Cl)) hn0
   have hlt:w1.heap.size < w.heap.size:=wAS f3
   subst e1 e2
   have hv':Rv (μ.add h.nx ⟨w1.heap.size,0,g0⟩) (vf h.nx) (σ (pd.nat - 1)):=by
    rw [<- k1]
    exact c3 _ _ _ (Mu.add_same _ _ _)
   refine ⟨_,_,μ.add h.nx ⟨w1.heap.size,0,g0⟩,hrun,g3,hadd,?_,⟨E.mono.trans hadd,?_,E.keep⟩,S.adopt hlt ?_ (c2 _ w _ hadd f3),rfl,?_,fun _ _=>by rw [Mu.add_same];simp⟩
   ·intro q d hq
    unfold Mu.add at hq
    split at hq
    ·rename_i eq
     subst eq
     cases hq
     exact f7
    ·exact hle q d hq
   ·intro q c hq
    unfold Mu.add at hq
    split at hq
    ·cases hq
     exact .inr (.inr f4)
    ·exact E.new q c hq
   ·intro q d hq hd
    have:=f8 q d (hle q d hq) hd
    subst this
    rw [hn0] at hq
    cases hq
   ·rw [<- eput]
    exact wCy A (hE.mono hadd) hv'
 ·have hrun:=split1 (σB:=wEd a.dst σA u) (hB:=h) (by rw [g1])
  rcases Pd.fact with ⟨_,f2,_⟩ | ⟨f1,_⟩
  ·refine ⟨_,_,μ,hrun,g3,Mu.Le.refl μ,hle,E,S,rfl,?_,fun _ hw'=>by rw [hwσ,g1] at hw';cases hw'⟩
   rw [f2,<- eput]
   exact wCy A hE (wKZ μ)
  ·rw [hwσ,g1] at f1;cases f1
structure JS (tb:Tr AF) (ex exY:Run) (P:Program) (l:List Oper) (os:List AO) (σ0:Tr AV) (h0:AH) (σf:Tr AV) (hf:AH) (μ0:Mu) (w0:World) (S:Nat->Bool) (σ:Env) (w:World) (s t:List AO) (σA:Tr AV) (h:AH) (σ':Env) (μ μS:Mu):Prop where
 e:os=s ++ t
 hs:wAX tb ex exY s σ0 h0=some (σA,h)
 hr:wAX tb ex exY t σA h=some (σf,hf)
 inS:∀ a ∈ s,S a.ix=true
 free:∀ a ∈ t,S a.ix=true->wBT a.kd=false
 E:Ext μ0 h0.fl.nat w0 μ w
 sim:Sim (CC P) P μ h w
 fl:h.fl=h0.fl
 env:EnvR μ σA σ'
 ag:∀ q:Pos,(∀ a ∈ t,S a.ix=true->a.dst ≠ some q)->σ (q.nat - 1)=σ' (q.nat - 1)
 le:μ.Le μS
 nm:∀ q c,μS q=some c->μ q=some c \/ ∃ a o s1 t1 σ1 h1,a ∈ t/\S a.ix=true/\l[a.ix]?=some o/\wanted l σ o=true/\a.kd=4/\os=s1 ++ a :: t1/\wAX tb ex exY s1 σ0 h0=some (σ1,h1)/\q=h1.nx
 pd:∀ a ∈ t,S a.ix=true->∃ o p,Pend tb ex exY P l os σ0 h0 σf w0 μ μS σ w a o p
theorem Pend.mono {μB:Mu} {w0:World} {p:Pos} (h:Pend tb ex exY P l os σ0 h0 σf w0 μ μS σ w a o p) (hm:μ.Le μB):Pend tb ex exY P l os σ0 h0 σf w0 μB μS σ w a o p:=by
 refine ⟨h.get,h.dst,?_⟩
 rcases h.fact with f | ⟨f,⟨f1,f2⟩ | f1 | f1⟩
 ·exact .inl f
 ·exact .inr ⟨f,.inl ⟨f1,f2.mono hm⟩⟩
 ·exact .inr ⟨f,.inr (.inl f1)⟩
 ·exact .inr ⟨f,.inr (.inr f1)⟩
theorem JS.catch1 (Z:ZOK P N l os) {μ0:Mu} {w0:World} {S:Nat->Bool} (J:JS tb ex exY P l os σ0 h0 σf hf μ0 w0 S σ w s (a :: t) σA h σ' μ μS) (ha:S a.ix=true) :
  ∃ σB hB σ'' μB,JS tb ex exY P l os σ0 h0 σf hf μ0 w0 S σ w (s ++ [a]) t σB hB σ'' μB μS:=by
 obtain ⟨o,p,Pd⟩:=J.pd a (by simp) ha
 have hag:∀ q ∈ wBX a,σ (q.nat - 1)=σ' (q.nat - 1):=fun q hq=>J.ag q fun b hb _=>Z.rd s a t J.e q hq b hb
 obtain ⟨σB,hB,μB,c1,c2,c3,c4,c5,c6,c7,c8,c9⟩:=wPJ Z J.e J.hs J.hr J.E J.sim J.env J.le Pd hag
 have hne:∀ b ∈ t,b.ix ≠ a.ix:=fun b hb e=>by
  have:=Z.one
  rw [J.e] at this
  exact (na.1 (List.pairwise_append.1 this).2.1).1 b hb e.symm
 refine ⟨σB,hB,_,μB,by rw [J.e];simp,c1,c2,fun b hb=>?_,fun b hb=>J.free b (by simp [hb]),c5,c6,c7.trans J.fl,c8,fun q hq=>?_,c4,fun q c hq=>?_,fun b hb hS=>?_⟩
 ·rcases nN.1 hb with hb | hb
  ·exact J.inS b hb
  ·rw [kS.1 hb];exact ha
 ·by_cases e:q=p
  ·subst e
   rw [wBz]
  ·rw [wCg _ _ (fun h=>e (Pos.nat_inj (by have:=q.nat_pos;have:=p.nat_pos;omega)))]
   refine J.ag q fun b hb hS=>?_
   rcases nU.1 hb with rfl | hb
   ·rw [Pd.dst]
    intro h
    cases h
    exact e rfl
   ·exact hq b hb hS
 ·rcases J.nm q c hq with h1 | ⟨b,ob,s1,t1,σ1,h1,k1,k2,k3,k4,k5,k6,k7,k8⟩
  ·exact .inl (c3 _ _ h1)
  ·rcases nU.1 k1 with rfl | k1
   ·left
    have hs1:s1=s:=(wBt (k6 ▸ Z.one) (k6.symm.trans J.e)).1
    subst hs1
    rw [J.hs] at k7
    cases k7
    subst k8
    rw [Pd.get] at k3
    cases k3
    have:=c9 k5 k4
    cases hm:μB h.nx with
    | none=>exact absurd hm this
    | some c' =>
     have:=c4 _ _ hm
     rw [hq] at this
     exact this.symm
   ·exact .inr ⟨b,ob,s1,t1,σ1,h1,k1,k2,k3,k4,k5,k6,k7,k8⟩
 ·obtain ⟨o',p',h'⟩:=J.pd b (by simp [hb]) hS
  exact ⟨o',p',h'.mono c3⟩
end
end Go.KX
