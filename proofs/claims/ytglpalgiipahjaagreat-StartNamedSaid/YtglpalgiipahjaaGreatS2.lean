import Derived.Test.YtglpalgiipahjaaGreatS1
import Derived.Test.YtglpalgiipahjaaGreatS0
set_option linter.all false
open Nat renaming eq_of_beq_eq_true->nA,le_refl->nH,le_trans->nX,beq->na,add_zero->ng,lt_irrefl->nk,add_assoc->nl,lt_of_lt_of_le->np,zero_add->nr,succ_mul->nt
open Bool renaming and_eq_true->nB,false_eq_true->nE
open Option.some renaming inj->nD
open List renaming mem_cons->nG,getElem?_eq_getElem->nI,cons_append->nJ,mem_append->nK,drop_eq_getElem_cons->nL,append_of_mem->nM,append_assoc->nN,mem_append_right->nO,getElem?_eq_some_iff->nP,drop_eq_nil_of_le->nQ,pairwise_cons->nR,nil_append->nS,mem_append_left->nT,pairwise_append->nU,mem_singleton->nZ,all_eq_true->nc,getElem_mem->nf,append_nil->nh,getElem?_eq_none->nj,mem_filterMap->nq
open List.cons renaming injEq->nV,inj->nu
open Classical renaming byContradiction->nW
open Option renaming bind_some->nY
namespace Go.KX
open Go.RowKit Go.KL
theorem wKM (b:AC) (exR:Run) (e:Ex) (σ:Tr AV) (h:AH):seqK b exR (e,σ,h)=(match e with | .nrm=>exR b σ h | e=>some (e,σ,h)):=by cases e <;> rfl
theorem wRz {x:R} {k:Ex × Tr AV × AH->R} {r:Ex × Tr AV × AH} (hr:Option.rec (motive:=fun _=>R) none k x=some r):∃ y,x=some y/\k y=some r:=by
 cases x with
 | none=>cases hr
 | some y=>exact ⟨y,rfl,hr⟩
structure Fr (h h':AH):Prop where
 nx:h.nx.nat <= h'.nx.nat
 fl:h'.fl=h.fl
 get:∀ p,p.nat < h.fl.nat->p.nat < h.nx.nat->h'.m.get p=h.m.get p
theorem Fr.refl (h:AH):Fr h h:=⟨nH _,rfl,fun _ _ _=>rfl⟩
theorem Fr.trans {a b c:AH} (h:Fr a b) (k:Fr b c):Fr a c :=
 ⟨nX h.nx k.nx,k.fl.trans h.fl,fun p h1 h2=>(k.get p (by rw [h.fl];exact h1) (np h2 h.nx)).trans (h.get p h1 h2)⟩
theorem Fr.push (h:AH) (B:AB):Fr h (h.push B):=by
 refine ⟨?_,rfl,fun p _ h2=>?_⟩
 ·show h.nx.nat <= h.nx.succ.nat
  rw [Pos.nat_succ];omega
 ·show (h.m.set h.nx B).get p=_
  rw [Tr.get_set,if_neg (fun e=>by subst e;omega)]
theorem Fr.put {h h':AH} {p:Pos} {B:AB} (hp:h.put p B=some h'):Fr h h':=by
 obtain ⟨h1,rfl⟩:=wHz hp
 refine ⟨nH _,rfl,fun q h2 _=>?_⟩
 show (h.m.set p B).get q=_
 rw [Tr.get_set,if_neg (fun e=>by subst e;omega)]
theorem Fr.setAt {h h':AH} {b:Pos} {off:Nat} {vs:List AV} (hs:KX.setAt h b off vs=some h'):Fr h h':=by
 unfold KX.setAt at hs
 split at hs
 ·split at hs
  ·exact Fr.put hs
  ·cases hs
 ·split at hs
  ·exact Fr.put hs
  ·cases hs
 ·cases hs
theorem wRP {h h':AH} {o:Option AV} {v:AV} (hr:okV h o=some (v,h')):h'=h:=by
 cases o with
 | none=>cases hr
 | some x=>cases hr;rfl
theorem wHQ {α:Type} {b:Bool} {x:Option α} {y:α} (hr:ifO b x=some y):x=some y:=by
 cases b with
 | true=>exact hr
 | false=>cases hr
section
variable {tb:Tr AF} {ex exY:Run} {σ:Tr AV} {h h':AH} {v:AV}
theorem wSm {T sz by_ m:Nat} {news:List AV} {x:AV} (hr:app h T sz by_ m news x=some (v,h')):Fr h h':=by
 unfold app at hr
 split at hr
 ·split at hr <;> first | (cases hr;exact Fr.refl _) | (cases hr;done)
 ·split at hr
  ·have hr:=wHQ hr;cases hr;exact Fr.push _ _
  ·split at hr
   ·split at hr
    ·rename_i hs;cases hr;exact Fr.setAt hs
    ·cases hr
   ·have hr:=wHQ hr
    split at hr
    ·cases hr;exact Fr.push _ _
    ·cases hr
  ·split at hr
   ·split at hr
    ·split at hr
     ·rename_i hs;cases hr;exact Fr.setAt hs
     ·cases hr
    ·have hr:=wHQ hr
     split at hr
     ·rename_i hs;cases hr;exact (Fr.put hs).trans (Fr.push _ _)
     ·cases hr
   ·cases hr
  ·cases hr
theorem wQM {z:List AV} {b:Pos} {off n:Nat} (hr:clr h z b off n=some (v,h')):Fr h h':=by
 unfold clr at hr
 split at hr
 ·cases hr;exact Fr.refl _
 ·have hr:=wHQ hr
  split at hr
  ·rename_i hs;cases hr;exact Fr.setAt hs
  ·cases hr
def FrX (ex:Run):Prop:=∀ c σ h e σ' h',ex c σ h=some (e,σ',h')->Fr h h'
theorem wQN {l:List AR} (hr:wQf σ h l=some (v,h')):Fr h h':=by
 unfold wQf at hr
 split at hr
 ·cases hr;exact Fr.refl _
 ·cases hr
theorem wNi (HE:FrX ex) {f:Pos} {args:List AV} (hr:wIr tb ex f args h=some (v,h')):Fr h h':=by
 unfold wIr at hr
 split at hr
 ·split at hr
  ·split at hr
   ·rename_i h1;exact (HE _ _ _ _ _ _ h1).trans (wQN hr)
   ·rename_i h1;exact (HE _ _ _ _ _ _ h1).trans (wQN hr)
   ·cases hr
  ·cases hr
 ·cases hr
theorem wPO (HY:FrX ex) {b:Pos} {args:List AV} (hr:wIs ex b args h=some (v,h')):Fr h h':=by
 unfold wIs at hr
 split at hr
 ·split at hr
  ·cases hr
  ·split at hr
   ·rename_i h1
    split at hr
    ·split at hr
     ·rename_i h2
      split at hr
      ·rename_i h3
       split at hr
       ·split at hr
        ·rename_i h4
         cases hr
         exact (HY _ _ _ _ _ _ h1).trans ((Fr.put h2).trans ((HY _ _ _ _ _ _ h3).trans (Fr.put h4)))
        ·cases hr
       ·cases hr
      ·cases hr
     ·cases hr
    ·cases hr
   ·cases hr
 ·cases hr
theorem wNj (HE:FrX ex) (HY:FrX exY) (op:AOp) (hr:opY op tb ex exY σ h=some (v,h')):Fr h h':=by
  cases op with
  | call x l =>
    have hr:wFz x l tb ex exY σ h=some (v,h'):=hr
    unfold wFz at hr
    split at hr
    · exact wNi HE hr
    · exact wPO HY hr
    · cases hr
  | new T z=>cases hr;exact Fr.push _ _
  | box T x=>cases hr;exact Fr.push _ _
  | mkm=>cases hr;exact Fr.push _ _
  | mks T sz b z x y =>
    have hr:wGe T sz b z x y σ h=some (v,h'):=hr
    unfold wGe at hr
    split at hr
    · have hr:=wHQ hr;cases hr;exact Fr.push _ _
    · cases hr
  | blds T n z ps =>
    have hr:wEN T n z ps σ h=some (v,h'):=hr
    unfold wEN at hr
    split at hr
    · cases hr;exact Fr.push _ _
    · cases hr
  | st n x y =>
    have hr:wPz n x y σ h=some (v,h'):=hr
    unfold wPz at hr
    split at hr
    · split at hr
      · split at hr
        · rename_i hs;cases hr;exact Fr.setAt hs
        · cases hr
      · cases hr
    · cases hr
  | mput two k x y z =>
    have hr:wFx two k x y z σ h=some (v,h'):=hr
    unfold wFx at hr
    split at hr
    · split at hr
      · split at hr
        · split at hr
          · rename_i hs;cases hr;exact Fr.put hs
          · cases hr
        · cases hr
      · cases hr
    · cases hr
  | mdel two k x y =>
    have hr:wFy two k x y σ h=some (v,h'):=hr
    unfold wFy at hr
    split at hr
    · split at hr
      · split at hr
        · split at hr
          · rename_i hs;cases hr;exact Fr.put hs
          · cases hr
        · cases hr
      · cases hr
    · cases hr
  | app T sz b x y =>
    have hr:wIo T sz b x y σ h=some (v,h'):=hr
    unfold wIo at hr
    split at hr
    · exact wSm (wHQ hr)
    · cases hr
  | cpy sz x y =>
    have hr:wIp sz x y σ h=some (v,h'):=hr
    unfold wIp at hr
    split at hr
    · split at hr
      · have hr:=wHQ hr
        split at hr
        · rename_i hs;cases hr;exact Fr.setAt hs
        · cases hr
      · cases hr
    · cases hr
  | clr z x =>
    have hr:wIq z x σ h=some (v,h'):=hr
    unfold wIq at hr
    split at hr
    · exact wQM hr
    · exact wQM hr
    · cases hr;exact Fr.refl _
    · cases hr;exact Fr.refl _
    · cases hr
  | bad=>cases hr
  | apz T sz b z x y =>
    have hr:wIt T sz b z x y σ h=some (v,h'):=hr
    unfold wIt at hr
    split at hr
    · split at hr
      · cases hr;exact Fr.refl _
      · have hr:=wHQ hr;cases hr;exact Fr.push _ _
    · cases hr
  | _ =>
    have e:h'=h:=by
      dsimp only [opY] at hr
      first
        | exact wRP hr
        | (simp only [wRv,wGc,wOr,wHP,wGd,wJk,wJl,wJm,wJn,wJo,wLe,wJp,wGf,wJq,wJr,wGg,wJs,wGh,wQe,wJt,wOs,wJu,wJv,wEk,wJw,wJx] at hr
           repeat' (split at hr)
           all_goals first
             | exact wRP hr
             | (cases hr;rfl)
             | (cases hr;done)
             | exact wRP (wHQ hr)
             | (have hr2:=wHQ hr;cases hr2;rfl))
    subst e
    exact Fr.refl _
theorem wQO (HE:FrX ex) (HY:FrX exY) (k:Nat) (op:AOp) (hr:opK k op tb ex exY σ h=some (v,h')):Fr h h':=by
 by_cases k2:na k 2=true
 ·have hr:wQA op tb ex exY σ h=some (v,h'):=by
   have e:opK k op=wQA op:=by unfold opK;rw [k2]
   rw [e] at hr;exact hr
  unfold wQA at hr
  split at hr
  ·rename_i v0 h0 hq
   cases hr
   have F:=wNj HE HY op hq
   exact ⟨F.nx,rfl,fun p _ h2=>F.get p h2 h2⟩
  ·cases hr
 ·have e:opK k op=opY op:=by
   unfold opK
   cases hb:na k 2 with
   | true=>exact absurd hb k2
   | false=>rfl
  rw [e] at hr
  exact wNj HE HY op hr
theorem wSn (HE:FrX ex) (HY:FrX exY) (op:AOp) (hr:wQA op tb ex exY σ h=some (v,h')):∀ p,p.nat < h.nx.nat->h'.m.get p=h.m.get p:=by
 unfold wQA at hr
 split at hr
 ·rename_i v0 h0 hq
  cases hr
  have F:=wNj HE HY op hq
  exact fun p h2=>F.get p h2 h2
 ·cases hr
theorem wHk (HE:FrX ex) (HY:FrX exY):∀ (l:List AO) (σ:Tr AV) (h:AH) (σ':Tr AV) (h':AH),wAc tb ex exY l σ h=some (σ',h')->Fr h h'
 | [],σ,h,σ',h',hr=>by
  rw [wAy] at hr;cases hr;exact Fr.refl _
 | o :: os,σ,h,σ',h',hr=>by
  rw [wBA] at hr
  split at hr
  ·split at hr
   ·rename_i r hq
    exact (wQO HE HY _ _ hq).trans (wHk HE HY os _ _ _ _ hr)
   ·cases hr
  ·exact wHk HE HY os _ _ _ _ hr
theorem wNk {exR:Run} (HR:FrX exR) {b:AC} {r:Ex × Tr AV × AH} {e:Ex} {σ':Tr AV} (hr:seqK b exR r=some (e,σ',h')):Fr r.2.2 h':=by
 obtain ⟨e0,σ0,h0⟩:=r
 rw [wKM] at hr
 cases e0 with
 | nrm=>exact HR _ _ _ _ _ _ hr
 | exit i=>cases hr;exact Fr.refl _
 | ret=>cases hr;exact Fr.refl _
theorem wRQ {exR:Run} (HE:FrX ex) (HY:FrX exY) (HR:FrX exR) (c:AC) (f:Bool) {e:Ex} {σ':Tr AV} (hr:step c f tb ex exY exR σ h=some (e,σ',h')):Fr h h':=by
 cases c with
 | skip=>cases hr;exact Fr.refl _
 | rg l =>
  have hr:sRg l tb ex exY exR σ h=some (e,σ',h'):=hr
  unfold sRg at hr
  cases hq:wAc tb ex exY l σ h with
  | none=>rw [hq] at hr;cases hr
  | some y =>
   rw [hq] at hr
   cases hr
   exact wHk HE HY l _ _ _ _ hq
 | seq a b =>
  have hr:wSN a b exR σ h=some (e,σ',h'):=hr
  unfold wSN at hr
  obtain ⟨y,h1,h2⟩:=wRz hr
  exact (HR _ _ _ _ _ _ h1).trans (wNk HR h2)
 | cond c a b =>
  have hr:wMx c a b exR σ h=some (e,σ',h'):=hr
  unfold wMx at hr
  split at hr
  ·exact HR _ _ _ _ _ _ hr
  ·exact HR _ _ _ _ _ _ hr
  ·cases hr
 | block i a =>
  have hr:wKm i a exR σ h=some (e,σ',h'):=hr
  unfold wKm at hr
  obtain ⟨y,h1,h2⟩:=wRz hr
  obtain ⟨e0,σ0,h0⟩:=y
  refine (HR _ _ _ _ _ _ h1).trans ?_
  unfold wQC at h2
  cases e0 with
  | nrm=>cases h2;exact Fr.refl _
  | ret=>cases h2;exact Fr.refl _
  | exit j =>
   simp only at h2
   cases hb:na j i with
   | true=>rw [hb] at h2;cases h2;exact Fr.refl _
   | false=>rw [hb] at h2;cases h2;exact Fr.refl _
 | loop a =>
  have hr:wMy a exR σ h=some (e,σ',h'):=hr
  unfold wMy at hr
  obtain ⟨y,h1,h2⟩:=wRz hr
  exact (HR _ _ _ _ _ _ h1).trans (wNk HR h2)
 | rf g t asg body =>
  have hr:sRf f g t asg body tb ex σ h=some (e,σ',h'):=hr
  unfold sRf at hr
  split at hr
  ·split at hr
   ·rename_i h1
    have F:=(Fr.push h (.loop σ t asg body .ready)).trans (wNi HE h1)
    split at hr
    ·split at hr
     ·rename_i h2;cases hr;exact F.trans (Fr.put h2)
     ·cases hr
    ·split at hr
     ·rename_i h2;cases hr;exact F.trans (Fr.put h2)
     ·cases hr
    ·cases hr
   ·cases hr
  ·cases hr
 | exit i=>cases hr;exact Fr.refl _
 | scope a=>exact HR _ _ _ _ _ _ hr
 | ret=>cases hr;exact Fr.refl _
 | rl l =>
  have hr:sRl l tb ex exY σ h=some (e,σ',h'):=hr
  rw [wQB] at hr
  split at hr
  ·rename_i y hq
   cases hr
   exact wHk HE HY l _ _ _ _ (wKK _ _ _ _ hq).1
  ·cases hr
theorem wFF (tb:Tr AF):∀ (n:Nat) (r:Bool),FrX (exec tb n r)
 | 0,r=>fun c σ h e σ' h' hr=>by cases hr
 | n + 1,r=>fun c σ h e σ' h' hr=>by
  rw [wIu] at hr
  exact wRQ (wFF tb n false) (wFF tb n true) (wFF tb n r) c _ hr
end
end Go.KX
namespace Go.KX
open Go.RowKit Go.KL
theorem wRR {a b:IntKind} (h:keq a b=true):a=b:=by
 cases a <;> cases b <;> first | rfl | (simp [keq] at h)
theorem wRS {a b:Int} (h:zeq a b=true):a=b:=by
 cases a with
 | ofNat a=>cases b with
  | ofNat b=>simp only [zeq] at h;rw [nA h]
  | negSucc b=>simp [zeq] at h
 | negSucc a=>cases b with
  | ofNat b=>simp [zeq] at h
  | negSucc b=>simp only [zeq] at h;rw [nA h]
mutual
theorem wNl:∀ {a b:AV},same a b=true->a=b
 | .int k n,.int k' n',h=>by simp only [same,nB] at h;rw [wRR h.1,wRS h.2]
 | .bool a,.bool b,h=>by simp only [same,beq_iff_eq] at h;rw [h]
 | .ptr b o,.ptr b' o',h=>by simp only [same,nB] at h;rw [Pos.beq_eq h.1,nA h.2]
 | .pnil,.pnil,_=>rfl
 | .sl b o n c,.sl b' o' n' c',h=>by simp only [same,nB] at h;rw [Pos.beq_eq h.1,nA h.2.1,nA h.2.2.1,nA h.2.2.2]
 | .rw b o n c,.rw b' o' n' c',h=>by simp only [same,nB] at h;rw [Pos.beq_eq h.1,nA h.2.1,nA h.2.2.1,nA h.2.2.2]
 | .snil,.snil,_=>rfl
 | .map b,.map b',h=>by simp only [same] at h;rw [Pos.beq_eq h]
 | .mnil,.mnil,_=>rfl
 | .fn f fi ca,.fn f' fi' ca',h=>by simp only [same,nB] at h;rw [Pos.beq_eq h.1,wFZ h.2.1,wFZ h.2.2]
 | .fnil,.fnil,_=>rfl
 | .agg l,.agg l',h=>by simp only [same] at h;rw [wFZ h]
 | .tup l,.tup l',h=>by simp only [same] at h;rw [wFZ h]
theorem wFZ:∀ {a b:List AV},wHv a b=true->a=b
 | [],[],_=>rfl
 | a :: l,b :: k,h=>by simp only [wHv,nB] at h;rw [wNl h.1,wFZ h.2]
 | [],_ :: _,h=>by simp [wHv] at h
 | _ :: _,[],h=>by simp [wHv] at h
end
section
variable {tb:Tr AF} {ex exY:Run} {σ:Tr AV} {h h':AH} {v:AV}
theorem wNm {o:Option AV} (hr:okV h o=some (v,h')) (h2:AH):okV h2 o=some (v,h2):=by
 cases o with
 | none=>cases hr
 | some x=>cases hr;rfl
end
section
variable {P:Program} {l:List Oper} {σ σ':Env} {o:Oper} {w:World}
def Agr (l:List Oper) (o:Oper) (σ σ':Env):Prop:=∀ d ∈ wEH l o,σ d=σ' d
theorem wSo (h:Agr l o σ σ'):∀ y ∈ o.op.operands,ev σ y=ev σ' y:=by
 intro y hy
 cases y with
 | tmp t=>exact h t (nT _ (nq.2 ⟨.tmp t,by simpa using hy,rfl⟩))
 | _=>rfl
theorem wCF (h:Agr l o σ σ'):wanted l σ o=wanted l σ' o:=by
 unfold wanted
 cases hg:o.guard with
 | none=>rfl
 | some g =>
  obtain ⟨j,b⟩:=g
  simp only
  cases hd:(l[j]?).bind (·.dst) with
  | none=>rfl
  | some t =>
   simp only
   rw [h t (by unfold wEH;rw [hg];simp only [hd];simp)]
theorem wNn (hs:wBp o=false) (h:Agr l o σ σ'):execOp (ev σ) o=execOp (ev σ') o:=execOp_congr o (wMO hs) (wSo h)
theorem Runs.agr (hs:wBp o=false) (h:Agr l o σ σ') {v:Value} {w':World}:Runs P σ w o v w' ↔ Runs P σ' w o v w':=by
 unfold Runs;rw [wNn hs h]
theorem Runs.det {v v':Value} {w1 w2:World} (h:Runs P σ w o v w1) (h':Runs P σ w o v' w2):v=v'/\w1=w2:=by
 have:=h.2.symm.trans h'.2
 simp only [Result.ok.injEq] at this
 obtain ⟨e,e2⟩:=this
 exact ⟨by simpa using e,e2⟩
theorem Step1.agr (hs:wBp o=false) (h:Agr l o σ σ') {R:Value->World->Prop} (hh:Step1 P l o σ w R):Step1 P l o σ' w R:=by
 have e:=wNn hs h
 have ew:=wCF h
 rcases hh with ⟨h1,⟨h2,w',h3,h4⟩ | ⟨v,w',h3,h4⟩ | ⟨f,args,R',h3,h4,h5⟩ | hy⟩ | ⟨h1,h2⟩
 ·exact .inl ⟨ew ▸ h1,.inl ⟨h2,w',by unfold Does at h3 ⊢;rw [<- e];exact h3,h4⟩⟩
 ·exact .inl ⟨ew ▸ h1,.inr (.inl ⟨v,w',by unfold Runs at h3 ⊢;rw [<- e];exact h3,h4⟩)⟩
 ·exact .inl ⟨ew ▸ h1,.inr (.inr (.inl ⟨f,args,R',by unfold Enters at h3 ⊢;rw [<- e];exact h3,h4,h5⟩))⟩
 ·exact .inl ⟨ew ▸ h1,.inr (.inr (.inr (by unfold Rounds at hy ⊢;rw [<- e];exact hy)))⟩
 ·exact .inr ⟨ew ▸ h1,h2⟩
end
end Go.KX
namespace Go.KX
open Go.RowKit Go.KL
section
variable {tb:Tr AF} {ex exY:Run} {C:Chk} {P:Program}
theorem wDY:∀ (l1 l2:List AO) (σ:Tr AV) (h:AH) (r:Tr AV × AH),wAc tb ex exY (l1 ++ l2) σ h=some r->∃ σ1 h1,wAc tb ex exY l1 σ h=some (σ1,h1)/\wAc tb ex exY l2 σ1 h1=some r
 | [],l2,σ,h,r,hr=>⟨σ,h,wAy _ _ _ _ _,hr⟩
 | a :: l1,l2,σ,h,r,hr=>by
  rw [nJ,wBA] at hr
  rw [wBA]
  cases hw:wCg σ a.grd with
  | true =>
   rw [hw] at hr
   simp only at hr ⊢
   cases hq:opK a.kd a.op tb ex exY σ h with
   | none=>rw [hq] at hr;cases hr
   | some q =>
    rw [hq] at hr
    exact wDY l1 l2 _ _ r hr
  | false =>
   rw [hw] at hr
   exact wDY l1 l2 _ _ r hr
theorem wIE {d:Option Pos} {σ:Tr AV} {v:AV} {p:Pos}:evA (wGE d σ v) (.t p)=if d=some p then v else evA σ (.t p):=by
 cases d with
 | none =>
  rw [if_neg (by simp)]
  rfl
 | some q =>
  show evA (σ.set q v) (.t p)=_
  rw [wKE,Tr.get_set]
  by_cases e:p=q
  ·subst e
   rw [if_pos rfl,if_pos rfl]
   rfl
  ·rw [if_neg e,if_neg (fun h=>e (by cases h;rfl)),wKE]
theorem wCp:∀ (l:List AO) (σ:Tr AV) (h:AH) (σ':Tr AV) (h':AH),wAc tb ex exY l σ h=some (σ',h')->∀ p,(∀ a ∈ l,a.dst ≠ some p)->evA σ' (.t p)=evA σ (.t p)
 | [],σ,h,σ',h',hr,p,_=>by
  rw [wAy] at hr
  cases hr
  rfl
 | a :: l,σ,h,σ',h',hr,p,hp=>by
  have hn:a.dst ≠ some p:=hp a (by simp)
  rw [wBA] at hr
  cases hw:wCg σ a.grd with
  | true =>
   rw [hw] at hr
   simp only at hr
   cases hq:opK a.kd a.op tb ex exY σ h with
   | none=>rw [hq] at hr;cases hr
   | some q =>
    rw [hq] at hr
    rw [wCp l _ _ _ _ hr p fun b hb=>hp b (by simp [hb]),wIE,if_neg hn]
  | false =>
   rw [hw] at hr
   rw [wCp l _ _ _ _ hr p fun b hb=>hp b (by simp [hb]),wIE,if_neg hn]
variable {μ μ':Mu} {h:AH} {w:World}
theorem Sim.adopt {c:Cl} {B:AB} (S:Sim C P μ h w) (hlt:c.1 < w.heap.size) (hn:∀ p d,μ p=some d->d.1 ≠ c.1) (hB:AbR C P (μ.add h.nx c) w c B):Sim C P (μ.add h.nx c) (h.push B) w:=by
 have hn0:=S.nx h.nx (nH _)
 have hle:=Mu.add_le (c:=c) hn0
 refine ⟨?_,?_,?_,?_⟩
 ·intro p hp
  have hp:h.nx.succ.nat <= p.nat:=hp
  rw [Pos.nat_succ] at hp
  unfold Mu.add
  rw [if_neg (fun e=>by subst e;omega)]
  exact S.nx p (by omega)
 ·intro p d hd
  unfold Mu.add at hd
  split at hd
  ·cases hd;exact hlt
  ·exact S.lt p d hd
 ·intro p q a b d e hp hq la lb hd he hde
  simp only [AH.push,Tr.get_set] at hp hq
  unfold Mu.add at hd he
  split at hd <;> split at he
  ·rename_i h1 h2;rw [h1,h2]
  ·cases hd;exact absurd hde.symm (hn _ _ he)
  ·cases he;exact absurd hde (hn _ _ hd)
  ·rename_i h1 h2
   rw [if_neg h1] at hp
   rw [if_neg h2] at hq
   exact S.inj p q a b d e hp hq la lb hd he hde
 ·intro p b hb
  simp only [AH.push,Tr.get_set] at hb
  split at hb
  ·rename_i e
   subst e
   cases hb
   exact ⟨c,Mu.add_same _ _ _,hB⟩
  ·rename_i e
   obtain ⟨d,h1,h2⟩:=S.at_ p b hb
   exact ⟨d,hle _ _ h1,h2.mono hle⟩
end
end Go.KX
namespace Go.KX
open Go.RowKit Go.KL
theorem wFp:∀ {l:List AOd} {p:Pos},AOd.t p ∈ l->p ∈ wCZ l
 | .t q :: l,p,h=>by
  rcases nG.1 h with h | h
  ·cases h;simp [wCZ]
  ·simp only [wCZ,nG];exact .inr (wFp h)
 | .c v :: l,p,h=>by
  rcases nG.1 h with h | h
  ·cases h
  ·show p ∈ wCZ l
   exact wFp h
noncomputable def rst (σ:Tr AV):List Pos->Tr AV
 | []=>.e
 | p :: ps=>(rst σ ps).set p (evA σ (.t p))
theorem wGx (σ:Tr AV):∀ (ps:List Pos) (p:Pos),evA (rst σ ps) (.t p)=if p ∈ ps then evA σ (.t p) else u
 | [],p=>by rw [if_neg (by simp)];rfl
 | q :: ps,p=>by
  show evA ((rst σ ps).set q (evA σ (.t q))) (.t p)=_
  rw [wKE,Tr.get_set]
  by_cases e:p=q
  ·subst e
   rw [if_pos rfl,if_pos (by simp)]
   rfl
  ·rw [if_neg e,<- wKE,wGx σ ps p]
   simp [e]
open Classical in
noncomputable def rsl (σ:Env) (ps:List Pos):Env:=fun d=>if ∃ p ∈ ps,p.nat - 1=d then σ d else undef
theorem wGy {μ:Mu} {σA:Tr AV} {σ:Env} {ps:List Pos} (h:∀ p ∈ ps,Rv μ (evA σA (.t p)) (σ (p.nat - 1))):EnvR μ (rst σA ps) (rsl σ ps):=by
 intro p
 rw [wGx]
 unfold rsl
 by_cases hp:p ∈ ps
 ·rw [if_pos hp,if_pos ⟨p,hp,rfl⟩]
  exact h p hp
 ·rw [if_neg hp,if_neg]
  ·exact wNE μ
  ·rintro ⟨q,hq,e⟩
   have h1:=q.nat_pos
   have h2:=p.nat_pos
   have:q=p:=Pos.nat_inj (by omega)
   exact hp (this ▸ hq)
section
variable {tb:Tr AF} {ex exY:Run} {C:Chk} {P:Program} {μ:Mu} {σA:Tr AV} {σ:Env} {h h':AH} {v:AV} {o:Oper} {a:AOp} {w:World}
theorem wLE (hr:opY a tb ex exY σA h=some (v,h')):opY a tb ex exY (rst σA (wCZ (wBe a))) h=some (v,h'):=by
 rw [<- hr]
 refine wNe a (fun x hx=>?_) h
 cases x with
 | t p=>rw [wGx,if_pos (wFp hx)]
 | c v=>rfl
theorem wRT (hs:wBp o=false) (hb:Sub a o):execOp (ev (rsl σ (wCZ (wBe a)))) o=execOp (ev σ) o:=by
 refine execOp_congr o (wMO hs) fun y hy=>?_
 cases y with
 | tmp t =>
  show rsl σ (wCZ (wBe a)) t=σ t
  unfold rsl
  rw [if_pos (hb t hy)]
 | _=>rfl
theorem wIF (hs:wBp o=false) (hb:Sub a o) {v:Value} {w':World}:Runs P (rsl σ (wCZ (wBe a))) w o v w' ↔ Runs P σ w o v w':=by
 unfold Runs;rw [wRT hs hb]
theorem wGz (hs:wBp o=false) (hb:Sub a o) (hk:kdA a=3) (hc:wGs P a o.op=true) (hr:opY a tb ex exY σA h=some (v,h')) (hv:∀ p ∈ wCZ (wBe a),Rv μ (evA σA (.t p)) (σ (p.nat - 1))) :
  ∃ cv,Rv μ v cv/\∀ w,Runs P σ w o cv w:=by
 obtain ⟨_,h2⟩:=wHg (tb:=tb) (ex:=ex) (exY:=exY) hk hc _ _ _ _ (wLE hr)
 obtain ⟨cv,g1,g2⟩:=h2 μ _ (wGy hv)
 exact ⟨cv,g1,fun w=>(wIF hs hb).1 (g2 o w rfl)⟩
theorem wNo (hs:wBp o=false) (hb:Sub a o) (hk:kdA a=1 \/ kdA a=3) (hc:wGs P a o.op=true) (hr:opY a tb ex exY σA h=some (v,h')) (S:Sim C P μ h w) (hv:∀ p ∈ wCZ (wBe a),Rv μ (evA σA (.t p)) (σ (p.nat - 1))) :
  ∃ cv,Rv μ v cv/\Runs P σ w o cv w:=by
 obtain ⟨_,h2⟩:=wHh (C:=C) (tb:=tb) (ex:=ex) (exY:=exY) hk hc _ _ _ _ (wLE hr)
 obtain ⟨cv,g1,g2⟩:=h2 μ _ w (wGy hv) S
 exact ⟨cv,g1,(wIF hs hb).1 (g2 o rfl w (Keep.refl w _))⟩
theorem wLF {op:Op} (hk:wMJ a=true) (hc:wGs P a op=true):OkA C P op (opY a tb ex exY):=by
 cases a <;> first
  | (simp [wMJ] at hk;done)
  | exact a_new hc | exact a_box hc | exact a_mkm hc | exact a_mks hc | exact wSk hc
theorem wLs (hs:wBp o=false) (hb:Sub a o) (hk:wMJ a=true) (hc:wGs P a o.op=true) (hr:opY a tb ex exY σA h=some (v,h')) (hv:∀ p ∈ wCZ (wBe a),Rv μ (evA σA (.t p)) (σ (p.nat - 1))) :
  ∃ (B:AB) (vf:Pos->AV) (ob:Obj) (val:Nat->Value),h'=h.push B/\v=vf h.nx/\wLk B/\(∀ w:World,Runs P σ w o (val w.heap.size) (w.alloc ob)) /\
   (∀ μ' (w:World) b,μ.Le μ'->w.heap[b]?=some ob->AbR C P μ' w ⟨b,0,g0⟩ B)/\∀ μ' p b,μ' p=some ⟨b,0,g0⟩->Rv μ' (vf p) (val b):=by
 obtain ⟨B,vf,e1,e2,_,e4,e5⟩:=wLF (C:=C) (tb:=tb) (ex:=ex) (exY:=exY) hk hc _ _ _ _ (wLE hr)
 obtain ⟨ob,val,g1,g2,g3⟩:=e5 μ _ (wGy hv) o rfl
 exact ⟨B,vf,ob,val,e1,e2,e4,fun w=>(wIF hs hb).1 (g1 w),g2,g3⟩
end
end Go.KX
namespace Go.KX
open Go.RowKit Go.KL
section
variable {tb:Tr AF} {ex exY:Run} {P:Program}
theorem wLG {s t:List AO} {a:AO} {σ0:Tr AV} {h0:AH} {r:Tr AV × AH} (hr:wAc tb ex exY (s ++ a :: t) σ0 h0=some r) :
  ∃ σ1 h1,wAc tb ex exY s σ0 h0=some (σ1,h1) /\
   ((wCg σ1 a.grd=true/\∃ v h2,opK a.kd a.op tb ex exY σ1 h1=some (v,h2)/\wAc tb ex exY t (wGE a.dst σ1 v) h2=some r) \/
    (wCg σ1 a.grd=false/\wAc tb ex exY t (wGE a.dst σ1 u) h1=some r)):=by
 obtain ⟨σ1,h1,e1,e2⟩:=wDY s (a :: t) σ0 h0 r hr
 refine ⟨σ1,h1,e1,?_⟩
 rw [wBA] at e2
 cases hw:wCg σ1 a.grd with
 | true =>
  rw [hw] at e2
  simp only at e2
  cases hq:opK a.kd a.op tb ex exY σ1 h1 with
  | none=>rw [hq] at e2;cases e2
  | some q =>
   rw [hq] at e2
   exact .inl ⟨rfl,q.1,q.2,rfl,e2⟩
 | false =>
  rw [hw] at e2
  exact .inr ⟨rfl,e2⟩
theorem wDu {l:List Oper} {S:Nat->Bool} (hdc:∀ k,k < l.length->S k=true->∀ j ∈ prI l k,S j=true) {x i:Nat} (hp:∀ j ∈ prI l i,S j=true) (h:wKz l x i):S x=true:=h S hdc hp
variable {N:Nat} {l:List Oper} {os s t:List AO} {a:AO} {σ0 σ1 σf:Tr AV} {h0 h1 hf:AH}
theorem wKN (Z:ZOK P N l os) (e:os=s ++ a :: t) {v:AV} {σ2:Tr AV} {h2:AH} (hr:wAc tb ex exY t (wGE a.dst σ2 v) h2=some (σf,hf)) {p:Pos} (hp:a.dst=some p):evA σf (.t p)=v:=by
 rw [wCp t _ _ _ _ hr p fun b hb=>Z.wr s a t e p hp b (nO _ hb),wIE,if_pos hp]
theorem wSp (Z:ZOK P N l os) (e:os=s ++ a :: t) (hr:wAc tb ex exY (a :: t) σ1 h1=some (σf,hf)) {p:Pos} (hp:p ∈ wCH a):evA σf (.t p)=evA σ1 (.t p) :=
 wCp (a :: t) _ _ _ _ hr p fun b hb=>Z.rd s a t e p hp b hb
end
end Go.KX
namespace Go.KX
open Go.RowKit Go.KL
section
variable {tb:Tr AF} {ex exY:Run} {P:Program} {N:Nat} {l:List Oper} {os s t:List AO} {a:AO} {σ0 σ1 σA σf:Tr AV} {h0 h h1 hf:AH} {μ μS:Mu} {σ σ':Env} {w:World} {o:Oper}
theorem wCq:∀ {s s' t t':List AO} {a:AO},(s ++ a :: t).Pairwise (fun a b=>a.ix ≠ b.ix)->s ++ a :: t=s' ++ a :: t'->s=s'/\t=t'
 | [],[],t,t',a,_,e=>by
  simp only [nS,nV,true_and] at e
  exact ⟨rfl,e⟩
 | [],b :: s',t,t',a,hp,e=>by
  simp only [nS,nJ,nV] at e
  obtain ⟨rfl,rfl⟩:=e
  rw [nS] at hp
  exact absurd rfl ((nR.1 hp).1 a (by simp))
 | b :: s,[],t,t',a,hp,e=>by
  simp only [nS,nJ,nV] at e
  obtain ⟨rfl,rfl⟩:=e
  rw [nJ] at hp
  exact absurd rfl ((nR.1 hp).1 b (by simp))
 | b :: s,b' :: s',t,t',a,hp,e=>by
  simp only [nJ,nV] at e
  rw [nJ] at hp
  obtain ⟨h1,h2⟩:=wCq (nR.1 hp).2 e.2
  exact ⟨by rw [e.1,h1],h2⟩
theorem wEf (A:AOK P N l a o) (hs:Sub a.op o):∀ d ∈ wEH l o,∃ p ∈ wCH a,p.nat - 1=d:=by
 intro d hd
 unfold wEH at hd
 rcases nK.1 hd with hd | hd
 ·obtain ⟨y,h1,h2⟩:=nq.1 hd
  cases y with
  | tmp t =>
   simp only [Option.some.injEq] at h2
   subst h2
   obtain ⟨p,h3,h4⟩:=hs t (by simpa using h1)
   exact ⟨p,nT _ h3,h4⟩
  | _=>simp at h2
 ·rcases A.grd with ⟨_,h2⟩ | ⟨p,b,j,d',h1,h2,h3,h4⟩
  ·rw [h2] at hd;simp at hd
  ·rw [h2] at hd
   simp only [h3,Option.toList_some,nZ] at hd
   subst hd
   exact ⟨p,nO _ (by rw [h1];simp),h4.symm⟩
structure Pend (tb:Tr AF) (ex exY:Run) (P:Program) (l:List Oper) (os:List AO) (σ0:Tr AV) (h0:AH) (σf:Tr AV) (w0:World) (μ μS:Mu) (σ:Env) (w:World) (a:AO) (o:Oper) (p:Pos):Prop where
 get:l[a.ix]?=some o
 dst:a.dst=some p
 fact:(wanted l σ o=false/\σ (p.nat - 1)=undef/\evA σf (.t p)=u) \/ (wanted l σ o=true /\
  (((a.kd=1 \/ a.kd=3 \/ 8 <= a.kd)/\Rv μ (evA σf (.t p)) (σ (p.nat - 1))) \/
   (a.kd=6/\Rv μS (evA σf (.t p)) (σ (p.nat - 1))/\∃ w1 w2,Runs P σ w1 o (σ (p.nat - 1)) w2) \/
   (a.kd=4/\Rv μS (evA σf (.t p)) (σ (p.nat - 1))/\∃ w1 ob s1 t1 σ1 h1,Runs P σ w1 o (σ (p.nat - 1)) (w1.alloc ob)/\w.heap[w1.heap.size]?=some ob/\w0.heap.size <= w1.heap.size /\
    os=s1 ++ a :: t1/\wAc tb ex exY s1 σ0 h0=some (σ1,h1)/\μS h1.nx=some ⟨w1.heap.size,0,g0⟩/\∀ q c,μS q=some c->c.1=w1.heap.size->q=h1.nx)))
theorem wNp {tb:Tr AF} {ex exY:Run} {k:Nat} {op:AOp} {σ:Tr AV} {h h':AH} {v:AV} (hk:k ≠ 2) (hr:opK k op tb ex exY σ h=some (v,h')):opY op tb ex exY σ h=some (v,h'):=by
 have hb:na k 2=false:=by
  cases hb:na k 2 with
  | false=>rfl
  | true=>exact absurd (nA hb) hk
 have:opK k op=opY op:=by unfold opK;rw [hb]
 rwa [this] at hr
theorem wLt {k:Nat} (h:8 <= k):¬ wCE k=true:=by
 unfold wCE
 simp only [Bool.or_eq_true,not_or]
 exact ⟨fun e=>by have:=nA e;omega,fun e=>by have:=nA e;omega⟩
theorem wNq {w:World} {a b:Obj} (h:w.alloc a=w.alloc b):a=b:=by
 have h1:=heap_alloc_new w a
 rw [h,heap_alloc_new] at h1
 exact (nD h1).symm
theorem wSq (Z:ZOK P N l os) (e:os=s ++ a :: t) {μ0:Mu} {w0:World} {fl:Nat} (hs:wAc tb ex exY s σ0 h0=some (σA,h)) (hr:wAc tb ex exY (a :: t) σA h=some (σf,hf))
  (E:Ext μ0 fl w0 μ w) (S:Sim (CC P) P μ h w) (hE:EnvR μ σA σ') (hle:μ.Le μS) {p:Pos} (Pd:Pend tb ex exY P l os σ0 h0 σf w0 μ μS σ w a o p) (hag:∀ q ∈ wCH a,σ (q.nat - 1)=σ' (q.nat - 1)) :
  ∃ σB hB μB,wAc tb ex exY (s ++ [a]) σ0 h0=some (σB,hB)/\wAc tb ex exY t σB hB=some (σf,hf)/\μ.Le μB/\μB.Le μS/\Ext μ0 fl w0 μB w/\Sim (CC P) P μB hB w/\hB.fl=h.fl/\EnvR μB σB (upd σ' (p.nat - 1) (σ (p.nat - 1)))/\(a.kd=4->wanted l σ o=true->μB h.nx ≠ none):=by
 have ha:a ∈ os:=by rw [e];simp
 obtain ⟨o',A⟩:=wCx (Z.ao a ha)
 have eo:o'=o:=by have:=A.get;rw [Pd.get] at this;exact (nD this).symm
 subst eo
 have hsel:=Z.sel a ha _ A.get
 have hsub:=Z.sub a ha _ A.get
 have hagr:Agr l o' σ σ':=fun d hd=>by
  obtain ⟨q,h1,rfl⟩:=wEf A hsub d hd
  exact hag q h1
 have hw:=wIC A hE
 have hwσ:wanted l σ o'=wCg σA a.grd:=(wCF hagr).trans hw
 obtain ⟨pd,dd,d1,d2,d3,_⟩:∃ p d,a.dst=some p/\o'.dst=some d/\d=p.nat - 1/\d < N:=by
  rcases A.dst with ⟨h1,_⟩ | h
  ·rw [Pd.dst] at h1;cases h1
  ·exact h
 have ep:pd=p:=by rw [Pd.dst] at d1;exact (nD d1).symm
 subst ep
 have eput:∀ cv,put' σ' o' cv=upd σ' (pd.nat - 1) cv:=fun cv=>by unfold put';rw [d2,d3]
 obtain ⟨σx,hx,q1,q2⟩:=wLG (s:=[]) (a:=a) (t:=t) (σ0:=σA) (h0:=h) (by rw [nS];exact hr)
 rw [wAy] at q1
 cases q1
 have split1:∀ {σB hB},(match wCg σA a.grd with | true=>(match opK a.kd a.op tb ex exY σA h with | some r=>some (wGE a.dst σA r.1,r.2) | none=>none) | false=>some (wGE a.dst σA u,h))=some (σB,hB)->wAc tb ex exY (s ++ [a]) σ0 h0=some (σB,hB):=by
  intro σB hB hq
  have app:∀ (l1 l2:List AO) (x:Tr AV) (y:AH) (x1:Tr AV) (y1:AH),wAc tb ex exY l1 x y=some (x1,y1)->wAc tb ex exY (l1 ++ l2) x y=wAc tb ex exY l2 x1 y1:=by
   intro l1
   induction l1 with
   | nil=>intro l2 x y x1 y1 h;rw [wAy] at h;cases h;rfl
   | cons b l1 ih =>
    intro l2 x y x1 y1 h
    rw [nJ,wBA]
    rw [wBA] at h
    cases hb:wCg x b.grd with
    | true =>
     rw [hb] at h
     simp only at h ⊢
     cases hq:opK b.kd b.op tb ex exY x y with
     | none=>rw [hq] at h;cases h
     | some r=>rw [hq] at h;exact ih l2 _ _ _ _ h
    | false =>
     rw [hb] at h
     exact ih l2 _ _ _ _ h
  rw [app s [a] _ _ _ _ hs,wBA]
  cases hb:wCg σA a.grd with
  | true =>
   rw [hb] at hq
   simp only at hq ⊢
   cases hk:opK a.kd a.op tb ex exY σA h with
   | none=>rw [hk] at hq;cases hq
   | some r =>
    rw [hk] at hq
    cases hq
    exact wAy _ _ _ _ _
  | false =>
   rw [hb] at hq
   cases hq
   rw [wAy]
 rcases q2 with ⟨g1,v,h2,g2,g3⟩ | ⟨g1,g3⟩
 ·have hv:evA σf (.t pd)=v:=wKN Z e g3 Pd.dst
  have hrun:=split1 (σB:=wGE a.dst σA v) (hB:=h2) (by rw [g1];simp only;rw [g2])
  rcases Pd.fact with ⟨f1,_⟩ | ⟨_,⟨fk,f1⟩ | ⟨fk,f1,w1,w2,f2⟩ | ⟨fk,f1,w1,ob,s1,t1,σ1,h1,f2,f3,f4,f5,f6,f7,f8⟩⟩
  ·rw [hwσ,g1] at f1;cases f1
  ·have gY:opY a.op tb ex exY σA h=some (v,h2):=wNp (by omega) g2
   have hk:kdA a.op=1 \/ kdA a.op=3:=by
    rcases fk with fk | fk | fk
    ·exact A.k1 fk
    ·exact .inr (A.k3 fk)
    ·rcases Z.kd a ha with hh | ⟨_,hh | hh | hh | hh | hh⟩
     ·exact absurd hh (wLt fk)
     ·omega
     ·omega
     ·omega
     ·omega
     ·exact .inl hh.2
   obtain ⟨e1,_⟩:=wHh (C:=CC P) hk A.op _ _ _ _ gY
   subst e1
   rw [hv] at f1
   exact ⟨_,_,μ,hrun,g3,Mu.Le.refl μ,hle,E,S,rfl,by rw [<- eput];exact wEB A hE f1,fun h4 _=>by omega⟩
  ·have gY:opY a.op tb ex exY σA h=some (v,h2):=by rw [fk] at g2;exact g2
   have hk:kdA a.op=3:=by
    rcases Z.kd a ha with hh | ⟨_,hh | hh | hh | hh | hh⟩
    ·rw [fk] at hh;exact absurd hh (by decide)
    ·omega
    ·omega
    ·exact hh.2
    ·omega
    ·omega
   obtain ⟨e1,e2⟩:=wHg hk A.op _ _ _ _ gY
   subst e1
   obtain ⟨cv,c1,c2⟩:=e2 μ σ' hE
   have:=Runs.det ((Runs.agr hsel hagr).2 (c2 o' w1 rfl)) f2
   rw [<- eput,<- this.1]
   exact ⟨_,_,μ,hrun,g3,Mu.Le.refl μ,hle,E,S,rfl,wEB A hE c1,fun h4 _=>by omega⟩
  ·have gY:opY a.op tb ex exY σA h=some (v,h2):=by rw [fk] at g2;exact g2
   have hk:wMJ a.op=true:=by
    rcases Z.kd a ha with hh | ⟨_,hh | hh | hh | hh | hh⟩
    ·rw [fk] at hh;exact absurd hh (by decide)
    ·omega
    ·omega
    ·omega
    ·exact hh.2
    ·omega
   obtain ⟨B,vf,e1,e2,_,_,e5⟩:=wLF (C:=CC P) hk A.op _ _ _ _ gY
   obtain ⟨ob',val,c1,c2,c3⟩:=e5 μ σ' hE o' rfl
   obtain ⟨k1,k2⟩:=Runs.det ((Runs.agr hsel hagr).2 (c1 w1)) f2
   have k2:=wNq k2
   subst k2
   have es:s1=s:=(wCq (f5 ▸ Z.one) (f5.symm.trans e)).1
   subst es
   rw [hs] at f6
   cases f6
   have hn0:=S.nx h.nx (nH _)
   have hadd:=Mu.add_le (c:=(⟨w1.heap.size,0,g0⟩:Cl)) hn0
   have hlt:w1.heap.size < w.heap.size:=wAT f3
   subst e1 e2
   have hv':Rv (μ.add h.nx ⟨w1.heap.size,0,g0⟩) (vf h.nx) (σ (pd.nat - 1)):=by
    rw [<- k1]
    exact c3 _ _ _ (Mu.add_same _ _ _)
   refine ⟨_,_,μ.add h.nx ⟨w1.heap.size,0,g0⟩,hrun,g3,hadd,?_,⟨E.mono.trans hadd,?_,E.keep⟩,S.adopt hlt ?_ (c2 _ w _ hadd f3),rfl,?_,fun _ _=>by rw [Mu.add_same];simp⟩
   ·intro q d hq
    unfold Mu.add at hq
    split at hq
    ·rename_i eq
     subst eq
     cases hq
     exact f7
    ·exact hle q d hq
   ·intro q c hq
    unfold Mu.add at hq
    split at hq
    ·cases hq
     exact .inr (.inr f4)
    ·exact E.new q c hq
   ·intro q d hq hd
    have:=f8 q d (hle q d hq) hd
    subst this
    rw [hn0] at hq
    cases hq
   ·rw [<- eput]
    exact wEB A (hE.mono hadd) hv'
 ·have hrun:=split1 (σB:=wGE a.dst σA u) (hB:=h) (by rw [g1])
  rcases Pd.fact with ⟨_,f2,_⟩ | ⟨f1,_⟩
  ·refine ⟨_,_,μ,hrun,g3,Mu.Le.refl μ,hle,E,S,rfl,?_,fun _ hw'=>by rw [hwσ,g1] at hw';cases hw'⟩
   rw [f2,<- eput]
   exact wEB A hE (wNE μ)
  ·rw [hwσ,g1] at f1;cases f1
structure JS (tb:Tr AF) (ex exY:Run) (P:Program) (l:List Oper) (os:List AO) (σ0:Tr AV) (h0:AH) (σf:Tr AV) (hf:AH) (μ0:Mu) (w0:World) (S:Nat->Bool) (σ:Env) (w:World) (s t:List AO) (σA:Tr AV) (h:AH) (σ':Env) (μ μS:Mu):Prop where
 e:os=s ++ t
 hs:wAc tb ex exY s σ0 h0=some (σA,h)
 hr:wAc tb ex exY t σA h=some (σf,hf)
 inS:∀ a ∈ s,S a.ix=true
 free:∀ a ∈ t,S a.ix=true->wCE a.kd=false
 E:Ext μ0 h0.fl.nat w0 μ w
 sim:Sim (CC P) P μ h w
 fl:h.fl=h0.fl
 env:EnvR μ σA σ'
 ag:∀ q:Pos,(∀ a ∈ t,S a.ix=true->a.dst ≠ some q)->σ (q.nat - 1)=σ' (q.nat - 1)
 le:μ.Le μS
 nm:∀ q c,μS q=some c->μ q=some c \/ ∃ a o s1 t1 σ1 h1,a ∈ t/\S a.ix=true/\l[a.ix]?=some o/\wanted l σ o=true/\a.kd=4/\os=s1 ++ a :: t1/\wAc tb ex exY s1 σ0 h0=some (σ1,h1)/\q=h1.nx
 pd:∀ a ∈ t,S a.ix=true->∃ o p,Pend tb ex exY P l os σ0 h0 σf w0 μ μS σ w a o p
theorem Pend.mono {μB:Mu} {w0:World} {p:Pos} (h:Pend tb ex exY P l os σ0 h0 σf w0 μ μS σ w a o p) (hm:μ.Le μB):Pend tb ex exY P l os σ0 h0 σf w0 μB μS σ w a o p:=by
 refine ⟨h.get,h.dst,?_⟩
 rcases h.fact with f | ⟨f,⟨f1,f2⟩ | f1 | f1⟩
 ·exact .inl f
 ·exact .inr ⟨f,.inl ⟨f1,f2.mono hm⟩⟩
 ·exact .inr ⟨f,.inr (.inl f1)⟩
 ·exact .inr ⟨f,.inr (.inr f1)⟩
theorem JS.catch1 (Z:ZOK P N l os) {μ0:Mu} {w0:World} {S:Nat->Bool} (J:JS tb ex exY P l os σ0 h0 σf hf μ0 w0 S σ w s (a :: t) σA h σ' μ μS) (ha:S a.ix=true) :
  ∃ σB hB σ'' μB,JS tb ex exY P l os σ0 h0 σf hf μ0 w0 S σ w (s ++ [a]) t σB hB σ'' μB μS:=by
 obtain ⟨o,p,Pd⟩:=J.pd a (by simp) ha
 have hag:∀ q ∈ wCH a,σ (q.nat - 1)=σ' (q.nat - 1):=fun q hq=>J.ag q fun b hb _=>Z.rd s a t J.e q hq b hb
 obtain ⟨σB,hB,μB,c1,c2,c3,c4,c5,c6,c7,c8,c9⟩:=wSq Z J.e J.hs J.hr J.E J.sim J.env J.le Pd hag
 have hne:∀ b ∈ t,b.ix ≠ a.ix:=fun b hb e=>by
  have:=Z.one
  rw [J.e] at this
  exact (nR.1 (nU.1 this).2.1).1 b hb e.symm
 refine ⟨σB,hB,_,μB,by rw [J.e];simp,c1,c2,fun b hb=>?_,fun b hb=>J.free b (by simp [hb]),c5,c6,c7.trans J.fl,c8,fun q hq=>?_,c4,fun q c hq=>?_,fun b hb hS=>?_⟩
 ·rcases nK.1 hb with hb | hb
  ·exact J.inS b hb
  ·rw [nZ.1 hb];exact ha
 ·by_cases e:q=p
  ·subst e
   rw [wCd]
  ·rw [wDI _ _ (fun h=>e (Pos.nat_inj (by have:=q.nat_pos;have:=p.nat_pos;omega)))]
   refine J.ag q fun b hb hS=>?_
   rcases nG.1 hb with rfl | hb
   ·rw [Pd.dst]
    intro h
    cases h
    exact e rfl
   ·exact hq b hb hS
 ·rcases J.nm q c hq with h1 | ⟨b,ob,s1,t1,σ1,h1,k1,k2,k3,k4,k5,k6,k7,k8⟩
  ·exact .inl (c3 _ _ h1)
  ·rcases nG.1 k1 with rfl | k1
   ·left
    have hs1:s1=s:=(wCq (k6 ▸ Z.one) (k6.symm.trans J.e)).1
    subst hs1
    rw [J.hs] at k7
    cases k7
    subst k8
    rw [Pd.get] at k3
    cases k3
    have:=c9 k5 k4
    cases hm:μB h.nx with
    | none=>exact absurd hm this
    | some c' =>
     have:=c4 _ _ hm
     rw [hq] at this
     exact this.symm
   ·exact .inr ⟨b,ob,s1,t1,σ1,h1,k1,k2,k3,k4,k5,k6,k7,k8⟩
 ·obtain ⟨o',p',h'⟩:=J.pd b (by simp [hb]) hS
  exact ⟨o',p',h'.mono c3⟩
end
end Go.KX
namespace Go.KX
open Go.RowKit Go.KL
section
variable {tb:Tr AF} {ex exY:Run} {P:Program} {N:Nat} {l:List Oper} {os s t:List AO} {a:AO} {σ0 σA σf:Tr AV} {h0 h hf:AH} {μ μS:Mu} {σ σ':Env} {w:World} {o:Oper}
theorem wDa:∀ (l1 l2:List AO) (x:Tr AV) (y:AH) (x1:Tr AV) (y1:AH),wAc tb ex exY l1 x y=some (x1,y1)->wAc tb ex exY (l1 ++ l2) x y=wAc tb ex exY l2 x1 y1
 | [],l2,x,y,x1,y1,h=>by rw [wAy] at h;cases h;rfl
 | b :: l1,l2,x,y,x1,y1,h=>by
  rw [nJ,wBA]
  rw [wBA] at h
  cases hb:wCg x b.grd with
  | true =>
   rw [hb] at h
   simp only at h ⊢
   cases hq:opK b.kd b.op tb ex exY x y with
   | none=>rw [hq] at h;cases h
   | some r=>rw [hq] at h;exact wDa l1 l2 _ _ _ _ h
  | false =>
   rw [hb] at h
   exact wDa l1 l2 _ _ _ _ h
theorem wRU (HE:FrX ex) (HY:FrX exY) (Z:ZOK P N l os) (e:os=s ++ t) (hs:wAc tb ex exY s σ0 h0=some (σA,h)) {b:AO} (hb:b ∈ t) {s1 t1:List AO} {σ1:Tr AV} {h1:AH} (e1:os=s1 ++ b :: t1) (hr:wAc tb ex exY s1 σ0 h0=some (σ1,h1)):h.nx.nat <= h1.nx.nat:=by
 obtain ⟨r,r',rfl⟩:=nM hb
 have es:s1=s ++ r:=(wCq (e1 ▸ Z.one) (e1.symm.trans (e.trans (nN _ _ _).symm))).1
 subst es
 rw [wDa s r _ _ _ _ hs] at hr
 exact (wHk HE HY _ _ _ _ _ hr).nx
theorem wGO (Z:ZOK P N l os) {S:Nat->Bool} (hdc:∀ k,k < l.length->S k=true->∀ j ∈ prI l k,S j=true) (ha:a ∈ os) (hS:S a.ix=false) {b:AO} (hb:b ∈ os) (hbS:S b.ix=true) (A:AOK P N l a o) {ob:Oper} (hob:l[b.ix]?=some ob) (v:Value):Agr l ob σ (put' σ o v):=by
 obtain ⟨ob',B⟩:=wCx (Z.ao b hb)
 have eo:ob'=ob:=by have:=B.get;rw [hob] at this;exact (nD this).symm
 subst eo
 intro d hd
 obtain ⟨p,hp,rfl⟩:=wEf B (Z.sub b hb _ B.get) d hd
 symm
 refine wGT fun dd hdd e=>?_
 rcases A.dst with ⟨_,h2⟩ | ⟨q,d',h1,h2,h3,_⟩
 ·rw [h2] at hdd;cases hdd
 ·rw [h2] at hdd
  have hdd:=nD hdd
  have eq:q=p:=Pos.nat_inj (by have:=q.nat_pos;have:=p.nat_pos;have:q.nat - 1=p.nat - 1:=h3.symm.trans (hdd.trans e);omega)
  subst eq
  have:=Z.rdS b hb q hp a ha h1
  have hlt:b.ix < l.length:=(nP.1 hob).1
  have:=wDu hdc (hdc _ hlt hbS) this
  rw [hS] at this
  cases this
theorem JS.fixed (HC:wGB (CC P) P tb ex) (HY':wFD (CC P) P exY) (HE:FrX ex) (HY:FrX exY) (Z:ZOK P N l os) {μ0:Mu} {w0:World} {S:Nat->Bool} (J:JS tb ex exY P l os σ0 h0 σf hf μ0 w0 S σ w s (a :: t) σA h σ' μ μS) (hfix:wCE a.kd=true) (hS:S a.ix=false)
  (hdc:∀ k,k < l.length->S k=true->∀ j ∈ prI l k,S j=true) (A:AOK P N l a o) :
  Step1 P l o σ w fun v w'=>∃ σB hB σ'' μB μT,JS tb ex exY P l os σ0 h0 σf hf μ0 w0 (fun k=>k == a.ix || S k) (put' σ o v) w' (s ++ [a]) t σB hB σ'' μB μT:=by
 have ha:a ∈ os:=by rw [J.e];simp
 have hsel:=Z.sel a ha _ A.get
 have hag:∀ q ∈ wCH a,σ (q.nat - 1)=σ' (q.nat - 1):=fun q hq=>J.ag q fun b hb _=>Z.rd s a t J.e q hq b hb
 have hagr:Agr l o σ σ':=fun d hd=>by
  obtain ⟨q,h1,rfl⟩:=wEf A (Z.sub a ha _ A.get) d hd
  exact hag q h1
 have hw:=wIC A J.env
 have main:∀ (v:AV) (cv:Value) (hB:AH) (w':World) (μB:Mu),wAc tb ex exY (s ++ [a]) σ0 h0=some (wGE a.dst σA v,hB)->wAc tb ex exY t (wGE a.dst σA v) hB=some (σf,hf) ->
   Ext μ h.fl.nat w μB w'->Sim (CC P) P μB hB w'->EnvR μB (wGE a.dst σA v) (put' σ' o cv)->hB.fl=h.fl ->
   ∃ σB hB σ'' μB μT,JS tb ex exY P l os σ0 h0 σf hf μ0 w0 (fun k=>k == a.ix || S k) (put' σ o cv) w' (s ++ [a]) t σB hB σ'' μB μT:=by
  intro v cv hB w' μB r1 r2 E' S' hE' hfl
  have hne:∀ b ∈ t,b.ix ≠ a.ix:=fun b hb e=>by
   have:=Z.one
   rw [J.e] at this
   exact (nR.1 (nU.1 this).2.1).1 b hb e.symm
  have hSb:∀ b ∈ t,(b.ix == a.ix || S b.ix)=true->S b.ix=true:=fun b hb h=>by
   have:=hne b hb
   simpa [this] using h
  have hbo:∀ b ∈ t,b ∈ os:=fun b hb=>by rw [J.e];simp [hb]
  have eB:os=(s ++ [a]) ++ t:=by rw [J.e];simp
  have hnm:∀ b ∈ t,∀ s1 t1 σ1 h1,os=s1 ++ b :: t1->wAc tb ex exY s1 σ0 h0=some (σ1,h1)->μB h1.nx=none/\μ h1.nx=none:=fun b hb s1 t1 σ1 h1 e1 hr=>by
   have g1:=wRU HE HY Z eB r1 hb e1 hr
   have g2:=wRU HE HY Z J.e J.hs (b:=b) (by simp [hb]) e1 hr
   exact ⟨S'.nx _ g1,J.sim.nx _ g2⟩
  let μT:Mu:=fun q=>match μB q with | some c=>some c | none=>μS q
  have hT:μB.Le μT:=fun q c hq=>by show (match μB q with | some c=>some c | none=>μS q)=_;rw [hq]
  have hST:μS.Le μT:=fun q c hq=>by
   show (match μB q with | some c=>some c | none=>μS q)=_
   cases hB:μB q with
   | none=>exact hq
   | some c' =>
    rcases J.nm q c hq with h1 | ⟨b,ob,s1,t1,σ1,h1,k1,k2,k3,k4,k5,k6,k7,k8⟩
    ·rw [E'.mono _ _ h1] at hB
     exact hB.symm ▸ rfl
    ·rcases nG.1 k1 with rfl | k1
     ·rw [hS] at k2;cases k2
     ·have:=(hnm b k1 s1 t1 σ1 h1 k6 k7).1
      rw [<- k8,hB] at this
      cases this
  refine ⟨_,hB,_,μB,μT,eB,r1,r2,fun b hb=>?_,fun b hb hh=>J.free b (by simp [hb]) (hSb b hb hh),?_,S',hfl.trans J.fl,hE',fun q hq=>?_,hT,fun q c hq=>?_,fun b hb hh=>?_⟩
  ·rcases nK.1 hb with hb | hb
   ·simp [J.inS b hb]
   ·rw [nZ.1 hb];simp
  ·have:=J.E
   refine this.trans ?_
   rw [<- J.fl]
   exact E'
  ·have old:σ (q.nat - 1)=σ' (q.nat - 1) \/ a.dst=some q:=by
    by_cases hq':a.dst=some q
    ·exact .inr hq'
    ·exact .inl (J.ag q fun b hb h=>by
      rcases nG.1 hb with rfl | hb
      ·exact hq'
      ·exact hq b hb (by simp [h]))
   rcases A.dst with ⟨h1,h2⟩ | ⟨p,d,h1,h2,h3,_⟩
   ·unfold put'
    rw [h2]
    rcases old with old | old
    ·exact old
    ·rw [h1] at old;cases old
   ·unfold put'
    rw [h2]
    by_cases e:q.nat - 1=d
    ·simp only [e,wCd]
    ·simp only
     rw [wDI _ _ e,wDI _ _ e]
     rcases old with old | old
     ·exact old
     ·rw [h1] at old
      cases old
      exact absurd h3.symm e
  ·have hq:(match μB q with | some c=>some c | none=>μS q)=some c:=hq
   cases hB':μB q with
   | some c' =>
    rw [hB'] at hq
    exact .inl hq
   | none =>
    rw [hB'] at hq
    rcases J.nm q c hq with h1 | ⟨b,ob,s1,t1,σ1,h1,k1,k2,k3,k4,k5,k6,k7,k8⟩
    ·rw [E'.mono _ _ h1] at hB'
     cases hB'
    ·rcases nG.1 k1 with rfl | k1
     ·rw [hS] at k2;cases k2
     ·exact .inr ⟨b,ob,s1,t1,σ1,h1,k1,by simp [k2],k3,(wCF (wGO Z hdc ha hS (hbo b k1) k2 A k3 cv)).symm.trans k4,k5,k6,k7,k8⟩
  ·have hbS:=hSb b hb hh
   obtain ⟨ob,p,Pd⟩:=J.pd b (by simp [hb]) hbS
   have hA:=wGO (σ:=σ) Z hdc ha hS (hbo b hb) hbS A Pd.get cv
   have hp:put' σ o cv (p.nat - 1)=σ (p.nat - 1):=wGT fun d hd e=>by
    rcases A.dst with ⟨_,h2⟩ | ⟨q,d',h1,h2,h3,_⟩
    ·rw [h2] at hd;cases hd
    ·rw [h2] at hd
     have hd:=nD hd
     have eq:q=p:=Pos.nat_inj (by have:=q.nat_pos;have:=p.nat_pos;have:q.nat - 1=p.nat - 1:=h3.symm.trans (hd.trans e);omega)
     subst eq
     exact Z.wr s a t J.e q h1 b (nO _ hb) Pd.dst
   have hsb:=Z.sel b (hbo b hb) _ Pd.get
   refine ⟨ob,p,Pd.get,Pd.dst,?_⟩
   rw [hp,<- wCF hA]
   rcases Pd.fact with f | ⟨f,⟨f1,f2⟩ | ⟨f1,f2,w1,w2,f3⟩ | ⟨f1,f2,w1,o1,s1,t1,σ1,h1,f3,f4,f5,f6,f7,f8,f9⟩⟩
   ·exact .inl f
   ·exact .inr ⟨f,.inl ⟨f1,f2.mono E'.mono⟩⟩
   ·exact .inr ⟨f,.inr (.inl ⟨f1,f2.mono hST,w1,w2,(Runs.agr hsb hA).1 f3⟩)⟩
   ·obtain ⟨n1,n2⟩:=hnm b hb s1 t1 σ1 h1 f6 f7
    have nimg:¬ img μ h.fl.nat w1.heap.size:=by
     rintro ⟨q,d,g1,g2,_⟩
     have:=f9 q d (J.le _ _ g1) g2
     rw [this,n2] at g1
     cases g1
    refine .inr ⟨f,.inr (.inr ⟨f1,f2.mono hST,w1,o1,s1,t1,σ1,h1,(Runs.agr hsb hA).1 f3,(E'.keep.block _ (wAT f4) nimg).trans f4,f5,f6,f7,hST _ _ f8,fun q c hq hc=>?_⟩)⟩
    have hq:(match μB q with | some c=>some c | none=>μS q)=some c:=hq
    cases hB':μB q with
    | none=>rw [hB'] at hq;exact f9 q c hq hc
    | some c' =>
     rw [hB'] at hq
     cases hq
     rcases E'.new q c hB' with g | g | g
     ·exact f9 q c (J.le _ _ g) hc
     ·rw [hc] at g;exact absurd g nimg
     ·have:=wAT f4;omega
 obtain ⟨σx,hx,q1,q2⟩:=wLG (s:=[]) (a:=a) (t:=t) (σ0:=σA) (h0:=h) (by rw [nS];exact J.hr)
 rw [wAy] at q1
 cases q1
 refine Step1.agr hsel (fun d hd=>(hagr d hd).symm) ?_
 rcases q2 with ⟨g1,v,h2,g2,g3⟩ | ⟨g1,g3⟩
 ·refine (wSj HC HY' A (hw.trans g1) g2 J.env J.sim).mono ?_
  rintro cv w' ⟨_,μB,e1,e2,e3,e4⟩
  refine main v cv h2 w' μB ?_ g3 e1 e2 e3 e4
  rw [wDa s [a] _ _ _ _ J.hs,wBA,g1]
  simp only
  rw [g2]
  exact wAy _ _ _ _ _
 ·refine .inr ⟨hw.trans g1,?_⟩
  refine main u undef h w μ ?_ g3 (Ext.refl μ _ w) J.sim (wEB A J.env (wNE μ)) rfl
  rw [wDa s [a] _ _ _ _ J.hs,wBA,g1]
  exact wAy _ _ _ _ _
theorem JS.opnd (Z:ZOK P N l os) {μ0:Mu} {w0:World} {S:Nat->Bool} (J:JS tb ex exY P l os σ0 h0 σf hf μ0 w0 S σ w s t σA h σ' μ μS) (ha:a ∈ os) (hl:a.ix < l.length) (hp:∀ j ∈ prI l a.ix,S j=true)
  (hdc:∀ k,k < l.length->S k=true->∀ j ∈ prI l k,S j=true) {p:Pos} (hr:p ∈ wCH a):Rv μS (evA σf (.t p)) (σ (p.nat - 1))/\(a.kd=1 \/ a.kd=3 \/ 8 <= a.kd->Rv μ (evA σf (.t p)) (σ (p.nat - 1))):=by
 have base:(∀ b ∈ t,b.dst ≠ some p)->Rv μ (evA σf (.t p)) (σ (p.nat - 1)):=fun hn=>by
  rw [wCp t _ _ _ _ J.hr p hn,J.ag p fun b hb _=>hn b hb]
  exact J.env p
 by_cases hw:∃ b ∈ t,b.dst=some p
 ·obtain ⟨b,hb,hd⟩:=hw
  have hbo:b ∈ os:=by rw [J.e];simp [hb]
  have hanc:=Z.rdS a ha p hr b hbo hd
  have hS:=wDu hdc hp hanc
  obtain ⟨ob,p',Pd⟩:=J.pd b hb hS
  have ep:p'=p:=by have:=Pd.dst;rw [hd] at this;exact (nD this).symm
  subst ep
  rcases Pd.fact with ⟨_,f1,f2⟩ | ⟨_,⟨_,f1⟩ | ⟨f0,f1,_⟩ | ⟨f0,f1,_⟩⟩
  ·rw [f1,f2]
   exact ⟨wNE _,fun _=>wNE _⟩
  ·exact ⟨f1.mono J.le,fun _=>f1⟩
  ·exact ⟨f1,fun hk=>absurd f0 (Z.cl a ha hk p' hr b hbo hd).2⟩
  ·exact ⟨f1,fun hk=>absurd f0 (Z.cl a ha hk p' hr b hbo hd).1⟩
 ·have:=base fun b hb hd=>hw ⟨b,hb,hd⟩
  exact ⟨this.mono J.le,fun _=>this⟩
end
end Go.KX
namespace Go.KX
open Go.RowKit Go.KL
section
variable {tb:Tr AF} {ex exY:Run} {P:Program} {N:Nat} {l:List Oper} {os s t:List AO} {a:AO} {σ0 σA σf:Tr AV} {h0 h h1 h' hf:AH} {μ μS:Mu} {σ σ':Env} {w:World} {o:Oper} {v:AV}
theorem wPP {a:AOp} {op:Op} (hk:kdA a=1) (hc:wGs P a op=true) (hE:EnvR μ σA σ) (hm:∀ b c,μ b=some c->h.m.get b=h1.m.get b) (hr:opY a tb ex exY σA h1=some (v,h')):opY a tb ex exY σA h=some (v,h):=by
 have cel:∀ b c,μ b=some c->wDN h b=wDN h1 b:=fun b c hb=>by unfold wDN;rw [hm b c hb]
 cases a <;> first | (simp [kdA] at hk;done) | skip
 case ld x =>
  have hr:wOr x σA h1=some (v,h'):=hr
  show wOr x σA h=some (v,h)
  have hc:wSY P x op=true:=hc
  unfold wSY at hc
  split at hc
  ·simp only [nB] at hc
   have g:=wAI hc.2 hE
   unfold wOr at hr ⊢
   split at hr
   ·rename_i b off hb
    rw [hb] at g
    obtain ⟨c,g1,_⟩:=g
    simp only [hb,cel b c g1]
    split at hr
    ·exact wNm hr h
    ·cases hr
   ·cases hr
  ·cases hc
 case ldA n x =>
  have hr:wHP n x σA h1=some (v,h'):=hr
  show wHP n x σA h=some (v,h)
  have hc:wNT P n x op=true:=hc
  unfold wNT at hc
  split at hc
  ·simp only [nB] at hc
   have g:=wAI hc.2 hE
   unfold wHP at hr ⊢
   split at hr
   ·rename_i b off hb
    rw [hb] at g
    obtain ⟨c,g1,_⟩:=g
    simp only [hb,cel b c g1]
    split at hr
    ·exact wNm hr h
    ·cases hr
   ·cases hr
  ·cases hc
 case lk two k ok z x y =>
  have hr:wOs two k ok z x y σA h1=some (v,h'):=hr
  show wOs two k ok z x y σA h=some (v,h)
  have hc:wSc P two k ok z x y op=true:=hc
  unfold wSc at hc
  split at hc
  ·simp only [nB] at hc
   have g:=wAI hc.2.2.1 hE
   unfold wOs at hr ⊢
   split at hr
   ·rename_i b hb
    rw [hb] at g
    obtain ⟨c,g1,_⟩:=g
    simp only [hb,hm b c g1]
    repeat' (split at hr)
    all_goals first | (cases hr;done) | (cases hr;rfl)
   ·cases hr
  ·cases hc
 case lenM x =>
  have hr:wEk x σA h1=some (v,h'):=hr
  show wEk x σA h=some (v,h)
  have hc:wJD P x op=true:=hc
  unfold wJD at hc
  split at hc
  ·split at hc
   ·simp only [nB] at hc
    obtain ⟨_,hc⟩:=hc
    split at hc
    ·simp only [nB] at hc
     have g:=wAI hc.2 hE
     unfold wEk at hr ⊢
     split at hr
     ·rename_i hb
      cases hr
      simp_all
     ·rename_i b hb
      rw [hb] at g
      obtain ⟨c,g1,_⟩:=g
      simp only [hb,hm b c g1]
      repeat' (split at hr)
      all_goals first | (cases hr;done) | (cases hr;rfl)
     ·cases hr
    ·cases hc
   ·cases hc
  ·cases hc
theorem wIG (HE:FrX ex) (HY:FrX exY):∀ (r:List AO) (σ1:Tr AV) (h1:AH) (σ2:Tr AV) (h2:AH),wAc tb ex exY r σ1 h1=some (σ2,h2)->(∀ b ∈ r,wGt P N l b=true) ->
  (∀ b ∈ r,b.kd=2 \/ (b.kd=1 \/ b.kd=3 \/ (b.kd=6/\kdA b.op=3) \/ (b.kd=4/\wMJ b.op=true) \/ (8 <= b.kd/\kdA b.op=1)))->h1.nx.nat <= h2.nx.nat/\∀ p:Pos,p.nat < h1.nx.nat->h2.m.get p=h1.m.get p
 | [],σ1,h1,σ2,h2,hr,_,_=>by
  rw [wAy] at hr
  cases hr
  exact ⟨nH _,fun _ _=>rfl⟩
 | b :: r,σ1,h1,σ2,h2,hr,hc,hk=>by
  rw [wBA] at hr
  cases hw:wCg σ1 b.grd with
  | false =>
   rw [hw] at hr
   exact wIG HE HY r _ _ _ _ hr (fun c hcc=>hc c (by simp [hcc])) (fun c hcc=>hk c (by simp [hcc]))
  | true =>
   rw [hw] at hr
   simp only at hr
   cases hq:opK b.kd b.op tb ex exY σ1 h1 with
   | none=>rw [hq] at hr;cases hr
   | some q =>
    rw [hq] at hr
    obtain ⟨v,h3⟩:=q
    obtain ⟨g1,g2⟩:=wIG HE HY r _ _ _ _ hr (fun c hcc=>hc c (by simp [hcc])) (fun c hcc=>hk c (by simp [hcc]))
    obtain ⟨o,A⟩:=wCx (hc b (by simp))
    have one:h1.nx.nat <= h3.nx.nat/\∀ p:Pos,p.nat < h1.nx.nat->h3.m.get p=h1.m.get p:=by
     have same:h3=h1->h1.nx.nat <= h3.nx.nat/\∀ p:Pos,p.nat < h1.nx.nat->h3.m.get p=h1.m.get p:=fun e=>by subst e;exact ⟨nH _,fun _ _=>rfl⟩
     rcases hk b (by simp) with k | k | k | ⟨k,k'⟩ | ⟨k,k'⟩ | ⟨k,k'⟩
     ·exact ⟨(wQO HE HY _ _ hq).nx,wSn HE HY b.op (by rw [k] at hq;exact hq)⟩
     ·rw [k] at hq
      exact same (wHh (C:=CC P) (A.k1 k) A.op _ _ _ _ hq).1
     ·rw [k] at hq
      exact same (wHg (A.k3 k) A.op _ _ _ _ hq).1
     ·rw [k] at hq
      exact same (wHg k' A.op _ _ _ _ hq).1
     ·rw [k] at hq
      obtain ⟨B,vf,e1,_⟩:=wLF (C:=CC P) k' A.op _ _ _ _ hq
      subst e1
      refine ⟨(Fr.push h1 B).nx,fun p hp=>?_⟩
      show (h1.m.set h1.nx B).get p=_
      rw [Tr.get_set,if_neg (fun e=>by subst e;omega)]
     ·exact same (wHh (C:=CC P) (.inl k') A.op _ _ _ _ (wNp (by omega) hq)).1
    exact ⟨nX one.1 g1,fun p hp=>(g2 p (np hp one.1)).trans (one.2 p hp)⟩
theorem JS.full {μ0:Mu} {w0:World} {S:Nat->Bool} (J:JS tb ex exY P l os σ0 h0 σf hf μ0 w0 S σ w s t σA h σ' μ μS):wAc tb ex exY os σ0 h0=some (σf,hf):=by
 rw [J.e,wDa s t _ _ _ _ J.hs]
 exact J.hr
theorem JS.frm (Z:ZOK P N l os) {μ0:Mu} {w0:World} {S:Nat->Bool} (J:JS tb ex exY P l os σ0 h0 σf hf μ0 w0 S σ w s t σA h σ' μ μS) (ha:a ∈ os) (hl:a.ix < l.length) (hp:∀ j ∈ prI l a.ix,S j=true)
  (hdc:∀ k,k < l.length->S k=true->∀ j ∈ prI l k,S j=true) (A:AOK P N l a o) {s1 t1:List AO} {σ1:Tr AV} (e1:os=s1 ++ a :: t1) (hr1:wAc tb ex exY s1 σ0 h0=some (σ1,h1)) :
  wanted l σ o=wCg σ1 a.grd/\∀ p ∈ wCH a,evA σf (.t p)=evA σ1 (.t p):=by
 have hf:=J.full
 have hrd:∀ p ∈ wCH a,evA σf (.t p)=evA σ1 (.t p):=fun p hp=>by
  rw [e1,wDa s1 _ _ _ _ _ hr1] at hf
  exact wSp Z e1 hf hp
 refine ⟨?_,hrd⟩
 have hE:EnvR μS (rst σf (wCH a)) (rsl σ (wCH a)):=wGy fun p hpr=>(J.opnd Z ha hl hp hdc hpr).1
 have hw:=wIC A hE
 have hag:Agr l o (rsl σ (wCH a)) σ:=fun d hd=>by
  obtain ⟨p,h1,h2⟩:=wEf A (Z.sub a ha _ A.get) d hd
  unfold rsl
  rw [if_pos ⟨p,h1,h2⟩]
 rw [<- wCF hag,hw]
 cases hg:a.grd with
 | none=>rfl
 | some q =>
  obtain ⟨p,b⟩:=q
  show isB b (evA _ (.t p))=isB b (evA _ (.t p))
  have hpr:p ∈ wCH a:=nO _ (by rw [hg];simp)
  rw [wGx,if_pos hpr,hrd p hpr]
theorem wSr (HE:FrX ex) (HY:FrX exY) (Z:ZOK P N l os) {a b:AO} {s1 t1 s2 t2:List AO} {σ1 σ2:Tr AV} {h1 h2:AH} (e1:os=s1 ++ a :: t1) (e2:os=s2 ++ b :: t2) (r1:wAc tb ex exY s1 σ0 h0=some (σ1,h1)) (r2:wAc tb ex exY s2 σ0 h0=some (σ2,h2))
  (w1:wCg σ1 a.grd=true) (ka:a.kd=4) (la:wMJ a.op=true) (hin:a ∈ s2):h1.nx.nat < h2.nx.nat:=by
 obtain ⟨o,A⟩:=wCx (Z.ao a (by rw [e1];simp))
 obtain ⟨r,r',rfl⟩:=nM hin
 have es:s1=r:=(wCq (e1 ▸ Z.one) (e1.symm.trans (e2.trans (by rw [nN,nJ])))).1
 subst es
 rw [wDa s1 _ _ _ _ _ r1,wBA,w1] at r2
 simp only at r2
 cases hq:opK a.kd a.op tb ex exY σ1 h1 with
 | none=>rw [hq] at r2;cases r2
 | some q =>
  rw [hq] at r2
  obtain ⟨v,h3⟩:=q
  rw [ka] at hq
  obtain ⟨B,vf,q1,_⟩:=wLF (C:=CC P) la A.op _ _ _ _ hq
  subst q1
  have:=(wHk HE HY _ _ _ _ _ r2).nx
  have h3:(h1.push B).nx.nat=h1.nx.nat + 1:=Pos.nat_succ _
  simp only at this
  omega
theorem nm_ne (HE:FrX ex) (HY:FrX exY) (Z:ZOK P N l os) {a b:AO} {s1 t1 s2 t2:List AO} {σ1 σ2:Tr AV} {h1 h2:AH} (e1:os=s1 ++ a :: t1) (e2:os=s2 ++ b :: t2) (r1:wAc tb ex exY s1 σ0 h0=some (σ1,h1)) (r2:wAc tb ex exY s2 σ0 h0=some (σ2,h2))
  (w1:wCg σ1 a.grd=true) (w2:wCg σ2 b.grd=true) (ka:a.kd=4) (la:wMJ a.op=true) (kb:b.kd=4) (lb:wMJ b.op=true) (hne:a ≠ b):h1.nx ≠ h2.nx:=by
 have ha:a ∈ s2 ++ b :: t2:=by rw [<- e2,e1];simp
 rcases nK.1 ha with h | h
 ·intro e
  have:=wSr HE HY Z e1 e2 r1 r2 w1 ka la h
  rw [e] at this
  exact absurd this (nk _)
 ·rcases nG.1 h with h | h
  ·exact absurd h hne
  ·obtain ⟨r,r',rfl⟩:=nM h
   have es:s1=s2 ++ b :: r:=(wCq (e1 ▸ Z.one) (e1.symm.trans (e2.trans (by rw [nN,nJ])))).1
   intro e
   have:=wSr HE HY Z e2 e1 r2 r1 w2 kb lb (by rw [es];simp)
   rw [e] at this
   exact absurd this (nk _)
end
end Go.KX
namespace Go.KX
open Go.RowKit Go.KL
section
variable {tb:Tr AF} {ex exY:Run} {P:Program} {N:Nat} {l:List Oper} {os s t:List AO} {a:AO} {σ0 σA σf:Tr AV} {h0 h h1 h' hf:AH} {μ μS:Mu} {σ σ':Env} {w:World} {o:Oper} {v:AV}
theorem wNr (Z:ZOK P N l os) {a b:AO} (ha:a ∈ os) (hb:b ∈ os) (e:b.ix=a.ix):b=a:=by
 obtain ⟨s,t,hs⟩:=nM ha
 have one:=Z.one
 rw [hs] at hb one
 rcases nK.1 hb with h | h
 ·exact absurd e ((nU.1 one).2.2 b h a (by simp))
 ·rcases nG.1 h with h | h
  ·exact h
  ·exact absurd e.symm ((nR.1 (nU.1 one).2.1).1 b h)
theorem wGP (A:AOK P N l a o) {q:Pos} (hn:a.dst ≠ some q) (cv:Value):put' σ o cv (q.nat - 1)=σ (q.nat - 1):=by
 refine wGT fun d hd e=>?_
 rcases A.dst with ⟨_,h2⟩ | ⟨p,d',h1,h2,h3,_⟩
 ·rw [h2] at hd;cases hd
 ·rw [h2] at hd
  have hd:=nD hd
  have:p=q:=Pos.nat_inj (by have:=q.nat_pos;have:=p.nat_pos;have:p.nat - 1=q.nat - 1:=h3.symm.trans (hd.trans e);omega)
  subst this
  exact hn h1
theorem JS.add (Z:ZOK P N l os) {μ0:Mu} {w0:World} {S:Nat->Bool} (J:JS tb ex exY P l os σ0 h0 σf hf μ0 w0 S σ w s t σA h σ' μ μS) (ha:a ∈ t) (hS:S a.ix=false) (hfree:wCE a.kd=false)
  (hdc:∀ k,k < l.length->S k=true->∀ j ∈ prI l k,S j=true) (A:AOK P N l a o) {cv:Value} {w':World} {μT:Mu} (K:Keep w w' Non) (hle:μS.Le μT)
  (hnew:∀ q c,μT q=some c->μS q=some c \/ (c.1=w.heap.size/\wanted l σ o=true/\a.kd=4/\∃ s1 t1 σ1 h1,os=s1 ++ a :: t1/\wAc tb ex exY s1 σ0 h0=some (σ1,h1)/\q=h1.nx))
  (hpa:∃ p,Pend tb ex exY P l os σ0 h0 σf w0 μ μT (put' σ o cv) w' a o p) :
  JS tb ex exY P l os σ0 h0 σf hf μ0 w0 (fun k=>k == a.ix || S k) (put' σ o cv) w' s t σA h σ' μ μT:=by
 have hao:a ∈ os:=by rw [J.e];simp [ha]
 have hbo:∀ b ∈ t,b ∈ os:=fun b hb=>by rw [J.e];simp [hb]
 obtain ⟨sa,ta,ea⟩:=nM hao
 have hself:Agr l o σ (put' σ o cv):=by
  intro d hd
  obtain ⟨p,hp,rfl⟩:=wEf A (Z.sub a hao _ A.get) d hd
  exact (wGP A (Z.rd sa a ta ea p hp a (by simp)) cv).symm
 refine ⟨J.e,J.hs,J.hr,fun b hb=>by simp [J.inS b hb],fun b hb hh=>?_,⟨J.E.mono,J.E.new,J.E.keep.step K fun _ _ hn=>hn.elim⟩,J.sim.keep K,J.fl,J.env,fun q hq=>?_,J.le.trans hle,fun q c hq=>?_,fun b hb hh=>?_⟩
 ·by_cases e:b.ix=a.ix
  ·rw [wNr Z hao (hbo b hb) e];exact hfree
  ·exact J.free b hb (by simpa [e] using hh)
 ·rw [wGP A (hq a ha (by simp))]
  exact J.ag q fun b hb hs=>hq b hb (by simp [hs])
 ·rcases hnew q c hq with h1 | ⟨_,h2,h3,s1,t1,σ1,h1,e1,e2,e3⟩
  ·rcases J.nm q c h1 with g | ⟨b,ob,s1,t1,σ1,h1,k1,k2,k3,k4,k5,k6,k7,k8⟩
   ·exact .inl g
   ·exact .inr ⟨b,ob,s1,t1,σ1,h1,k1,by simp [k2],k3,(wCF (wGO Z hdc hao hS (hbo b k1) k2 A k3 cv)).symm.trans k4,k5,k6,k7,k8⟩
  ·exact .inr ⟨a,o,s1,t1,σ1,h1,ha,by simp,A.get,(wCF hself).symm.trans h2,h3,e1,e2,e3⟩
 ·by_cases e:b.ix=a.ix
  ·have:=wNr Z hao (hbo b hb) e
   subst this
   exact ⟨o,hpa⟩
  ·have hbS:S b.ix=true:=by simpa [e] using hh
   obtain ⟨ob,p,Pd⟩:=J.pd b hb hbS
   have hA:=wGO (σ:=σ) Z hdc hao hS (hbo b hb) hbS A Pd.get cv
   have hp:put' σ o cv (p.nat - 1)=σ (p.nat - 1):=by
    refine wGP A (fun hd=>?_) cv
    have hb':=hbo b hb
    rw [ea] at hb'
    have hb'':b ∈ sa ++ ta:=by
     rcases nK.1 hb' with h | h
     ·exact nT _ h
     ·rcases nG.1 h with h | h
      ·exact absurd (by rw [h]) e
      ·exact nO _ h
    exact Z.wr sa a ta ea p hd b hb'' Pd.dst
   have hsb:=Z.sel b (hbo b hb) _ Pd.get
   refine ⟨ob,p,Pd.get,Pd.dst,?_⟩
   rw [hp,<- wCF hA]
   rcases Pd.fact with f | ⟨f,⟨f1,f2⟩ | ⟨f1,f2,w1,w2,f3⟩ | ⟨f1,f2,w1,o1,s1,t1,σ1,h1,f3,f4,f5,f6,f7,f8,f9⟩⟩
   ·exact .inl f
   ·exact .inr ⟨f,.inl ⟨f1,f2⟩⟩
   ·exact .inr ⟨f,.inr (.inl ⟨f1,f2.mono hle,w1,w2,(Runs.agr hsb hA).1 f3⟩)⟩
   ·refine .inr ⟨f,.inr (.inr ⟨f1,f2.mono hle,w1,o1,s1,t1,σ1,h1,(Runs.agr hsb hA).1 f3,(K.block _ (wAT f4) id).trans f4,f5,f6,f7,hle _ _ f8,fun q c hq hc=>?_⟩)⟩
    rcases hnew q c hq with h1 | ⟨h1,_⟩
    ·exact f9 q c h1 hc
    ·have:=wAT f4
     omega
theorem wHl:∀ (r:List AO),(∀ b ∈ r,b.kd ≠ 0) \/ ∃ x b y,r=x ++ b :: y/\b.kd=0/\∀ c ∈ x,c.kd ≠ 0
 | []=>.inl fun b hb=>by simp at hb
 | a :: r=>by
  by_cases h0:a.kd=0
  ·exact .inr ⟨[],a,r,rfl,h0,fun c hc=>by simp at hc⟩
  ·rcases wHl r with h | ⟨x,b,y,h1,h2,h3⟩
   ·refine .inl fun b hb=>?_
    rcases nG.1 hb with rfl | hb
    ·exact h0
    ·exact h b hb
   ·refine .inr ⟨a :: x,b,y,by rw [h1];rfl,h2,fun c hc=>?_⟩
    rcases nG.1 hc with rfl | hc
    ·exact h0
    ·exact h3 c hc
theorem JS.freeOp {σg:Tr AV} (HE:FrX ex) (HY:FrX exY) (Z:ZOK P N l os) (HL:LCK tb ex exY os σ0 h0 σg) (Hg:∀ a ∈ os,8 <= a.kd->∀ p,p ∈ wCH a \/ a.dst=some p->evA σf (.t p)=evA σg (.t p)) {μ0:Mu} {w0:World} {S:Nat->Bool} (J:JS tb ex exY P l os σ0 h0 σf hf μ0 w0 S σ w s t σA h σ' μ μS) (ha:a ∈ t) (hS:S a.ix=false) (hfree:wCE a.kd=false)
  (hp:∀ j ∈ prI l a.ix,S j=true) (hdc:∀ k,k < l.length->S k=true->∀ j ∈ prI l k,S j=true) (A:AOK P N l a o) :
  Step1 P l o σ w fun cv w'=>∃ μT,JS tb ex exY P l os σ0 h0 σf hf μ0 w0 (fun k=>k == a.ix || S k) (put' σ o cv) w' s t σA h σ' μ μT:=by
 have hao:a ∈ os:=by rw [J.e];simp [ha]
 have hl:a.ix < l.length:=(nP.1 A.get).1
 obtain ⟨r,r',et⟩:=nM ha
 have e1:os=(s ++ r) ++ a :: r':=by rw [J.e,et,nN]
 have hsel:=Z.sel a hao _ A.get
 have hsub:=Z.sub a hao _ A.get
 have hfull:=J.full
 rw [e1] at hfull
 obtain ⟨σ1,h1,r1,r2⟩:=wLG hfull
 obtain ⟨hw,hrd⟩:=J.frm Z hao hl hp hdc A e1 r1
 have hrr:wAc tb ex exY r σA h=some (σ1,h1):=by rw [<- wDa s r _ _ _ _ J.hs];exact r1
 have hself:∀ cv,Agr l o σ (put' σ o cv):=by
  intro cv d hd
  obtain ⟨p,hp,rfl⟩:=wEf A hsub d hd
  exact (wGP A (Z.rd _ a _ e1 p hp a (by simp)) cv).symm
 obtain ⟨hdn,hkd⟩:a.dst ≠ none/\(a.kd=1 \/ a.kd=3 \/ (a.kd=6/\kdA a.op=3) \/ (a.kd=4/\wMJ a.op=true) \/ (8 <= a.kd/\kdA a.op=1)):=by
  rcases Z.kd a hao with h | h
  ·rw [hfree] at h;cases h
  ·exact h
 obtain ⟨p,d,d1,d2,d3,_⟩:∃ p d,a.dst=some p/\o.dst=some d/\d=p.nat - 1/\d < N:=by
  rcases A.dst with ⟨h1,_⟩ | h
  ·exact absurd h1 hdn
  ·exact h
 have eput:∀ cv,put' σ o cv (p.nat - 1)=cv:=fun cv=>by unfold put';rw [d2,d3];exact wCd _ _ _
 have hslot:∀ q ∈ wCZ (wBe a.op),q ∈ wCH a:=fun q hq=>nT _ hq
 rcases r2 with ⟨g1,v,h2,g2,g3⟩ | ⟨g1,g3⟩
 ·have hv:evA σf (.t p)=v:=wKN Z e1 g3 d1
  have hw':wanted l σ o=true:=hw.trans g1
  have hwn:∀ cv,wanted l (put' σ o cv) o=true:=fun cv=>(wCF (hself cv)).symm.trans hw'
  have hvS:∀ q ∈ wCZ (wBe a.op),Rv μS (evA σ1 (.t q)) (σ (q.nat - 1)):=fun q hq=>by
   rw [<- hrd q (hslot q hq)]
   exact (J.opnd Z hao hl hp hdc (hslot q hq)).1
  have clean:(a.kd=1 \/ a.kd=3 \/ 8 <= a.kd)->(∃ cv,Rv μ v cv/\Runs P σ w o cv w)->Step1 P l o σ w fun cv w'=>∃ μT,JS tb ex exY P l os σ0 h0 σf hf μ0 w0 (fun k=>k == a.ix || S k) (put' σ o cv) w' s t σA h σ' μ μT:=by
   rintro hk ⟨cv,c1,c2⟩
   refine .inl ⟨hw',.inr (.inl ⟨cv,w,c2,μS,J.add Z ha hS hfree hdc A (Keep.refl w _) (Mu.Le.refl _) (fun q c hq=>.inl hq) ⟨p,A.get,d1,.inr ⟨hwn cv,.inl ⟨hk,?_⟩⟩⟩⟩)⟩
   rw [hv,eput]
   exact c1
  have hvC:(a.kd=1 \/ a.kd=3 \/ 8 <= a.kd)->∀ q ∈ wCZ (wBe a.op),Rv μ (evA σ1 (.t q)) (σ (q.nat - 1)):=fun hk q hq=>by
   rw [<- hrd q (hslot q hq)]
   exact (J.opnd Z hao hl hp hdc (hslot q hq)).2 hk
  have loadC:(a.kd=1 \/ a.kd=3 \/ 8 <= a.kd)->kdA a.op=1->∀ (x:List AO),(∀ b ∈ x,b ∈ t)->∀ {σ2:Tr AV} {h3 h4:AH} {σ3:Tr AV},wAc tb ex exY x σA h=some (σ2,h3)->opY a.op tb ex exY σ3 h3=some (v,h4)->(∀ b ∈ x,b.kd=0->False)->(∀ q ∈ wCH a,evA σf (.t q)=evA σ3 (.t q))->∃ cv,Rv μ v cv/\Runs P σ w o cv w:=by
   intro hk k x hx σ2 h3 h4 σ3 hrx gY hx0 hrd3
   have hv3:∀ q ∈ wCZ (wBe a.op),Rv μ (evA σ3 (.t q)) (σ (q.nat - 1)):=fun q hq=>by
    rw [<- hrd3 q (hslot q hq)]
    exact (J.opnd Z hao hl hp hdc (hslot q hq)).2 hk
   have hrs:=wLE gY
   have henv:=wGy hv3
   obtain ⟨_,hold⟩:=wIG HE HY x _ _ _ _ hrx (fun b hb=>Z.ao b (by rw [J.e];simp [hx b hb])) (fun b hb=>by
    rcases Z.kd b (by rw [J.e];simp [hx b hb]) with h | h
    ·unfold wCE at h
     simp only [Bool.or_eq_true] at h
     rcases h with h | h
     ·exact absurd (nA h) (hx0 b hb)
     ·exact .inl (nA h)
    ·exact .inr h.2)
   have hm:∀ b c,μ b=some c->h.m.get b=h3.m.get b:=fun b c hb=>by
    refine (hold b ?_).symm
    rcases Nat.lt_or_ge b.nat h.nx.nat with hlt | hge
    ·exact hlt
    ·rw [J.sim.nx b hge] at hb;cases hb
   have hld:=wPP k A.op henv hm hrs
   obtain ⟨cv,c1,c2⟩:=wNo (C:=CC P) hsel hsub (.inl k) A.op hld J.sim (fun q hq=>by rw [wGx,if_pos hq];exact hv3 q hq)
   exact ⟨cv,c1,c2⟩
  rcases hkd with hk | hk | ⟨hk,hk2⟩ | ⟨hk,hk2⟩ | ⟨hk,hk2⟩
  ·have gY:opY a.op tb ex exY σ1 h1=some (v,h2):=by rw [hk] at g2;exact g2
   refine clean (.inl hk) ?_
   rcases A.k1 hk with k | k
   ·exact loadC (.inl hk) k r (fun b hb=>by rw [et];simp [hb]) hrr gY (fun b hb h0=>by
     have:=wDu hdc hp (Z.ld _ a _ e1 hk b (by simp [hb]) h0)
     have:=J.free b (by rw [et];simp [hb]) this
     rw [h0] at this
     cases this) hrd
   ·obtain ⟨cv,c1,c2⟩:=wGz hsel hsub k A.op gY (hvC (.inl hk))
    exact ⟨cv,c1,c2 w⟩
  ·have gY:opY a.op tb ex exY σ1 h1=some (v,h2):=by rw [hk] at g2;exact g2
   obtain ⟨cv,c1,c2⟩:=wGz hsel hsub (A.k3 hk) A.op gY (hvC (.inr (.inl hk)))
   exact clean (.inr (.inl hk)) ⟨cv,c1,c2 w⟩
  ·have gY:opY a.op tb ex exY σ1 h1=some (v,h2):=by rw [hk] at g2;exact g2
   obtain ⟨cv,c1,c2⟩:=wGz hsel hsub hk2 A.op gY hvS
   refine .inl ⟨hw',.inr (.inl ⟨cv,w,c2 w,μS,J.add Z ha hS hfree hdc A (Keep.refl w _) (Mu.Le.refl _) (fun q c hq=>.inl hq) ⟨p,A.get,d1,.inr ⟨hwn cv,.inr (.inl ⟨hk,?_,w,w,?_⟩)⟩⟩⟩)⟩
   ·rw [hv,eput]
    exact c1
   ·rw [eput]
    exact (Runs.agr hsel (hself cv)).1 (c2 w)
  ·have gY:opY a.op tb ex exY σ1 h1=some (v,h2):=by rw [hk] at g2;exact g2
   obtain ⟨B,vf,ob,val,_,ev',_,c1,c2,c3⟩:=wLs (C:=CC P) hsel hsub hk2 A.op gY hvS
   have hno:μS h1.nx=none:=by
    cases hq:μS h1.nx with
    | none=>rfl
    | some c =>
     rcases J.nm _ c hq with g | ⟨b,ob',s2,t2,σ2,h3,k1,k2,k3,k4,k5,k6,k7,k8⟩
     ·have:=wRU HE HY Z J.e J.hs ha e1 r1
      rw [J.sim.nx _ this] at g
      cases g
     ·have hbo:b ∈ os:=by rw [J.e];simp [k1]
      have hne:a ≠ b:=fun e=>by subst e;rw [hS] at k2;cases k2
      obtain ⟨ob2,B2⟩:=wCx (Z.ao b hbo)
      have hb2:wMJ b.op=true:=by
       rcases Z.kd b hbo with hh | ⟨_,hh | hh | hh | hh | hh⟩
       ·rw [k5] at hh;exact absurd hh (by decide)
       ·omega
       ·omega
       ·omega
       ·exact hh.2
       ·omega
      have hwb:wCg σ2 b.grd=true:=by
       have hlb:b.ix < l.length:=(nP.1 k3).1
       have eo:ob2=ob':=by have:=B2.get;rw [k3] at this;exact (nD this).symm
       subst eo
       have:=(J.frm Z hbo hlb (hdc _ hlb k2) hdc B2 k6 k7).1
       rw [<- this]
       exact k4
      exact absurd k8 (nm_ne HE HY Z e1 k6 r1 k7 g1 hwb hk hk2 k5 hb2 hne)
   have hadd:=Mu.add_le (c:=(⟨w.heap.size,0,g0⟩:Cl)) hno
   have hsz:∀ q c,μS q=some c->c.1 < w.heap.size:=fun q c hq=>by
    rcases J.nm q c hq with g | ⟨b,ob',s2,t2,σ2,h3,k1,k2,k3,k4,k5,k6,k7,k8⟩
    ·exact J.sim.lt q c g
    ·obtain ⟨ob2,p2,Pd⟩:=J.pd b k1 k2
     have eo:ob2=ob':=by have:=Pd.get;rw [k3] at this;exact (nD this).symm
     subst eo
     rcases Pd.fact with ⟨f,_⟩ | ⟨_,⟨f,_⟩ | ⟨f,_⟩ | ⟨_,_,w1,o1,s3,t3,σ3,h4,_,f4,_,f6,f7,f8,_⟩⟩
     ·rw [k4] at f;cases f
     ·omega
     ·omega
     ·have es:s3=s2:=(wCq (f6 ▸ Z.one) (f6.symm.trans k6)).1
      subst es
      rw [k7] at f7
      cases f7
      subst k8
      rw [hq] at f8
      cases f8
      exact wAT f4
   refine .inl ⟨hw',.inr (.inl ⟨val w.heap.size,w.alloc ob,c1 w,μS.add h1.nx ⟨w.heap.size,0,g0⟩,J.add Z ha hS hfree hdc A (wBB w ob) hadd (fun q c hq=>?_) ⟨p,A.get,d1,.inr ⟨hwn _,.inr (.inr ⟨hk,?_,w,ob,s ++ r,r',σ1,h1,?_,heap_alloc_new w ob,J.E.keep.size,e1,r1,Mu.add_same _ _ _,fun q c hq hc=>?_⟩)⟩⟩⟩)⟩
   ·unfold Mu.add at hq
    split at hq
    ·rename_i eq
     cases hq
     exact .inr ⟨rfl,hw',hk,s ++ r,r',σ1,h1,e1,r1,eq⟩
    ·exact .inl hq
   ·rw [hv,eput,ev']
    exact c3 _ _ _ (Mu.add_same _ _ _)
   ·rw [eput]
    exact (Runs.agr hsel (hself _)).1 (c1 w)
   ·unfold Mu.add at hq
    split at hq
    ·rename_i eq
     exact eq
    ·have:=hsz q c hq
     omega
  ·have gY:opY a.op tb ex exY σ1 h1=some (v,h2):=wNp (by omega) g2
   refine clean (.inr (.inr hk)) ?_
   rcases wHl r with hz | ⟨x,b,y,er,hb0,hx0⟩
   ·exact loadC (.inr (.inr hk)) hk2 r (fun b hb=>by rw [et];simp [hb]) hrr gY (fun b hb h0=>hz b hb h0) hrd
   ·have e2:os=(s ++ x) ++ b :: (y ++ a :: r'):=by rw [J.e,et,er];simp
    have hfull2:=J.full
    rw [e2] at hfull2
    obtain ⟨σ2,h3,r3,_⟩:=wLG hfull2
    have hbt:b ∈ t:=by rw [et,er];simp
    have hanc:wOv y + 8 < a.kd:=by
     rcases Z.ld8 _ a _ e1 hk (s ++ x) b y (by rw [er];simp) hb0 with g | g
     ·have:=J.free b hbt (wDu hdc hp g)
      rw [hb0] at this
      cases this
     ·exact g
    have hlk:=HL _ b _ e2 hb0 _ _ r3
    have hsame:=wKJ y a r' 0 hlk hfree (by omega)
    have hgf:wCg σg a.grd=true:=by
     rw [<- g1]
     cases hg:a.grd with
     | none=>rfl
     | some q =>
      obtain ⟨q,c⟩:=q
      show isB c (evA _ (.t q))=isB c (evA _ (.t q))
      have hqr:q ∈ wCH a:=nO _ (by rw [hg];simp)
      rw [<- Hg a hao hk q (.inl hqr),hrd q hqr]
    unfold wHb at hsame
    rw [d1] at hsame
    simp only [hgf] at hsame
    split at hsame
    ·rename_i v' h5 hq
     have hvv:=wNl hsame
     rw [<- Hg a hao hk p (.inr d1),hv] at hvv
     subst hvv
     have hrx:wAc tb ex exY x σA h=some (σ2,h3):=by rw [<- wDa s x _ _ _ _ J.hs];exact r3
     exact loadC (.inr (.inr hk)) hk2 x (fun b hb=>by rw [et,er];simp [hb]) hrx hq (fun b hb h0=>hx0 b hb h0) (fun q hq=>Hg a hao hk q (.inl hq))
    ·cases hsame
 ·refine .inr ⟨hw.trans g1,μS,J.add Z ha hS hfree hdc A (Keep.refl w _) (Mu.Le.refl _) (fun q c hq=>.inl hq) ⟨p,A.get,d1,.inl ⟨(wCF (hself _)).symm.trans (hw.trans g1),eput _,?_⟩⟩⟩
  exact wKN Z e1 (v:=u) g3 d1
theorem JS.catch (Z:ZOK P N l os) {μ0:Mu} {w0:World} {S:Nat->Bool}:∀ (r:List AO) {s t:List AO} {σA:Tr AV} {h:AH} {σ':Env} {μ:Mu},JS tb ex exY P l os σ0 h0 σf hf μ0 w0 S σ w s (r ++ t) σA h σ' μ μS->(∀ a ∈ r,S a.ix=true) ->
  ∃ σB hB σ'' μB,JS tb ex exY P l os σ0 h0 σf hf μ0 w0 S σ w (s ++ r) t σB hB σ'' μB μS
 | [],s,t,σA,h,σ',μ,J,_=>⟨σA,h,σ',μ,by rw [nh];exact J⟩
 | a :: r,s,t,σA,h,σ',μ,J,hS=>by
  obtain ⟨σB,hB,σ'',μB,J1⟩:=JS.catch1 (t:=r ++ t) Z J (hS a (by simp))
  obtain ⟨σC,hC,σ3,μC,J2⟩:=JS.catch Z r J1 fun b hb=>hS b (by simp [hb])
  exact ⟨σC,hC,σ3,μC,by rw [show s ++ a :: r=s ++ [a] ++ r by simp];exact J2⟩
theorem JS.anew {A B:List AO} {σm:Tr AV} {h2:AH} {μ0:Mu} {w0:World} {S:Nat->Bool} (J:JS tb ex exY P l A σ0 h0 σm h2 μ0 w0 S σ w s [] σA h σ' μ μS) (hr:wAc tb ex exY B σm h2=some (σf,hf)) (hB:∀ b ∈ B,S b.ix=false) :
  Ext μ0 h0.fl.nat w0 μ w/\h2.fl=h0.fl/\JS tb ex exY P l B σm h2 σf hf μ w S σ w [] B σm h2 σ' μ μ:=by
 have hr1:=J.hr
 rw [wAy] at hr1
 cases hr1
 exact ⟨J.E,J.fl,rfl,wAy _ _ _ _ _,hr,fun b hb=>(by simp at hb),fun b hb hS=>(by rw [hB b hb] at hS;cases hS),Ext.refl μ _ w,J.sim,rfl,J.env,fun q _=>J.ag q fun b hb=>(by simp at hb),Mu.Le.refl _,fun q c hq=>.inl hq,fun b hb hS=>(by rw [hB b hb] at hS;cases hS)⟩
theorem CK.lazy {rr:Option Nat} {Q:wDC} {D:List Deferred} {id:Nat} (hm:P.follows .mixedOrders=true) (HC:wGB (CC P) P tb ex) (HY':wFD (CC P) P exY) (HE:FrX ex) (HY:FrX exY) (ZZ:∃ A B,ZAll P N l os A B) (HL0:LCK tb ex exY os σ0 h0 σf)
  (hr:wAc tb ex exY os σ0 h0=some (σf,hf)) (S:Sim (CC P) P μ h0 w) (hE:EnvR μ σ0 σ)
  (hQ:∀ μ' w' σ',Ext μ h0.fl.nat w μ' w'->Sim (CC P) P μ' hf w'->EnvR μ' σf σ'->hf.fl=h0.fl->Q D .normal σ' w'):CK rr N P (.region id l.toArray true) Q D σ w:=by
 obtain ⟨A,B,ZZ⟩:=ZZ
 obtain ⟨σm,h2,hrA,hrB⟩:=wDY A B σ0 h0 _ (ZZ.eq ▸ hr)
 have HL:LCK tb ex exY A σ0 h0 σf/\LCK tb ex exY B σm h2 σf:=by
  refine ⟨fun s b t e k0 σ1 h1 hs=>?_,wLB ZZ.low⟩
  have:=HL0 s b (t ++ B) (by rw [ZZ.eq,e];simp) k0 σ1 h1 hs
  exact wID t B 0 this
 have Hg:∀ a ∈ A,8 <= a.kd->∀ p,p ∈ wCH a \/ a.dst=some p->evA σm (.t p)=evA σf (.t p):=fun a ha h8 p hp=>(wCp B _ _ _ _ hrB p fun b hb=>ZZ.far a ha h8 p hp b hb).symm
 have lt:∀ b ∈ os,b.ix < l.length:=fun b hb=>by
  rw [ZZ.eq] at hb
  rcases nK.1 hb with hb | hb
  ·obtain ⟨o,A⟩:=wCx (ZZ.za.ao b hb)
   exact (nP.1 A.get).1
  ·obtain ⟨o,A⟩:=wCx (ZZ.zb.ao b hb)
   exact (nP.1 A.get).1
 have stepB:∀ (S1:Nat->Bool) (a:AO) (σ1:Env) (w1:World) (μm:Mu) (wm:World) (s t:List AO) (σA:Tr AV) (h:AH) (σ':Env) (μ1 μS:Mu) (o:Oper),a ∈ B->S1 a.ix=false->(∀ j ∈ prI l a.ix,S1 j=true)->(∀ k,k < l.length->S1 k=true->∀ j ∈ prI l k,S1 j=true)->AOK P N l a o ->
   JS tb ex exY P l B σm h2 σf hf μm wm S1 σ1 w1 s t σA h σ' μ1 μS->Step1 P l o σ1 w1 fun v w'=>∃ s t σA h σ' μ1 μS,JS tb ex exY P l B σm h2 σf hf μm wm (fun k=>k == a.ix || S1 k) (put' σ1 o v) w' s t σA h σ' μ1 μS:=by
  intro S1 a σ1 w1 μm wm s t σA h σ' μ1 μS o ha hSi hpi hdc A J
  have hat:a ∈ t:=by
   have:=ha
   rw [J.e] at this
   rcases nK.1 this with h | h
   ·rw [J.inS a h] at hSi;cases hSi
   ·exact h
  cases hf:wCE a.kd with
  | true =>
   obtain ⟨r,r',et⟩:=nM hat
   rw [et] at J
   obtain ⟨σB,hB,σ'',μB,J1⟩:=JS.catch ZZ.zb r J fun b hb=>wDu hdc hpi (ZZ.zb.anc (s ++ r) a r' (by rw [J.e,nN]) hf b (by simp [hb]))
   refine (J1.fixed HC HY' HE HY ZZ.zb hf hSi hdc A).mono ?_
   rintro v w' ⟨σC,hC,σ3,μC,μT,J2⟩
   exact ⟨_,_,_,_,_,_,_,J2⟩
  | false =>
   refine (J.freeOp HE HY ZZ.zb HL.2 (fun _ _ _ _ _=>rfl) hat hSi hf hpi hdc A).mono ?_
   rintro v w' ⟨μT,J2⟩
   exact ⟨_,_,_,_,_,_,_,J2⟩
 have toB:∀ (S1:Nat->Bool) (σ1:Env) (w1:World) (s t:List AO) (σA:Tr AV) (h:AH) (σ':Env) (μ1 μS:Mu),(∀ a ∈ A,S1 a.ix=true)->(∀ b ∈ B,S1 b.ix=false)->JS tb ex exY P l A σ0 h0 σm h2 μ w S1 σ1 w1 s t σA h σ' μ1 μS ->
   ∃ μm σ',Ext μ h0.fl.nat w μm w1/\h2.fl=h0.fl/\JS tb ex exY P l B σm h2 σf hf μm w1 S1 σ1 w1 [] B σm h2 σ' μm μm:=by
  intro S1 σ1 w1 s t σA h σ' μ1 μS hA hB J
  have J0:JS tb ex exY P l A σ0 h0 σm h2 μ w S1 σ1 w1 s (t ++ []) σA h σ' μ1 μS:=by rw [nh];exact J
  obtain ⟨σB,hB',σ'',μB,J1⟩:=JS.catch ZZ.za t J0 fun b hb=>hA b (by rw [J.e];simp [hb])
  obtain ⟨g1,g2,g3⟩:=J1.anew hrB hB
  exact ⟨μB,σ'',g1,g2,g3⟩
 refine CK.anyRel hm ZZ.za.pr (fun S σ w1=>((∀ b ∈ B,S b.ix=false)/\∃ s t σA h σ' μ1 μS,JS tb ex exY P l A σ0 h0 σm h2 μ w S σ w1 s t σA h σ' μ1 μS) \/
  ((∀ a ∈ A,S a.ix=true)/\∃ μm wm,Ext μ h0.fl.nat w μm wm/\h2.fl=h0.fl/\∃ s t σA h σ' μ1 μS,JS tb ex exY P l B σm h2 σf hf μm wm S σ w1 s t σA h σ' μ1 μS)) ?_ ?_ ?_
 ·exact .inl ⟨fun b _=>rfl,[],A,σ0,h0,σ,μ,μ,rfl,wAy _ _ _ _ _,hrA,fun b hb=>(by simp at hb),fun b _ hb=>(by cases hb),Ext.drew μ _ w,S.keep (Keep.drew w),rfl,hE,fun _ _=>rfl,Mu.Le.refl _,fun q c hq=>.inl hq,fun b _ hb=>(by cases hb)⟩
 ·rintro S1 i σ1 w1 hi hSi hpi hdc hlt hI
  obtain ⟨a,ha,rfl⟩:=ZZ.all i hi
  rw [ZZ.eq] at ha
  rcases nK.1 ha with ha | ha
  ·obtain ⟨o,AK⟩:=wCx (ZZ.za.ao a ha)
   refine ⟨o,AK.get,wHi AK,?_⟩
   rcases hI with ⟨hB,s,t,σA,h,σ',μ1,μS,J⟩ | ⟨hA,_⟩
   ·have hB':∀ b ∈ B,(fun k=>k == a.ix || S1 k) b.ix=false:=fun b hb=>by
     have:=(ZZ.cross b hb a ha).1
     simp [hB b hb,Ne.symm this]
    have hat:a ∈ t:=by
     have:=ha
     rw [J.e] at this
     rcases nK.1 this with h | h
     ·rw [J.inS a h] at hSi;cases hSi
     ·exact h
    cases hf:wCE a.kd with
    | true =>
     obtain ⟨r,r',et⟩:=nM hat
     rw [et] at J
     obtain ⟨σB,hB2,σ'',μB,J1⟩:=JS.catch ZZ.za r J fun b hb=>wDu hdc hpi (ZZ.za.anc (s ++ r) a r' (by rw [J.e,nN]) hf b (by simp [hb]))
     refine (J1.fixed HC HY' HE HY ZZ.za hf hSi hdc AK).mono ?_
     rintro v w' ⟨σC,hC,σ3,μC,μT,J2⟩
     exact .inl ⟨hB',_,_,_,_,_,_,_,J2⟩
    | false =>
     refine (J.freeOp HE HY ZZ.za HL.1 Hg hat hSi hf hpi hdc AK).mono ?_
     rintro v w' ⟨μT,J2⟩
     exact .inl ⟨hB',_,_,_,_,_,_,_,J2⟩
   ·rw [hA a ha] at hSi
    cases hSi
  ·obtain ⟨o,AK⟩:=wCx (ZZ.zb.ao a ha)
   refine ⟨o,AK.get,wHi AK,?_⟩
   have hA:∀ c ∈ A,S1 c.ix=true:=fun c hc=>wDu hdc hpi (ZZ.cross a ha c hc).2
   rcases hI with ⟨hB,s,t,σA,h,σ',μ1,μS,J⟩ | ⟨_,μm,wm,g1,g2,s,t,σA,h,σ',μ1,μS,J⟩
   ·obtain ⟨μm,σ2,g1,g2,J1⟩:=toB S1 σ1 w1 s t σA h σ' μ1 μS hA hB J
    refine (stepB S1 a σ1 w1 _ _ _ _ _ _ _ _ _ o ha hSi hpi hdc AK J1).mono ?_
    rintro v w' ⟨s,t,σA,h,σ',μ1,μS,J2⟩
    exact .inr ⟨fun c hc=>by simp [hA c hc],_,_,g1,g2,_,_,_,_,_,_,_,J2⟩
   ·refine (stepB S1 a σ1 w1 _ _ _ _ _ _ _ _ _ o ha hSi hpi hdc AK J).mono ?_
    rintro v w' ⟨s,t,σA,h,σ',μ1,μS,J2⟩
    exact .inr ⟨fun c hc=>by simp [hA c hc],_,_,g1,g2,_,_,_,_,_,_,_,J2⟩
 ·rintro S1 σ1 w1 hall hI
  have hI2:∃ μm wm,Ext μ h0.fl.nat w μm wm/\h2.fl=h0.fl/\∃ s t σA h σ' μ1 μS,JS tb ex exY P l B σm h2 σf hf μm wm S1 σ1 w1 s t σA h σ' μ1 μS:=by
   rcases hI with ⟨hB,s,t,σA,h,σ',μ1,μS,J⟩ | ⟨_,hI⟩
   ·obtain ⟨μm,σ2,g1,g2,J1⟩:=toB S1 σ1 w1 s t σA h σ' μ1 μS (fun a ha=>hall _ (lt a (by rw [ZZ.eq];simp [ha]))) hB J
    exact ⟨_,_,g1,g2,_,_,_,_,_,_,_,J1⟩
   ·exact hI
  obtain ⟨μm,wm,g1,g2,s,t,σA,h,σ',μ1,μS,J⟩:=hI2
  have J0:JS tb ex exY P l B σm h2 σf hf μm wm S1 σ1 w1 s (t ++ []) σA h σ' μ1 μS:=by rw [nh];exact J
  obtain ⟨σB,hB,σ'',μB,J1⟩:=JS.catch ZZ.zb t J0 fun b hb=>hall _ (lt b (by rw [ZZ.eq,J.e];simp [hb]))
  have hr1:=J1.hr
  rw [wAy] at hr1
  cases hr1
  refine hQ μB w1 σ1 (g1.trans (g2 ▸ J1.E)) J1.sim (fun q=>?_) (J1.fl.trans g2)
  rw [J1.ag q fun b hb=>by simp at hb]
  exact J1.env q
end
end Go.KX
namespace Go.KX
open Go.RowKit Go.KL
section
variable {P:Program} {tb:Tr AF}
theorem wNs (hm:P.follows .mixedOrders=true) {ex exY:Run} (HC:wGB (CC P) P tb ex) (HY:wFD (CC P) P exY) (FE:FrX ex) (FY:FrX exY) {os:List AO} {σA σA':Tr AV} {h h':AH} (hr:wAc tb ex exY os σA h=some (σA',h')) {id N:Nat} {ops:Array Oper} {draw:Bool} (hc:chkR P N os ops.toList draw=true)
  {rr:Option Nat} {μ:Mu} {σ:Env} {w:World} {D:List Deferred} {n0:Nat} (S:Sim (CC P) P μ h w) (hE:EnvR μ σA σ) (M:Mk μ w n0 D):CK rr N P (.region id ops draw) (PostX P μ h.fl w n0 rr D .nrm σA' h') D σ w:=by
 unfold chkR at hc
 simp only [nB,nc] at hc
 obtain ⟨c1,c2⟩:=hc
 have hop:ops=ops.toList.toArray:=by simp
 have hcs:∀ a ∈ os,wGt P N ops.toList a=true/\kOf ((List.range ops.toList.length).map fun i=>kdAt i os) a.ix=a.kd:=fun a ha=>⟨(c1 a ha).1,nA (c1 a ha).2⟩
 have post:∀ {w0:World},Ext μ h.fl.nat w μ w0->Sim (CC P) P μ h w0->OKS N P ops.toList (PostX P μ h.fl w n0 rr D .nrm σA' h') D ((List.range ops.toList.length).map fun i=>kdAt i os) (wJE os) σ w0:=by
  intro w0 E0 S0
  refine wJF HC HY os σA h σA' h' hr hcs μ σ w0 S0 hE fun μ' w' σ' q1 q2 q3 q4=>?_
  have E:=E0.trans q1
  exact ⟨rfl,μ',E,q2,q3,M.ext E,q4,fun _=>rfl⟩
 rw [hop]
 cases draw with
 | true =>
  simp only at c2
  split at c2
  ·simp only [nB,nc,Nat.blt_eq] at c2
   exact CK.lazy hm HC HY FE FY (wNf (fun a ha=>(c1 a ha).1) c2.2) (wLB c2.1) hr S hE fun μ' w' σ' q1 q2 q3 q4=>⟨rfl,μ',q1,q2,q3,M.ext q1,q4,fun _=>rfl⟩
  ·exact CK.anyOrd hm _ _ c2 (post (Ext.drew μ _ w) (S.keep (Keep.drew w)))
 | false=>exact CK.reg _ c2 (post (Ext.refl μ _ w) S)
theorem wPQ {ex:Run} (HC:wGB (CC P) P tb ex) {g:AOd} {t:List Pos} {asg body:AC} {g':Operand} {ps:Array Tmp} {asg' body':Code} {N:Nat} (hc:wFY P N (.rf g t asg body) (.rangeFunc g' ps asg' body')=true)
  {σA σA':Tr AV} {h h':AH} {e:Ex} (hr:sRf true g t asg body tb ex σA h=some (e,σA',h')) {μ:Mu} {σ:Env} {w:World} {D:List Deferred} {n0:Nat} (S:Sim (CC P) P μ h w) (hE:EnvR μ σA σ) (M:Mk μ w n0 D) (hn:n0 <= w.heap.size) :
  CK none N P (.rangeFunc g' ps asg' body') (PostX P μ h.fl w n0 none D e σA' h') D σ w:=by
 simp only [wFY,nB] at hc
 obtain ⟨c1,c2,c3,c4⟩:=hc
 obtain ⟨p,rfl⟩:∃ p:List Nat,ps=p.toArray:=⟨ps.toList,by simp⟩
 ·obtain ⟨ht,c6⟩:=wLC (by simpa using c2)
  unfold sRf at hr
  split at hr
  ·rename_i f fi ca hg
   have hx:=wAI c1 hE
   rw [hg] at hx
   obtain ⟨fv,cv,g1,g2,g3⟩:=hx
   split at hr <;> first | (cases hr;done) | skip
   rename_i rv h2 hcall
   obtain ⟨hcf,hgv⟩:=HC _ _ _ _ _ hcall
   refine CK.rangeFunc (t:=p) g3 hcf fun fn l rb w1 e1 e2 hl hd K hs=>?_
   subst e1 e2
   have hle:=Mu.add_le (c:=(⟨w.heap.size + 1,0,⟨N,σ,p,asg',body',w.heap.size,fn⟩⟩:Cl)) (S.nx h.nx (nH _))
   obtain ⟨s1,s2,s3,s4⟩:=S.push (w':=w1) (c:=⟨w.heap.size + 1,0,⟨N,σ,p,asg',body',w.heap.size,fn⟩⟩) (B:=.loop σA t asg body .ready) K (Nat.le_succ _) (by show w.heap.size + 1 < _;omega) ⟨hl,hE.mono hle,ht,c6,c3,c4⟩
   generalize hμ1:μ.add h.nx (⟨w.heap.size + 1,0,⟨N,σ,p,asg',body',w.heap.size,fn⟩⟩:Cl)=μ1 at *
   have M1:Mk μ1 w1 n0 (mark w.heap.size :: D):=by
    have M':=M.ext s2
    obtain ⟨rbs,m1,m2,m3⟩:=M'
    have hold:∀ rb ∈ rbs,rb < w.heap.size:=by
     obtain ⟨rbs0,k1,k2,k3⟩:=M
     intro rb hrb
     have hmm:rbs.map mark=rbs0.map mark:=by rw [<- m1,<- k1]
     have hinj:rbs=rbs0:=by
      have:∀ (a b:List Nat),a.map mark=b.map mark->a=b:=by
       intro a
       induction a with
       | nil=>intro b hb;cases b with
        | nil=>rfl
        | cons _ _=>simp at hb
       | cons x a ih=>intro b hb;cases b with
        | nil=>simp at hb
        | cons y b =>
         simp only [List.map_cons,nV] at hb
         have hxy:x=y:=by have:=hb.1;simp [mark] at this;exact this
         rw [hxy,ih b hb.2]
      exact this _ _ hmm
     exact (k3 rb (hinj ▸ hrb)).1.lt
    refine ⟨w.heap.size :: rbs,by rw [List.map_cons,<- m1],List.nodup_cons.2 ⟨fun hm=>absurd (hold _ hm) (nk _),m2⟩,fun rb hrb=>?_⟩
    rcases nG.1 hrb with rfl | hrb
    ·refine ⟨hd,hn,fun q c hq=>?_⟩
     rw [<- hμ1] at hq
     unfold Mu.add at hq
     split at hq
     ·cases hq;show w.heap.size + 1 ≠ _;omega
     ·have:=S.lt q c hq;omega
    ·exact m3 rb hrb
   have G:=hgv μ1 w1 (fv ++ (.func (.yield (w.heap.size + 1)) #[] #[] :: cv)) s1 (wDr (g1.mono s2.mono) (wBc ⟨_,s4,rfl⟩ (g2.mono s2.mono)))
   rw [nN]
   refine G.mono ?_
   rintro v3 w3 ⟨μ3,q1,q2,q3,q4⟩
   rw [s3] at q1 q4
   have E13:=s2.trans q1
   have hc3:=q1.mono _ _ s4
   have fin:∀ {B:AB} {h3:AH} (w4:World),h2.m.get h.nx=some B->wLk B->h2.put h.nx .dead=some h3->Keep w3 w4 (·=w.heap.size + 1)->w4.heap.size=w3.heap.size->∃ μ',Ext μ h.fl.nat w μ' w4/\Sim (CC P) P μ' h3 w4/\EnvR μ' σA σ/\Mk μ' w4 n0 (mark w.heap.size :: D)/\h3.fl=h.fl:=by
    intro B h3 w4 hB hlv hput K4 _
    obtain ⟨v1,v2,v3⟩:=q2.put hput hB hlv hc3 K4 (B':=.dead) trivial
    rw [q4] at v2 v3
    exact ⟨μ3,E13.trans v2,v1,hE.mono E13.mono,(M1.ext q1).ext v2,v3⟩
   split at hr
   ·rename_i sx tx ax bx hB
    split at hr <;> first | (cases hr;done) | skip
    rename_i h3 hput
    cases hr
    obtain ⟨c',u1,u2⟩:=q2.at_ _ _ hB
    rw [hc3] at u1;cases u1
    have L3:wLj (CC P) μ3 w3 ⟨w.heap.size + 1,0,⟨N,σ,p,asg',body',w.heap.size,fn⟩⟩ sx tx ax bx .ready:=u2
    refine .inl ⟨L3.at_,fun w4 K4 hs4=>?_⟩
    obtain ⟨μ',a1,a2,a3,a4,a5⟩:=fin w4 hB trivial hput K4 hs4
    exact ⟨rfl,μ',a1,a2,a3,a4,a5,fun hq=>by cases hq⟩
   ·rename_i sx tx ax bx ee hB
    split at hr <;> first | (cases hr;done) | skip
    rename_i h3 hput
    cases hr
    obtain ⟨c',u1,u2⟩:=q2.at_ _ _ hB
    rw [hc3] at u1;cases u1
    have L3:wLj (CC P) μ3 w3 ⟨w.heap.size + 1,0,⟨N,σ,p,asg',body',w.heap.size,fn⟩⟩ sx tx ax bx (.done e):=u2
    cases e with
    | nrm =>
     refine .inl ⟨L3.at_,fun w4 K4 hs4=>?_⟩
     obtain ⟨μ',a1,a2,a3,a4,a5⟩:=fin w4 hB trivial hput K4 hs4
     exact ⟨rfl,μ',a1,a2,a3,a4,a5,fun hq=>by cases hq⟩
    | ret =>
     refine .inr ⟨.ret,.inl rfl,L3.at_,fun w4 K4 hs4=>?_⟩
     obtain ⟨μ',a1,a2,a3,a4,a5⟩:=fin w4 hB trivial hput K4 hs4
     exact ⟨rfl,μ',a1,a2,a3,a4,a5,fun hq=>by cases hq⟩
    | exit i =>
     refine .inr ⟨.exit i,.inr ⟨i,rfl⟩,L3.at_,fun w4 K4 hs4=>?_⟩
     obtain ⟨μ',a1,a2,a3,a4,a5⟩:=fin w4 hB trivial hput K4 hs4
     exact ⟨rfl,μ',a1,a2,a3,a4,a5,fun hq=>by cases hq⟩
   ·cases hr
  ·cases hr
theorem CK.ofRounds {rr:Option Nat} {N:Nat} {c:Code} {Q:wDC} {D:List Deferred} {σ:Env} {w:World} (m:Nat) (hh:∀ a,Rep N D a σ->Code.roundsIn (WF rr) 0 P c (wHM N Q) m a w):CK rr N P (.loop c) Q D σ w :=
 fun a ha=>wpIn_loop_rounds m (hh a ha)
theorem wSs {exR:Run} {r:Bool} (HE:wJG P exR r) {a b:AC} {σA σA':Tr AV} {h h':AH} {e:Ex} (hr:wSN a b exR σA h=some (e,σA',h')) {c d:Code} {N:Nat} (hc1:wFY P N a c=true) (hc2:wFY P N b d=true)
  {rr:Option Nat} {μ:Mu} {σ:Env} {w:World} {D:List Deferred} {n0:Nat} (hrr:rr.isSome=r) (S:Sim (CC P) P μ h w) (hE:EnvR μ σA σ) (M:Mk μ w n0 D) (hn:n0 <= w.heap.size):CK rr N P (.seq c d) (PostX P μ h.fl w n0 rr D e σA' h') D σ w:=by
 obtain ⟨⟨e1,σ1,h1⟩,ha,hb⟩:=wRz hr
 rw [wKM] at hb
 refine CK.seq ((HE _ _ _ _ _ _ ha c N hc1 rr μ σ w D n0 hrr S hE M hn).mono ?_)
 intro D' e' σ' w' hp
 obtain ⟨rfl,μ1,q1,q2,q3,q4,q5,q6⟩:=hp
 cases e1 with
 | nrm =>
  refine (HE _ _ _ _ _ _ hb d N hc2 rr μ1 σ' w' D' n0 hrr q2 q3 q4 (nX hn q1.keep.size)).mono ?_
  intro D'' e'' σ'' w'' hp
  rw [q5] at hp
  exact PostX.trans q1 q6 hp
 | ret=>cases hb;exact ⟨rfl,μ1,q1,q2,q3,q4,q5,q6⟩
 | exit i=>cases hb;exact ⟨rfl,μ1,q1,q2,q3,q4,q5,q6⟩
theorem wRV {exR:Run} {r:Bool} {m:Nat} (HE:wJG P exR r) (HL:wNg P exR r m) {a:AC} {σA σA':Tr AV} {h h':AH} {e:Ex} (hr:wMy a exR σA h=some (e,σA',h')) {c:Code} {N:Nat} (hc:wFY P N a c=true)
  {rr:Option Nat} {μ:Mu} {σ:Env} {w:World} {D:List Deferred} {n0:Nat} (hrr:rr.isSome=r) (S:Sim (CC P) P μ h w) (hE:EnvR μ σA σ) (M:Mk μ w n0 D) (hn:n0 <= w.heap.size):∀ act,Rep N D act σ->Code.roundsIn (WF rr) 0 P c (wHM N (PostX P μ h.fl w n0 rr D e σA' h')) (m + 1) act w:=by
 obtain ⟨⟨e1,σ1,h1⟩,ha,hb⟩:=wRz hr
 rw [wKM] at hb
 intro act hact
 rw [roundsIn_succ]
 refine wpIn_mono (HE _ _ _ _ _ _ ha c N hc rr μ σ w D n0 hrr S hE M hn act hact) ?_
 rintro e' act' w' ⟨σ',D',hrep,hp⟩
 obtain ⟨rfl,μ1,q1,q2,q3,q4,q5,q6⟩:=hp
 cases e1 with
 | nrm =>
  refine wGw ?_ m act' w' (HL _ _ _ _ _ _ hb c N hc rr μ1 σ' w' D' n0 hrr q2 q3 q4 (nX hn q1.keep.size) act' hrep)
  rintro e'' act'' w'' ⟨σ'',D'',hrep',hp⟩
  rw [q5] at hp
  exact ⟨σ'',D'',hrep',PostX.trans q1 q6 hp⟩
 | ret=>cases hb;exact ⟨σ',D',hrep,rfl,μ1,q1,q2,q3,q4,q5,q6⟩
 | exit i=>cases hb;exact ⟨σ',D',hrep,rfl,μ1,q1,q2,q3,q4,q5,q6⟩
theorem wRW (hm:P.follows .mixedOrders=true) (T:wLr P tb):∀ (n:Nat) (r:Bool),wJG P (exec tb n r) r/\wNg P (exec tb n r) r n:=by
 intro n
 induction n with
 | zero=>intro r;exact ⟨fun c σA h e σA' h' hr=>(by cases hr),fun c σA h e σA' h' hr=>(by cases hr)⟩
 | succ n ih =>
  intro r
  have HC:=wNh T (ih false).1
  have HY:=wPN (P:=P) (ih true).1
  obtain ⟨HE,HL⟩:=ih r
  have loop:wNg P (exec tb (n + 1) r) r (n + 1):=by
   intro c σA h e σA' h' hr code N hc rr μ σ w D n0 hrr S hE M hn
   have hr:wMy c (exec tb n r) σA h=some (e,σA',h'):=hr
   exact wRV HE HL hr hc hrr S hE M hn
  refine ⟨?_,loop⟩
  intro c σA h e σA' h' hr code N hc rr μ σ w D n0 hrr S hE M hn
  rw [wIu] at hr
  cases c with
  | skip =>
   have hr:sNrm σA h=some (e,σA',h'):=hr
   cases hr
   have fin:PostX P μ h.fl w n0 rr D .nrm σA h D .normal σ w:=⟨rfl,μ,Ext.refl μ _ w,S,hE,M,rfl,fun _=>rfl⟩
   cases code <;> simp only [wFY,nE] at hc
   ·exact CK.skip fin
   ·exact CK.label fin
  | rg os =>
   have hr:sRg os tb (exec tb n false) (exec tb n true) (exec tb n r) σA h=some (e,σA',h'):=hr
   unfold sRg at hr
   have:∃ y,wAc tb (exec tb n false) (exec tb n true) os σA h=some y/\some (Ex.nrm,y.1,y.2)=some (e,σA',h'):=by
    cases hq:wAc tb (exec tb n false) (exec tb n true) os σA h with
    | none=>rw [hq] at hr;cases hr
    | some y=>rw [hq] at hr;exact ⟨y,rfl,hr⟩
   obtain ⟨y,h1,h2⟩:=this
   cases h2
   cases code <;> simp only [wFY,nE] at hc
   exact wNs hm HC HY (wFF tb n false) (wFF tb n true) h1 hc S hE M
  | seq a b =>
   have hr:wSN a b (exec tb n r) σA h=some (e,σA',h'):=hr
   cases code <;> simp only [wFY,nE,nB] at hc
   exact wSs HE hr hc.1 hc.2 hrr S hE M hn
  | cond x a b =>
   have hr:wMx x a b (exec tb n r) σA h=some (e,σA',h'):=hr
   cases code <;> simp only [wFY,nE,nB] at hc
   have hx:=wAI hc.1 hE
   unfold wMx at hr
   split at hr
   ·rename_i hb;rw [hb] at hx
    exact CK.condT hx (HE _ _ _ _ _ _ hr _ N hc.2.1 rr μ σ w D n0 hrr S hE M hn)
   ·rename_i hb;rw [hb] at hx
    exact CK.condF hx (HE _ _ _ _ _ _ hr _ N hc.2.2 rr μ σ w D n0 hrr S hE M hn)
   ·cases hr
  | block i a =>
   have hr:wKm i a (exec tb n r) σA h=some (e,σA',h'):=hr
   cases code <;> simp only [wFY,nE,nB] at hc
   rename_i j code
   have hij:=nA hc.1
   subst hij
   obtain ⟨⟨e1,σ1,h1⟩,ha,hb⟩:=wRz hr
   refine CK.block ((HE _ _ _ _ _ _ ha code N hc.2 rr μ σ w D n0 hrr S hE M hn).mono ?_)
   rintro D' e' σ' w' ⟨rfl,μ1,q1,q2,q3,q4,q5,q6⟩
   cases e1 with
   | nrm=>cases hb;exact ⟨rfl,μ1,q1,q2,q3,q4,q5,q6⟩
   | ret=>cases hb;exact ⟨rfl,μ1,q1,q2,q3,q4,q5,q6⟩
   | exit k =>
    have hb:Bool.rec (motive:=fun _=>R) (some (.exit k,σ1,h1)) (some (.nrm,σ1,h1)) (na k i)=some (e,σA',h'):=hb
    cases hk:na k i with
    | true =>
     rw [hk] at hb;cases hb
     have:=nA hk
     subst this
     exact wHp ⟨rfl,μ1,q1,q2,q3,q4,q5,q6⟩
    | false =>
     rw [hk] at hb;cases hb
     exact wOw ⟨rfl,μ1,q1,q2,q3,q4,q5,q6⟩ hk
  | loop a =>
   have hr':exec tb (n + 1) r (.loop a) σA h=some (e,σA',h'):=hr
   cases code <;> simp only [wFY,nE] at hc
   exact CK.ofRounds (n + 1) (loop _ _ _ _ _ _ hr' _ N hc rr μ σ w D n0 hrr S hE M hn)
  | rf g t asg body =>
   have hr:sRf (!r) g t asg body tb (exec tb n false) σA h=some (e,σA',h'):=hr
   cases r with
   | true=>unfold sRf at hr;simp at hr
   | false =>
    have hnone:rr=none:=by cases rr <;> first | rfl | cases hrr
    subst hnone
    cases code <;> first | (simp only [wFY,nE] at hc;done) | skip
    exact wPQ HC hc hr S hE M hn
  | exit i =>
   have hr:some (Ex.exit i,σA,h)=some (e,σA',h'):=hr
   cases hr
   cases code <;> simp only [wFY,nE] at hc
   have:=nA hc
   subst this
   exact CK.exit ⟨rfl,μ,Ext.refl μ _ w,S,hE,M,rfl,fun _=>rfl⟩
  | scope a =>
   have hr:exec tb n r a σA h=some (e,σA',h'):=hr
   cases code <;> simp only [wFY,nE] at hc
   refine CK.scope ((HE _ _ _ _ _ _ hr _ N hc rr μ σ w D n0 hrr S hE M hn).mono ?_)
   rintro D' e' σ' w' ⟨rfl,q⟩
   cases e with
   | nrm=>exact ⟨rfl,q⟩
   | ret=>exact ⟨rfl,q⟩
   | exit k=>exact ⟨rfl,q⟩
  | ret =>
   have hr:some (Ex.ret,σA,h)=some (e,σA',h'):=hr
   cases hr
   cases code <;> simp only [wFY,nE] at hc
   exact CK.ret ⟨rfl,μ,Ext.refl μ _ w,S,hE,M,rfl,fun _=>rfl⟩
  | rl os =>
   have hr:sRl os tb (exec tb n false) (exec tb n true) σA h=some (e,σA',h'):=hr
   rw [wQB] at hr
   split at hr
   ·rename_i y hq
    cases hr
    obtain ⟨g1,g2⟩:=wKK _ _ _ _ hq
    cases code <;> simp only [wFY,nE,nB,nc] at hc
    rename_i id ops draw
    obtain ⟨rfl,c1,c2⟩:=hc
    have hop:ops=ops.toList.toArray:=by simp
    rw [hop]
    exact CK.lazy hm HC HY (wFF tb n false) (wFF tb n true) (wNf c1 c2) g2 g1 S hE fun μ' w' σ' q1 q2 q3 q4=>⟨rfl,μ',q1,q2,q3,M.ext q1,q4,fun _=>rfl⟩
   ·cases hr
theorem Sim.empty (C:Chk) (P:Program) (w:World):Sim C P (fun _=>none) ⟨.e,.H,.H⟩ w :=
 ⟨fun _ _=>rfl,fun _ _ h=>(by cases h),fun _ _ _ _ _ _ h=>(by rw [Tr.get_e] at h;cases h),fun _ _ h=>(by rw [Tr.get_e] at h;cases h)⟩
theorem wLu (hm:P.follows .mixedOrders=true) (T:wLr P tb) (n:Nat) (f:Pos) (args:List AV) (vs:List Value) (v:AV) (h:AH) (hv:∀ μ,RvL μ args vs) (hr:wIr tb (exec tb n false) f args ⟨.e,.H,.H⟩=some (v,h)) (w:World) :
  Gv P (f.nat - 1) vs w fun cv w'=>∃ μ,Rv μ v cv/\Keep w w' Non:=by
 obtain ⟨_,hg⟩:=wNh T (wRW hm T n false).1 f args _ v h hr
 refine (hg _ w vs (Sim.empty _ _ w) (hv _)).mono ?_
 rintro cv w' ⟨μ',h1,h2,h3,_⟩
 exact ⟨μ',h3,h1.keep.weak fun i _ ⟨p,d,hp,_⟩=>by cases hp⟩
noncomputable def okB (tb:Tr AF) (n:Nat) (f:Pos) (b:Bool):Bool:=match wIr tb (exec tb n false) f [] ⟨.e,.H,.H⟩ with
 | some (.bool b',_)=>b' == b
 | _=>false
theorem wPR (hm:P.follows .mixedOrders=true) (T:wLr P tb) (n:Nat) (f:Pos) (k:Nat) (hk:f.nat=k + 1) (b:Bool) (hr:okB tb n f b=true) (w:World):Gv P k [] w fun cv w'=>cv=.bool b/\Keep w w' Non:=by
 unfold okB at hr
 split at hr
 ·rename_i b' h hq
  have hb:=eq_of_beq hr
  subst hb
  have:=wLu hm T n f [] [] _ h (fun _=>rfl) hq w
  rw [hk] at this
  refine this.mono ?_
  rintro cv w' ⟨μ,h1,h2⟩
  exact ⟨h1,h2⟩
 ·cases hr
def wNt (f:Nat->AF->Prop):Tr AF->(Nat->Nat)->Prop
 | .e,_=>True
 | .n l v r,g=>(match v with | none=>True | some a=>f (g 1) a)/\wNt f l (fun n=>g (2 * n))/\wNt f r (fun n=>g (2 * n + 1))
theorem wHA {f:Nat->AF->Prop}:∀ {t:Tr AF} {g:Nat->Nat},wNt f t g->∀ p a,t.get p=some a->f (g p.nat) a
 | .e,g,_,p,a,hq=>by rw [Tr.get_e] at hq;cases hq
 | .n l v r,g,⟨h1,h2,h3⟩,.H,a,hq=>by
  rw [Tr.get_H] at hq;subst hq;exact h1
 | .n l v r,g,⟨h1,h2,h3⟩,.O p,a,hq=>wHA h2 p a hq
 | .n l v r,g,⟨h1,h2,h3⟩,.I p,a,hq=>wHA h3 p a hq
theorem wSt (h:wNt (fun n a=>chkF P (n - 1) a=true) tb fun n=>n):wLr P tb:=fun p af hq=>wHA h p af hq
end
end Go.KX
namespace Go.KL
variable {S S' B B' α:Type}
theorem wLH {body:Nat->S->Option (S ⊕ B)} (I:Nat->S->Prop) (Z:B->Prop):∀ (m k:Nat) (s:S),I k s ->
  (∀ i s,k <= i->i < k + m->I i s->(∃ s',body i s=some (.inl s')/\I (i + 1) s') \/ ∃ b,body i s=some (.inr b)/\Z b) ->
  (∃ s',forN body m k s=some (.inl s')/\I (k + m) s') \/ ∃ b,forN body m k s=some (.inr b)/\Z b
 | 0,k,s,h,_=>.inl ⟨s,rfl,h⟩
 | m + 1,k,s,h,hb=>by
  simp only [forN]
  rcases hb k s (nH _) (by omega) h with ⟨s',h1,h2⟩ | ⟨b,h1,h2⟩
  ·rw [h1]
   have:=wLH I Z m (k + 1) s' h2 fun i s h2 h3 h4=>hb i s (by omega) (by omega) h4
   rwa [show k + 1 + m=k + (m + 1) from by omega] at this
  ·rw [h1];exact .inr ⟨b,rfl,h2⟩
theorem wDm {body:Nat->S->Option S} (I:Nat->S->Prop):∀ (m k:Nat) (s:S),I k s ->
  (∀ i s,k <= i->i < k + m->I i s->∃ s',body i s=some s'/\I (i + 1) s')->∃ s',forN' body m k s=some s'/\I (k + m) s'
 | 0,k,s,h,_=>⟨s,rfl,h⟩
 | m + 1,k,s,h,hb=>by
  simp only [forN']
  obtain ⟨s',h1,h2⟩:=hb k s (nH _) (by omega) h
  rw [h1]
  have:=wDm I m (k + 1) s' h2 fun i s h2 h3 h4=>hb i s (by omega) (by omega) h4
  rwa [show k + 1 + m=k + (m + 1) from by omega] at this
theorem wDA {body:Nat->S->Option (S ⊕ B)} {n:Nat} {s:S} (hn:n <= 9223372036854775807):wGW 0 (n:Int) body s=forN body n 0 s:=by
 unfold wGW
 rw [if_pos (by omega),show ((n:Int) - 0).toNat=n from by omega]
theorem wDH {body:Nat->S->Option S} {n:Nat} {s:S} (hn:n <= 9223372036854775807):wBL 0 (n:Int) body s=forN' body n 0 s:=by
 unfold wBL
 rw [if_pos (by omega),show ((n:Int) - 0).toNat=n from by omega]
def first (p:α->Bool):List α->Nat->Int
 | [],_=>-1
 | a :: l,k=>if p a then (k:Int) else first p l (k + 1)
theorem wLv {R:Type} {l:List α} {f:α->Option Bool} {p:α->Bool} (hf:∀ a ∈ l,f a=some (p a)) (hn:l.length <= 9223372036854775807) (z:Int->R) :
  (jn (wGW 0 (↑l.length:Int) (fun k2 (_:Unit)=>(idx l (↑k2:Int)).bind fun x=>(f x).bind fun y=>if y=true then esc (some (z (↑k2:Int))) else some (.inl ())) ()) fun _=>some (z (-1)))=some (z (first p l 0)):=by
 rw [wDA hn]
 have key:∀ (m k:Nat),k + m=l.length->(jn (forN (fun k2 (_:Unit)=>(idx l (↑k2:Int)).bind fun x=>(f x).bind fun y=>if y=true then esc (some (z (↑k2:Int))) else some (.inl ())) m k ()) fun _=>some (z (-1)))=some (z (first p (l.drop k) k)):=by
  intro m
  induction m with
  | zero=>intro k hk;rw [nQ (by omega)];rfl
  | succ m ih =>
   intro k hk
   have hlt:k < l.length:=by omega
   rw [nL hlt,first,forN,wEq,nI hlt]
   simp only [nY,hf _ (nf hlt)]
   by_cases h:p l[k]=true
   ·simp [h]
   ·simp only [h,if_false,nE]
    exact ih (k + 1) (by omega)
 exact key l.length 0 (by omega)
theorem wLw [DecidableEq α] {l m:List α} (hn:l.length <= 9223372036854775807) :
  (if (↑l.length:Int)=(↑m.length:Int) then jn (wGW 0 (↑l.length:Int) (fun k4 (_:Unit)=>(idx l (↑k4:Int)).bind fun x26=>(idx m (↑k4:Int)).bind fun x34=>if x26=x34 then some (.inl ()) else esc (some false)) ()) fun _=>some true else some false)=some (decide (l=m)):=by
 by_cases hl:l.length=m.length
 ·rw [if_pos (by omega),wDA hn]
  have key:∀ (n k:Nat),k + n=l.length->(jn (forN (fun k4 (_:Unit)=>(idx l (↑k4:Int)).bind fun x26=>(idx m (↑k4:Int)).bind fun x34=>if x26=x34 then some (.inl ()) else esc (some false)) n k ()) fun _=>some true)=some (decide (l.drop k=m.drop k)):=by
   intro n
   induction n with
   | zero=>intro k hk;rw [nQ (by omega),nQ (by omega)];simp [forN]
   | succ n ih =>
    intro k hk
    have h1:k < l.length:=by omega
    have h2:k < m.length:=by omega
    rw [nL h1,nL h2,forN,wEq,wEq,nI h1,nI h2]
    simp only [nY]
    by_cases h:l[k]=m[k]
    ·rw [if_pos h]
     simp only
     rw [ih (k + 1) (by omega)]
     congr 1
     exact decide_eq_decide.2 ⟨fun e=>by rw [e,h],fun e=>(nu e).2⟩
    ·rw [if_neg h]
     have:¬ l[k] :: l.drop (k + 1)=m[k] :: m.drop (k + 1):=fun e=>h (nu e).1
     simp only [wOz,wGX,this,decide_false]
  have:=key l.length 0 (by omega)
  simpa using this
 ·rw [if_neg (by omega)]
  have:l ≠ m:=fun e=>hl (by rw [e])
  simp [this]
theorem wPV {R:Type} {l:List α} {g:α->Option (Unit ⊕ R)} {p:α->Bool} {z:R} {K:Unit->Option R} (hg:∀ a ∈ l,g a=if p a=true then some (.inl ()) else some (.inr z)) (hn:l.length <= 9223372036854775807) :
  jn (wGW 0 (↑l.length:Int) (fun k (_:Unit)=>(idx l (↑k:Int)).bind g) ()) K=if l.all p=true then K () else some z:=by
 rw [wDA hn]
 have key:∀ (m k:Nat),k + m=l.length->jn (forN (fun k (_:Unit)=>(idx l (↑k:Int)).bind g) m k ()) K=if (l.drop k).all p=true then K () else some z:=by
  intro m
  induction m with
  | zero=>intro k hk;rw [nQ (by omega)];rfl
  | succ m ih =>
   intro k hk
   have hlt:k < l.length:=by omega
   have e:l.drop k=l[k] :: l.drop (k + 1):=nL hlt
   rw [e,List.all_cons,forN,wEq,nI hlt]
   simp only [nY,hg _ (nf hlt)]
   by_cases h:p l[k]=true
   ·rw [h]
    simp only [if_true,Bool.true_and]
    exact ih (k + 1) (by omega)
   ·rw [if_neg h]
    have:p l[k]=false:=by simpa using h
    simp only [this,Bool.false_and,wGX,nE,if_false]
 exact key l.length 0 (by omega)
theorem wPW {β:Type} {l:List α} {f:α->β} {bytes:Nat} {g:α->List β->Option (List β)} (hg:∀ a ∈ l,∀ r,g a r=app bytes r [f a]) (hn:l.length <= 9223372036854775807) (hb:l.length * bytes <= 140737488355328) :
  wBL 0 (↑l.length:Int) (fun k r=>(idx l (↑k:Int)).bind fun x=>g x r) []=some (l.map f):=by
 rw [wDH hn]
 have key:∀ (m k:Nat) (r:List β),k + m=l.length->r.length=k->forN' (fun k r=>(idx l (↑k:Int)).bind fun x=>g x r) m k r=some (r ++ (l.drop k).map f):=by
  intro m
  induction m with
  | zero=>intro k r hk _;rw [nQ (by omega)];simp [forN']
  | succ m ih =>
   intro k r hk hr
   have hlt:k < l.length:=by omega
   have e:l.drop k=l[k] :: l.drop (k + 1):=nL hlt
   rw [e,forN',wEq,nI hlt]
   have ha:app bytes r [f l[k]]=some (r ++ [f l[k]]):=by
    refine if_pos ?_
    simp only [List.length_cons,List.length_nil]
    exact nX (Nat.mul_le_mul_right _ (by omega)) hb
   simp only [nY,hg _ (nf hlt),ha]
   rw [ih (k + 1) _ (by omega) (by simp [hr]),nN]
   rfl
 exact key l.length 0 [] (by omega) rfl
theorem wCm {bytes:Nat} {l m:List α} (h:(l.length + m.length) * bytes <= 140737488355328):app bytes l m=some (l ++ m):=if_pos h
end Go.KL
namespace Go.KL
variable {S B R α β:Type}
theorem wIL {body:Nat->S->Option (S ⊕ B)} (s:Nat->S):∀ (m k:Nat),(∀ i,k <= i->i < k + m->body i (s i)=some (.inl (s (i + 1))))->forN body m k (s k)=some (.inl (s (k + m)))
 | 0,_,_=>rfl
 | m + 1,k,h=>by
  rw [forN,h k (nH _) (by omega)]
  have:=wIL s m (k + 1) fun i h1 h2=>h i (by omega) (by omega)
  rw [show k + 1 + m=k + (m + 1) by omega] at this
  exact this
theorem wJL {body:Nat->S->Option S} (s:Nat->S):∀ (m k:Nat),(∀ i,k <= i->i < k + m->body i (s i)=some (s (i + 1)))->forN' body m k (s k)=some (s (k + m))
 | 0,_,_=>rfl
 | m + 1,k,h=>by
  rw [forN',h k (nH _) (by omega)]
  have:=wJL s m (k + 1) fun i h1 h2=>h i (by omega) (by omega)
  rw [show k + 1 + m=k + (m + 1) by omega] at this
  exact this
theorem wDB {body:Nat->S->Option S} {n:Nat} {s0:S} (s:Nat->S) (h0:s 0=s0) (hn:n <= 9223372036854775807) (h:∀ i,i < n->body i (s i)=some (s (i + 1))):wBL 0 (n:Int) body s0=some (s n):=by
 rw [wDH hn,<- h0]
 have:=wJL s n 0 fun i _ hi=>h i (by omega)
 rwa [nr] at this
theorem wPX {body:Nat->S->Option (S ⊕ B)} {n:Nat} {s0:S} (s:Nat->S) (h0:s 0=s0) (hn:n <= 9223372036854775807) (h:∀ i,i < n->body i (s i)=some (.inl (s (i + 1)))):wGW 0 (n:Int) body s0=some (.inl (s n)):=by
 rw [wDA hn,<- h0]
 have:=wIL s n 0 fun i _ hi=>h i (by omega)
 rwa [nr] at this
theorem wHG {body:Nat->Unit->Option (Unit ⊕ B)} {n:Nat} (hn:n <= 9223372036854775807) (h:∀ i,i < n->body i ()=some (.inl ())):wGW 0 (n:Int) body ()=some (.inl ()):=wPX (fun _=>()) rfl hn h
theorem wBf [Inhabited α] {l:List α} {k:Nat} (h:k < l.length):idx l (k:Int)=some (gd l k):=by
 rw [wEq]
 exact wBM h
theorem wAb [Inhabited α] {l:List α} {k:Nat} (h:k < l.length):gd l k ∈ l:=List.mem_of_getElem? (wBM h)
theorem wDS [Inhabited α] {l:List α} {k:Nat} (h:k < l.length):l.take (k + 1)=l.take k ++ [gd l k]:=by
 rw [List.take_add_one,wBM h]
 rfl
theorem wIM [Inhabited α] {l:List α} {k:Nat} (h:k < l.length):l.drop k=gd l k :: l.drop (k + 1):=by
 have:=wBM h
 rw [nI h] at this
 rw [nL h,nD this]
theorem wIN [Inhabited α] {l m:List α} {k:Nat} (h:k < l.length):gd (l ++ m) k=gd l k:=by
 have h1:=wBM (xs:=l ++ m) (k:=k) (by rw [List.length_append];omega)
 rw [List.getElem?_append_left h,wBM h] at h1
 exact (nD h1).symm
theorem wGQ [Inhabited α] (l m:List α) (x:α):gd (l ++ x :: m) l.length=x:=by
 have h1:=wBM (xs:=l ++ x :: m) (k:=l.length) (by simp)
 rw [List.getElem?_append_right (nH _),Nat.sub_self] at h1
 exact (nD h1).symm
theorem wFq [Inhabited α] [Inhabited β] (f:α->β) {l:List α} {k:Nat} (h:k < l.length):gd (l.map f) k=f (gd l k):=by
 have h1:=wBM (xs:=l.map f) (k:=k) (by simpa using h)
 rw [List.getElem?_map,wBM h] at h1
 exact (nD h1).symm
theorem wKP (o:Option α):(o.bind fun x=>some x)=o:=by cases o <;> rfl
theorem wJM [Inhabited α] {l m:List α} (h:l.length=m.length) (hk:∀ k,k < l.length->gd l k=gd m k):l=m:=by
 apply List.ext_getElem?
 intro k
 rcases Nat.lt_or_ge k l.length with h1 | h1
 ·rw [wBM h1,wBM (by omega),hk k h1]
 ·rw [nj h1,nj (by omega)]
end Go.KL
namespace Go.KL
variable {S B α:Type}
theorem wOA {body:S->Option (S ⊕ B)} (F:Nat):∀ (m:Nat) (s:Nat->S),(∀ i,i < m->body (s i)=some (.inl (s (i + 1))))->iter body (m + F) (s 0)=iter body F (s m)
 | 0,s,_=>by rw [nr]
 | m + 1,s,h=>by
  rw [show m + 1 + F=(m + F) + 1 by omega,iter,h 0 (by omega)]
  exact wOA F m (fun i=>s (i + 1)) fun i hi=>h (i + 1) (by omega)
theorem wRa {body:S->Option (S ⊕ B)} {m:Nat} (s:Nat->S) (h:∀ i,i < m->body (s i)=some (.inl (s (i + 1)))) {b:B} (hb:body (s m)=some (.inr b)) {s0:S} (h0:s 0=s0) (hm:m < 1000000):iter body big s0=some b:=by
 subst h0
 have:=wOA (big - m - 1 + 1) m s h
 rw [show m + (big - m - 1 + 1)=big by unfold big;omega] at this
 rw [this,iter,hb]
theorem wPY {body:S->Option (S ⊕ B)} (I:Nat->S->Prop) (Z:B->Prop) (m:Nat) (step:∀ i s,i <= m->I i s->(i < m/\∃ s',body s=some (.inl s')/\I (i + 1) s') \/ ∃ b,body s=some (.inr b)/\Z b) {s0:S} (h0:I 0 s0) (hm:m < 1000000):∃ b,iter body big s0=some b/\Z b:=by
 have key:∀ (d i:Nat) (s:S),i + d=m->I i s->∀ F,d < F->∃ b,iter body F s=some b/\Z b:=by
  intro d
  induction d with
  | zero =>
   intro i s hi hI F hF
   obtain ⟨F,rfl⟩:∃ G,F=G + 1:=⟨F - 1,by omega⟩
   rcases step i s (by omega) hI with ⟨h,_⟩ | ⟨b,h1,h2⟩
   ·omega
   ·exact ⟨b,by rw [iter,h1],h2⟩
  | succ d ih =>
   intro i s hi hI F hF
   obtain ⟨F,rfl⟩:∃ G,F=G + 1:=⟨F - 1,by omega⟩
   rcases step i s (by omega) hI with ⟨_,s',h1,h2⟩ | ⟨b,h1,h2⟩
   ·obtain ⟨b,h3,h4⟩:=ih (i + 1) s' (by omega) h2 F (by omega)
    exact ⟨b,by rw [iter,h1];exact h3,h4⟩
   ·exact ⟨b,by rw [iter,h1],h2⟩
 exact key m 0 s0 (by omega) h0 big (by unfold big;omega)
theorem wQP [Inhabited α] {l:List α} {i k:Nat} {x:α} (hi:i < l.length) (hk:k < l.length):gd (l.set i x) k=if k=i then x else gd l k:=by
 have h1:=wBM (xs:=l.set i x) (k:=k) (by rw [List.length_set];exact hk)
 rw [List.getElem?_set] at h1
 by_cases e:i=k
 ·subst e
  rw [if_pos rfl,if_pos hi] at h1
  rw [if_pos rfl]
  exact (nD h1).symm
 ·rw [if_neg e,wBM hk] at h1
  rw [if_neg (fun h=>e h.symm)]
  exact (nD h1).symm
theorem wBm [Inhabited α] {l:List α} {k:Nat} (h:k < l.length):gd l k=l[k]:=by
 have:=wBM h
 rw [nI h] at this
 exact (nD this).symm
theorem wFr [DecidableEq α] {l:List α} (hn:l.length <= 9223372036854775807) :
  (if (↑l.length:Int)=(↑l.length:Int) then jn (wGW 0 (↑l.length:Int) (fun k4 (_:Unit)=>(idx l (↑k4:Int)).bind fun x26=>(idx l (↑k4:Int)).bind fun x34=>if x26=x34 then some (.inl ()) else esc (some false)) ()) fun _=>some true else some false)=some true:=by
 rw [wLw hn]
 simp
end Go.KL
namespace Go.KL
end Go.KL
namespace Go.KL
open List MergeSort.Internal in
theorem wFK {α:Type} {le le':α->α->Bool}:∀ (l r:List α),(∀ x ∈ l,∀ y ∈ r,le x y=le' x y)->merge l r le=merge l r le'
 | [],r,_=>by simp
 | l,[],_=>by simp
 | a :: l,b :: r,h=>by
  rw [cons_merge_cons,cons_merge_cons,h a (by simp) b (by simp),wFK l (b :: r) (fun x hx y hy=>h x (by simp [hx]) y hy),wFK (a :: l) r (fun x hx y hy=>h x hx y (by simp [hy]))]
open List MergeSort.Internal in
theorem wFL {α:Type} {le le':α->α->Bool}:∀ (l:List α),(∀ x ∈ l,∀ y ∈ l,le x y=le' x y)->mergeSort l le=mergeSort l le'
 | [],_=>by simp
 | [a],_=>by simp
 | a :: b :: xs,h=>by
  have m1:∀ x ∈ (splitInTwo ⟨a :: b :: xs,rfl⟩).1.1,x ∈ a :: b :: xs:=fun x hx=>by
   rw [splitInTwo_fst] at hx
   exact List.mem_of_mem_take hx
  have m2:∀ x ∈ (splitInTwo ⟨a :: b :: xs,rfl⟩).2.1,x ∈ a :: b :: xs:=fun x hx=>by
   rw [splitInTwo_snd] at hx
   exact List.mem_of_mem_drop hx
  have:(splitInTwo ⟨a :: b :: xs,rfl⟩).1.1.length < xs.length + 1 + 1:=by simp [splitInTwo_fst];omega
  have:(splitInTwo ⟨a :: b :: xs,rfl⟩).2.1.length < xs.length + 1 + 1:=by simp [splitInTwo_snd];omega
  simp only [mergeSort]
  rw [wFL _ (fun x hx y hy=>h x (m1 x hx) y (m1 y hy)),wFL _ (fun x hx y hy=>h x (m2 x hx) y (m2 y hy))]
  exact wFK _ _ fun x hx y hy=>h x (m1 x ((mem_mergeSort).1 hx)) y (m2 y ((mem_mergeSort).1 hy))
termination_by l=>l.length
end Go.KL
namespace Go.Proofs.YtglpalgiipahjaaGreat
def sm (f:Nat->Nat):Nat->Nat
 | 0=>0
 | k + 1=>sm f k + f k
theorem wCk {f g:Nat->Nat}:∀ {C:Nat},(∀ x,x < C->f x=g x)->sm f C=sm g C
 | 0,_=>rfl
 | C + 1,h=>by
  simp only [sm]
  rw [wCk (fun x hx=>h x (by omega)),h C (by omega)]
theorem wRg {f g:Nat->Nat}:∀ {C:Nat},(∀ x,x < C->f x <= g x)->sm f C <= sm g C
 | 0,_=>nH _
 | C + 1,h=>by
  simp only [sm]
  have:=wRg (C:=C) (fun x hx=>h x (by omega))
  have:=h C (by omega)
  omega
theorem wLP {f g:Nat->Nat}:∀ {C:Nat},sm (fun x=>f x + g x) C=sm f C + sm g C
 | 0=>rfl
 | C + 1=>by
  simp only [sm]
  rw [wLP (C:=C)]
  omega
theorem wKT {f:Nat->Nat}:∀ {C:Nat},(∀ x,x < C->f x=0)->sm f C=0
 | 0,_=>rfl
 | C + 1,h=>by
  simp only [sm]
  rw [wKT (C:=C) (fun x hx=>h x (by omega)),h C (by omega)]
theorem wKU {f g:Nat->Nat} {x:Nat}:∀ {C:Nat},x < C->f x=g x + 1->(∀ y,y ≠ x->f y=g y)->sm f C=sm g C + 1
 | 0,h,_,_=>by omega
 | C + 1,h,e,o=>by
  simp only [sm]
  by_cases hx:x=C
  ·rw [<- hx,e,wCk (f:=f) (g:=g) (fun y hy=>o y (by omega))]
   omega
  ·rw [wKU (C:=C) (by omega) e o,o C (by omega)]
   omega
theorem wOI {f:Nat->Nat}:∀ {C:Nat},0 < sm f C->∃ x,x < C/\0 < f x
 | 0,h=>by simp only [sm] at h;omega
 | C + 1,h=>by
  simp only [sm] at h
  by_cases hf:0 < f C
  ·exact ⟨C,by omega,hf⟩
  ·obtain ⟨x,hx,h1⟩:=wOI (C:=C) (f:=f) (by omega)
   exact ⟨x,by omega,h1⟩
def cnt (p:Nat->Nat):Nat->Nat->Nat
 | 0,_=>0
 | t + 1,x=>cnt p t x + if p t=x then 1 else 0
theorem wFe {p q:Nat->Nat} {x:Nat}:∀ {t:Nat},(∀ r,r < t->p r=q r)->cnt p t x=cnt q t x
 | 0,_=>rfl
 | t + 1,h=>by
  simp only [cnt]
  rw [wFe (t:=t) (fun r hr=>h r (by omega)),h t (by omega)]
theorem wOJ {p:Nat->Nat} {C:Nat}:∀ {t:Nat},(∀ r,r < t->p r < C)->sm (cnt p t) C=t
 | 0,_=>wKT fun _ _=>rfl
 | t + 1,h=>by
  rw [wKU (g:=cnt p t) (x:=p t) (h t (by omega)) (by simp [cnt]) (fun y hy=>by simp [cnt,Ne.symm hy]),wOJ (t:=t) (fun r hr=>h r (by omega))]
def Gap (p:Nat->Nat) (d T:Nat):Prop:=∀ t,t < T->∀ r,r < t->p r=p t->d <= t - r
theorem win {p:Nat->Nat} {d T x s:Nat} (G:Gap p d T):∀ k,k <= d->s + k <= T ->
  ((∀ r,s <= r->r < s + k->p r ≠ x)/\cnt p (s + k) x=cnt p s x) \/ ((∃ r,s <= r/\r < s + k/\p r=x)/\cnt p (s + k) x=cnt p s x + 1)
 | 0,_,_=>.inl ⟨fun r h1 h2=>by omega,rfl⟩
 | k + 1,h1,h2=>by
  rcases win (x:=x) (s:=s) G k (by omega) (by omega) with ⟨a,b⟩ | ⟨⟨r,r1,r2,r3⟩,b⟩
  ·by_cases e:p (s + k)=x
   ·refine .inr ⟨⟨s + k,by omega,by omega,e⟩,?_⟩
    rw [<- nl]
    simp only [cnt,if_pos e,b]
   ·refine .inl ⟨fun r r1 r2=>?_,?_⟩
    ·by_cases er:r=s + k
     ·rw [er];exact e
     ·exact a r r1 (by omega)
    ·rw [<- nl]
     simp only [cnt,if_neg e,b,ng]
  ·refine .inr ⟨⟨r,r1,by omega,r3⟩,?_⟩
   rw [<- nl]
   have e:p (s + k) ≠ x:=fun e=>by
    have:=G (s + k) (by omega) r r2 (by rw [r3,e])
    omega
   simp only [cnt,if_neg e,b,ng]
structure Gr (C d:Nat) (c p:Nat->Nat) (T:Nat):Prop where
 lt:∀ t,t < T->p t < C
 pos:∀ t,t < T->cnt p t (p t) < c (p t)
 gap:Gap p d T
 best:∀ t,t < T->∀ x,x < C->cnt p t x < c x->(∀ r,r < t->p r=x->d <= t - r)->c x - cnt p t x <= c (p t) - cnt p t (p t)
def lv (C:Nat) (c p:Nat->Nat) (t u:Nat):Nat:=sm (fun x=>c x - cnt p t x - u) C
theorem wOK {C d n t T u:Nat} {c p:Nat->Nat} (G:Gr C d c p T) (hd:1 <= d) (ht:t <= T) (F:∀ t',t' <= t->∀ u,0 < lv C c p t' u->lv C c p t' u + u * d + t' <= n)
  (cl:∀ s x,s <= T->cnt p s x <= c x)
  (b:∀ x,x < C->u < c x - cnt p t x->∃ r,r < t/\p r=x/\t < r + d) (hp:0 < lv C c p t u):lv C c p t u + u * d + t + 1 <= n:=by
 have e:lv C c p (t + 1 - d) (u + 1)=lv C c p t u:=wCk fun x hx=>by
  have e2:t + 1 - d + (t - (t + 1 - d))=t:=by omega
  have c1:=cl t x ht
  have c2:=cl (t + 1 - d) x (by omega)
  rcases win (x:=x) (s:=t + 1 - d) G.gap (t - (t + 1 - d)) (by omega) (by omega) with ⟨a,w⟩ | ⟨_,w⟩
  ·rw [e2] at w a
   by_cases hu:u < c x - cnt p t x
   ·obtain ⟨r,r1,r2,r3⟩:=b x hx hu
    exact absurd r2 (a r (by omega) r1)
   ·omega
  ·rw [e2] at w
   omega
 have h:=F (t + 1 - d) (by omega) (u + 1) (by rw [e];exact hp)
 rw [e,nt] at h
 omega
theorem wOL {C d T:Nat} {c p:Nat->Nat} (G:Gr C d c p T):∀ s x,s <= T->cnt p s x <= c x
 | 0,_,_=>by simp [cnt]
 | s + 1,x,h=>by
  have:=wOL G s x (by omega)
  simp only [cnt]
  by_cases e:p s=x
  ·have:=G.pos s (by omega)
   rw [e] at this
   rw [if_pos e]
   omega
  ·rw [if_neg e]
   omega
theorem wTF {C d n T:Nat} {c p:Nat->Nat} (G:Gr C d c p T) (hd:1 <= d) (h0:∀ u,0 < lv C c p 0 u->lv C c p 0 u + u * d <= n) :
  ∀ t,t <= T->∀ t',t' <= t->∀ u,0 < lv C c p t' u->lv C c p t' u + u * d + t' <= n
 | 0,_,t',h,u,hu=>by
  have:t'=0:=by omega
  subst this
  have:=h0 u hu
  omega
 | t + 1,ht,t',h,u,hu=>by
  have F:=wTF G hd h0 t (by omega)
  by_cases e:t' <= t
  ·exact F t' e u hu
  have:t'=t + 1:=by omega
  subst this
  have hw:=G.pos t (by omega)
  by_cases hl:u < c (p t) - cnt p t (p t)
  ·have e1:lv C c p t u=lv C c p (t + 1) u + 1:=by
    refine wKU (x:=p t) (G.lt t (by omega)) ?_ fun y hy=>?_
    ·simp only [cnt,if_true]
     omega
    ·simp only [cnt,if_neg (Ne.symm hy),ng]
   have:=F t (by omega) u (by omega)
   omega
  ·have e1:lv C c p (t + 1) u=lv C c p t u:=wCk fun x hx=>by
    simp only [cnt]
    by_cases ex:p t=x
    ·subst ex
     rw [if_pos rfl]
     omega
    ·rw [if_neg ex,ng]
   rw [e1] at hu ⊢
   have:=wOK G hd (t:=t) (by omega) F (wOL G) (fun x hx hx2=>by
    by_cases hr:∀ r,r < t->p r=x->d <= t - r
    ·have:=G.best t (by omega) x hx (by omega) hr
     omega
    ·simp only [Classical.not_forall] at hr
     obtain ⟨r,r1,r2,r3⟩:=hr
     exact ⟨r,r1,r2,by omega⟩) hu
   omega
theorem wPi {C d n T:Nat} {c p:Nat->Nat} (G:Gr C d c p T) (hd:1 <= d) (h0:∀ u,0 < lv C c p 0 u->lv C c p 0 u + u * d <= n) (hn:sm c C=n) (hT:T < n) :
  ∃ x,x < C/\cnt p T x < c x/\∀ r,r < T->p r=x->d <= T - r:=by
 refine nW fun hno=>?_
 have cl:=wOL G
 have e:lv C c p T 0 + T=n:=by
  have:=wLP (f:=fun x=>c x - cnt p T x - 0) (g:=cnt p T) (C:=C)
  rw [wOJ G.lt,wCk (g:=c) (fun x _=>by have:=cl T x (nH _);omega),hn] at this
  exact this.symm
 have:=wOK G hd (t:=T) (u:=0) (nH _) (wTF G hd h0 T (nH _)) cl (fun x hx hx2=>by
  refine nW fun h2=>hno ⟨x,hx,by omega,fun r r1 r2=>?_⟩
  refine nW fun h3=>h2 ⟨r,r1,r2,by omega⟩) (by omega)
 omega
def nb (C:Nat) (c:Nat->Nat) (j:Nat):Nat:=sm (fun x=>if j <= c x then 1 else 0) C
def gl (C:Nat) (c:Nat->Nat) (u:Nat):Nat:=sm (fun x=>min (c x) u) C
theorem wIR {C:Nat} {c:Nat->Nat} (u:Nat):gl C c (u + 1)=gl C c u + nb C c (u + 1):=by
 unfold gl nb
 rw [<- wLP]
 refine wCk fun x _=>?_
 by_cases h:u + 1 <= c x
 ·rw [if_pos h];omega
 ·rw [if_neg h];omega
theorem wOM {C:Nat} {c:Nat->Nat} {i j:Nat} (h:i <= j):nb C c j <= nb C c i:=wRg fun x _=>by
 by_cases h1:j <= c x
 ·rw [if_pos h1,if_pos (by omega)];omega
 ·rw [if_neg h1];omega
theorem wRh {C d:Nat} {c:Nat->Nat}:∀ u,(∀ i,i < u->d <= nb C c (i + 1))->u * d <= gl C c u
 | 0,_=>by omega
 | u + 1,h=>by
  have:=wRh u (fun i hi=>h i (by omega))
  have:=h u (by omega)
  rw [wIR,nt]
  omega
theorem wTG {C d M:Nat} {c:Nat->Nat} (h:M * d <= gl C c M):∀ k,k <= M->(M - k) * d <= gl C c (M - k)
 | 0,_=>h
 | k + 1,hk=>by
  have h1:=wTG h k (by omega)
  have e:M - k=M - (k + 1) + 1:=by omega
  by_cases hb:nb C c (M - k) <= d
  ·rw [e,wIR,nt,<- e] at h1
   omega
  ·exact wRh _ fun i hi=>nX (by omega) (wOM (i:=i + 1) (j:=M - k) (by omega))
theorem wPj {C d m n:Nat} {c p:Nat->Nat} (hm:1 <= m) (top:∀ x,x < C->c x <= m) (hn:sm c C=n) (hd:(m - 1) * d + nb C c m <= n):∀ u,0 < lv C c p 0 u->lv C c p 0 u + u * d <= n:=by
 intro u hu
 have es:∀ u,lv C c p 0 u + gl C c u=n:=fun u=>by
  unfold lv gl
  rw [<- wLP,<- hn]
  exact wCk fun x _=>by simp only [cnt];omega
 obtain ⟨x,hx,h1⟩:=wOI hu
 simp only [cnt] at h1
 have:=top x hx
 have z:lv C c p 0 m=0:=wKT fun x hx=>by have:=top x hx;simp only [cnt];omega
 have e1:=es m
 have e2:=wIR (C:=C) (c:=c) (m - 1)
 rw [Nat.sub_add_cancel hm] at e2
 have h2:=wTG (C:=C) (c:=c) (d:=d) (M:=m - 1) (by omega) (m - 1 - u) (by omega)
 rw [show m - 1 - (m - 1 - u)=u by omega] at h2
 have:=es u
 omega
end Go.Proofs.YtglpalgiipahjaaGreat
