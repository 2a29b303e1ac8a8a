import Derived.Test.YtkeeechdijfkhaaY1
import Derived.Test.YtkeeechdijfkhaaY0
set_option linter.all false
open Option renaming bind_some->hH
open Nat renaming eq_of_beq_eq_true->nA,le_refl->nI,le_trans->ni,zero_add->nj,beq->kB,lt_irrefl->kQ,lt_of_lt_of_le->kS
open Bool renaming and_eq_true->nB,false_eq_true->nE,or_eq_true->nw
open Option.some renaming inj->nD
open List renaming mem_cons->nG,mem_append->nH,cons_append->nJ,map_cons->nK,append_of_mem->nL,append_assoc->nM,length_nil->nO,mem_append_right->nQ,length_append->nR,length_singleton->nS,getElem?_eq_some_iff->nT,pairwise_append->nU,append_nil->nV,pairwise_cons->nY,mem_singleton->nZ,length_filter_le->na,mem_append_left->nc,all_eq_true->nf,getElem?_eq_getElem->ng,nil_append->nh,length_cons->nk,getD_eq_getElem?_getD->nl,nodup_cons->nt,mem_filter->nu,mem_range->nv,range->ny,filter_append->nz,drop_eq_getElem_cons->kA,length_take->kC,getElem?_replicate->kD,filter_cons_of_pos->kE,filter_cons_of_neg->kG,length_map->kH,range_succ->kJ,map_append->kK,length_set->kL,drop_eq_nil_of_le->kM,replicate->kO,mem_cons_of_mem->kP,any_cons->kR,mem_filterMap->kU
open Int renaming toNat_natCast->nW,le_refl->nX,tmod_eq_emod_of_nonneg->nq,le_trans->kV,add_zero->kW,emod_lt_of_pos->kX
open List.cons renaming injEq->nr
namespace Go.KX
open Go.RowKit Go.KL
theorem wIf (b:AC) (exR:Run) (e:Ex) (σ:Tr AV) (h:AH):seqK b exR (e,σ,h)=(match e with | .nrm=>exR b σ h | e=>some (e,σ,h)):=by cases e <;> rfl
theorem wOt {x:R} {k:Ex × Tr AV × AH->R} {r:Ex × Tr AV × AH} (hr:Option.rec (motive:=fun _=>R) none k x=some r):∃ y,x=some y/\k y=some r:=by
 cases x with
 | none=>cases hr
 | some y=>exact ⟨y,rfl,hr⟩
structure Fr (h h':AH):Prop where
 nx:h.nx.nat <= h'.nx.nat
 fl:h'.fl=h.fl
 get:∀ p,p.nat < h.fl.nat->p.nat < h.nx.nat->h'.m.get p=h.m.get p
theorem Fr.refl (h:AH):Fr h h:=⟨nI _,rfl,fun _ _ _=>rfl⟩
theorem Fr.trans {a b c:AH} (h:Fr a b) (k:Fr b c):Fr a c :=
 ⟨ni h.nx k.nx,k.fl.trans h.fl,fun p h1 h2=>(k.get p (by rw [h.fl];exact h1) (kS h2 h.nx)).trans (h.get p h1 h2)⟩
theorem Fr.push (h:AH) (B:AB):Fr h (h.push B):=by
 refine ⟨?_,rfl,fun p _ h2=>?_⟩
 ·show h.nx.nat <= h.nx.succ.nat
  rw [Pos.nat_succ];omega
 ·show (h.m.set h.nx B).get p=_
  rw [Tr.get_set,if_neg (fun e=>by subst e;omega)]
theorem Fr.put {h h':AH} {p:Pos} {B:AB} (hp:h.put p B=some h'):Fr h h':=by
 obtain ⟨h1,rfl⟩:=wHB hp
 refine ⟨nI _,rfl,fun q h2 _=>?_⟩
 show (h.m.set p B).get q=_
 rw [Tr.get_set,if_neg (fun e=>by subst e;omega)]
theorem Fr.setAt {h h':AH} {b:Pos} {off:Nat} {vs:List AV} (hs:KX.setAt h b off vs=some h'):Fr h h':=by
 unfold KX.setAt at hs
 split at hs
 ·split at hs
  ·exact Fr.put hs
  ·cases hs
 ·split at hs
  ·exact Fr.put hs
  ·cases hs
 ·cases hs
theorem wOL {h h':AH} {o:Option AV} {v:AV} (hr:okV h o=some (v,h')):h'=h:=by
 cases o with
 | none=>cases hr
 | some x=>cases hr;rfl
theorem wGP {α:Type} {b:Bool} {x:Option α} {y:α} (hr:ifO b x=some y):x=some y:=by
 cases b with
 | true=>exact hr
 | false=>cases hr
section
variable {tb:Tr AF} {ex exY:Run} {σ:Tr AV} {h h':AH} {v:AV}
theorem wPf {T sz by_ m:Nat} {news:List AV} {x:AV} (hr:app h T sz by_ m news x=some (v,h')):Fr h h':=by
 unfold app at hr
 split at hr
 ·split at hr <;> first | (cases hr;exact Fr.refl _) | (cases hr;done)
 ·split at hr
  ·have hr:=wGP hr;cases hr;exact Fr.push _ _
  ·split at hr
   ·split at hr
    ·rename_i hs;cases hr;exact Fr.setAt hs
    ·cases hr
   ·have hr:=wGP hr
    split at hr
    ·cases hr;exact Fr.push _ _
    ·cases hr
  ·split at hr
   ·split at hr
    ·split at hr
     ·rename_i hs;cases hr;exact Fr.setAt hs
     ·cases hr
    ·have hr:=wGP hr
     split at hr
     ·rename_i hs;cases hr;exact (Fr.put hs).trans (Fr.push _ _)
     ·cases hr
   ·cases hr
  ·cases hr
theorem wNG {z:List AV} {b:Pos} {off n:Nat} (hr:clr h z b off n=some (v,h')):Fr h h':=by
 unfold clr at hr
 split at hr
 ·cases hr;exact Fr.refl _
 ·have hr:=wGP hr
  split at hr
  ·rename_i hs;cases hr;exact Fr.setAt hs
  ·cases hr
def FrX (ex:Run):Prop:=∀ c σ h e σ' h',ex c σ h=some (e,σ',h')->Fr h h'
theorem wNH {l:List AR} (hr:wNd σ h l=some (v,h')):Fr h h':=by
 unfold wNd at hr
 split at hr
 ·cases hr;exact Fr.refl _
 ·cases hr
theorem wLZ (HE:FrX ex) {f:Pos} {args:List AV} (hr:wHc tb ex f args h=some (v,h')):Fr h h':=by
 unfold wHc at hr
 split at hr
 ·split at hr
  ·split at hr
   ·rename_i h1;exact (HE _ _ _ _ _ _ h1).trans (wNH hr)
   ·rename_i h1;exact (HE _ _ _ _ _ _ h1).trans (wNH hr)
   ·cases hr
  ·cases hr
 ·cases hr
theorem wMX (HY:FrX ex) {b:Pos} {args:List AV} (hr:wHd ex b args h=some (v,h')):Fr h h':=by
 unfold wHd at hr
 split at hr
 ·split at hr
  ·cases hr
  ·split at hr
   ·rename_i h1
    split at hr
    ·split at hr
     ·rename_i h2
      split at hr
      ·rename_i h3
       split at hr
       ·split at hr
        ·rename_i h4
         cases hr
         exact (HY _ _ _ _ _ _ h1).trans ((Fr.put h2).trans ((HY _ _ _ _ _ _ h3).trans (Fr.put h4)))
        ·cases hr
       ·cases hr
      ·cases hr
     ·cases hr
    ·cases hr
   ·cases hr
 ·cases hr
theorem wLa (HE:FrX ex) (HY:FrX exY) (op:AOp) (hr:opY op tb ex exY σ h=some (v,h')):Fr h h':=by
  cases op with
  | call x l =>
    have hr:wEv x l tb ex exY σ h=some (v,h'):=hr
    unfold wEv at hr
    split at hr
    · exact wLZ HE hr
    · exact wMX HY hr
    · cases hr
  | new T z=>cases hr;exact Fr.push _ _
  | box T x=>cases hr;exact Fr.push _ _
  | mkm=>cases hr;exact Fr.push _ _
  | mks T sz b z x y =>
    have hr:wFb T sz b z x y σ h=some (v,h'):=hr
    unfold wFb at hr
    split at hr
    · have hr:=wGP hr;cases hr;exact Fr.push _ _
    · cases hr
  | blds T n z ps =>
    have hr:wDX T n z ps σ h=some (v,h'):=hr
    unfold wDX at hr
    split at hr
    · cases hr;exact Fr.push _ _
    · cases hr
  | st n x y =>
    have hr:wMv n x y σ h=some (v,h'):=hr
    unfold wMv at hr
    split at hr
    · split at hr
      · split at hr
        · rename_i hs;cases hr;exact Fr.setAt hs
        · cases hr
      · cases hr
    · cases hr
  | mput two k x y z =>
    have hr:wEt two k x y z σ h=some (v,h'):=hr
    unfold wEt at hr
    split at hr
    · split at hr
      · split at hr
        · split at hr
          · rename_i hs;cases hr;exact Fr.put hs
          · cases hr
        · cases hr
      · cases hr
    · cases hr
  | mdel two k x y =>
    have hr:wEu two k x y σ h=some (v,h'):=hr
    unfold wEu at hr
    split at hr
    · split at hr
      · split at hr
        · split at hr
          · rename_i hs;cases hr;exact Fr.put hs
          · cases hr
        · cases hr
      · cases hr
    · cases hr
  | app T sz b x y =>
    have hr:wHZ T sz b x y σ h=some (v,h'):=hr
    unfold wHZ at hr
    split at hr
    · exact wPf (wGP hr)
    · cases hr
  | cpy sz x y =>
    have hr:wHa sz x y σ h=some (v,h'):=hr
    unfold wHa at hr
    split at hr
    · split at hr
      · have hr:=wGP hr
        split at hr
        · rename_i hs;cases hr;exact Fr.setAt hs
        · cases hr
      · cases hr
    · cases hr
  | clr z x =>
    have hr:wHb z x σ h=some (v,h'):=hr
    unfold wHb at hr
    split at hr
    · exact wNG hr
    · exact wNG hr
    · cases hr;exact Fr.refl _
    · cases hr;exact Fr.refl _
    · cases hr
  | bad=>cases hr
  | apz T sz b z x y =>
    have hr:wHe T sz b z x y σ h=some (v,h'):=hr
    unfold wHe at hr
    split at hr
    · split at hr
      · cases hr;exact Fr.refl _
      · have hr:=wGP hr;cases hr;exact Fr.push _ _
    · cases hr
  | _ =>
    have e:h'=h:=by
      dsimp only [opY] at hr
      first
        | exact wOL hr
        | (simp only [wOp,wFZ,wMC,wGO,wFa,wIG,wIH,wII,wIJ,wIK,wJj,wIL,wFc,wIM,wIN,wFd,wIO,wFe,wNc,wIP,wMD,wIQ,wIR,wDo,wIS,wIT] at hr
           repeat' (split at hr)
           all_goals first
             | exact wOL hr
             | (cases hr;rfl)
             | (cases hr;done)
             | exact wOL (wGP hr)
             | (have hr2:=wGP hr;cases hr2;rfl))
    subst e
    exact Fr.refl _
theorem wNI (HE:FrX ex) (HY:FrX exY) (k:Nat) (op:AOp) (hr:opK k op tb ex exY σ h=some (v,h')):Fr h h':=by
 by_cases k2:kB k 2=true
 ·have hr:wMw op tb ex exY σ h=some (v,h'):=by
   have e:opK k op=wMw op:=by unfold opK;rw [k2]
   rw [e] at hr;exact hr
  unfold wMw at hr
  split at hr
  ·rename_i v0 h0 hq
   cases hr
   have F:=wLa HE HY op hq
   exact ⟨F.nx,rfl,fun p _ h2=>F.get p h2 h2⟩
  ·cases hr
 ·have e:opK k op=opY op:=by
   unfold opK
   cases hb:kB k 2 with
   | true=>exact absurd hb k2
   | false=>rfl
  rw [e] at hr
  exact wLa HE HY op hr
theorem wPg (HE:FrX ex) (HY:FrX exY) (op:AOp) (hr:wMw op tb ex exY σ h=some (v,h')):∀ p,p.nat < h.nx.nat->h'.m.get p=h.m.get p:=by
 unfold wMw at hr
 split at hr
 ·rename_i v0 h0 hq
  cases hr
  have F:=wLa HE HY op hq
  exact fun p h2=>F.get p h2 h2
 ·cases hr
theorem wGg (HE:FrX ex) (HY:FrX exY):∀ (l:List AO) (σ:Tr AV) (h:AH) (σ':Tr AV) (h':AH),wAR tb ex exY l σ h=some (σ',h')->Fr h h'
 | [],σ,h,σ',h',hr=>by
  rw [wAh] at hr;cases hr;exact Fr.refl _
 | o :: os,σ,h,σ',h',hr=>by
  rw [wAj] at hr
  split at hr
  ·split at hr
   ·rename_i r hq
    exact (wNI HE HY _ _ hq).trans (wGg HE HY os _ _ _ _ hr)
   ·cases hr
  ·exact wGg HE HY os _ _ _ _ hr
theorem wLb {exR:Run} (HR:FrX exR) {b:AC} {r:Ex × Tr AV × AH} {e:Ex} {σ':Tr AV} (hr:seqK b exR r=some (e,σ',h')):Fr r.2.2 h':=by
 obtain ⟨e0,σ0,h0⟩:=r
 rw [wIf] at hr
 cases e0 with
 | nrm=>exact HR _ _ _ _ _ _ hr
 | exit i=>cases hr;exact Fr.refl _
 | ret=>cases hr;exact Fr.refl _
theorem wOM {exR:Run} (HE:FrX ex) (HY:FrX exY) (HR:FrX exR) (c:AC) (f:Bool) {e:Ex} {σ':Tr AV} (hr:step c f tb ex exY exR σ h=some (e,σ',h')):Fr h h':=by
 cases c with
 | skip=>cases hr;exact Fr.refl _
 | rg l =>
  have hr:sRg l tb ex exY exR σ h=some (e,σ',h'):=hr
  unfold sRg at hr
  cases hq:wAR tb ex exY l σ h with
  | none=>rw [hq] at hr;cases hr
  | some y =>
   rw [hq] at hr
   cases hr
   exact wGg HE HY l _ _ _ _ hq
 | seq a b =>
  have hr:wPJ a b exR σ h=some (e,σ',h'):=hr
  unfold wPJ at hr
  obtain ⟨y,h1,h2⟩:=wOt hr
  exact (HR _ _ _ _ _ _ h1).trans (wLb HR h2)
 | cond c a b =>
  have hr:wKo c a b exR σ h=some (e,σ',h'):=hr
  unfold wKo at hr
  split at hr
  ·exact HR _ _ _ _ _ _ hr
  ·exact HR _ _ _ _ _ _ hr
  ·cases hr
 | block i a =>
  have hr:wJD i a exR σ h=some (e,σ',h'):=hr
  unfold wJD at hr
  obtain ⟨y,h1,h2⟩:=wOt hr
  obtain ⟨e0,σ0,h0⟩:=y
  refine (HR _ _ _ _ _ _ h1).trans ?_
  unfold wMy at h2
  cases e0 with
  | nrm=>cases h2;exact Fr.refl _
  | ret=>cases h2;exact Fr.refl _
  | exit j =>
   simp only at h2
   cases hb:kB j i with
   | true=>rw [hb] at h2;cases h2;exact Fr.refl _
   | false=>rw [hb] at h2;cases h2;exact Fr.refl _
 | loop a =>
  have hr:wKp a exR σ h=some (e,σ',h'):=hr
  unfold wKp at hr
  obtain ⟨y,h1,h2⟩:=wOt hr
  exact (HR _ _ _ _ _ _ h1).trans (wLb HR h2)
 | rf g t asg body =>
  have hr:sRf f g t asg body tb ex σ h=some (e,σ',h'):=hr
  unfold sRf at hr
  split at hr
  ·split at hr
   ·rename_i h1
    have F:=(Fr.push h (.loop σ t asg body .ready)).trans (wLZ HE h1)
    split at hr
    ·split at hr
     ·rename_i h2;cases hr;exact F.trans (Fr.put h2)
     ·cases hr
    ·split at hr
     ·rename_i h2;cases hr;exact F.trans (Fr.put h2)
     ·cases hr
    ·cases hr
   ·cases hr
  ·cases hr
 | exit i=>cases hr;exact Fr.refl _
 | scope a=>exact HR _ _ _ _ _ _ hr
 | ret=>cases hr;exact Fr.refl _
 | rl l =>
  have hr:sRl l tb ex exY σ h=some (e,σ',h'):=hr
  rw [wMx] at hr
  split at hr
  ·rename_i y hq
   cases hr
   exact wGg HE HY l _ _ _ _ (wId _ _ _ _ hq).1
  ·cases hr
theorem wEC (tb:Tr AF):∀ (n:Nat) (r:Bool),FrX (exec tb n r)
 | 0,r=>fun c σ h e σ' h' hr=>by cases hr
 | n + 1,r=>fun c σ h e σ' h' hr=>by
  rw [wHf] at hr
  exact wOM (wEC tb n false) (wEC tb n true) (wEC tb n r) c _ hr
end
end Go.KX
namespace Go.KX
open Go.RowKit Go.KL
theorem wON {a b:IntKind} (h:keq a b=true):a=b:=by
 cases a <;> cases b <;> first | rfl | (simp [keq] at h)
theorem wOO {a b:Int} (h:zeq a b=true):a=b:=by
 cases a with
 | ofNat a=>cases b with
  | ofNat b=>simp only [zeq] at h;rw [nA h]
  | negSucc b=>simp [zeq] at h
 | negSucc a=>cases b with
  | ofNat b=>simp [zeq] at h
  | negSucc b=>simp only [zeq] at h;rw [nA h]
mutual
theorem wLc:∀ {a b:AV},same a b=true->a=b
 | .int k n,.int k' n',h=>by simp only [same,nB] at h;rw [wON h.1,wOO h.2]
 | .bool a,.bool b,h=>by simp only [same,beq_iff_eq] at h;rw [h]
 | .ptr b o,.ptr b' o',h=>by simp only [same,nB] at h;rw [Pos.beq_eq h.1,nA h.2]
 | .pnil,.pnil,_=>rfl
 | .sl b o n c,.sl b' o' n' c',h=>by simp only [same,nB] at h;rw [Pos.beq_eq h.1,nA h.2.1,nA h.2.2.1,nA h.2.2.2]
 | .rw b o n c,.rw b' o' n' c',h=>by simp only [same,nB] at h;rw [Pos.beq_eq h.1,nA h.2.1,nA h.2.2.1,nA h.2.2.2]
 | .snil,.snil,_=>rfl
 | .map b,.map b',h=>by simp only [same] at h;rw [Pos.beq_eq h]
 | .mnil,.mnil,_=>rfl
 | .fn f fi ca,.fn f' fi' ca',h=>by simp only [same,nB] at h;rw [Pos.beq_eq h.1,wEX h.2.1,wEX h.2.2]
 | .fnil,.fnil,_=>rfl
 | .agg l,.agg l',h=>by simp only [same] at h;rw [wEX h]
 | .tup l,.tup l',h=>by simp only [same] at h;rw [wEX h]
theorem wEX:∀ {a b:List AV},wGw a b=true->a=b
 | [],[],_=>rfl
 | a :: l,b :: k,h=>by simp only [wGw,nB] at h;rw [wLc h.1,wEX h.2]
 | [],_ :: _,h=>by simp [wGw] at h
 | _ :: _,[],h=>by simp [wGw] at h
end
section
variable {tb:Tr AF} {ex exY:Run} {σ:Tr AV} {h h':AH} {v:AV}
theorem wLd {o:Option AV} (hr:okV h o=some (v,h')) (h2:AH):okV h2 o=some (v,h2):=by
 cases o with
 | none=>cases hr
 | some x=>cases hr;rfl
end
section
variable {P:Program} {l:List Oper} {σ σ':Env} {o:Oper} {w:World}
def Agr (l:List Oper) (o:Oper) (σ σ':Env):Prop:=∀ d ∈ wDT l o,σ d=σ' d
theorem wPh (h:Agr l o σ σ'):∀ y ∈ o.op.operands,ev σ y=ev σ' y:=by
 intro y hy
 cases y with
 | tmp t=>exact h t (nc _ (kU.2 ⟨.tmp t,by simpa using hy,rfl⟩))
 | _=>rfl
theorem wBZ (h:Agr l o σ σ'):wanted l σ o=wanted l σ' o:=by
 unfold wanted
 cases hg:o.guard with
 | none=>rfl
 | some g =>
  obtain ⟨j,b⟩:=g
  simp only
  cases hd:(l[j]?).bind (·.dst) with
  | none=>rfl
  | some t =>
   simp only
   rw [h t (by unfold wDT;rw [hg];simp only [hd];simp)]
theorem wLe (hs:wBI o=false) (h:Agr l o σ σ'):execOp (ev σ) o=execOp (ev σ') o:=execOp_congr o (wKF hs) (wPh h)
theorem Runs.agr (hs:wBI o=false) (h:Agr l o σ σ') {v:Value} {w':World}:Runs P σ w o v w' ↔ Runs P σ' w o v w':=by
 unfold Runs;rw [wLe hs h]
theorem Runs.det {v v':Value} {w1 w2:World} (h:Runs P σ w o v w1) (h':Runs P σ w o v' w2):v=v'/\w1=w2:=by
 have:=h.2.symm.trans h'.2
 simp only [Result.ok.injEq] at this
 obtain ⟨e,e2⟩:=this
 exact ⟨by simpa using e,e2⟩
theorem Step1.agr (hs:wBI o=false) (h:Agr l o σ σ') {R:Value->World->Prop} (hh:Step1 P l o σ w R):Step1 P l o σ' w R:=by
 have e:=wLe hs h
 have ew:=wBZ h
 rcases hh with ⟨h1,⟨h2,w',h3,h4⟩ | ⟨v,w',h3,h4⟩ | ⟨f,args,R',h3,h4,h5⟩ | hy⟩ | ⟨h1,h2⟩
 ·exact .inl ⟨ew ▸ h1,.inl ⟨h2,w',by unfold Does at h3 ⊢;rw [<- e];exact h3,h4⟩⟩
 ·exact .inl ⟨ew ▸ h1,.inr (.inl ⟨v,w',by unfold Runs at h3 ⊢;rw [<- e];exact h3,h4⟩)⟩
 ·exact .inl ⟨ew ▸ h1,.inr (.inr (.inl ⟨f,args,R',by unfold Enters at h3 ⊢;rw [<- e];exact h3,h4,h5⟩))⟩
 ·exact .inl ⟨ew ▸ h1,.inr (.inr (.inr (by unfold Rounds at hy ⊢;rw [<- e];exact hy)))⟩
 ·exact .inr ⟨ew ▸ h1,h2⟩
end
end Go.KX
namespace Go.KX
open Go.RowKit Go.KL
section
variable {tb:Tr AF} {ex exY:Run} {C:Chk} {P:Program}
theorem wCo:∀ (l1 l2:List AO) (σ:Tr AV) (h:AH) (r:Tr AV × AH),wAR tb ex exY (l1 ++ l2) σ h=some r->∃ σ1 h1,wAR tb ex exY l1 σ h=some (σ1,h1)/\wAR tb ex exY l2 σ1 h1=some r
 | [],l2,σ,h,r,hr=>⟨σ,h,wAh _ _ _ _ _,hr⟩
 | a :: l1,l2,σ,h,r,hr=>by
  rw [nJ,wAj] at hr
  rw [wAj]
  cases hw:wCE σ a.grd with
  | true =>
   rw [hw] at hr
   simp only at hr ⊢
   cases hq:opK a.kd a.op tb ex exY σ h with
   | none=>rw [hq] at hr;cases hr
   | some q =>
    rw [hq] at hr
    exact wCo l1 l2 _ _ r hr
  | false =>
   rw [hw] at hr
   exact wCo l1 l2 _ _ r hr
theorem wHG {d:Option Pos} {σ:Tr AV} {v:AV} {p:Pos}:evA (wEy d σ v) (.t p)=if d=some p then v else evA σ (.t p):=by
 cases d with
 | none =>
  rw [if_neg (by simp)]
  rfl
 | some q =>
  show evA (σ.set q v) (.t p)=_
  rw [wIX,Tr.get_set]
  by_cases e:p=q
  ·subst e
   rw [if_pos rfl,if_pos rfl]
   rfl
  ·rw [if_neg e,if_neg (fun h=>e (by cases h;rfl)),wIX]
theorem wCM:∀ (l:List AO) (σ:Tr AV) (h:AH) (σ':Tr AV) (h':AH),wAR tb ex exY l σ h=some (σ',h')->∀ p,(∀ a ∈ l,a.dst ≠ some p)->evA σ' (.t p)=evA σ (.t p)
 | [],σ,h,σ',h',hr,p,_=>by
  rw [wAh] at hr
  cases hr
  rfl
 | a :: l,σ,h,σ',h',hr,p,hp=>by
  have hn:a.dst ≠ some p:=hp a (by simp)
  rw [wAj] at hr
  cases hw:wCE σ a.grd with
  | true =>
   rw [hw] at hr
   simp only at hr
   cases hq:opK a.kd a.op tb ex exY σ h with
   | none=>rw [hq] at hr;cases hr
   | some q =>
    rw [hq] at hr
    rw [wCM l _ _ _ _ hr p fun b hb=>hp b (by simp [hb]),wHG,if_neg hn]
  | false =>
   rw [hw] at hr
   rw [wCM l _ _ _ _ hr p fun b hb=>hp b (by simp [hb]),wHG,if_neg hn]
variable {μ μ':Mu} {h:AH} {w:World}
theorem Sim.adopt {c:Cl} {B:AB} (S:Sim C P μ h w) (hlt:c.1 < w.heap.size) (hn:∀ p d,μ p=some d->d.1 ≠ c.1) (hB:AbR C P (μ.add h.nx c) w c B):Sim C P (μ.add h.nx c) (h.push B) w:=by
 have hn0:=S.nx h.nx (nI _)
 have hle:=Mu.add_le (c:=c) hn0
 refine ⟨?_,?_,?_,?_⟩
 ·intro p hp
  have hp:h.nx.succ.nat <= p.nat:=hp
  rw [Pos.nat_succ] at hp
  unfold Mu.add
  rw [if_neg (fun e=>by subst e;omega)]
  exact S.nx p (by omega)
 ·intro p d hd
  unfold Mu.add at hd
  split at hd
  ·cases hd;exact hlt
  ·exact S.lt p d hd
 ·intro p q a b d e hp hq la lb hd he hde
  simp only [AH.push,Tr.get_set] at hp hq
  unfold Mu.add at hd he
  split at hd <;> split at he
  ·rename_i h1 h2;rw [h1,h2]
  ·cases hd;exact absurd hde.symm (hn _ _ he)
  ·cases he;exact absurd hde (hn _ _ hd)
  ·rename_i h1 h2
   rw [if_neg h1] at hp
   rw [if_neg h2] at hq
   exact S.inj p q a b d e hp hq la lb hd he hde
 ·intro p b hb
  simp only [AH.push,Tr.get_set] at hb
  split at hb
  ·rename_i e
   subst e
   cases hb
   exact ⟨c,Mu.add_same _ _ _,hB⟩
  ·rename_i e
   obtain ⟨d,h1,h2⟩:=S.at_ p b hb
   exact ⟨d,hle _ _ h1,h2.mono hle⟩
end
end Go.KX
namespace Go.KX
open Go.RowKit Go.KL
theorem wEn:∀ {l:List AOd} {p:Pos},AOd.t p ∈ l->p ∈ wBy l
 | .t q :: l,p,h=>by
  rcases nG.1 h with h | h
  ·cases h;simp [wBy]
  ·simp only [wBy,nG];exact .inr (wEn h)
 | .c v :: l,p,h=>by
  rcases nG.1 h with h | h
  ·cases h
  ·show p ∈ wBy l
   exact wEn h
noncomputable def rst (σ:Tr AV):List Pos->Tr AV
 | []=>.e
 | p :: ps=>(rst σ ps).set p (evA σ (.t p))
theorem wFs (σ:Tr AV):∀ (ps:List Pos) (p:Pos),evA (rst σ ps) (.t p)=if p ∈ ps then evA σ (.t p) else u
 | [],p=>by rw [if_neg (by simp)];rfl
 | q :: ps,p=>by
  show evA ((rst σ ps).set q (evA σ (.t q))) (.t p)=_
  rw [wIX,Tr.get_set]
  by_cases e:p=q
  ·subst e
   rw [if_pos rfl,if_pos (by simp)]
   rfl
  ·rw [if_neg e,<- wIX,wFs σ ps p]
   simp [e]
open Classical in
noncomputable def rsl (σ:Env) (ps:List Pos):Env:=fun d=>if ∃ p ∈ ps,p.nat - 1=d then σ d else undef
theorem wFt {μ:Mu} {σA:Tr AV} {σ:Env} {ps:List Pos} (h:∀ p ∈ ps,Rv μ (evA σA (.t p)) (σ (p.nat - 1))):EnvR μ (rst σA ps) (rsl σ ps):=by
 intro p
 rw [wFs]
 unfold rsl
 by_cases hp:p ∈ ps
 ·rw [if_pos hp,if_pos ⟨p,hp,rfl⟩]
  exact h p hp
 ·rw [if_neg hp,if_neg]
  ·exact wKv μ
  ·rintro ⟨q,hq,e⟩
   have h1:=q.nat_pos
   have h2:=p.nat_pos
   have:q=p:=Pos.nat_inj (by omega)
   exact hp (this ▸ hq)
section
variable {tb:Tr AF} {ex exY:Run} {C:Chk} {P:Program} {μ:Mu} {σA:Tr AV} {σ:Env} {h h':AH} {v:AV} {o:Oper} {a:AOp} {w:World}
theorem wJR (hr:opY a tb ex exY σA h=some (v,h')):opY a tb ex exY (rst σA (wBy (wBE a))) h=some (v,h'):=by
 rw [<- hr]
 refine wLV a (fun x hx=>?_) h
 cases x with
 | t p=>rw [wFs,if_pos (wEn hx)]
 | c v=>rfl
theorem wOP (hs:wBI o=false) (hb:Sub a o):execOp (ev (rsl σ (wBy (wBE a)))) o=execOp (ev σ) o:=by
 refine execOp_congr o (wKF hs) fun y hy=>?_
 cases y with
 | tmp t =>
  show rsl σ (wBy (wBE a)) t=σ t
  unfold rsl
  rw [if_pos (hb t hy)]
 | _=>rfl
theorem wHH (hs:wBI o=false) (hb:Sub a o) {v:Value} {w':World}:Runs P (rsl σ (wBy (wBE a))) w o v w' ↔ Runs P σ w o v w':=by
 unfold Runs;rw [wOP hs hb]
theorem wFu (hs:wBI o=false) (hb:Sub a o) (hk:kdA a=3) (hc:wFn P a o.op=true) (hr:opY a tb ex exY σA h=some (v,h')) (hv:∀ p ∈ wBy (wBE a),Rv μ (evA σA (.t p)) (σ (p.nat - 1))) :
  ∃ cv,Rv μ v cv/\∀ w,Runs P σ w o cv w:=by
 obtain ⟨_,h2⟩:=wGc (tb:=tb) (ex:=ex) (exY:=exY) hk hc _ _ _ _ (wJR hr)
 obtain ⟨cv,g1,g2⟩:=h2 μ _ (wFt hv)
 exact ⟨cv,g1,fun w=>(wHH hs hb).1 (g2 o w rfl)⟩
theorem wLf (hs:wBI o=false) (hb:Sub a o) (hk:kdA a=1 \/ kdA a=3) (hc:wFn P a o.op=true) (hr:opY a tb ex exY σA h=some (v,h')) (S:Sim C P μ h w) (hv:∀ p ∈ wBy (wBE a),Rv μ (evA σA (.t p)) (σ (p.nat - 1))) :
  ∃ cv,Rv μ v cv/\Runs P σ w o cv w:=by
 obtain ⟨_,h2⟩:=wGd (C:=C) (tb:=tb) (ex:=ex) (exY:=exY) hk hc _ _ _ _ (wJR hr)
 obtain ⟨cv,g1,g2⟩:=h2 μ _ w (wFt hv) S
 exact ⟨cv,g1,(wHH hs hb).1 (g2 o rfl w (Keep.refl w _))⟩
theorem wJS {op:Op} (hk:wKB a=true) (hc:wFn P a op=true):OkA C P op (opY a tb ex exY):=by
 cases a <;> first
  | (simp [wKB] at hk;done)
  | exact a_new hc | exact a_box hc | exact a_mkm hc | exact a_mks hc | exact wPe hc
theorem wJu (hs:wBI o=false) (hb:Sub a o) (hk:wKB a=true) (hc:wFn P a o.op=true) (hr:opY a tb ex exY σA h=some (v,h')) (hv:∀ p ∈ wBy (wBE a),Rv μ (evA σA (.t p)) (σ (p.nat - 1))) :
  ∃ (B:AB) (vf:Pos->AV) (ob:Obj) (val:Nat->Value),h'=h.push B/\v=vf h.nx/\wJm B/\(∀ w:World,Runs P σ w o (val w.heap.size) (w.alloc ob)) /\
   (∀ μ' (w:World) b,μ.Le μ'->w.heap[b]?=some ob->AbR C P μ' w ⟨b,0,g0⟩ B)/\∀ μ' p b,μ' p=some ⟨b,0,g0⟩->Rv μ' (vf p) (val b):=by
 obtain ⟨B,vf,e1,e2,_,e4,e5⟩:=wJS (C:=C) (tb:=tb) (ex:=ex) (exY:=exY) hk hc _ _ _ _ (wJR hr)
 obtain ⟨ob,val,g1,g2,g3⟩:=e5 μ _ (wFt hv) o rfl
 exact ⟨B,vf,ob,val,e1,e2,e4,fun w=>(wHH hs hb).1 (g1 w),g2,g3⟩
end
end Go.KX
namespace Go.KX
open Go.RowKit Go.KL
section
variable {tb:Tr AF} {ex exY:Run} {P:Program}
theorem wJT {s t:List AO} {a:AO} {σ0:Tr AV} {h0:AH} {r:Tr AV × AH} (hr:wAR tb ex exY (s ++ a :: t) σ0 h0=some r) :
  ∃ σ1 h1,wAR tb ex exY s σ0 h0=some (σ1,h1) /\
   ((wCE σ1 a.grd=true/\∃ v h2,opK a.kd a.op tb ex exY σ1 h1=some (v,h2)/\wAR tb ex exY t (wEy a.dst σ1 v) h2=some r) \/
    (wCE σ1 a.grd=false/\wAR tb ex exY t (wEy a.dst σ1 u) h1=some r)):=by
 obtain ⟨σ1,h1,e1,e2⟩:=wCo s (a :: t) σ0 h0 r hr
 refine ⟨σ1,h1,e1,?_⟩
 rw [wAj] at e2
 cases hw:wCE σ1 a.grd with
 | true =>
  rw [hw] at e2
  simp only at e2
  cases hq:opK a.kd a.op tb ex exY σ1 h1 with
  | none=>rw [hq] at e2;cases e2
  | some q =>
   rw [hq] at e2
   exact .inl ⟨rfl,q.1,q.2,rfl,e2⟩
 | false =>
  rw [hw] at e2
  exact .inr ⟨rfl,e2⟩
theorem wDJ {l:List Oper} {S:Nat->Bool} (hdc:∀ k,k < l.length->S k=true->∀ j ∈ prI l k,S j=true) {x i:Nat} (hp:∀ j ∈ prI l i,S j=true) (h:wJM l x i):S x=true:=h S hdc hp
variable {N:Nat} {l:List Oper} {os s t:List AO} {a:AO} {σ0 σ1 σf:Tr AV} {h0 h1 hf:AH}
theorem wIg (Z:ZOK P N l os) (e:os=s ++ a :: t) {v:AV} {σ2:Tr AV} {h2:AH} (hr:wAR tb ex exY t (wEy a.dst σ2 v) h2=some (σf,hf)) {p:Pos} (hp:a.dst=some p):evA σf (.t p)=v:=by
 rw [wCM t _ _ _ _ hr p fun b hb=>Z.wr s a t e p hp b (nQ _ hb),wHG,if_pos hp]
theorem wPi (Z:ZOK P N l os) (e:os=s ++ a :: t) (hr:wAR tb ex exY (a :: t) σ1 h1=some (σf,hf)) {p:Pos} (hp:p ∈ wBd a):evA σf (.t p)=evA σ1 (.t p) :=
 wCM (a :: t) _ _ _ _ hr p fun b hb=>Z.rd s a t e p hp b hb
end
end Go.KX
namespace Go.KX
open Go.RowKit Go.KL
section
variable {tb:Tr AF} {ex exY:Run} {P:Program} {N:Nat} {l:List Oper} {os s t:List AO} {a:AO} {σ0 σ1 σA σf:Tr AV} {h0 h h1 hf:AH} {μ μS:Mu} {σ σ':Env} {w:World} {o:Oper}
theorem wCN:∀ {s s' t t':List AO} {a:AO},(s ++ a :: t).Pairwise (fun a b=>a.ix ≠ b.ix)->s ++ a :: t=s' ++ a :: t'->s=s'/\t=t'
 | [],[],t,t',a,_,e=>by
  simp only [nh,nr,true_and] at e
  exact ⟨rfl,e⟩
 | [],b :: s',t,t',a,hp,e=>by
  simp only [nh,nJ,nr] at e
  obtain ⟨rfl,rfl⟩:=e
  rw [nh] at hp
  exact absurd rfl ((nY.1 hp).1 a (by simp))
 | b :: s,[],t,t',a,hp,e=>by
  simp only [nh,nJ,nr] at e
  obtain ⟨rfl,rfl⟩:=e
  rw [nJ] at hp
  exact absurd rfl ((nY.1 hp).1 b (by simp))
 | b :: s,b' :: s',t,t',a,hp,e=>by
  simp only [nJ,nr] at e
  rw [nJ] at hp
  obtain ⟨h1,h2⟩:=wCN (nY.1 hp).2 e.2
  exact ⟨by rw [e.1,h1],h2⟩
theorem wDk (A:AOK P N l a o) (hs:Sub a.op o):∀ d ∈ wDT l o,∃ p ∈ wBd a,p.nat - 1=d:=by
 intro d hd
 unfold wDT at hd
 rcases nH.1 hd with hd | hd
 ·obtain ⟨y,h1,h2⟩:=kU.1 hd
  cases y with
  | tmp t =>
   simp only [Option.some.injEq] at h2
   subst h2
   obtain ⟨p,h3,h4⟩:=hs t (by simpa using h1)
   exact ⟨p,nc _ h3,h4⟩
  | _=>simp at h2
 ·rcases A.grd with ⟨_,h2⟩ | ⟨p,b,j,d',h1,h2,h3,h4⟩
  ·rw [h2] at hd;simp at hd
  ·rw [h2] at hd
   simp only [h3,Option.toList_some,nZ] at hd
   subst hd
   exact ⟨p,nQ _ (by rw [h1];simp),h4.symm⟩
structure Pend (tb:Tr AF) (ex exY:Run) (P:Program) (l:List Oper) (os:List AO) (σ0:Tr AV) (h0:AH) (σf:Tr AV) (w0:World) (μ μS:Mu) (σ:Env) (w:World) (a:AO) (o:Oper) (p:Pos):Prop where
 get:l[a.ix]?=some o
 dst:a.dst=some p
 fact:(wanted l σ o=false/\σ (p.nat - 1)=undef/\evA σf (.t p)=u) \/ (wanted l σ o=true /\
  (((a.kd=1 \/ a.kd=3 \/ 8 <= a.kd)/\Rv μ (evA σf (.t p)) (σ (p.nat - 1))) \/
   (a.kd=6/\Rv μS (evA σf (.t p)) (σ (p.nat - 1))/\∃ w1 w2,Runs P σ w1 o (σ (p.nat - 1)) w2) \/
   (a.kd=4/\Rv μS (evA σf (.t p)) (σ (p.nat - 1))/\∃ w1 ob s1 t1 σ1 h1,Runs P σ w1 o (σ (p.nat - 1)) (w1.alloc ob)/\w.heap[w1.heap.size]?=some ob/\w0.heap.size <= w1.heap.size /\
    os=s1 ++ a :: t1/\wAR tb ex exY s1 σ0 h0=some (σ1,h1)/\μS h1.nx=some ⟨w1.heap.size,0,g0⟩/\∀ q c,μS q=some c->c.1=w1.heap.size->q=h1.nx)))
theorem wLg {tb:Tr AF} {ex exY:Run} {k:Nat} {op:AOp} {σ:Tr AV} {h h':AH} {v:AV} (hk:k ≠ 2) (hr:opK k op tb ex exY σ h=some (v,h')):opY op tb ex exY σ h=some (v,h'):=by
 have hb:kB k 2=false:=by
  cases hb:kB k 2 with
  | false=>rfl
  | true=>exact absurd (nA hb) hk
 have:opK k op=opY op:=by unfold opK;rw [hb]
 rwa [this] at hr
theorem wJv {k:Nat} (h:8 <= k):¬ wBW k=true:=by
 unfold wBW
 simp only [nw,not_or]
 exact ⟨fun e=>by have:=nA e;omega,fun e=>by have:=nA e;omega⟩
theorem wLh {w:World} {a b:Obj} (h:w.alloc a=w.alloc b):a=b:=by
 have h1:=heap_alloc_new w a
 rw [h,heap_alloc_new] at h1
 exact (nD h1).symm
theorem wPj (Z:ZOK P N l os) (e:os=s ++ a :: t) {μ0:Mu} {w0:World} {fl:Nat} (hs:wAR tb ex exY s σ0 h0=some (σA,h)) (hr:wAR tb ex exY (a :: t) σA h=some (σf,hf))
  (E:Ext μ0 fl w0 μ w) (S:Sim (CC P) P μ h w) (hE:EnvR μ σA σ') (hle:μ.Le μS) {p:Pos} (Pd:Pend tb ex exY P l os σ0 h0 σf w0 μ μS σ w a o p) (hag:∀ q ∈ wBd a,σ (q.nat - 1)=σ' (q.nat - 1)) :
  ∃ σB hB μB,wAR tb ex exY (s ++ [a]) σ0 h0=some (σB,hB)/\wAR tb ex exY t σB hB=some (σf,hf)/\μ.Le μB/\μB.Le μS/\Ext μ0 fl w0 μB w/\Sim (CC P) P μB hB w/\hB.fl=h.fl/\EnvR μB σB (upd σ' (p.nat - 1) (σ (p.nat - 1)))/\(a.kd=4->wanted l σ o=true->μB h.nx ≠ none):=by
 have ha:a ∈ os:=by rw [e];simp
 obtain ⟨o',A⟩:=wCQ (Z.ao a ha)
 have eo:o'=o:=by have:=A.get;rw [Pd.get] at this;exact (nD this).symm
 subst eo
 have hsel:=Z.sel a ha _ A.get
 have hsub:=Z.sub a ha _ A.get
 have hagr:Agr l o' σ σ':=fun d hd=>by
  obtain ⟨q,h1,rfl⟩:=wDk A hsub d hd
  exact hag q h1
 have hw:=wHE A hE
 have hwσ:wanted l σ o'=wCE σA a.grd:=(wBZ hagr).trans hw
 obtain ⟨pd,dd,d1,d2,d3,_⟩:∃ p d,a.dst=some p/\o'.dst=some d/\d=p.nat - 1/\d < N:=by
  rcases A.dst with ⟨h1,_⟩ | h
  ·rw [Pd.dst] at h1;cases h1
  ·exact h
 have ep:pd=p:=by rw [Pd.dst] at d1;exact (nD d1).symm
 subst ep
 have eput:∀ cv,put' σ' o' cv=upd σ' (pd.nat - 1) cv:=fun cv=>by unfold put';rw [d2,d3]
 obtain ⟨σx,hx,q1,q2⟩:=wJT (s:=[]) (a:=a) (t:=t) (σ0:=σA) (h0:=h) (by rw [nh];exact hr)
 rw [wAh] at q1
 cases q1
 have split1:∀ {σB hB},(match wCE σA a.grd with | true=>(match opK a.kd a.op tb ex exY σA h with | some r=>some (wEy a.dst σA r.1,r.2) | none=>none) | false=>some (wEy a.dst σA u,h))=some (σB,hB)->wAR tb ex exY (s ++ [a]) σ0 h0=some (σB,hB):=by
  intro σB hB hq
  have app:∀ (l1 l2:List AO) (x:Tr AV) (y:AH) (x1:Tr AV) (y1:AH),wAR tb ex exY l1 x y=some (x1,y1)->wAR tb ex exY (l1 ++ l2) x y=wAR tb ex exY l2 x1 y1:=by
   intro l1
   induction l1 with
   | nil=>intro l2 x y x1 y1 h;rw [wAh] at h;cases h;rfl
   | cons b l1 ih =>
    intro l2 x y x1 y1 h
    rw [nJ,wAj]
    rw [wAj] at h
    cases hb:wCE x b.grd with
    | true =>
     rw [hb] at h
     simp only at h ⊢
     cases hq:opK b.kd b.op tb ex exY x y with
     | none=>rw [hq] at h;cases h
     | some r=>rw [hq] at h;exact ih l2 _ _ _ _ h
    | false =>
     rw [hb] at h
     exact ih l2 _ _ _ _ h
  rw [app s [a] _ _ _ _ hs,wAj]
  cases hb:wCE σA a.grd with
  | true =>
   rw [hb] at hq
   simp only at hq ⊢
   cases hk:opK a.kd a.op tb ex exY σA h with
   | none=>rw [hk] at hq;cases hq
   | some r =>
    rw [hk] at hq
    cases hq
    exact wAh _ _ _ _ _
  | false =>
   rw [hb] at hq
   cases hq
   rw [wAh]
 rcases q2 with ⟨g1,v,h2,g2,g3⟩ | ⟨g1,g3⟩
 ·have hv:evA σf (.t pd)=v:=wIg Z e g3 Pd.dst
  have hrun:=split1 (σB:=wEy a.dst σA v) (hB:=h2) (by rw [g1];simp only;rw [g2])
  rcases Pd.fact with ⟨f1,_⟩ | ⟨_,⟨fk,f1⟩ | ⟨fk,f1,w1,w2,f2⟩ | ⟨fk,f1,w1,ob,s1,t1,σ1,h1,f2,f3,f4,f5,f6,f7,f8⟩⟩
  ·rw [hwσ,g1] at f1;cases f1
  ·have gY:opY a.op tb ex exY σA h=some (v,h2):=wLg (by omega) g2
   have hk:kdA a.op=1 \/ kdA a.op=3:=by
    rcases fk with fk | fk | fk
    ·exact A.k1 fk
    ·exact .inr (A.k3 fk)
    ·rcases Z.kd a ha with hh | ⟨_,hh | hh | hh | hh | hh⟩
     ·exact absurd hh (wJv fk)
     ·omega
     ·omega
     ·omega
     ·omega
     ·exact .inl hh.2
   obtain ⟨e1,_⟩:=wGd (C:=CC P) hk A.op _ _ _ _ gY
   subst e1
   rw [hv] at f1
   exact ⟨_,_,μ,hrun,g3,Mu.Le.refl μ,hle,E,S,rfl,by rw [<- eput];exact wDM A hE f1,fun h4 _=>by omega⟩
  ·have gY:opY a.op tb ex exY σA h=some (v,h2):=by rw [fk] at g2;exact g2
   have hk:kdA a.op=3:=by
    rcases Z.kd a ha with hh | ⟨_,hh | hh | hh | hh | hh⟩
    ·rw [fk] at hh;exact absurd hh (by decide)
    ·omega
    ·omega
    ·exact hh.2
    ·omega
    ·omega
   obtain ⟨e1,e2⟩:=wGc hk A.op _ _ _ _ gY
   subst e1
   obtain ⟨cv,c1,c2⟩:=e2 μ σ' hE
   have:=Runs.det ((Runs.agr hsel hagr).2 (c2 o' w1 rfl)) f2
   rw [<- eput,<- this.1]
   exact ⟨_,_,μ,hrun,g3,Mu.Le.refl μ,hle,E,S,rfl,wDM A hE c1,fun h4 _=>by omega⟩
  ·have gY:opY a.op tb ex exY σA h=some (v,h2):=by rw [fk] at g2;exact g2
   have hk:wKB a.op=true:=by
    rcases Z.kd a ha with hh | ⟨_,hh | hh | hh | hh | hh⟩
    ·rw [fk] at hh;exact absurd hh (by decide)
    ·omega
    ·omega
    ·omega
    ·exact hh.2
    ·omega
   obtain ⟨B,vf,e1,e2,_,_,e5⟩:=wJS (C:=CC P) hk A.op _ _ _ _ gY
   obtain ⟨ob',val,c1,c2,c3⟩:=e5 μ σ' hE o' rfl
   obtain ⟨k1,k2⟩:=Runs.det ((Runs.agr hsel hagr).2 (c1 w1)) f2
   have k2:=wLh k2
   subst k2
   have es:s1=s:=(wCN (f5 ▸ Z.one) (f5.symm.trans e)).1
   subst es
   rw [hs] at f6
   cases f6
   have hn0:=S.nx h.nx (nI _)
   have hadd:=Mu.add_le (c:=(⟨w1.heap.size,0,g0⟩:Cl)) hn0
   have hlt:w1.heap.size < w.heap.size:=wAK f3
   subst e1 e2
   have hv':Rv (μ.add h.nx ⟨w1.heap.size,0,g0⟩) (vf h.nx) (σ (pd.nat - 1)):=by
    rw [<- k1]
    exact c3 _ _ _ (Mu.add_same _ _ _)
   refine ⟨_,_,μ.add h.nx ⟨w1.heap.size,0,g0⟩,hrun,g3,hadd,?_,⟨E.mono.trans hadd,?_,E.keep⟩,S.adopt hlt ?_ (c2 _ w _ hadd f3),rfl,?_,fun _ _=>by rw [Mu.add_same];simp⟩
   ·intro q d hq
    unfold Mu.add at hq
    split at hq
    ·rename_i eq
     subst eq
     cases hq
     exact f7
    ·exact hle q d hq
   ·intro q c hq
    unfold Mu.add at hq
    split at hq
    ·cases hq
     exact .inr (.inr f4)
    ·exact E.new q c hq
   ·intro q d hq hd
    have:=f8 q d (hle q d hq) hd
    subst this
    rw [hn0] at hq
    cases hq
   ·rw [<- eput]
    exact wDM A (hE.mono hadd) hv'
 ·have hrun:=split1 (σB:=wEy a.dst σA u) (hB:=h) (by rw [g1])
  rcases Pd.fact with ⟨_,f2,_⟩ | ⟨f1,_⟩
  ·refine ⟨_,_,μ,hrun,g3,Mu.Le.refl μ,hle,E,S,rfl,?_,fun _ hw'=>by rw [hwσ,g1] at hw';cases hw'⟩
   rw [f2,<- eput]
   exact wDM A hE (wKv μ)
  ·rw [hwσ,g1] at f1;cases f1
structure JS (tb:Tr AF) (ex exY:Run) (P:Program) (l:List Oper) (os:List AO) (σ0:Tr AV) (h0:AH) (σf:Tr AV) (hf:AH) (μ0:Mu) (w0:World) (S:Nat->Bool) (σ:Env) (w:World) (s t:List AO) (σA:Tr AV) (h:AH) (σ':Env) (μ μS:Mu):Prop where
 e:os=s ++ t
 hs:wAR tb ex exY s σ0 h0=some (σA,h)
 hr:wAR tb ex exY t σA h=some (σf,hf)
 inS:∀ a ∈ s,S a.ix=true
 free:∀ a ∈ t,S a.ix=true->wBW a.kd=false
 E:Ext μ0 h0.fl.nat w0 μ w
 sim:Sim (CC P) P μ h w
 fl:h.fl=h0.fl
 env:EnvR μ σA σ'
 ag:∀ q:Pos,(∀ a ∈ t,S a.ix=true->a.dst ≠ some q)->σ (q.nat - 1)=σ' (q.nat - 1)
 le:μ.Le μS
 nm:∀ q c,μS q=some c->μ q=some c \/ ∃ a o s1 t1 σ1 h1,a ∈ t/\S a.ix=true/\l[a.ix]?=some o/\wanted l σ o=true/\a.kd=4/\os=s1 ++ a :: t1/\wAR tb ex exY s1 σ0 h0=some (σ1,h1)/\q=h1.nx
 pd:∀ a ∈ t,S a.ix=true->∃ o p,Pend tb ex exY P l os σ0 h0 σf w0 μ μS σ w a o p
theorem Pend.mono {μB:Mu} {w0:World} {p:Pos} (h:Pend tb ex exY P l os σ0 h0 σf w0 μ μS σ w a o p) (hm:μ.Le μB):Pend tb ex exY P l os σ0 h0 σf w0 μB μS σ w a o p:=by
 refine ⟨h.get,h.dst,?_⟩
 rcases h.fact with f | ⟨f,⟨f1,f2⟩ | f1 | f1⟩
 ·exact .inl f
 ·exact .inr ⟨f,.inl ⟨f1,f2.mono hm⟩⟩
 ·exact .inr ⟨f,.inr (.inl f1)⟩
 ·exact .inr ⟨f,.inr (.inr f1)⟩
theorem JS.catch1 (Z:ZOK P N l os) {μ0:Mu} {w0:World} {S:Nat->Bool} (J:JS tb ex exY P l os σ0 h0 σf hf μ0 w0 S σ w s (a :: t) σA h σ' μ μS) (ha:S a.ix=true) :
  ∃ σB hB σ'' μB,JS tb ex exY P l os σ0 h0 σf hf μ0 w0 S σ w (s ++ [a]) t σB hB σ'' μB μS:=by
 obtain ⟨o,p,Pd⟩:=J.pd a (by simp) ha
 have hag:∀ q ∈ wBd a,σ (q.nat - 1)=σ' (q.nat - 1):=fun q hq=>J.ag q fun b hb _=>Z.rd s a t J.e q hq b hb
 obtain ⟨σB,hB,μB,c1,c2,c3,c4,c5,c6,c7,c8,c9⟩:=wPj Z J.e J.hs J.hr J.E J.sim J.env J.le Pd hag
 have hne:∀ b ∈ t,b.ix ≠ a.ix:=fun b hb e=>by
  have:=Z.one
  rw [J.e] at this
  exact (nY.1 (nU.1 this).2.1).1 b hb e.symm
 refine ⟨σB,hB,_,μB,by rw [J.e];simp,c1,c2,fun b hb=>?_,fun b hb=>J.free b (by simp [hb]),c5,c6,c7.trans J.fl,c8,fun q hq=>?_,c4,fun q c hq=>?_,fun b hb hS=>?_⟩
 ·rcases nH.1 hb with hb | hb
  ·exact J.inS b hb
  ·rw [nZ.1 hb];exact ha
 ·by_cases e:q=p
  ·subst e
   rw [wCA]
  ·rw [wBv _ _ (fun h=>e (Pos.nat_inj (by have:=q.nat_pos;have:=p.nat_pos;omega)))]
   refine J.ag q fun b hb hS=>?_
   rcases nG.1 hb with rfl | hb
   ·rw [Pd.dst]
    intro h
    cases h
    exact e rfl
   ·exact hq b hb hS
 ·rcases J.nm q c hq with h1 | ⟨b,ob,s1,t1,σ1,h1,k1,k2,k3,k4,k5,k6,k7,k8⟩
  ·exact .inl (c3 _ _ h1)
  ·rcases nG.1 k1 with rfl | k1
   ·left
    have hs1:s1=s:=(wCN (k6 ▸ Z.one) (k6.symm.trans J.e)).1
    subst hs1
    rw [J.hs] at k7
    cases k7
    subst k8
    rw [Pd.get] at k3
    cases k3
    have:=c9 k5 k4
    cases hm:μB h.nx with
    | none=>exact absurd hm this
    | some c' =>
     have:=c4 _ _ hm
     rw [hq] at this
     exact this.symm
   ·exact .inr ⟨b,ob,s1,t1,σ1,h1,k1,k2,k3,k4,k5,k6,k7,k8⟩
 ·obtain ⟨o',p',h'⟩:=J.pd b (by simp [hb]) hS
  exact ⟨o',p',h'.mono c3⟩
end
end Go.KX
namespace Go.KX
open Go.RowKit Go.KL
section
variable {tb:Tr AF} {ex exY:Run} {P:Program} {N:Nat} {l:List Oper} {os s t:List AO} {a:AO} {σ0 σA σf:Tr AV} {h0 h hf:AH} {μ μS:Mu} {σ σ':Env} {w:World} {o:Oper}
theorem wCt:∀ (l1 l2:List AO) (x:Tr AV) (y:AH) (x1:Tr AV) (y1:AH),wAR tb ex exY l1 x y=some (x1,y1)->wAR tb ex exY (l1 ++ l2) x y=wAR tb ex exY l2 x1 y1
 | [],l2,x,y,x1,y1,h=>by rw [wAh] at h;cases h;rfl
 | b :: l1,l2,x,y,x1,y1,h=>by
  rw [nJ,wAj]
  rw [wAj] at h
  cases hb:wCE x b.grd with
  | true =>
   rw [hb] at h
   simp only at h ⊢
   cases hq:opK b.kd b.op tb ex exY x y with
   | none=>rw [hq] at h;cases h
   | some r=>rw [hq] at h;exact wCt l1 l2 _ _ _ _ h
  | false =>
   rw [hb] at h
   exact wCt l1 l2 _ _ _ _ h
theorem wOQ (HE:FrX ex) (HY:FrX exY) (Z:ZOK P N l os) (e:os=s ++ t) (hs:wAR tb ex exY s σ0 h0=some (σA,h)) {b:AO} (hb:b ∈ t) {s1 t1:List AO} {σ1:Tr AV} {h1:AH} (e1:os=s1 ++ b :: t1) (hr:wAR tb ex exY s1 σ0 h0=some (σ1,h1)):h.nx.nat <= h1.nx.nat:=by
 obtain ⟨r,r',rfl⟩:=nL hb
 have es:s1=s ++ r:=(wCN (e1 ▸ Z.one) (e1.symm.trans (e.trans (nM _ _ _).symm))).1
 subst es
 rw [wCt s r _ _ _ _ hs] at hr
 exact (wGg HE HY _ _ _ _ _ hr).nx
theorem wFJ (Z:ZOK P N l os) {S:Nat->Bool} (hdc:∀ k,k < l.length->S k=true->∀ j ∈ prI l k,S j=true) (ha:a ∈ os) (hS:S a.ix=false) {b:AO} (hb:b ∈ os) (hbS:S b.ix=true) (A:AOK P N l a o) {ob:Oper} (hob:l[b.ix]?=some ob) (v:Value):Agr l ob σ (put' σ o v):=by
 obtain ⟨ob',B⟩:=wCQ (Z.ao b hb)
 have eo:ob'=ob:=by have:=B.get;rw [hob] at this;exact (nD this).symm
 subst eo
 intro d hd
 obtain ⟨p,hp,rfl⟩:=wDk B (Z.sub b hb _ B.get) d hd
 symm
 refine wFP fun dd hdd e=>?_
 rcases A.dst with ⟨_,h2⟩ | ⟨q,d',h1,h2,h3,_⟩
 ·rw [h2] at hdd;cases hdd
 ·rw [h2] at hdd
  have hdd:=nD hdd
  have eq:q=p:=Pos.nat_inj (by have:=q.nat_pos;have:=p.nat_pos;have:q.nat - 1=p.nat - 1:=h3.symm.trans (hdd.trans e);omega)
  subst eq
  have:=Z.rdS b hb q hp a ha h1
  have hlt:b.ix < l.length:=(nT.1 hob).1
  have:=wDJ hdc (hdc _ hlt hbS) this
  rw [hS] at this
  cases this
theorem JS.fixed (HC:wEx (CC P) P tb ex) (HY':wEA (CC P) P exY) (HE:FrX ex) (HY:FrX exY) (Z:ZOK P N l os) {μ0:Mu} {w0:World} {S:Nat->Bool} (J:JS tb ex exY P l os σ0 h0 σf hf μ0 w0 S σ w s (a :: t) σA h σ' μ μS) (hfix:wBW a.kd=true) (hS:S a.ix=false)
  (hdc:∀ k,k < l.length->S k=true->∀ j ∈ prI l k,S j=true) (A:AOK P N l a o) :
  Step1 P l o σ w fun v w'=>∃ σB hB σ'' μB μT,JS tb ex exY P l os σ0 h0 σf hf μ0 w0 (fun k=>k == a.ix || S k) (put' σ o v) w' (s ++ [a]) t σB hB σ'' μB μT:=by
 have ha:a ∈ os:=by rw [J.e];simp
 have hsel:=Z.sel a ha _ A.get
 have hag:∀ q ∈ wBd a,σ (q.nat - 1)=σ' (q.nat - 1):=fun q hq=>J.ag q fun b hb _=>Z.rd s a t J.e q hq b hb
 have hagr:Agr l o σ σ':=fun d hd=>by
  obtain ⟨q,h1,rfl⟩:=wDk A (Z.sub a ha _ A.get) d hd
  exact hag q h1
 have hw:=wHE A J.env
 have main:∀ (v:AV) (cv:Value) (hB:AH) (w':World) (μB:Mu),wAR tb ex exY (s ++ [a]) σ0 h0=some (wEy a.dst σA v,hB)->wAR tb ex exY t (wEy a.dst σA v) hB=some (σf,hf) ->
   Ext μ h.fl.nat w μB w'->Sim (CC P) P μB hB w'->EnvR μB (wEy a.dst σA v) (put' σ' o cv)->hB.fl=h.fl ->
   ∃ σB hB σ'' μB μT,JS tb ex exY P l os σ0 h0 σf hf μ0 w0 (fun k=>k == a.ix || S k) (put' σ o cv) w' (s ++ [a]) t σB hB σ'' μB μT:=by
  intro v cv hB w' μB r1 r2 E' S' hE' hfl
  have hne:∀ b ∈ t,b.ix ≠ a.ix:=fun b hb e=>by
   have:=Z.one
   rw [J.e] at this
   exact (nY.1 (nU.1 this).2.1).1 b hb e.symm
  have hSb:∀ b ∈ t,(b.ix == a.ix || S b.ix)=true->S b.ix=true:=fun b hb h=>by
   have:=hne b hb
   simpa [this] using h
  have hbo:∀ b ∈ t,b ∈ os:=fun b hb=>by rw [J.e];simp [hb]
  have eB:os=(s ++ [a]) ++ t:=by rw [J.e];simp
  have hnm:∀ b ∈ t,∀ s1 t1 σ1 h1,os=s1 ++ b :: t1->wAR tb ex exY s1 σ0 h0=some (σ1,h1)->μB h1.nx=none/\μ h1.nx=none:=fun b hb s1 t1 σ1 h1 e1 hr=>by
   have g1:=wOQ HE HY Z eB r1 hb e1 hr
   have g2:=wOQ HE HY Z J.e J.hs (b:=b) (by simp [hb]) e1 hr
   exact ⟨S'.nx _ g1,J.sim.nx _ g2⟩
  let μT:Mu:=fun q=>match μB q with | some c=>some c | none=>μS q
  have hT:μB.Le μT:=fun q c hq=>by show (match μB q with | some c=>some c | none=>μS q)=_;rw [hq]
  have hST:μS.Le μT:=fun q c hq=>by
   show (match μB q with | some c=>some c | none=>μS q)=_
   cases hB:μB q with
   | none=>exact hq
   | some c' =>
    rcases J.nm q c hq with h1 | ⟨b,ob,s1,t1,σ1,h1,k1,k2,k3,k4,k5,k6,k7,k8⟩
    ·rw [E'.mono _ _ h1] at hB
     exact hB.symm ▸ rfl
    ·rcases nG.1 k1 with rfl | k1
     ·rw [hS] at k2;cases k2
     ·have:=(hnm b k1 s1 t1 σ1 h1 k6 k7).1
      rw [<- k8,hB] at this
      cases this
  refine ⟨_,hB,_,μB,μT,eB,r1,r2,fun b hb=>?_,fun b hb hh=>J.free b (by simp [hb]) (hSb b hb hh),?_,S',hfl.trans J.fl,hE',fun q hq=>?_,hT,fun q c hq=>?_,fun b hb hh=>?_⟩
  ·rcases nH.1 hb with hb | hb
   ·simp [J.inS b hb]
   ·rw [nZ.1 hb];simp
  ·have:=J.E
   refine this.trans ?_
   rw [<- J.fl]
   exact E'
  ·have old:σ (q.nat - 1)=σ' (q.nat - 1) \/ a.dst=some q:=by
    by_cases hq':a.dst=some q
    ·exact .inr hq'
    ·exact .inl (J.ag q fun b hb h=>by
      rcases nG.1 hb with rfl | hb
      ·exact hq'
      ·exact hq b hb (by simp [h]))
   rcases A.dst with ⟨h1,h2⟩ | ⟨p,d,h1,h2,h3,_⟩
   ·unfold put'
    rw [h2]
    rcases old with old | old
    ·exact old
    ·rw [h1] at old;cases old
   ·unfold put'
    rw [h2]
    by_cases e:q.nat - 1=d
    ·simp only [e,wCA]
    ·simp only
     rw [wBv _ _ e,wBv _ _ e]
     rcases old with old | old
     ·exact old
     ·rw [h1] at old
      cases old
      exact absurd h3.symm e
  ·have hq:(match μB q with | some c=>some c | none=>μS q)=some c:=hq
   cases hB':μB q with
   | some c' =>
    rw [hB'] at hq
    exact .inl hq
   | none =>
    rw [hB'] at hq
    rcases J.nm q c hq with h1 | ⟨b,ob,s1,t1,σ1,h1,k1,k2,k3,k4,k5,k6,k7,k8⟩
    ·rw [E'.mono _ _ h1] at hB'
     cases hB'
    ·rcases nG.1 k1 with rfl | k1
     ·rw [hS] at k2;cases k2
     ·exact .inr ⟨b,ob,s1,t1,σ1,h1,k1,by simp [k2],k3,(wBZ (wFJ Z hdc ha hS (hbo b k1) k2 A k3 cv)).symm.trans k4,k5,k6,k7,k8⟩
  ·have hbS:=hSb b hb hh
   obtain ⟨ob,p,Pd⟩:=J.pd b (by simp [hb]) hbS
   have hA:=wFJ (σ:=σ) Z hdc ha hS (hbo b hb) hbS A Pd.get cv
   have hp:put' σ o cv (p.nat - 1)=σ (p.nat - 1):=wFP fun d hd e=>by
    rcases A.dst with ⟨_,h2⟩ | ⟨q,d',h1,h2,h3,_⟩
    ·rw [h2] at hd;cases hd
    ·rw [h2] at hd
     have hd:=nD hd
     have eq:q=p:=Pos.nat_inj (by have:=q.nat_pos;have:=p.nat_pos;have:q.nat - 1=p.nat - 1:=h3.symm.trans (hd.trans e);omega)
     subst eq
     exact Z.wr s a t J.e q h1 b (nQ _ hb) Pd.dst
   have hsb:=Z.sel b (hbo b hb) _ Pd.get
   refine ⟨ob,p,Pd.get,Pd.dst,?_⟩
   rw [hp,<- wBZ hA]
   rcases Pd.fact with f | ⟨f,⟨f1,f2⟩ | ⟨f1,f2,w1,w2,f3⟩ | ⟨f1,f2,w1,o1,s1,t1,σ1,h1,f3,f4,f5,f6,f7,f8,f9⟩⟩
   ·exact .inl f
   ·exact .inr ⟨f,.inl ⟨f1,f2.mono E'.mono⟩⟩
   ·exact .inr ⟨f,.inr (.inl ⟨f1,f2.mono hST,w1,w2,(Runs.agr hsb hA).1 f3⟩)⟩
   ·obtain ⟨n1,n2⟩:=hnm b hb s1 t1 σ1 h1 f6 f7
    have nimg:¬ img μ h.fl.nat w1.heap.size:=by
     rintro ⟨q,d,g1,g2,_⟩
     have:=f9 q d (J.le _ _ g1) g2
     rw [this,n2] at g1
     cases g1
    refine .inr ⟨f,.inr (.inr ⟨f1,f2.mono hST,w1,o1,s1,t1,σ1,h1,(Runs.agr hsb hA).1 f3,(E'.keep.block _ (wAK f4) nimg).trans f4,f5,f6,f7,hST _ _ f8,fun q c hq hc=>?_⟩)⟩
    have hq:(match μB q with | some c=>some c | none=>μS q)=some c:=hq
    cases hB':μB q with
    | none=>rw [hB'] at hq;exact f9 q c hq hc
    | some c' =>
     rw [hB'] at hq
     cases hq
     rcases E'.new q c hB' with g | g | g
     ·exact f9 q c (J.le _ _ g) hc
     ·rw [hc] at g;exact absurd g nimg
     ·have:=wAK f4;omega
 obtain ⟨σx,hx,q1,q2⟩:=wJT (s:=[]) (a:=a) (t:=t) (σ0:=σA) (h0:=h) (by rw [nh];exact J.hr)
 rw [wAh] at q1
 cases q1
 refine Step1.agr hsel (fun d hd=>(hagr d hd).symm) ?_
 rcases q2 with ⟨g1,v,h2,g2,g3⟩ | ⟨g1,g3⟩
 ·refine (wPd HC HY' A (hw.trans g1) g2 J.env J.sim).mono ?_
  rintro cv w' ⟨_,μB,e1,e2,e3,e4⟩
  refine main v cv h2 w' μB ?_ g3 e1 e2 e3 e4
  rw [wCt s [a] _ _ _ _ J.hs,wAj,g1]
  simp only
  rw [g2]
  exact wAh _ _ _ _ _
 ·refine .inr ⟨hw.trans g1,?_⟩
  refine main u undef h w μ ?_ g3 (Ext.refl μ _ w) J.sim (wDM A J.env (wKv μ)) rfl
  rw [wCt s [a] _ _ _ _ J.hs,wAj,g1]
  exact wAh _ _ _ _ _
theorem JS.opnd (Z:ZOK P N l os) {μ0:Mu} {w0:World} {S:Nat->Bool} (J:JS tb ex exY P l os σ0 h0 σf hf μ0 w0 S σ w s t σA h σ' μ μS) (ha:a ∈ os) (hl:a.ix < l.length) (hp:∀ j ∈ prI l a.ix,S j=true)
  (hdc:∀ k,k < l.length->S k=true->∀ j ∈ prI l k,S j=true) {p:Pos} (hr:p ∈ wBd a):Rv μS (evA σf (.t p)) (σ (p.nat - 1))/\(a.kd=1 \/ a.kd=3 \/ 8 <= a.kd->Rv μ (evA σf (.t p)) (σ (p.nat - 1))):=by
 have base:(∀ b ∈ t,b.dst ≠ some p)->Rv μ (evA σf (.t p)) (σ (p.nat - 1)):=fun hn=>by
  rw [wCM t _ _ _ _ J.hr p hn,J.ag p fun b hb _=>hn b hb]
  exact J.env p
 by_cases hw:∃ b ∈ t,b.dst=some p
 ·obtain ⟨b,hb,hd⟩:=hw
  have hbo:b ∈ os:=by rw [J.e];simp [hb]
  have hanc:=Z.rdS a ha p hr b hbo hd
  have hS:=wDJ hdc hp hanc
  obtain ⟨ob,p',Pd⟩:=J.pd b hb hS
  have ep:p'=p:=by have:=Pd.dst;rw [hd] at this;exact (nD this).symm
  subst ep
  rcases Pd.fact with ⟨_,f1,f2⟩ | ⟨_,⟨_,f1⟩ | ⟨f0,f1,_⟩ | ⟨f0,f1,_⟩⟩
  ·rw [f1,f2]
   exact ⟨wKv _,fun _=>wKv _⟩
  ·exact ⟨f1.mono J.le,fun _=>f1⟩
  ·exact ⟨f1,fun hk=>absurd f0 (Z.cl a ha hk p' hr b hbo hd).2⟩
  ·exact ⟨f1,fun hk=>absurd f0 (Z.cl a ha hk p' hr b hbo hd).1⟩
 ·have:=base fun b hb hd=>hw ⟨b,hb,hd⟩
  exact ⟨this.mono J.le,fun _=>this⟩
end
end Go.KX
namespace Go.KX
open Go.RowKit Go.KL
section
variable {tb:Tr AF} {ex exY:Run} {P:Program} {N:Nat} {l:List Oper} {os s t:List AO} {a:AO} {σ0 σA σf:Tr AV} {h0 h h1 h' hf:AH} {μ μS:Mu} {σ σ':Env} {w:World} {o:Oper} {v:AV}
theorem wMY {a:AOp} {op:Op} (hk:kdA a=1) (hc:wFn P a op=true) (hE:EnvR μ σA σ) (hm:∀ b c,μ b=some c->h.m.get b=h1.m.get b) (hr:opY a tb ex exY σA h1=some (v,h')):opY a tb ex exY σA h=some (v,h):=by
 have cel:∀ b c,μ b=some c->wCd h b=wCd h1 b:=fun b c hb=>by unfold wCd;rw [hm b c hb]
 cases a <;> first | (simp [kdA] at hk;done) | skip
 case ld x =>
  have hr:wMC x σA h1=some (v,h'):=hr
  show wMC x σA h=some (v,h)
  have hc:wPS P x op=true:=hc
  unfold wPS at hc
  split at hc
  ·simp only [nB] at hc
   have g:=wAH hc.2 hE
   unfold wMC at hr ⊢
   split at hr
   ·rename_i b off hb
    rw [hb] at g
    obtain ⟨c,g1,_⟩:=g
    simp only [hb,cel b c g1]
    split at hr
    ·exact wLd hr h
    ·cases hr
   ·cases hr
  ·cases hc
 case ldA n x =>
  have hr:wGO n x σA h1=some (v,h'):=hr
  show wGO n x σA h=some (v,h)
  have hc:wLK P n x op=true:=hc
  unfold wLK at hc
  split at hc
  ·simp only [nB] at hc
   have g:=wAH hc.2 hE
   unfold wGO at hr ⊢
   split at hr
   ·rename_i b off hb
    rw [hb] at g
    obtain ⟨c,g1,_⟩:=g
    simp only [hb,cel b c g1]
    split at hr
    ·exact wLd hr h
    ·cases hr
   ·cases hr
  ·cases hc
 case lk two k ok z x y =>
  have hr:wMD two k ok z x y σA h1=some (v,h'):=hr
  show wMD two k ok z x y σA h=some (v,h)
  have hc:wPW P two k ok z x y op=true:=hc
  unfold wPW at hc
  split at hc
  ·simp only [nB] at hc
   have g:=wAH hc.2.2.1 hE
   unfold wMD at hr ⊢
   split at hr
   ·rename_i b hb
    rw [hb] at g
    obtain ⟨c,g1,_⟩:=g
    simp only [hb,hm b c g1]
    repeat' (split at hr)
    all_goals first | (cases hr;done) | (cases hr;rfl)
   ·cases hr
  ·cases hc
 case lenM x =>
  have hr:wDo x σA h1=some (v,h'):=hr
  show wDo x σA h=some (v,h)
  have hc:wHl P x op=true:=hc
  unfold wHl at hc
  split at hc
  ·split at hc
   ·simp only [nB] at hc
    obtain ⟨_,hc⟩:=hc
    split at hc
    ·simp only [nB] at hc
     have g:=wAH hc.2 hE
     unfold wDo at hr ⊢
     split at hr
     ·rename_i hb
      cases hr
      simp_all
     ·rename_i b hb
      rw [hb] at g
      obtain ⟨c,g1,_⟩:=g
      simp only [hb,hm b c g1]
      repeat' (split at hr)
      all_goals first | (cases hr;done) | (cases hr;rfl)
     ·cases hr
    ·cases hc
   ·cases hc
  ·cases hc
theorem wHI (HE:FrX ex) (HY:FrX exY):∀ (r:List AO) (σ1:Tr AV) (h1:AH) (σ2:Tr AV) (h2:AH),wAR tb ex exY r σ1 h1=some (σ2,h2)->(∀ b ∈ r,wFo P N l b=true) ->
  (∀ b ∈ r,b.kd=2 \/ (b.kd=1 \/ b.kd=3 \/ (b.kd=6/\kdA b.op=3) \/ (b.kd=4/\wKB b.op=true) \/ (8 <= b.kd/\kdA b.op=1)))->h1.nx.nat <= h2.nx.nat/\∀ p:Pos,p.nat < h1.nx.nat->h2.m.get p=h1.m.get p
 | [],σ1,h1,σ2,h2,hr,_,_=>by
  rw [wAh] at hr
  cases hr
  exact ⟨nI _,fun _ _=>rfl⟩
 | b :: r,σ1,h1,σ2,h2,hr,hc,hk=>by
  rw [wAj] at hr
  cases hw:wCE σ1 b.grd with
  | false =>
   rw [hw] at hr
   exact wHI HE HY r _ _ _ _ hr (fun c hcc=>hc c (by simp [hcc])) (fun c hcc=>hk c (by simp [hcc]))
  | true =>
   rw [hw] at hr
   simp only at hr
   cases hq:opK b.kd b.op tb ex exY σ1 h1 with
   | none=>rw [hq] at hr;cases hr
   | some q =>
    rw [hq] at hr
    obtain ⟨v,h3⟩:=q
    obtain ⟨g1,g2⟩:=wHI HE HY r _ _ _ _ hr (fun c hcc=>hc c (by simp [hcc])) (fun c hcc=>hk c (by simp [hcc]))
    obtain ⟨o,A⟩:=wCQ (hc b (by simp))
    have one:h1.nx.nat <= h3.nx.nat/\∀ p:Pos,p.nat < h1.nx.nat->h3.m.get p=h1.m.get p:=by
     have same:h3=h1->h1.nx.nat <= h3.nx.nat/\∀ p:Pos,p.nat < h1.nx.nat->h3.m.get p=h1.m.get p:=fun e=>by subst e;exact ⟨nI _,fun _ _=>rfl⟩
     rcases hk b (by simp) with k | k | k | ⟨k,k'⟩ | ⟨k,k'⟩ | ⟨k,k'⟩
     ·exact ⟨(wNI HE HY _ _ hq).nx,wPg HE HY b.op (by rw [k] at hq;exact hq)⟩
     ·rw [k] at hq
      exact same (wGd (C:=CC P) (A.k1 k) A.op _ _ _ _ hq).1
     ·rw [k] at hq
      exact same (wGc (A.k3 k) A.op _ _ _ _ hq).1
     ·rw [k] at hq
      exact same (wGc k' A.op _ _ _ _ hq).1
     ·rw [k] at hq
      obtain ⟨B,vf,e1,_⟩:=wJS (C:=CC P) k' A.op _ _ _ _ hq
      subst e1
      refine ⟨(Fr.push h1 B).nx,fun p hp=>?_⟩
      show (h1.m.set h1.nx B).get p=_
      rw [Tr.get_set,if_neg (fun e=>by subst e;omega)]
     ·exact same (wGd (C:=CC P) (.inl k') A.op _ _ _ _ (wLg (by omega) hq)).1
    exact ⟨ni one.1 g1,fun p hp=>(g2 p (kS hp one.1)).trans (one.2 p hp)⟩
theorem JS.full {μ0:Mu} {w0:World} {S:Nat->Bool} (J:JS tb ex exY P l os σ0 h0 σf hf μ0 w0 S σ w s t σA h σ' μ μS):wAR tb ex exY os σ0 h0=some (σf,hf):=by
 rw [J.e,wCt s t _ _ _ _ J.hs]
 exact J.hr
theorem JS.frm (Z:ZOK P N l os) {μ0:Mu} {w0:World} {S:Nat->Bool} (J:JS tb ex exY P l os σ0 h0 σf hf μ0 w0 S σ w s t σA h σ' μ μS) (ha:a ∈ os) (hl:a.ix < l.length) (hp:∀ j ∈ prI l a.ix,S j=true)
  (hdc:∀ k,k < l.length->S k=true->∀ j ∈ prI l k,S j=true) (A:AOK P N l a o) {s1 t1:List AO} {σ1:Tr AV} (e1:os=s1 ++ a :: t1) (hr1:wAR tb ex exY s1 σ0 h0=some (σ1,h1)) :
  wanted l σ o=wCE σ1 a.grd/\∀ p ∈ wBd a,evA σf (.t p)=evA σ1 (.t p):=by
 have hf:=J.full
 have hrd:∀ p ∈ wBd a,evA σf (.t p)=evA σ1 (.t p):=fun p hp=>by
  rw [e1,wCt s1 _ _ _ _ _ hr1] at hf
  exact wPi Z e1 hf hp
 refine ⟨?_,hrd⟩
 have hE:EnvR μS (rst σf (wBd a)) (rsl σ (wBd a)):=wFt fun p hpr=>(J.opnd Z ha hl hp hdc hpr).1
 have hw:=wHE A hE
 have hag:Agr l o (rsl σ (wBd a)) σ:=fun d hd=>by
  obtain ⟨p,h1,h2⟩:=wDk A (Z.sub a ha _ A.get) d hd
  unfold rsl
  rw [if_pos ⟨p,h1,h2⟩]
 rw [<- wBZ hag,hw]
 cases hg:a.grd with
 | none=>rfl
 | some q =>
  obtain ⟨p,b⟩:=q
  show isB b (evA _ (.t p))=isB b (evA _ (.t p))
  have hpr:p ∈ wBd a:=nQ _ (by rw [hg];simp)
  rw [wFs,if_pos hpr,hrd p hpr]
theorem wPk (HE:FrX ex) (HY:FrX exY) (Z:ZOK P N l os) {a b:AO} {s1 t1 s2 t2:List AO} {σ1 σ2:Tr AV} {h1 h2:AH} (e1:os=s1 ++ a :: t1) (e2:os=s2 ++ b :: t2) (r1:wAR tb ex exY s1 σ0 h0=some (σ1,h1)) (r2:wAR tb ex exY s2 σ0 h0=some (σ2,h2))
  (w1:wCE σ1 a.grd=true) (ka:a.kd=4) (la:wKB a.op=true) (hin:a ∈ s2):h1.nx.nat < h2.nx.nat:=by
 obtain ⟨o,A⟩:=wCQ (Z.ao a (by rw [e1];simp))
 obtain ⟨r,r',rfl⟩:=nL hin
 have es:s1=r:=(wCN (e1 ▸ Z.one) (e1.symm.trans (e2.trans (by rw [nM,nJ])))).1
 subst es
 rw [wCt s1 _ _ _ _ _ r1,wAj,w1] at r2
 simp only at r2
 cases hq:opK a.kd a.op tb ex exY σ1 h1 with
 | none=>rw [hq] at r2;cases r2
 | some q =>
  rw [hq] at r2
  obtain ⟨v,h3⟩:=q
  rw [ka] at hq
  obtain ⟨B,vf,q1,_⟩:=wJS (C:=CC P) la A.op _ _ _ _ hq
  subst q1
  have:=(wGg HE HY _ _ _ _ _ r2).nx
  have h3:(h1.push B).nx.nat=h1.nx.nat + 1:=Pos.nat_succ _
  simp only at this
  omega
theorem nm_ne (HE:FrX ex) (HY:FrX exY) (Z:ZOK P N l os) {a b:AO} {s1 t1 s2 t2:List AO} {σ1 σ2:Tr AV} {h1 h2:AH} (e1:os=s1 ++ a :: t1) (e2:os=s2 ++ b :: t2) (r1:wAR tb ex exY s1 σ0 h0=some (σ1,h1)) (r2:wAR tb ex exY s2 σ0 h0=some (σ2,h2))
  (w1:wCE σ1 a.grd=true) (w2:wCE σ2 b.grd=true) (ka:a.kd=4) (la:wKB a.op=true) (kb:b.kd=4) (lb:wKB b.op=true) (hne:a ≠ b):h1.nx ≠ h2.nx:=by
 have ha:a ∈ s2 ++ b :: t2:=by rw [<- e2,e1];simp
 rcases nH.1 ha with h | h
 ·intro e
  have:=wPk HE HY Z e1 e2 r1 r2 w1 ka la h
  rw [e] at this
  exact absurd this (kQ _)
 ·rcases nG.1 h with h | h
  ·exact absurd h hne
  ·obtain ⟨r,r',rfl⟩:=nL h
   have es:s1=s2 ++ b :: r:=(wCN (e1 ▸ Z.one) (e1.symm.trans (e2.trans (by rw [nM,nJ])))).1
   intro e
   have:=wPk HE HY Z e2 e1 r2 r1 w2 kb lb (by rw [es];simp)
   rw [e] at this
   exact absurd this (kQ _)
end
end Go.KX
namespace Go.KX
open Go.RowKit Go.KL
section
variable {tb:Tr AF} {ex exY:Run} {P:Program} {N:Nat} {l:List Oper} {os s t:List AO} {a:AO} {σ0 σA σf:Tr AV} {h0 h h1 h' hf:AH} {μ μS:Mu} {σ σ':Env} {w:World} {o:Oper} {v:AV}
theorem wLi (Z:ZOK P N l os) {a b:AO} (ha:a ∈ os) (hb:b ∈ os) (e:b.ix=a.ix):b=a:=by
 obtain ⟨s,t,hs⟩:=nL ha
 have one:=Z.one
 rw [hs] at hb one
 rcases nH.1 hb with h | h
 ·exact absurd e ((nU.1 one).2.2 b h a (by simp))
 ·rcases nG.1 h with h | h
  ·exact h
  ·exact absurd e.symm ((nY.1 (nU.1 one).2.1).1 b h)
theorem wFK (A:AOK P N l a o) {q:Pos} (hn:a.dst ≠ some q) (cv:Value):put' σ o cv (q.nat - 1)=σ (q.nat - 1):=by
 refine wFP fun d hd e=>?_
 rcases A.dst with ⟨_,h2⟩ | ⟨p,d',h1,h2,h3,_⟩
 ·rw [h2] at hd;cases hd
 ·rw [h2] at hd
  have hd:=nD hd
  have:p=q:=Pos.nat_inj (by have:=q.nat_pos;have:=p.nat_pos;have:p.nat - 1=q.nat - 1:=h3.symm.trans (hd.trans e);omega)
  subst this
  exact hn h1
theorem JS.add (Z:ZOK P N l os) {μ0:Mu} {w0:World} {S:Nat->Bool} (J:JS tb ex exY P l os σ0 h0 σf hf μ0 w0 S σ w s t σA h σ' μ μS) (ha:a ∈ t) (hS:S a.ix=false) (hfree:wBW a.kd=false)
  (hdc:∀ k,k < l.length->S k=true->∀ j ∈ prI l k,S j=true) (A:AOK P N l a o) {cv:Value} {w':World} {μT:Mu} (K:Keep w w' Non) (hle:μS.Le μT)
  (hnew:∀ q c,μT q=some c->μS q=some c \/ (c.1=w.heap.size/\wanted l σ o=true/\a.kd=4/\∃ s1 t1 σ1 h1,os=s1 ++ a :: t1/\wAR tb ex exY s1 σ0 h0=some (σ1,h1)/\q=h1.nx))
  (hpa:∃ p,Pend tb ex exY P l os σ0 h0 σf w0 μ μT (put' σ o cv) w' a o p) :
  JS tb ex exY P l os σ0 h0 σf hf μ0 w0 (fun k=>k == a.ix || S k) (put' σ o cv) w' s t σA h σ' μ μT:=by
 have hao:a ∈ os:=by rw [J.e];simp [ha]
 have hbo:∀ b ∈ t,b ∈ os:=fun b hb=>by rw [J.e];simp [hb]
 obtain ⟨sa,ta,ea⟩:=nL hao
 have hself:Agr l o σ (put' σ o cv):=by
  intro d hd
  obtain ⟨p,hp,rfl⟩:=wDk A (Z.sub a hao _ A.get) d hd
  exact (wFK A (Z.rd sa a ta ea p hp a (by simp)) cv).symm
 refine ⟨J.e,J.hs,J.hr,fun b hb=>by simp [J.inS b hb],fun b hb hh=>?_,⟨J.E.mono,J.E.new,J.E.keep.step K fun _ _ hn=>hn.elim⟩,J.sim.keep K,J.fl,J.env,fun q hq=>?_,J.le.trans hle,fun q c hq=>?_,fun b hb hh=>?_⟩
 ·by_cases e:b.ix=a.ix
  ·rw [wLi Z hao (hbo b hb) e];exact hfree
  ·exact J.free b hb (by simpa [e] using hh)
 ·rw [wFK A (hq a ha (by simp))]
  exact J.ag q fun b hb hs=>hq b hb (by simp [hs])
 ·rcases hnew q c hq with h1 | ⟨_,h2,h3,s1,t1,σ1,h1,e1,e2,e3⟩
  ·rcases J.nm q c h1 with g | ⟨b,ob,s1,t1,σ1,h1,k1,k2,k3,k4,k5,k6,k7,k8⟩
   ·exact .inl g
   ·exact .inr ⟨b,ob,s1,t1,σ1,h1,k1,by simp [k2],k3,(wBZ (wFJ Z hdc hao hS (hbo b k1) k2 A k3 cv)).symm.trans k4,k5,k6,k7,k8⟩
  ·exact .inr ⟨a,o,s1,t1,σ1,h1,ha,by simp,A.get,(wBZ hself).symm.trans h2,h3,e1,e2,e3⟩
 ·by_cases e:b.ix=a.ix
  ·have:=wLi Z hao (hbo b hb) e
   subst this
   exact ⟨o,hpa⟩
  ·have hbS:S b.ix=true:=by simpa [e] using hh
   obtain ⟨ob,p,Pd⟩:=J.pd b hb hbS
   have hA:=wFJ (σ:=σ) Z hdc hao hS (hbo b hb) hbS A Pd.get cv
   have hp:put' σ o cv (p.nat - 1)=σ (p.nat - 1):=by
    refine wFK A (fun hd=>?_) cv
    have hb':=hbo b hb
    rw [ea] at hb'
    have hb'':b ∈ sa ++ ta:=by
     rcases nH.1 hb' with h | h
     ·exact nc _ h
     ·rcases nG.1 h with h | h
      ·exact absurd (by rw [h]) e
      ·exact nQ _ h
    exact Z.wr sa a ta ea p hd b hb'' Pd.dst
   have hsb:=Z.sel b (hbo b hb) _ Pd.get
   refine ⟨ob,p,Pd.get,Pd.dst,?_⟩
   rw [hp,<- wBZ hA]
   rcases Pd.fact with f | ⟨f,⟨f1,f2⟩ | ⟨f1,f2,w1,w2,f3⟩ | ⟨f1,f2,w1,o1,s1,t1,σ1,h1,f3,f4,f5,f6,f7,f8,f9⟩⟩
   ·exact .inl f
   ·exact .inr ⟨f,.inl ⟨f1,f2⟩⟩
   ·exact .inr ⟨f,.inr (.inl ⟨f1,f2.mono hle,w1,w2,(Runs.agr hsb hA).1 f3⟩)⟩
   ·refine .inr ⟨f,.inr (.inr ⟨f1,f2.mono hle,w1,o1,s1,t1,σ1,h1,(Runs.agr hsb hA).1 f3,(K.block _ (wAK f4) id).trans f4,f5,f6,f7,hle _ _ f8,fun q c hq hc=>?_⟩)⟩
    rcases hnew q c hq with h1 | ⟨h1,_⟩
    ·exact f9 q c h1 hc
    ·have:=wAK f4
     omega
theorem wGh:∀ (r:List AO),(∀ b ∈ r,b.kd ≠ 0) \/ ∃ x b y,r=x ++ b :: y/\b.kd=0/\∀ c ∈ x,c.kd ≠ 0
 | []=>.inl fun b hb=>by simp at hb
 | a :: r=>by
  by_cases h0:a.kd=0
  ·exact .inr ⟨[],a,r,rfl,h0,fun c hc=>by simp at hc⟩
  ·rcases wGh r with h | ⟨x,b,y,h1,h2,h3⟩
   ·refine .inl fun b hb=>?_
    rcases nG.1 hb with rfl | hb
    ·exact h0
    ·exact h b hb
   ·refine .inr ⟨a :: x,b,y,by rw [h1];rfl,h2,fun c hc=>?_⟩
    rcases nG.1 hc with rfl | hc
    ·exact h0
    ·exact h3 c hc
theorem JS.freeOp {σg:Tr AV} (HE:FrX ex) (HY:FrX exY) (Z:ZOK P N l os) (HL:LCK tb ex exY os σ0 h0 σg) (Hg:∀ a ∈ os,8 <= a.kd->∀ p,p ∈ wBd a \/ a.dst=some p->evA σf (.t p)=evA σg (.t p)) {μ0:Mu} {w0:World} {S:Nat->Bool} (J:JS tb ex exY P l os σ0 h0 σf hf μ0 w0 S σ w s t σA h σ' μ μS) (ha:a ∈ t) (hS:S a.ix=false) (hfree:wBW a.kd=false)
  (hp:∀ j ∈ prI l a.ix,S j=true) (hdc:∀ k,k < l.length->S k=true->∀ j ∈ prI l k,S j=true) (A:AOK P N l a o) :
  Step1 P l o σ w fun cv w'=>∃ μT,JS tb ex exY P l os σ0 h0 σf hf μ0 w0 (fun k=>k == a.ix || S k) (put' σ o cv) w' s t σA h σ' μ μT:=by
 have hao:a ∈ os:=by rw [J.e];simp [ha]
 have hl:a.ix < l.length:=(nT.1 A.get).1
 obtain ⟨r,r',et⟩:=nL ha
 have e1:os=(s ++ r) ++ a :: r':=by rw [J.e,et,nM]
 have hsel:=Z.sel a hao _ A.get
 have hsub:=Z.sub a hao _ A.get
 have hfull:=J.full
 rw [e1] at hfull
 obtain ⟨σ1,h1,r1,r2⟩:=wJT hfull
 obtain ⟨hw,hrd⟩:=J.frm Z hao hl hp hdc A e1 r1
 have hrr:wAR tb ex exY r σA h=some (σ1,h1):=by rw [<- wCt s r _ _ _ _ J.hs];exact r1
 have hself:∀ cv,Agr l o σ (put' σ o cv):=by
  intro cv d hd
  obtain ⟨p,hp,rfl⟩:=wDk A hsub d hd
  exact (wFK A (Z.rd _ a _ e1 p hp a (by simp)) cv).symm
 obtain ⟨hdn,hkd⟩:a.dst ≠ none/\(a.kd=1 \/ a.kd=3 \/ (a.kd=6/\kdA a.op=3) \/ (a.kd=4/\wKB a.op=true) \/ (8 <= a.kd/\kdA a.op=1)):=by
  rcases Z.kd a hao with h | h
  ·rw [hfree] at h;cases h
  ·exact h
 obtain ⟨p,d,d1,d2,d3,_⟩:∃ p d,a.dst=some p/\o.dst=some d/\d=p.nat - 1/\d < N:=by
  rcases A.dst with ⟨h1,_⟩ | h
  ·exact absurd h1 hdn
  ·exact h
 have eput:∀ cv,put' σ o cv (p.nat - 1)=cv:=fun cv=>by unfold put';rw [d2,d3];exact wCA _ _ _
 have hslot:∀ q ∈ wBy (wBE a.op),q ∈ wBd a:=fun q hq=>nc _ hq
 rcases r2 with ⟨g1,v,h2,g2,g3⟩ | ⟨g1,g3⟩
 ·have hv:evA σf (.t p)=v:=wIg Z e1 g3 d1
  have hw':wanted l σ o=true:=hw.trans g1
  have hwn:∀ cv,wanted l (put' σ o cv) o=true:=fun cv=>(wBZ (hself cv)).symm.trans hw'
  have hvS:∀ q ∈ wBy (wBE a.op),Rv μS (evA σ1 (.t q)) (σ (q.nat - 1)):=fun q hq=>by
   rw [<- hrd q (hslot q hq)]
   exact (J.opnd Z hao hl hp hdc (hslot q hq)).1
  have clean:(a.kd=1 \/ a.kd=3 \/ 8 <= a.kd)->(∃ cv,Rv μ v cv/\Runs P σ w o cv w)->Step1 P l o σ w fun cv w'=>∃ μT,JS tb ex exY P l os σ0 h0 σf hf μ0 w0 (fun k=>k == a.ix || S k) (put' σ o cv) w' s t σA h σ' μ μT:=by
   rintro hk ⟨cv,c1,c2⟩
   refine .inl ⟨hw',.inr (.inl ⟨cv,w,c2,μS,J.add Z ha hS hfree hdc A (Keep.refl w _) (Mu.Le.refl _) (fun q c hq=>.inl hq) ⟨p,A.get,d1,.inr ⟨hwn cv,.inl ⟨hk,?_⟩⟩⟩⟩)⟩
   rw [hv,eput]
   exact c1
  have hvC:(a.kd=1 \/ a.kd=3 \/ 8 <= a.kd)->∀ q ∈ wBy (wBE a.op),Rv μ (evA σ1 (.t q)) (σ (q.nat - 1)):=fun hk q hq=>by
   rw [<- hrd q (hslot q hq)]
   exact (J.opnd Z hao hl hp hdc (hslot q hq)).2 hk
  have loadC:(a.kd=1 \/ a.kd=3 \/ 8 <= a.kd)->kdA a.op=1->∀ (x:List AO),(∀ b ∈ x,b ∈ t)->∀ {σ2:Tr AV} {h3 h4:AH} {σ3:Tr AV},wAR tb ex exY x σA h=some (σ2,h3)->opY a.op tb ex exY σ3 h3=some (v,h4)->(∀ b ∈ x,b.kd=0->False)->(∀ q ∈ wBd a,evA σf (.t q)=evA σ3 (.t q))->∃ cv,Rv μ v cv/\Runs P σ w o cv w:=by
   intro hk k x hx σ2 h3 h4 σ3 hrx gY hx0 hrd3
   have hv3:∀ q ∈ wBy (wBE a.op),Rv μ (evA σ3 (.t q)) (σ (q.nat - 1)):=fun q hq=>by
    rw [<- hrd3 q (hslot q hq)]
    exact (J.opnd Z hao hl hp hdc (hslot q hq)).2 hk
   have hrs:=wJR gY
   have henv:=wFt hv3
   obtain ⟨_,hold⟩:=wHI HE HY x _ _ _ _ hrx (fun b hb=>Z.ao b (by rw [J.e];simp [hx b hb])) (fun b hb=>by
    rcases Z.kd b (by rw [J.e];simp [hx b hb]) with h | h
    ·unfold wBW at h
     simp only [nw] at h
     rcases h with h | h
     ·exact absurd (nA h) (hx0 b hb)
     ·exact .inl (nA h)
    ·exact .inr h.2)
   have hm:∀ b c,μ b=some c->h.m.get b=h3.m.get b:=fun b c hb=>by
    refine (hold b ?_).symm
    rcases Nat.lt_or_ge b.nat h.nx.nat with hlt | hge
    ·exact hlt
    ·rw [J.sim.nx b hge] at hb;cases hb
   have hld:=wMY k A.op henv hm hrs
   obtain ⟨cv,c1,c2⟩:=wLf (C:=CC P) hsel hsub (.inl k) A.op hld J.sim (fun q hq=>by rw [wFs,if_pos hq];exact hv3 q hq)
   exact ⟨cv,c1,c2⟩
  rcases hkd with hk | hk | ⟨hk,hk2⟩ | ⟨hk,hk2⟩ | ⟨hk,hk2⟩
  ·have gY:opY a.op tb ex exY σ1 h1=some (v,h2):=by rw [hk] at g2;exact g2
   refine clean (.inl hk) ?_
   rcases A.k1 hk with k | k
   ·exact loadC (.inl hk) k r (fun b hb=>by rw [et];simp [hb]) hrr gY (fun b hb h0=>by
     have:=wDJ hdc hp (Z.ld _ a _ e1 hk b (by simp [hb]) h0)
     have:=J.free b (by rw [et];simp [hb]) this
     rw [h0] at this
     cases this) hrd
   ·obtain ⟨cv,c1,c2⟩:=wFu hsel hsub k A.op gY (hvC (.inl hk))
    exact ⟨cv,c1,c2 w⟩
  ·have gY:opY a.op tb ex exY σ1 h1=some (v,h2):=by rw [hk] at g2;exact g2
   obtain ⟨cv,c1,c2⟩:=wFu hsel hsub (A.k3 hk) A.op gY (hvC (.inr (.inl hk)))
   exact clean (.inr (.inl hk)) ⟨cv,c1,c2 w⟩
  ·have gY:opY a.op tb ex exY σ1 h1=some (v,h2):=by rw [hk] at g2;exact g2
   obtain ⟨cv,c1,c2⟩:=wFu hsel hsub hk2 A.op gY hvS
   refine .inl ⟨hw',.inr (.inl ⟨cv,w,c2 w,μS,J.add Z ha hS hfree hdc A (Keep.refl w _) (Mu.Le.refl _) (fun q c hq=>.inl hq) ⟨p,A.get,d1,.inr ⟨hwn cv,.inr (.inl ⟨hk,?_,w,w,?_⟩)⟩⟩⟩)⟩
   ·rw [hv,eput]
    exact c1
   ·rw [eput]
    exact (Runs.agr hsel (hself cv)).1 (c2 w)
  ·have gY:opY a.op tb ex exY σ1 h1=some (v,h2):=by rw [hk] at g2;exact g2
   obtain ⟨B,vf,ob,val,_,ev',_,c1,c2,c3⟩:=wJu (C:=CC P) hsel hsub hk2 A.op gY hvS
   have hno:μS h1.nx=none:=by
    cases hq:μS h1.nx with
    | none=>rfl
    | some c =>
     rcases J.nm _ c hq with g | ⟨b,ob',s2,t2,σ2,h3,k1,k2,k3,k4,k5,k6,k7,k8⟩
     ·have:=wOQ HE HY Z J.e J.hs ha e1 r1
      rw [J.sim.nx _ this] at g
      cases g
     ·have hbo:b ∈ os:=by rw [J.e];simp [k1]
      have hne:a ≠ b:=fun e=>by subst e;rw [hS] at k2;cases k2
      obtain ⟨ob2,B2⟩:=wCQ (Z.ao b hbo)
      have hb2:wKB b.op=true:=by
       rcases Z.kd b hbo with hh | ⟨_,hh | hh | hh | hh | hh⟩
       ·rw [k5] at hh;exact absurd hh (by decide)
       ·omega
       ·omega
       ·omega
       ·exact hh.2
       ·omega
      have hwb:wCE σ2 b.grd=true:=by
       have hlb:b.ix < l.length:=(nT.1 k3).1
       have eo:ob2=ob':=by have:=B2.get;rw [k3] at this;exact (nD this).symm
       subst eo
       have:=(J.frm Z hbo hlb (hdc _ hlb k2) hdc B2 k6 k7).1
       rw [<- this]
       exact k4
      exact absurd k8 (nm_ne HE HY Z e1 k6 r1 k7 g1 hwb hk hk2 k5 hb2 hne)
   have hadd:=Mu.add_le (c:=(⟨w.heap.size,0,g0⟩:Cl)) hno
   have hsz:∀ q c,μS q=some c->c.1 < w.heap.size:=fun q c hq=>by
    rcases J.nm q c hq with g | ⟨b,ob',s2,t2,σ2,h3,k1,k2,k3,k4,k5,k6,k7,k8⟩
    ·exact J.sim.lt q c g
    ·obtain ⟨ob2,p2,Pd⟩:=J.pd b k1 k2
     have eo:ob2=ob':=by have:=Pd.get;rw [k3] at this;exact (nD this).symm
     subst eo
     rcases Pd.fact with ⟨f,_⟩ | ⟨_,⟨f,_⟩ | ⟨f,_⟩ | ⟨_,_,w1,o1,s3,t3,σ3,h4,_,f4,_,f6,f7,f8,_⟩⟩
     ·rw [k4] at f;cases f
     ·omega
     ·omega
     ·have es:s3=s2:=(wCN (f6 ▸ Z.one) (f6.symm.trans k6)).1
      subst es
      rw [k7] at f7
      cases f7
      subst k8
      rw [hq] at f8
      cases f8
      exact wAK f4
   refine .inl ⟨hw',.inr (.inl ⟨val w.heap.size,w.alloc ob,c1 w,μS.add h1.nx ⟨w.heap.size,0,g0⟩,J.add Z ha hS hfree hdc A (wAg w ob) hadd (fun q c hq=>?_) ⟨p,A.get,d1,.inr ⟨hwn _,.inr (.inr ⟨hk,?_,w,ob,s ++ r,r',σ1,h1,?_,heap_alloc_new w ob,J.E.keep.size,e1,r1,Mu.add_same _ _ _,fun q c hq hc=>?_⟩)⟩⟩⟩)⟩
   ·unfold Mu.add at hq
    split at hq
    ·rename_i eq
     cases hq
     exact .inr ⟨rfl,hw',hk,s ++ r,r',σ1,h1,e1,r1,eq⟩
    ·exact .inl hq
   ·rw [hv,eput,ev']
    exact c3 _ _ _ (Mu.add_same _ _ _)
   ·rw [eput]
    exact (Runs.agr hsel (hself _)).1 (c1 w)
   ·unfold Mu.add at hq
    split at hq
    ·rename_i eq
     exact eq
    ·have:=hsz q c hq
     omega
  ·have gY:opY a.op tb ex exY σ1 h1=some (v,h2):=wLg (by omega) g2
   refine clean (.inr (.inr hk)) ?_
   rcases wGh r with hz | ⟨x,b,y,er,hb0,hx0⟩
   ·exact loadC (.inr (.inr hk)) hk2 r (fun b hb=>by rw [et];simp [hb]) hrr gY (fun b hb h0=>hz b hb h0) hrd
   ·have e2:os=(s ++ x) ++ b :: (y ++ a :: r'):=by rw [J.e,et,er];simp
    have hfull2:=J.full
    rw [e2] at hfull2
    obtain ⟨σ2,h3,r3,_⟩:=wJT hfull2
    have hbt:b ∈ t:=by rw [et,er];simp
    have hanc:wMF y + 8 < a.kd:=by
     rcases Z.ld8 _ a _ e1 hk (s ++ x) b y (by rw [er];simp) hb0 with g | g
     ·have:=J.free b hbt (wDJ hdc hp g)
      rw [hb0] at this
      cases this
     ·exact g
    have hlk:=HL _ b _ e2 hb0 _ _ r3
    have hsame:=wIc y a r' 0 hlk hfree (by omega)
    have hgf:wCE σg a.grd=true:=by
     rw [<- g1]
     cases hg:a.grd with
     | none=>rfl
     | some q =>
      obtain ⟨q,c⟩:=q
      show isB c (evA _ (.t q))=isB c (evA _ (.t q))
      have hqr:q ∈ wBd a:=nQ _ (by rw [hg];simp)
      rw [<- Hg a hao hk q (.inl hqr),hrd q hqr]
    unfold wGZ at hsame
    rw [d1] at hsame
    simp only [hgf] at hsame
    split at hsame
    ·rename_i v' h5 hq
     have hvv:=wLc hsame
     rw [<- Hg a hao hk p (.inr d1),hv] at hvv
     subst hvv
     have hrx:wAR tb ex exY x σA h=some (σ2,h3):=by rw [<- wCt s x _ _ _ _ J.hs];exact r3
     exact loadC (.inr (.inr hk)) hk2 x (fun b hb=>by rw [et,er];simp [hb]) hrx hq (fun b hb h0=>hx0 b hb h0) (fun q hq=>Hg a hao hk q (.inl hq))
    ·cases hsame
 ·refine .inr ⟨hw.trans g1,μS,J.add Z ha hS hfree hdc A (Keep.refl w _) (Mu.Le.refl _) (fun q c hq=>.inl hq) ⟨p,A.get,d1,.inl ⟨(wBZ (hself _)).symm.trans (hw.trans g1),eput _,?_⟩⟩⟩
  exact wIg Z e1 (v:=u) g3 d1
theorem JS.catch (Z:ZOK P N l os) {μ0:Mu} {w0:World} {S:Nat->Bool}:∀ (r:List AO) {s t:List AO} {σA:Tr AV} {h:AH} {σ':Env} {μ:Mu},JS tb ex exY P l os σ0 h0 σf hf μ0 w0 S σ w s (r ++ t) σA h σ' μ μS->(∀ a ∈ r,S a.ix=true) ->
  ∃ σB hB σ'' μB,JS tb ex exY P l os σ0 h0 σf hf μ0 w0 S σ w (s ++ r) t σB hB σ'' μB μS
 | [],s,t,σA,h,σ',μ,J,_=>⟨σA,h,σ',μ,by rw [nV];exact J⟩
 | a :: r,s,t,σA,h,σ',μ,J,hS=>by
  obtain ⟨σB,hB,σ'',μB,J1⟩:=JS.catch1 (t:=r ++ t) Z J (hS a (by simp))
  obtain ⟨σC,hC,σ3,μC,J2⟩:=JS.catch Z r J1 fun b hb=>hS b (by simp [hb])
  exact ⟨σC,hC,σ3,μC,by rw [show s ++ a :: r=s ++ [a] ++ r by simp];exact J2⟩
theorem JS.anew {A B:List AO} {σm:Tr AV} {h2:AH} {μ0:Mu} {w0:World} {S:Nat->Bool} (J:JS tb ex exY P l A σ0 h0 σm h2 μ0 w0 S σ w s [] σA h σ' μ μS) (hr:wAR tb ex exY B σm h2=some (σf,hf)) (hB:∀ b ∈ B,S b.ix=false) :
  Ext μ0 h0.fl.nat w0 μ w/\h2.fl=h0.fl/\JS tb ex exY P l B σm h2 σf hf μ w S σ w [] B σm h2 σ' μ μ:=by
 have hr1:=J.hr
 rw [wAh] at hr1
 cases hr1
 exact ⟨J.E,J.fl,rfl,wAh _ _ _ _ _,hr,fun b hb=>(by simp at hb),fun b hb hS=>(by rw [hB b hb] at hS;cases hS),Ext.refl μ _ w,J.sim,rfl,J.env,fun q _=>J.ag q fun b hb=>(by simp at hb),Mu.Le.refl _,fun q c hq=>.inl hq,fun b hb hS=>(by rw [hB b hb] at hS;cases hS)⟩
theorem CK.lazy {rr:Option Nat} {Q:wCU} {D:List Deferred} {id:Nat} (hm:P.follows .mixedOrders=true) (HC:wEx (CC P) P tb ex) (HY':wEA (CC P) P exY) (HE:FrX ex) (HY:FrX exY) (ZZ:∃ A B,ZAll P N l os A B) (HL0:LCK tb ex exY os σ0 h0 σf)
  (hr:wAR tb ex exY os σ0 h0=some (σf,hf)) (S:Sim (CC P) P μ h0 w) (hE:EnvR μ σ0 σ)
  (hQ:∀ μ' w' σ',Ext μ h0.fl.nat w μ' w'->Sim (CC P) P μ' hf w'->EnvR μ' σf σ'->hf.fl=h0.fl->Q D .normal σ' w'):CK rr N P (.region id l.toArray true) Q D σ w:=by
 obtain ⟨A,B,ZZ⟩:=ZZ
 obtain ⟨σm,h2,hrA,hrB⟩:=wCo A B σ0 h0 _ (ZZ.eq ▸ hr)
 have HL:LCK tb ex exY A σ0 h0 σf/\LCK tb ex exY B σm h2 σf:=by
  refine ⟨fun s b t e k0 σ1 h1 hs=>?_,wJO ZZ.low⟩
  have:=HL0 s b (t ++ B) (by rw [ZZ.eq,e];simp) k0 σ1 h1 hs
  exact wHF t B 0 this
 have Hg:∀ a ∈ A,8 <= a.kd->∀ p,p ∈ wBd a \/ a.dst=some p->evA σm (.t p)=evA σf (.t p):=fun a ha h8 p hp=>(wCM B _ _ _ _ hrB p fun b hb=>ZZ.far a ha h8 p hp b hb).symm
 have lt:∀ b ∈ os,b.ix < l.length:=fun b hb=>by
  rw [ZZ.eq] at hb
  rcases nH.1 hb with hb | hb
  ·obtain ⟨o,A⟩:=wCQ (ZZ.za.ao b hb)
   exact (nT.1 A.get).1
  ·obtain ⟨o,A⟩:=wCQ (ZZ.zb.ao b hb)
   exact (nT.1 A.get).1
 have stepB:∀ (S1:Nat->Bool) (a:AO) (σ1:Env) (w1:World) (μm:Mu) (wm:World) (s t:List AO) (σA:Tr AV) (h:AH) (σ':Env) (μ1 μS:Mu) (o:Oper),a ∈ B->S1 a.ix=false->(∀ j ∈ prI l a.ix,S1 j=true)->(∀ k,k < l.length->S1 k=true->∀ j ∈ prI l k,S1 j=true)->AOK P N l a o ->
   JS tb ex exY P l B σm h2 σf hf μm wm S1 σ1 w1 s t σA h σ' μ1 μS->Step1 P l o σ1 w1 fun v w'=>∃ s t σA h σ' μ1 μS,JS tb ex exY P l B σm h2 σf hf μm wm (fun k=>k == a.ix || S1 k) (put' σ1 o v) w' s t σA h σ' μ1 μS:=by
  intro S1 a σ1 w1 μm wm s t σA h σ' μ1 μS o ha hSi hpi hdc A J
  have hat:a ∈ t:=by
   have:=ha
   rw [J.e] at this
   rcases nH.1 this with h | h
   ·rw [J.inS a h] at hSi;cases hSi
   ·exact h
  cases hf:wBW a.kd with
  | true =>
   obtain ⟨r,r',et⟩:=nL hat
   rw [et] at J
   obtain ⟨σB,hB,σ'',μB,J1⟩:=JS.catch ZZ.zb r J fun b hb=>wDJ hdc hpi (ZZ.zb.anc (s ++ r) a r' (by rw [J.e,nM]) hf b (by simp [hb]))
   refine (J1.fixed HC HY' HE HY ZZ.zb hf hSi hdc A).mono ?_
   rintro v w' ⟨σC,hC,σ3,μC,μT,J2⟩
   exact ⟨_,_,_,_,_,_,_,J2⟩
  | false =>
   refine (J.freeOp HE HY ZZ.zb HL.2 (fun _ _ _ _ _=>rfl) hat hSi hf hpi hdc A).mono ?_
   rintro v w' ⟨μT,J2⟩
   exact ⟨_,_,_,_,_,_,_,J2⟩
 have toB:∀ (S1:Nat->Bool) (σ1:Env) (w1:World) (s t:List AO) (σA:Tr AV) (h:AH) (σ':Env) (μ1 μS:Mu),(∀ a ∈ A,S1 a.ix=true)->(∀ b ∈ B,S1 b.ix=false)->JS tb ex exY P l A σ0 h0 σm h2 μ w S1 σ1 w1 s t σA h σ' μ1 μS ->
   ∃ μm σ',Ext μ h0.fl.nat w μm w1/\h2.fl=h0.fl/\JS tb ex exY P l B σm h2 σf hf μm w1 S1 σ1 w1 [] B σm h2 σ' μm μm:=by
  intro S1 σ1 w1 s t σA h σ' μ1 μS hA hB J
  have J0:JS tb ex exY P l A σ0 h0 σm h2 μ w S1 σ1 w1 s (t ++ []) σA h σ' μ1 μS:=by rw [nV];exact J
  obtain ⟨σB,hB',σ'',μB,J1⟩:=JS.catch ZZ.za t J0 fun b hb=>hA b (by rw [J.e];simp [hb])
  obtain ⟨g1,g2,g3⟩:=J1.anew hrB hB
  exact ⟨μB,σ'',g1,g2,g3⟩
 refine CK.anyRel hm ZZ.za.pr (fun S σ w1=>((∀ b ∈ B,S b.ix=false)/\∃ s t σA h σ' μ1 μS,JS tb ex exY P l A σ0 h0 σm h2 μ w S σ w1 s t σA h σ' μ1 μS) \/
  ((∀ a ∈ A,S a.ix=true)/\∃ μm wm,Ext μ h0.fl.nat w μm wm/\h2.fl=h0.fl/\∃ s t σA h σ' μ1 μS,JS tb ex exY P l B σm h2 σf hf μm wm S σ w1 s t σA h σ' μ1 μS)) ?_ ?_ ?_
 ·exact .inl ⟨fun b _=>rfl,[],A,σ0,h0,σ,μ,μ,rfl,wAh _ _ _ _ _,hrA,fun b hb=>(by simp at hb),fun b _ hb=>(by cases hb),Ext.drew μ _ w,S.keep (Keep.drew w),rfl,hE,fun _ _=>rfl,Mu.Le.refl _,fun q c hq=>.inl hq,fun b _ hb=>(by cases hb)⟩
 ·rintro S1 i σ1 w1 hi hSi hpi hdc hlt hI
  obtain ⟨a,ha,rfl⟩:=ZZ.all i hi
  rw [ZZ.eq] at ha
  rcases nH.1 ha with ha | ha
  ·obtain ⟨o,AK⟩:=wCQ (ZZ.za.ao a ha)
   refine ⟨o,AK.get,wGe AK,?_⟩
   rcases hI with ⟨hB,s,t,σA,h,σ',μ1,μS,J⟩ | ⟨hA,_⟩
   ·have hB':∀ b ∈ B,(fun k=>k == a.ix || S1 k) b.ix=false:=fun b hb=>by
     have:=(ZZ.cross b hb a ha).1
     simp [hB b hb,Ne.symm this]
    have hat:a ∈ t:=by
     have:=ha
     rw [J.e] at this
     rcases nH.1 this with h | h
     ·rw [J.inS a h] at hSi;cases hSi
     ·exact h
    cases hf:wBW a.kd with
    | true =>
     obtain ⟨r,r',et⟩:=nL hat
     rw [et] at J
     obtain ⟨σB,hB2,σ'',μB,J1⟩:=JS.catch ZZ.za r J fun b hb=>wDJ hdc hpi (ZZ.za.anc (s ++ r) a r' (by rw [J.e,nM]) hf b (by simp [hb]))
     refine (J1.fixed HC HY' HE HY ZZ.za hf hSi hdc AK).mono ?_
     rintro v w' ⟨σC,hC,σ3,μC,μT,J2⟩
     exact .inl ⟨hB',_,_,_,_,_,_,_,J2⟩
    | false =>
     refine (J.freeOp HE HY ZZ.za HL.1 Hg hat hSi hf hpi hdc AK).mono ?_
     rintro v w' ⟨μT,J2⟩
     exact .inl ⟨hB',_,_,_,_,_,_,_,J2⟩
   ·rw [hA a ha] at hSi
    cases hSi
  ·obtain ⟨o,AK⟩:=wCQ (ZZ.zb.ao a ha)
   refine ⟨o,AK.get,wGe AK,?_⟩
   have hA:∀ c ∈ A,S1 c.ix=true:=fun c hc=>wDJ hdc hpi (ZZ.cross a ha c hc).2
   rcases hI with ⟨hB,s,t,σA,h,σ',μ1,μS,J⟩ | ⟨_,μm,wm,g1,g2,s,t,σA,h,σ',μ1,μS,J⟩
   ·obtain ⟨μm,σ2,g1,g2,J1⟩:=toB S1 σ1 w1 s t σA h σ' μ1 μS hA hB J
    refine (stepB S1 a σ1 w1 _ _ _ _ _ _ _ _ _ o ha hSi hpi hdc AK J1).mono ?_
    rintro v w' ⟨s,t,σA,h,σ',μ1,μS,J2⟩
    exact .inr ⟨fun c hc=>by simp [hA c hc],_,_,g1,g2,_,_,_,_,_,_,_,J2⟩
   ·refine (stepB S1 a σ1 w1 _ _ _ _ _ _ _ _ _ o ha hSi hpi hdc AK J).mono ?_
    rintro v w' ⟨s,t,σA,h,σ',μ1,μS,J2⟩
    exact .inr ⟨fun c hc=>by simp [hA c hc],_,_,g1,g2,_,_,_,_,_,_,_,J2⟩
 ·rintro S1 σ1 w1 hall hI
  have hI2:∃ μm wm,Ext μ h0.fl.nat w μm wm/\h2.fl=h0.fl/\∃ s t σA h σ' μ1 μS,JS tb ex exY P l B σm h2 σf hf μm wm S1 σ1 w1 s t σA h σ' μ1 μS:=by
   rcases hI with ⟨hB,s,t,σA,h,σ',μ1,μS,J⟩ | ⟨_,hI⟩
   ·obtain ⟨μm,σ2,g1,g2,J1⟩:=toB S1 σ1 w1 s t σA h σ' μ1 μS (fun a ha=>hall _ (lt a (by rw [ZZ.eq];simp [ha]))) hB J
    exact ⟨_,_,g1,g2,_,_,_,_,_,_,_,J1⟩
   ·exact hI
  obtain ⟨μm,wm,g1,g2,s,t,σA,h,σ',μ1,μS,J⟩:=hI2
  have J0:JS tb ex exY P l B σm h2 σf hf μm wm S1 σ1 w1 s (t ++ []) σA h σ' μ1 μS:=by rw [nV];exact J
  obtain ⟨σB,hB,σ'',μB,J1⟩:=JS.catch ZZ.zb t J0 fun b hb=>hall _ (lt b (by rw [ZZ.eq,J.e];simp [hb]))
  have hr1:=J1.hr
  rw [wAh] at hr1
  cases hr1
  refine hQ μB w1 σ1 (g1.trans (g2 ▸ J1.E)) J1.sim (fun q=>?_) (J1.fl.trans g2)
  rw [J1.ag q fun b hb=>by simp at hb]
  exact J1.env q
end
end Go.KX
namespace Go.KX
open Go.RowKit Go.KL
section
variable {P:Program} {tb:Tr AF}
theorem wLj (hm:P.follows .mixedOrders=true) {ex exY:Run} (HC:wEx (CC P) P tb ex) (HY:wEA (CC P) P exY) (FE:FrX ex) (FY:FrX exY) {os:List AO} {σA σA':Tr AV} {h h':AH} (hr:wAR tb ex exY os σA h=some (σA',h')) {id N:Nat} {ops:Array Oper} {draw:Bool} (hc:chkR P N os ops.toList draw=true)
  {rr:Option Nat} {μ:Mu} {σ:Env} {w:World} {D:List Deferred} {n0:Nat} (S:Sim (CC P) P μ h w) (hE:EnvR μ σA σ) (M:Mk μ w n0 D):CK rr N P (.region id ops draw) (PostX P μ h.fl w n0 rr D .nrm σA' h') D σ w:=by
 unfold chkR at hc
 simp only [nB,nf] at hc
 obtain ⟨c1,c2⟩:=hc
 have hop:ops=ops.toList.toArray:=by simp
 have hcs:∀ a ∈ os,wFo P N ops.toList a=true/\kOf ((ny ops.toList.length).map fun i=>kdAt i os) a.ix=a.kd:=fun a ha=>⟨(c1 a ha).1,nA (c1 a ha).2⟩
 have post:∀ {w0:World},Ext μ h.fl.nat w μ w0->Sim (CC P) P μ h w0->OKS N P ops.toList (PostX P μ h.fl w n0 rr D .nrm σA' h') D ((ny ops.toList.length).map fun i=>kdAt i os) (wHm os) σ w0:=by
  intro w0 E0 S0
  refine wHn HC HY os σA h σA' h' hr hcs μ σ w0 S0 hE fun μ' w' σ' q1 q2 q3 q4=>?_
  have E:=E0.trans q1
  exact ⟨rfl,μ',E,q2,q3,M.ext E,q4,fun _=>rfl⟩
 rw [hop]
 cases draw with
 | true =>
  simp only at c2
  split at c2
  ·simp only [nB,nf,Nat.blt_eq] at c2
   exact CK.lazy hm HC HY FE FY (wLW (fun a ha=>(c1 a ha).1) c2.2) (wJO c2.1) hr S hE fun μ' w' σ' q1 q2 q3 q4=>⟨rfl,μ',q1,q2,q3,M.ext q1,q4,fun _=>rfl⟩
  ·exact CK.anyOrd hm _ _ c2 (post (Ext.drew μ _ w) (S.keep (Keep.drew w)))
 | false=>exact CK.reg _ c2 (post (Ext.refl μ _ w) S)
theorem wMZ {ex:Run} (HC:wEx (CC P) P tb ex) {g:AOd} {t:List Pos} {asg body:AC} {g':Operand} {ps:Array Tmp} {asg' body':Code} {N:Nat} (hc:wEW P N (.rf g t asg body) (.rangeFunc g' ps asg' body')=true)
  {σA σA':Tr AV} {h h':AH} {e:Ex} (hr:sRf true g t asg body tb ex σA h=some (e,σA',h')) {μ:Mu} {σ:Env} {w:World} {D:List Deferred} {n0:Nat} (S:Sim (CC P) P μ h w) (hE:EnvR μ σA σ) (M:Mk μ w n0 D) (hn:n0 <= w.heap.size) :
  CK none N P (.rangeFunc g' ps asg' body') (PostX P μ h.fl w n0 none D e σA' h') D σ w:=by
 simp only [wEW,nB] at hc
 obtain ⟨c1,c2,c3,c4⟩:=hc
 obtain ⟨p,rfl⟩:∃ p:List Nat,ps=p.toArray:=⟨ps.toList,by simp⟩
 ·obtain ⟨ht,c6⟩:=wJP (by simpa using c2)
  unfold sRf at hr
  split at hr
  ·rename_i f fi ca hg
   have hx:=wAH c1 hE
   rw [hg] at hx
   obtain ⟨fv,cv,g1,g2,g3⟩:=hx
   split at hr <;> first | (cases hr;done) | skip
   rename_i rv h2 hcall
   obtain ⟨hcf,hgv⟩:=HC _ _ _ _ _ hcall
   refine CK.rangeFunc (t:=p) g3 hcf fun fn l rb w1 e1 e2 hl hd K hs=>?_
   subst e1 e2
   have hle:=Mu.add_le (c:=(⟨w.heap.size + 1,0,⟨N,σ,p,asg',body',w.heap.size,fn⟩⟩:Cl)) (S.nx h.nx (nI _))
   obtain ⟨s1,s2,s3,s4⟩:=S.push (w':=w1) (c:=⟨w.heap.size + 1,0,⟨N,σ,p,asg',body',w.heap.size,fn⟩⟩) (B:=.loop σA t asg body .ready) K (Nat.le_succ _) (by show w.heap.size + 1 < _;omega) ⟨hl,hE.mono hle,ht,c6,c3,c4⟩
   generalize hμ1:μ.add h.nx (⟨w.heap.size + 1,0,⟨N,σ,p,asg',body',w.heap.size,fn⟩⟩:Cl)=μ1 at *
   have M1:Mk μ1 w1 n0 (mark w.heap.size :: D):=by
    have M':=M.ext s2
    obtain ⟨rbs,m1,m2,m3⟩:=M'
    have hold:∀ rb ∈ rbs,rb < w.heap.size:=by
     obtain ⟨rbs0,k1,k2,k3⟩:=M
     intro rb hrb
     have hmm:rbs.map mark=rbs0.map mark:=by rw [<- m1,<- k1]
     have hinj:rbs=rbs0:=by
      have:∀ (a b:List Nat),a.map mark=b.map mark->a=b:=by
       intro a
       induction a with
       | nil=>intro b hb;cases b with
        | nil=>rfl
        | cons _ _=>simp at hb
       | cons x a ih=>intro b hb;cases b with
        | nil=>simp at hb
        | cons y b =>
         simp only [nK,nr] at hb
         have hxy:x=y:=by have:=hb.1;simp [mark] at this;exact this
         rw [hxy,ih b hb.2]
      exact this _ _ hmm
     exact (k3 rb (hinj ▸ hrb)).1.lt
    refine ⟨w.heap.size :: rbs,by rw [nK,<- m1],nt.2 ⟨fun hm=>absurd (hold _ hm) (kQ _),m2⟩,fun rb hrb=>?_⟩
    rcases nG.1 hrb with rfl | hrb
    ·refine ⟨hd,hn,fun q c hq=>?_⟩
     rw [<- hμ1] at hq
     unfold Mu.add at hq
     split at hq
     ·cases hq;show w.heap.size + 1 ≠ _;omega
     ·have:=S.lt q c hq;omega
    ·exact m3 rb hrb
   have G:=hgv μ1 w1 (fv ++ (.func (.yield (w.heap.size + 1)) #[] #[] :: cv)) s1 (wDG (g1.mono s2.mono) (wAz ⟨_,s4,rfl⟩ (g2.mono s2.mono)))
   rw [nM]
   refine G.mono ?_
   rintro v3 w3 ⟨μ3,q1,q2,q3,q4⟩
   rw [s3] at q1 q4
   have E13:=s2.trans q1
   have hc3:=q1.mono _ _ s4
   have fin:∀ {B:AB} {h3:AH} (w4:World),h2.m.get h.nx=some B->wJm B->h2.put h.nx .dead=some h3->Keep w3 w4 (·=w.heap.size + 1)->w4.heap.size=w3.heap.size->∃ μ',Ext μ h.fl.nat w μ' w4/\Sim (CC P) P μ' h3 w4/\EnvR μ' σA σ/\Mk μ' w4 n0 (mark w.heap.size :: D)/\h3.fl=h.fl:=by
    intro B h3 w4 hB hlv hput K4 _
    obtain ⟨v1,v2,v3⟩:=q2.put hput hB hlv hc3 K4 (B':=.dead) trivial
    rw [q4] at v2 v3
    exact ⟨μ3,E13.trans v2,v1,hE.mono E13.mono,(M1.ext q1).ext v2,v3⟩
   split at hr
   ·rename_i sx tx ax bx hB
    split at hr <;> first | (cases hr;done) | skip
    rename_i h3 hput
    cases hr
    obtain ⟨c',u1,u2⟩:=q2.at_ _ _ hB
    rw [hc3] at u1;cases u1
    have L3:wJl (CC P) μ3 w3 ⟨w.heap.size + 1,0,⟨N,σ,p,asg',body',w.heap.size,fn⟩⟩ sx tx ax bx .ready:=u2
    refine .inl ⟨L3.at_,fun w4 K4 hs4=>?_⟩
    obtain ⟨μ',a1,a2,a3,a4,a5⟩:=fin w4 hB trivial hput K4 hs4
    exact ⟨rfl,μ',a1,a2,a3,a4,a5,fun hq=>by cases hq⟩
   ·rename_i sx tx ax bx ee hB
    split at hr <;> first | (cases hr;done) | skip
    rename_i h3 hput
    cases hr
    obtain ⟨c',u1,u2⟩:=q2.at_ _ _ hB
    rw [hc3] at u1;cases u1
    have L3:wJl (CC P) μ3 w3 ⟨w.heap.size + 1,0,⟨N,σ,p,asg',body',w.heap.size,fn⟩⟩ sx tx ax bx (.done e):=u2
    cases e with
    | nrm =>
     refine .inl ⟨L3.at_,fun w4 K4 hs4=>?_⟩
     obtain ⟨μ',a1,a2,a3,a4,a5⟩:=fin w4 hB trivial hput K4 hs4
     exact ⟨rfl,μ',a1,a2,a3,a4,a5,fun hq=>by cases hq⟩
    | ret =>
     refine .inr ⟨.ret,.inl rfl,L3.at_,fun w4 K4 hs4=>?_⟩
     obtain ⟨μ',a1,a2,a3,a4,a5⟩:=fin w4 hB trivial hput K4 hs4
     exact ⟨rfl,μ',a1,a2,a3,a4,a5,fun hq=>by cases hq⟩
    | exit i =>
     refine .inr ⟨.exit i,.inr ⟨i,rfl⟩,L3.at_,fun w4 K4 hs4=>?_⟩
     obtain ⟨μ',a1,a2,a3,a4,a5⟩:=fin w4 hB trivial hput K4 hs4
     exact ⟨rfl,μ',a1,a2,a3,a4,a5,fun hq=>by cases hq⟩
   ·cases hr
  ·cases hr
theorem CK.ofRounds {rr:Option Nat} {N:Nat} {c:Code} {Q:wCU} {D:List Deferred} {σ:Env} {w:World} (m:Nat) (hh:∀ a,Rep N D a σ->Code.roundsIn (WF rr) 0 P c (wGL N Q) m a w):CK rr N P (.loop c) Q D σ w :=
 fun a ha=>wpIn_loop_rounds m (hh a ha)
theorem wPl {exR:Run} {r:Bool} (HE:wHo P exR r) {a b:AC} {σA σA':Tr AV} {h h':AH} {e:Ex} (hr:wPJ a b exR σA h=some (e,σA',h')) {c d:Code} {N:Nat} (hc1:wEW P N a c=true) (hc2:wEW P N b d=true)
  {rr:Option Nat} {μ:Mu} {σ:Env} {w:World} {D:List Deferred} {n0:Nat} (hrr:rr.isSome=r) (S:Sim (CC P) P μ h w) (hE:EnvR μ σA σ) (M:Mk μ w n0 D) (hn:n0 <= w.heap.size):CK rr N P (.seq c d) (PostX P μ h.fl w n0 rr D e σA' h') D σ w:=by
 obtain ⟨⟨e1,σ1,h1⟩,ha,hb⟩:=wOt hr
 rw [wIf] at hb
 refine CK.seq ((HE _ _ _ _ _ _ ha c N hc1 rr μ σ w D n0 hrr S hE M hn).mono ?_)
 intro D' e' σ' w' hp
 obtain ⟨rfl,μ1,q1,q2,q3,q4,q5,q6⟩:=hp
 cases e1 with
 | nrm =>
  refine (HE _ _ _ _ _ _ hb d N hc2 rr μ1 σ' w' D' n0 hrr q2 q3 q4 (ni hn q1.keep.size)).mono ?_
  intro D'' e'' σ'' w'' hp
  rw [q5] at hp
  exact PostX.trans q1 q6 hp
 | ret=>cases hb;exact ⟨rfl,μ1,q1,q2,q3,q4,q5,q6⟩
 | exit i=>cases hb;exact ⟨rfl,μ1,q1,q2,q3,q4,q5,q6⟩
theorem wOR {exR:Run} {r:Bool} {m:Nat} (HE:wHo P exR r) (HL:wLX P exR r m) {a:AC} {σA σA':Tr AV} {h h':AH} {e:Ex} (hr:wKp a exR σA h=some (e,σA',h')) {c:Code} {N:Nat} (hc:wEW P N a c=true)
  {rr:Option Nat} {μ:Mu} {σ:Env} {w:World} {D:List Deferred} {n0:Nat} (hrr:rr.isSome=r) (S:Sim (CC P) P μ h w) (hE:EnvR μ σA σ) (M:Mk μ w n0 D) (hn:n0 <= w.heap.size):∀ act,Rep N D act σ->Code.roundsIn (WF rr) 0 P c (wGL N (PostX P μ h.fl w n0 rr D e σA' h')) (m + 1) act w:=by
 obtain ⟨⟨e1,σ1,h1⟩,ha,hb⟩:=wOt hr
 rw [wIf] at hb
 intro act hact
 rw [roundsIn_succ]
 refine wpIn_mono (HE _ _ _ _ _ _ ha c N hc rr μ σ w D n0 hrr S hE M hn act hact) ?_
 rintro e' act' w' ⟨σ',D',hrep,hp⟩
 obtain ⟨rfl,μ1,q1,q2,q3,q4,q5,q6⟩:=hp
 cases e1 with
 | nrm =>
  refine wFr ?_ m act' w' (HL _ _ _ _ _ _ hb c N hc rr μ1 σ' w' D' n0 hrr q2 q3 q4 (ni hn q1.keep.size) act' hrep)
  rintro e'' act'' w'' ⟨σ'',D'',hrep',hp⟩
  rw [q5] at hp
  exact ⟨σ'',D'',hrep',PostX.trans q1 q6 hp⟩
 | ret=>cases hb;exact ⟨σ',D',hrep,rfl,μ1,q1,q2,q3,q4,q5,q6⟩
 | exit i=>cases hb;exact ⟨σ',D',hrep,rfl,μ1,q1,q2,q3,q4,q5,q6⟩
theorem wOS (hm:P.follows .mixedOrders=true) (T:wJt P tb):∀ (n:Nat) (r:Bool),wHo P (exec tb n r) r/\wLX P (exec tb n r) r n:=by
 intro n
 induction n with
 | zero=>intro r;exact ⟨fun c σA h e σA' h' hr=>(by cases hr),fun c σA h e σA' h' hr=>(by cases hr)⟩
 | succ n ih =>
  intro r
  have HC:=wLY T (ih false).1
  have HY:=wMW (P:=P) (ih true).1
  obtain ⟨HE,HL⟩:=ih r
  have loop:wLX P (exec tb (n + 1) r) r (n + 1):=by
   intro c σA h e σA' h' hr code N hc rr μ σ w D n0 hrr S hE M hn
   have hr:wKp c (exec tb n r) σA h=some (e,σA',h'):=hr
   exact wOR HE HL hr hc hrr S hE M hn
  refine ⟨?_,loop⟩
  intro c σA h e σA' h' hr code N hc rr μ σ w D n0 hrr S hE M hn
  rw [wHf] at hr
  cases c with
  | skip =>
   have hr:sNrm σA h=some (e,σA',h'):=hr
   cases hr
   have fin:PostX P μ h.fl w n0 rr D .nrm σA h D .normal σ w:=⟨rfl,μ,Ext.refl μ _ w,S,hE,M,rfl,fun _=>rfl⟩
   cases code <;> simp only [wEW,nE] at hc
   ·exact CK.skip fin
   ·exact CK.label fin
  | rg os =>
   have hr:sRg os tb (exec tb n false) (exec tb n true) (exec tb n r) σA h=some (e,σA',h'):=hr
   unfold sRg at hr
   have:∃ y,wAR tb (exec tb n false) (exec tb n true) os σA h=some y/\some (Ex.nrm,y.1,y.2)=some (e,σA',h'):=by
    cases hq:wAR tb (exec tb n false) (exec tb n true) os σA h with
    | none=>rw [hq] at hr;cases hr
    | some y=>rw [hq] at hr;exact ⟨y,rfl,hr⟩
   obtain ⟨y,h1,h2⟩:=this
   cases h2
   cases code <;> simp only [wEW,nE] at hc
   exact wLj hm HC HY (wEC tb n false) (wEC tb n true) h1 hc S hE M
  | seq a b =>
   have hr:wPJ a b (exec tb n r) σA h=some (e,σA',h'):=hr
   cases code <;> simp only [wEW,nE,nB] at hc
   exact wPl HE hr hc.1 hc.2 hrr S hE M hn
  | cond x a b =>
   have hr:wKo x a b (exec tb n r) σA h=some (e,σA',h'):=hr
   cases code <;> simp only [wEW,nE,nB] at hc
   have hx:=wAH hc.1 hE
   unfold wKo at hr
   split at hr
   ·rename_i hb;rw [hb] at hx
    exact CK.condT hx (HE _ _ _ _ _ _ hr _ N hc.2.1 rr μ σ w D n0 hrr S hE M hn)
   ·rename_i hb;rw [hb] at hx
    exact CK.condF hx (HE _ _ _ _ _ _ hr _ N hc.2.2 rr μ σ w D n0 hrr S hE M hn)
   ·cases hr
  | block i a =>
   have hr:wJD i a (exec tb n r) σA h=some (e,σA',h'):=hr
   cases code <;> simp only [wEW,nE,nB] at hc
   rename_i j code
   have hij:=nA hc.1
   subst hij
   obtain ⟨⟨e1,σ1,h1⟩,ha,hb⟩:=wOt hr
   refine CK.block ((HE _ _ _ _ _ _ ha code N hc.2 rr μ σ w D n0 hrr S hE M hn).mono ?_)
   rintro D' e' σ' w' ⟨rfl,μ1,q1,q2,q3,q4,q5,q6⟩
   cases e1 with
   | nrm=>cases hb;exact ⟨rfl,μ1,q1,q2,q3,q4,q5,q6⟩
   | ret=>cases hb;exact ⟨rfl,μ1,q1,q2,q3,q4,q5,q6⟩
   | exit k =>
    have hb:Bool.rec (motive:=fun _=>R) (some (.exit k,σ1,h1)) (some (.nrm,σ1,h1)) (kB k i)=some (e,σA',h'):=hb
    cases hk:kB k i with
    | true =>
     rw [hk] at hb;cases hb
     have:=nA hk
     subst this
     exact wGp ⟨rfl,μ1,q1,q2,q3,q4,q5,q6⟩
    | false =>
     rw [hk] at hb;cases hb
     exact wMH ⟨rfl,μ1,q1,q2,q3,q4,q5,q6⟩ hk
  | loop a =>
   have hr':exec tb (n + 1) r (.loop a) σA h=some (e,σA',h'):=hr
   cases code <;> simp only [wEW,nE] at hc
   exact CK.ofRounds (n + 1) (loop _ _ _ _ _ _ hr' _ N hc rr μ σ w D n0 hrr S hE M hn)
  | rf g t asg body =>
   have hr:sRf (!r) g t asg body tb (exec tb n false) σA h=some (e,σA',h'):=hr
   cases r with
   | true=>unfold sRf at hr;simp at hr
   | false =>
    have hnone:rr=none:=by cases rr <;> first | rfl | cases hrr
    subst hnone
    cases code <;> first | (simp only [wEW,nE] at hc;done) | skip
    exact wMZ HC hc hr S hE M hn
  | exit i =>
   have hr:some (Ex.exit i,σA,h)=some (e,σA',h'):=hr
   cases hr
   cases code <;> simp only [wEW,nE] at hc
   have:=nA hc
   subst this
   exact CK.exit ⟨rfl,μ,Ext.refl μ _ w,S,hE,M,rfl,fun _=>rfl⟩
  | scope a =>
   have hr:exec tb n r a σA h=some (e,σA',h'):=hr
   cases code <;> simp only [wEW,nE] at hc
   refine CK.scope ((HE _ _ _ _ _ _ hr _ N hc rr μ σ w D n0 hrr S hE M hn).mono ?_)
   rintro D' e' σ' w' ⟨rfl,q⟩
   cases e with
   | nrm=>exact ⟨rfl,q⟩
   | ret=>exact ⟨rfl,q⟩
   | exit k=>exact ⟨rfl,q⟩
  | ret =>
   have hr:some (Ex.ret,σA,h)=some (e,σA',h'):=hr
   cases hr
   cases code <;> simp only [wEW,nE] at hc
   exact CK.ret ⟨rfl,μ,Ext.refl μ _ w,S,hE,M,rfl,fun _=>rfl⟩
  | rl os =>
   have hr:sRl os tb (exec tb n false) (exec tb n true) σA h=some (e,σA',h'):=hr
   rw [wMx] at hr
   split at hr
   ·rename_i y hq
    cases hr
    obtain ⟨g1,g2⟩:=wId _ _ _ _ hq
    cases code <;> simp only [wEW,nE,nB,nf] at hc
    rename_i id ops draw
    obtain ⟨rfl,c1,c2⟩:=hc
    have hop:ops=ops.toList.toArray:=by simp
    rw [hop]
    exact CK.lazy hm HC HY (wEC tb n false) (wEC tb n true) (wLW c1 c2) g2 g1 S hE fun μ' w' σ' q1 q2 q3 q4=>⟨rfl,μ',q1,q2,q3,M.ext q1,q4,fun _=>rfl⟩
   ·cases hr
theorem Sim.empty (C:Chk) (P:Program) (w:World):Sim C P (fun _=>none) ⟨.e,.H,.H⟩ w :=
 ⟨fun _ _=>rfl,fun _ _ h=>(by cases h),fun _ _ _ _ _ _ h=>(by rw [Tr.get_e] at h;cases h),fun _ _ h=>(by rw [Tr.get_e] at h;cases h)⟩
theorem wJw (hm:P.follows .mixedOrders=true) (T:wJt P tb) (n:Nat) (f:Pos) (args:List AV) (vs:List Value) (v:AV) (h:AH) (hv:∀ μ,RvL μ args vs) (hr:wHc tb (exec tb n false) f args ⟨.e,.H,.H⟩=some (v,h)) (w:World) :
  Gv P (f.nat - 1) vs w fun cv w'=>∃ μ,Rv μ v cv/\Keep w w' Non:=by
 obtain ⟨_,hg⟩:=wLY T (wOS hm T n false).1 f args _ v h hr
 refine (hg _ w vs (Sim.empty _ _ w) (hv _)).mono ?_
 rintro cv w' ⟨μ',h1,h2,h3,_⟩
 exact ⟨μ',h3,h1.keep.weak fun i _ ⟨p,d,hp,_⟩=>by cases hp⟩
noncomputable def okB (tb:Tr AF) (n:Nat) (f:Pos) (b:Bool):Bool:=match wHc tb (exec tb n false) f [] ⟨.e,.H,.H⟩ with
 | some (.bool b',_)=>b' == b
 | _=>false
theorem wMa (hm:P.follows .mixedOrders=true) (T:wJt P tb) (n:Nat) (f:Pos) (k:Nat) (hk:f.nat=k + 1) (b:Bool) (hr:okB tb n f b=true) (w:World):Gv P k [] w fun cv w'=>cv=.bool b/\Keep w w' Non:=by
 unfold okB at hr
 split at hr
 ·rename_i b' h hq
  have hb:=eq_of_beq hr
  subst hb
  have:=wJw hm T n f [] [] _ h (fun _=>rfl) hq w
  rw [hk] at this
  refine this.mono ?_
  rintro cv w' ⟨μ,h1,h2⟩
  exact ⟨h1,h2⟩
 ·cases hr
def wLk (f:Nat->AF->Prop):Tr AF->(Nat->Nat)->Prop
 | .e,_=>True
 | .n l v r,g=>(match v with | none=>True | some a=>f (g 1) a)/\wLk f l (fun n=>g (2 * n))/\wLk f r (fun n=>g (2 * n + 1))
theorem wFv {f:Nat->AF->Prop}:∀ {t:Tr AF} {g:Nat->Nat},wLk f t g->∀ p a,t.get p=some a->f (g p.nat) a
 | .e,g,_,p,a,hq=>by rw [Tr.get_e] at hq;cases hq
 | .n l v r,g,⟨h1,h2,h3⟩,.H,a,hq=>by
  rw [Tr.get_H] at hq;subst hq;exact h1
 | .n l v r,g,⟨h1,h2,h3⟩,.O p,a,hq=>wFv h2 p a hq
 | .n l v r,g,⟨h1,h2,h3⟩,.I p,a,hq=>wFv h3 p a hq
theorem wPm (h:wLk (fun n a=>chkF P (n - 1) a=true) tb fun n=>n):wJt P tb:=fun p af hq=>wFv h p af hq
end
end Go.KX
namespace Go.KL
variable {S S' B B' α:Type}
theorem wJW {body:Nat->S->Option (S ⊕ B)} (I:Nat->S->Prop) (Z:B->Prop):∀ (m k:Nat) (s:S),I k s ->
  (∀ i s,k <= i->i < k + m->I i s->(∃ s',body i s=some (.inl s')/\I (i + 1) s') \/ ∃ b,body i s=some (.inr b)/\Z b) ->
  (∃ s',forN body m k s=some (.inl s')/\I (k + m) s') \/ ∃ b,forN body m k s=some (.inr b)/\Z b
 | 0,k,s,h,_=>.inl ⟨s,rfl,h⟩
 | m + 1,k,s,h,hb=>by
  simp only [forN]
  rcases hb k s (nI _) (by omega) h with ⟨s',h1,h2⟩ | ⟨b,h1,h2⟩
  ·rw [h1]
   have:=wJW I Z m (k + 1) s' h2 fun i s h2 h3 h4=>hb i s (by omega) (by omega) h4
   rwa [show k + 1 + m=k + (m + 1) from by omega] at this
  ·rw [h1];exact .inr ⟨b,rfl,h2⟩
theorem wDg {body:Nat->S->Option S} (I:Nat->S->Prop):∀ (m k:Nat) (s:S),I k s ->
  (∀ i s,k <= i->i < k + m->I i s->∃ s',body i s=some s'/\I (i + 1) s')->∃ s',forN' body m k s=some s'/\I (k + m) s'
 | 0,k,s,h,_=>⟨s,rfl,h⟩
 | m + 1,k,s,h,hb=>by
  simp only [forN']
  obtain ⟨s',h1,h2⟩:=hb k s (nI _) (by omega) h
  rw [h1]
  have:=wDg I m (k + 1) s' h2 fun i s h2 h3 h4=>hb i s (by omega) (by omega) h4
  rwa [show k + 1 + m=k + (m + 1) from by omega] at this
theorem wFz {body:Nat->S->Option (S ⊕ B)} {n:Nat} {s:S} (hn:n <= 9223372036854775807):wHT 0 (n:Int) body s=forN body n 0 s:=by
 unfold wHT
 rw [if_pos (by omega),show ((n:Int) - 0).toNat=n from by omega]
theorem wCz {body:Nat->S->Option S} {n:Nat} {s:S} (hn:n <= 9223372036854775807):wCq 0 (n:Int) body s=forN' body n 0 s:=by
 unfold wCq
 rw [if_pos (by omega),show ((n:Int) - 0).toNat=n from by omega]
def first (p:α->Bool):List α->Nat->Int
 | [],_=>-1
 | a :: l,k=>if p a then (k:Int) else first p l (k + 1)
theorem wGA (p:α->Bool):∀ (l:List α) (k:Nat),decide (0 <= first p l k)=l.any p
 | [],k=>by simp [first]
 | a :: l,k=>by
  rw [first,kR]
  by_cases h:p a
  ·simp [h]
  ·simp [h,wGA p l (k + 1)]
theorem wGj {R:Type} {l:List α} {f:α->Option Bool} {p:α->Bool} (hf:∀ a ∈ l,f a=some (p a)) (hn:l.length <= 9223372036854775807) (z:Int->R) :
  (jn (wHT 0 (↑l.length:Int) (fun k2 (_:Unit)=>(idx l (↑k2:Int)).bind fun x=>(f x).bind fun y=>if y=true then esc (some (z (↑k2:Int))) else some (.inl ())) ()) fun _=>some (z (-1)))=some (z (first p l 0)):=by
 rw [wFz hn]
 have key:∀ (m k:Nat),k + m=l.length->(jn (forN (fun k2 (_:Unit)=>(idx l (↑k2:Int)).bind fun x=>(f x).bind fun y=>if y=true then esc (some (z (↑k2:Int))) else some (.inl ())) m k ()) fun _=>some (z (-1)))=some (z (first p (l.drop k) k)):=by
  intro m
  induction m with
  | zero=>intro k hk;rw [kM (by omega)];rfl
  | succ m ih =>
   intro k hk
   have hlt:k < l.length:=by omega
   rw [kA hlt,first,forN,wKI,ng hlt]
   simp only [hH,hf _ (List.getElem_mem hlt)]
   by_cases h:p l[k]=true
   ·simp [h]
   ·simp only [h,if_false,nE]
    exact ih (k + 1) (by omega)
 exact key l.length 0 (by omega)
theorem wDA {bytes:Nat} {l m:List α} (h:(l.length + m.length) * bytes <= 140737488355328):app bytes l m=some (l ++ m):=if_pos h
end Go.KL
namespace Go.KL
variable {S B R α β:Type}
theorem wHq {body:Nat->S->Option S} (s:Nat->S):∀ (m k:Nat),(∀ i,k <= i->i < k + m->body i (s i)=some (s (i + 1)))->forN' body m k (s k)=some (s (k + m))
 | 0,_,_=>rfl
 | m + 1,k,h=>by
  rw [forN',h k (nI _) (by omega)]
  have:=wHq s m (k + 1) fun i h1 h2=>h i (by omega) (by omega)
  rw [show k + 1 + m=k + (m + 1) by omega] at this
  exact this
theorem wEb {body:Nat->S->Option S} {n:Nat} {s0:S} (s:Nat->S) (h0:s 0=s0) (hn:n <= 9223372036854775807) (h:∀ i,i < n->body i (s i)=some (s (i + 1))):wCq 0 (n:Int) body s0=some (s n):=by
 rw [wCz hn,<- h0]
 have:=wHq s n 0 fun i _ hi=>h i (by omega)
 rwa [nj] at this
theorem wCf [Inhabited α] {l:List α} {k:Nat} (h:k < l.length):idx l (k:Int)=some (gd l k):=by
 rw [wKI]
 exact wBf h
theorem wLl [Inhabited α] {l:List α} {k:Nat} (h:k < l.length):l.take (k + 1)=l.take k ++ [gd l k]:=by
 rw [List.take_add_one,wBf h]
 rfl
theorem wOU [Inhabited α] {l:List α} {k:Nat} (h:k < l.length):l.drop k=gd l k :: l.drop (k + 1):=by
 have:=wBf h
 rw [ng h] at this
 rw [kA h,nD this]
theorem wEc [Inhabited α] {l m:List α} {k:Nat} (h:k < l.length):gd (l ++ m) k=gd l k:=by
 have h1:=wBf (xs:=l ++ m) (k:=k) (by rw [nR];omega)
 rw [List.getElem?_append_left h,wBf h] at h1
 exact (nD h1).symm
theorem wFL [Inhabited α] (l m:List α) (x:α):gd (l ++ x :: m) l.length=x:=by
 have h1:=wBf (xs:=l ++ x :: m) (k:=l.length) (by simp)
 rw [List.getElem?_append_right (nI _),Nat.sub_self] at h1
 exact (nD h1).symm
end Go.KL
namespace Go.KL
def wBz (f:Nat->Int):Nat->Int
 | 0=>0
 | k + 1=>wBz f k + f k
theorem wAx {f g:Nat->Int}:∀ n,(∀ i,i < n->f i=g i)->wBz f n=wBz g n
 | 0,_=>rfl
 | n + 1,h=>by rw [wBz,wBz,wAx n fun i hi=>h i (by omega),h n (by omega)]
theorem wGB {f g:Nat->Int}:∀ n,(∀ i,i < n->f i <= g i)->wBz f n <= wBz g n
 | 0,_=>nX _
 | n + 1,h=>by
  have a:=wGB n fun i hi=>h i (by omega)
  have b:=h n (by omega)
  rw [wBz,wBz];omega
theorem wBh {f:Nat->Int}:∀ n,(∀ i,i < n->f i=0)->wBz f n=0
 | 0,_=>rfl
 | n + 1,h=>by rw [wBz,wBh n fun i hi=>h i (by omega),h n (by omega)];rfl
theorem wLm {f:Nat->Int} (n:Nat) (h:∀ i,i < n->0 <= f i):0 <= wBz f n:=by
 have:=wGB (f:=fun _=>0) n h
 rwa [wBh n fun _ _=>rfl] at this
theorem wEF {f:Nat->Int}:∀ {n:Nat},(∀ i,i < n->0 <= f i)->∀ {k:Nat},k < n->f k <= wBz f n
 | 0,_,k,hk=>by omega
 | n + 1,h,k,hk=>by
  have a:=wLm n fun i hi=>h i (by omega)
  have b:=h n (by omega)
  rw [wBz]
  by_cases e:k=n
  ·rw [e];omega
  ·have:=wEF (fun i hi=>h i (by omega)) (show k < n by omega);omega
theorem wDK {f g:Nat->Int}:∀ n,wBz (fun i=>f i + g i) n=wBz f n + wBz g n
 | 0=>rfl
 | n + 1=>by rw [wBz,wBz,wBz,wDK n];omega
theorem wGC {f:Nat->Nat->Int} {m:Nat}:∀ n,wBz (fun i=>wBz (f i) m) n=wBz (fun j=>wBz (fun i=>f i j) n) m
 | 0=>by
  show (0:Int)=_
  exact (wBh m fun _ _=>rfl).symm
 | n + 1=>by
  rw [wBz,wGC n,<- wDK]
  rfl
theorem wEd {k:Nat} {v:Int}:∀ {n:Nat},k < n->wBz (fun i=>if i=k then v else 0) n=v
 | 0,h=>by omega
 | n + 1,h=>by
  rw [wBz]
  by_cases e:k=n
  ·subst e
   rw [if_pos rfl,wBh k fun i hi=>if_neg (by omega)]
   omega
  ·rw [if_neg (by omega),wEd (by omega)]
   omega
theorem wCY {f g:Nat->Int} {k n:Nat} (hk:k < n) (h:∀ i,i < n->i ≠ k->g i=f i):wBz g n=wBz f n + (g k - f k):=by
 have:wBz g n=wBz (fun i=>f i + if i=k then g k - f k else 0) n:=wAx n fun i hi=>by
  by_cases e:i=k
  ·subst e;rw [if_pos rfl];omega
  ·rw [if_neg e,h i hi e];omega
 rw [this,wDK,wEd hk]
theorem wLn {p:Bool} {f:Nat->Int} {n:Nat}:wBz (fun i=>if p=true then f i else 0) n=if p=true then wBz f n else 0:=by
 cases p
 ·simp only [nE,if_false];exact wBh n fun _ _=>rfl
 ·simp only [if_true]
structure Asg (n:Nat) (can:Nat->Nat->Bool) (sh dn:Nat->Int) (x:Nat->Nat->Int):Prop where
 nn:∀ s l,s < n->l < n->0 <= x s l
 pos:∀ s l,s < n->l < n->0 < x s l->can s l=true
 row:∀ s,s < n->wBz (x s) n <= sh s
 col:∀ l,l < n->wBz (fun s=>x s l) n=dn l
def adj (n:Nat) (can:Nat->Nat->Bool) (L:Nat->Bool) (s:Nat):Bool:=(ny n).any fun l=>L l && can s l
theorem wLo {n:Nat} {can:Nat->Nat->Bool} {L:Nat->Bool} {s:Nat}:adj n can L s=true ↔ ∃ l,l < n/\L l=true/\can s l=true:=by
 unfold adj
 rw [List.any_eq_true]
 constructor
 ·rintro ⟨l,h1,h2⟩
  rw [nB] at h2
  exact ⟨l,nv.1 h1,h2⟩
 ·rintro ⟨l,h1,h2,h3⟩
  exact ⟨l,nv.2 h1,by rw [h2,h3];rfl⟩
def dnL (n:Nat) (dn:Nat->Int) (L:Nat->Bool):Int:=wBz (fun l=>if L l=true then dn l else 0) n
def shL (n:Nat) (can:Nat->Nat->Bool) (sh:Nat->Int) (L:Nat->Bool):Int:=wBz (fun s=>if adj n can L s=true then sh s else 0) n
theorem Asg.hall {n:Nat} {can:Nat->Nat->Bool} {sh dn:Nat->Int} {x:Nat->Nat->Int} (h:Asg n can sh dn x) (L:Nat->Bool):dnL n dn L <= shL n can sh L:=by
 have e:dnL n dn L=wBz (fun s=>wBz (fun l=>if L l=true then x s l else 0) n) n:=by
  unfold dnL
  rw [wGC]
  refine wAx n fun l hl=>?_
  rw [wLn,h.col l hl]
 rw [e]
 refine wGB n fun s hs=>?_
 by_cases a:adj n can L s=true
 ·rw [if_pos a]
  refine kV (wGB n fun l hl=>?_) (h.row s hs)
  by_cases b:L l=true
  ·rw [if_pos b];exact nX _
  ·rw [if_neg b];exact h.nn s l hs hl
 ·rw [if_neg a,wBh n fun l hl=>?_]
  ·exact nX _
  ·by_cases b:L l=true
   ·rw [if_pos b]
    have h0:=h.nn s l hs hl
    have h1:¬ 0 < x s l:=fun q=>a (wLo.2 ⟨l,hl,b,h.pos s l hs hl q⟩)
    omega
   ·rw [if_neg b]
theorem wBV {α:Type} [Inhabited α] {n:Nat} (a:Arr α n) {i j:Nat} (hi:i < n) (v:α):(a.set i v).get j=if j=i then v else a.get j:=by
 unfold Arr.set Arr.get
 simp only [nl]
 by_cases e:j=i
 ·rw [if_pos e,e,List.getElem?_set_self (by rw [a.h];exact hi)]
  rfl
 ·rw [if_neg e,List.getElem?_set_ne (Ne.symm e)]
theorem wEe {S B:Type} {body:Nat->S->Option (S ⊕ B)} {n:Nat} {s0:S} (I:Nat->S->Prop) (Z:B->Prop) (hn:n <= 1000) (h0:I 0 s0) (h:∀ i s,i < n->I i s->(∃ s',body i s=some (.inl s')/\I (i + 1) s') \/ ∃ b,body i s=some (.inr b)/\Z b):(∃ s,wHT 0 (n:Int) body s0=some (.inl s)/\I n s) \/ ∃ b,wHT 0 (n:Int) body s0=some (.inr b)/\Z b:=by
 rw [wFz (by omega)]
 have:=wJW (body:=body) I Z n 0 s0 h0 fun i s _ h2 h3=>h i s (by omega) h3
 rwa [nj] at this
end Go.KL
namespace Go.Proofs.Ytkeeechdijfkhaa
open Go.KL
structure Fl (n:Nat) (can:Nat->Nat->Bool) (sh c:Nat->Int) (h:Arr Int 64) (u:Arr Int 8):Prop where
 nn:∀ s l,s < n->l < n->0 <= h.get (s * 8 + l)
 pos:∀ s l,s < n->l < n->0 < h.get (s * 8 + l)->can s l=true
 row:∀ s,s < n->wBz (fun l=>h.get (s * 8 + l)) n=u.get s
 cap:∀ s,s < n->u.get s <= sh s
 col:∀ l,l < n->wBz (fun s=>h.get (s * 8 + l)) n=c l
def one (l:Nat) (i:Nat):Int:=if i=l then 1 else 0
structure Ext (n:Nat) (m m':Arr Bool 16):Prop where
 s:∀ s,s < n->m.get s=true->m'.get s=true
 l:∀ l,l < n->m.get (8 + l)=true->m'.get (8 + l)=true
theorem Ext.rfl {n:Nat} {m:Arr Bool 16}:Ext n m m:=⟨fun _ _ h=>h,fun _ _ h=>h⟩
theorem Ext.trans {n:Nat} {a b c:Arr Bool 16} (h:Ext n a b) (k:Ext n b c):Ext n a c:=⟨fun s hs q=>k.s s hs (h.s s hs q),fun l hl q=>k.l l hl (h.l l hl q)⟩
structure Clo (n:Nat) (can:Nat->Nat->Bool) (sh:Nat->Int) (h:Arr Int 64) (u:Arr Int 8) (p:Nat->Prop) (m m':Arr Bool 16) (lane:Nat):Prop where
 ext:Ext n m m'
 lanes:∀ l,l < n->m'.get (8 + l)=true->m.get (8 + l)=false->l ≠ lane->∀ s,s < n->can s l=true->m'.get s=true
 skiers:∀ s,p s->s < n->m'.get s=true->m.get s=false->sh s <= u.get s/\(∀ l,l < n->0 < h.get (s * 8 + l)->m'.get (8 + l)=true)/\∃ l,l < n/\can s l=true/\m'.get (8 + l)=true
 me:m'.get (8 + lane)=true
def unm (m:Arr Bool 16):Nat->Nat
 | 0=>0
 | k + 1=>unm m k + if m.get k=true then 0 else 1
theorem wLp {n:Nat} {m m':Arr Bool 16} (h:∀ s,s < n->m.get s=true->m'.get s=true):∀ k,k <= n->unm m' k <= unm m k
 | 0,_=>nI _
 | k + 1,hk=>by
  have a:=wLp h k (by omega)
  rw [unm,unm]
  by_cases e:m.get k=true
  ·rw [if_pos e,if_pos (h k (by omega) e)];omega
  ·rw [if_neg e];split <;> omega
theorem wLq {m:Arr Bool 16} {s:Nat} (h16:s < 16) (hs:m.get s=false):∀ k,s < k->unm (m.set s true) k + 1=unm m k
 | 0,h=>by omega
 | k + 1,h=>by
  rw [unm,unm]
  by_cases e:s=k
  ·subst e
   have:unm (m.set s true) s=unm m s:=by
    have key:∀ j,j <= s->unm (m.set s true) j=unm m j:=by
     intro j
     induction j with
     | zero=>intro _;rfl
     | succ j ih=>intro hj;rw [unm,unm,ih (by omega),wBV _ h16,if_neg (show ¬ j=s by omega)]
    exact key s (nI _)
   rw [this,wBV _ h16,if_pos rfl,hs]
   rfl
  ·have:=wLq h16 hs k (by omega)
   rw [wBV _ h16,if_neg (show ¬ k=s by omega)]
   omega
structure Desk (n:Nat) (can:Nat->Nat->Bool) (sh:Nat->Int) (b:wAC) (may:List (wAA × Bool)):Prop where
 n8:n <= 8
 ns:b.Shots.length=n
 nd:b.Down.length=n
 sh:∀ s,s < n->gd b.Shots s=sh s/\sh s <= 1000
 can:∀ s l,s < n->l < n->wDt may ⟨(s:Int),(l:Int)⟩ false=can s l
section
variable {n:Nat} {can:Nat->Nat->Bool} {sh:Nat->Int} {b:wAC} {may:List (wAA × Bool)}
theorem Desk.can_is (K:Desk n can sh b may) {s l:Nat} (hs:s < n) (hl:l < n) (h:Arr Int 64) (u:Arr Int 8) (m:Arr Bool 16):wAi ⟨b,may,h,u,m⟩ (s:Int) (l:Int)=some (can s l):=by
 unfold wAi
 exact congrArg some (K.can s l hs hl)
theorem Fl.bd {c:Nat->Int} {h:Arr Int 64} {u:Arr Int 8} (K:Desk n can sh b may) (F:Fl n can sh c h u) {s l:Nat} (hs:s < n) (hl:l < n):0 <= h.get (s * 8 + l)/\h.get (s * 8 + l) <= u.get s/\u.get s <= 1000:=by
 have h0:=F.nn s l hs hl
 have h1:=wEF (f:=fun l=>h.get (s * 8 + l)) (fun i hi=>F.nn s i hs hi) hl
 have h2:=F.cap s hs
 have h3:=(K.sh s hs).2
 rw [F.row s hs] at h1
 omega
theorem Fl.more {c:Nat->Int} {h:Arr Int 64} {u:Arr Int 8} (n8:n <= 8) (F:Fl n can sh c h u) {k lane:Nat} (hk:k < n) (hl:lane < n) (hc:can k lane=true) (hu:u.get k < sh k) :
  Fl n can sh (fun l=>c l + one lane l) (h.set (k * 8 + lane) (h.get (k * 8 + lane) + 1)) (u.set k (u.get k + 1)):=by
 have g:∀ s l,s < n->l < n->(h.set (k * 8 + lane) (h.get (k * 8 + lane) + 1)).get (s * 8 + l)=if s=k/\l=lane then h.get (k * 8 + lane) + 1 else h.get (s * 8 + l):=fun s l hs hl'=>by
  rw [wBV _ (by omega)]
  by_cases e:s=k/\l=lane
  ·rw [if_pos e,if_pos (by rw [e.1,e.2])]
  ·rw [if_neg e,if_neg (by omega)]
 have n0:=F.nn k lane hk hl
 refine ⟨fun s l hs hl'=>?_,fun s l hs hl'=>?_,fun s hs=>?_,fun s hs=>?_,fun l hl'=>?_⟩
 ·rw [g s l hs hl']
  split
  ·omega
  ·exact F.nn s l hs hl'
 ·rw [g s l hs hl']
  split
  ·rename_i e;intro _;rw [e.1,e.2];exact hc
  ·exact F.pos s l hs hl'
 ·rw [wBV _ (by omega)]
  by_cases e:s=k
  ·subst e
   rw [if_pos rfl,<- F.row s hs,wCY (f:=fun l=>h.get (s * 8 + l)) hl fun i hi hne=>by rw [g s i hs hi,if_neg fun q=>hne q.2],g s lane hs hl,if_pos ⟨rfl,rfl⟩]
   omega
  ·rw [if_neg e,<- F.row s hs]
   exact wAx n fun i hi=>by rw [g s i hs hi,if_neg fun q=>e q.1]
 ·rw [wBV _ (by omega)]
  by_cases e:s=k
  ·rw [if_pos e,e];omega
  ·rw [if_neg e];exact F.cap s hs
 ·unfold one
  by_cases e:l=lane
  ·subst e
   rw [if_pos rfl,<- F.col l hl',wCY (f:=fun s=>h.get (s * 8 + l)) hk fun i hi hne=>by rw [g i l hi hl',if_neg fun q=>hne q.1],g k l hk hl',if_pos ⟨rfl,rfl⟩]
   omega
  ·rw [if_neg e,<- F.col l hl',kW]
   exact wAx n fun i hi=>by rw [g i l hi hl',if_neg fun q=>e q.2]
theorem Fl.turn {c:Nat->Int} {h:Arr Int 64} {u:Arr Int 8} (n8:n <= 8) {k j lane:Nat} (F:Fl n can sh (fun l=>c l + one j l) h u) (hk:k < n) (hj:j < n) (hl:lane < n) (hc:can k lane=true) (hne:j ≠ lane) (hp:0 < h.get (k * 8 + j)) :
  Fl n can sh (fun l=>c l + one lane l) ((h.set (k * 8 + j) (h.get (k * 8 + j) - 1)).set (k * 8 + lane) ((h.set (k * 8 + j) (h.get (k * 8 + j) - 1)).get (k * 8 + lane) + 1)) u:=by
 have g:∀ s l,s < n->l < n->((h.set (k * 8 + j) (h.get (k * 8 + j) - 1)).set (k * 8 + lane) ((h.set (k * 8 + j) (h.get (k * 8 + j) - 1)).get (k * 8 + lane) + 1)).get (s * 8 + l)=h.get (s * 8 + l) + if s=k then one lane l - one j l else 0:=fun s l hs hl'=>by
  unfold one
  rw [wBV _ (by omega),wBV _ (by omega),wBV _ (by omega),if_neg (show ¬ k * 8 + lane=k * 8 + j by omega)]
  by_cases e:s=k
  ·subst e
   rw [if_pos rfl]
   by_cases e1:l=lane
   ·subst e1;rw [if_pos rfl,if_pos rfl,if_neg (by omega)];omega
   ·rw [if_neg (by omega),if_neg e1]
    by_cases e2:l=j
    ·subst e2;rw [if_pos rfl,if_pos rfl];omega
    ·rw [if_neg (by omega),if_neg e2];omega
  ·rw [if_neg (by omega),if_neg (by omega),if_neg e];omega
 have n0:=F.nn k lane hk hl
 have o1:∀ a:Nat,a < n->wBz (fun l=>one a l) n=1:=fun a ha=>wEd ha
 refine ⟨fun s l hs hl'=>?_,fun s l hs hl'=>?_,fun s hs=>?_,F.cap,fun l hl'=>?_⟩
 ·rw [g s l hs hl']
  have:=F.nn s l hs hl'
  unfold one
  split
  ·rename_i e;subst e
   split <;> split <;> first | omega | (rename_i e1 e2;subst e2;omega)
  ·omega
 ·rw [g s l hs hl']
  intro q
  by_cases e:s=k/\l=lane
  ·rw [e.1,e.2];exact hc
  ·refine F.pos s l hs hl' ?_
   unfold one at q
   split at q
   ·rename_i e2
    rw [if_neg fun e3=>e ⟨e2,e3⟩] at q
    split at q <;> omega
   ·omega
 ·rw [<- F.row s hs,wAx n fun i hi=>g s i hs hi]
  by_cases e:s=k
  ·simp only [if_pos e]
   rw [wDK,show (fun l=>one lane l - one j l)=fun l=>one lane l + (-1) * one j l from funext fun l=>by omega,wDK,o1 lane hl]
   have:wBz (fun l=>(-1) * one j l) n=-1:=by
    unfold one
    rw [show (fun l=>(-1:Int) * if l=j then 1 else 0)=fun l=>if l=j then (-1:Int) else 0 from funext fun l=>by split <;> rfl]
    exact wEd hj
   omega
  ·simp only [if_neg e,kW]
 ·have:=F.col l hl'
  rw [wAx n fun i hi=>g i l hi hl',wDK,this]
  have:wBz (fun s=>if s=k then one lane l - one j l else 0) n=one lane l - one j l:=wEd hk
  omega
end
end Go.Proofs.Ytkeeechdijfkhaa
namespace Go.Proofs.Ytkeeechdijfkhaa
open Go.KL
section
variable {n:Nat} {can:Nat->Nat->Bool} {sh:Nat->Int} {b:wAC} {may:List (wAA × Bool)}
abbrev HUM:=Arr Int 64 × Arr Int 8 × Arr Bool 16
def Out (n:Nat) (can:Nat->Nat->Bool) (sh c:Nat->Int) (h:Arr Int 64) (u:Arr Int 8) (m:Arr Bool 16) (lane:Nat) (ok:Bool) (h':Arr Int 64) (u':Arr Int 8) (m':Arr Bool 16):Prop :=
 (ok=true/\Fl n can sh (fun l=>c l + one lane l) h' u'/\∀ s,s < n->m.get s=true->∀ l,l < n->h'.get (s * 8 + l)=h.get (s * 8 + l)) \/
 (ok=false/\h'=h/\u'=u/\Clo n can sh h u (fun _=>True) m m' lane/\∀ s,s < n->can s lane=true->m'.get s=true)
theorem wMe {S E:Type} (K:Desk n can sh b may) (f:S->Int->Option (S ⊕ E)) (s0:S) (h:Arr Int 64) (u:Arr Int 8) (m:Arr Bool 16) {k:Nat} (hk:k < n) (I:Nat->S->Prop) (Z:E->Prop) (h0:I 0 s0)
  (hs:∀ j s,j < n->I j s->(can k j=false->I (j + 1) s)/\(can k j=true->(∃ s',f s (j:Int)=some (.inl s')/\I (j + 1) s') \/ ∃ e,f s (j:Int)=some (.inr e)/\Z e)) :
  (∃ s',wAe f s0 ⟨b,may,h,u,m⟩ () (k:Int)=some (.inl s')/\I n s') \/ ∃ e,wAe f s0 ⟨b,may,h,u,m⟩ () (k:Int)=some (.inr e)/\Z e:=by
 unfold wAe
 have n8:=K.n8
 simp only [K.nd]
 rcases wEe (S:=S) (B:=S ⊕ E) (n:=n) (s0:=s0) (body:=fun (k19:Nat) (s17:S) =>
  (wAi ⟨b,may,h,u,m⟩ (k:Int) (↑k19:Int)).bind fun x55 =>
  if x55=true then
   (f s17 (↑k19:Int)).bind fun yr64 =>
   match yr64 with
   | .inl s74 =>
    some (.inl s74)
   | .inr s74 =>
    esc (some (.inr s74))
  else
   some (.inl s17)) I (fun x=>∃ e,x=.inr e/\Z e) (by omega) h0 (fun j s hj hI=>by
  rw [K.can_is hk hj,hH]
  have q:=hs j s hj hI
  by_cases e:can k j=true
  ·rw [if_pos e]
   rcases q.2 e with ⟨s',e1,e2⟩ | ⟨x,e1,e2⟩
   ·exact .inl ⟨s',by rw [e1];rfl,e2⟩
   ·exact .inr ⟨.inr x,by rw [e1];rfl,x,rfl,e2⟩
  ·rw [if_neg e]
   exact .inl ⟨s,rfl,q.1 (by simpa using e)⟩) with ⟨s',e1,e2⟩ | ⟨x,e1,e,rfl,hz⟩
 ·exact .inl ⟨s',by erw [e1];rfl,e2⟩
 ·exact .inr ⟨e,by erw [e1];rfl,hz⟩
theorem orT {p:Prop} [Decidable p] {x:Bool} (h:x=true):(if p then true else x)=true:=by
 split
 ·rfl
 ·exact h
theorem wOV (K:Desk n can sh b may):∀ (f:Nat) (lane:Nat) (h:Arr Int 64) (u:Arr Int 8) (m:Arr Bool 16) (c:Nat->Int),unm m n < f->lane < n->Fl n can sh c h u ->
    ∃ ok h' u' m',wAN f (lane:Int) ⟨b,may,h,u,m⟩ ()=some (ok,h',u',m')/\Out n can sh c h u m lane ok h' u' m':=by
  have n8:=K.n8
  intro f
  induction f with
  | zero=>intro lane h u m c hu;omega
  | succ f ih =>
    intro lane h u m c hu hl F
    show ∃ ok h' u' m',wAt (wAN f) (lane:Int) ⟨b,may,h,u,m⟩ ()=_/\_
    unfold wAt
    rw [wCi (by omega) (by omega),hH]
    simp only [K.ns,nW]
    have m1s:∀ s,s < n->(m.set (8 + lane) true).get s=m.get s:=fun s hs=>by rw [wBV _ (by omega),if_neg (by omega)]
    have m1n:∀ l,l < n->l ≠ lane->(m.set (8 + lane) true).get (8 + l)=m.get (8 + l):=fun l hl' hne=>by rw [wBV _ (by omega),if_neg (by omega)]
    have m1m:(m.set (8 + lane) true).get (8 + lane)=true:=by rw [wBV _ (by omega),if_pos rfl]
    have m1l:∀ l,l < n->m.get (8 + l)=true->(m.set (8 + lane) true).get (8 + l)=true:=fun l _ q=>by rw [wBV _ (by omega)];exact orT q
    rcases wEe (S:=HUM) (B:=Bool × HUM) (n:=n) (s0:=(h,u,m.set (8 + lane) true)) (body:=fun (k39:Nat) ((a36,a37,a38):HUM) =>
    (chk (↑k39:Int) 8).bind fun _ =>
    if (a38.get k39)=true then
      some (.inl (a36,a37,a38))
    else
      (wAi (⟨b,may,a36,a37,a38⟩:wAD) (↑k39:Int) (lane:Int)).bind fun x84 =>
      if x84=true then
        (idx b.Shots (↑k39:Int)).bind fun x107 =>
        if (a37.get k39) < x107 then
          esc (some (true,((a36.set (k39 * 8 + lane) (w64 ((a36.get (k39 * 8 + lane)) + 1))),(a37.set k39 (w64 ((a37.get k39) + 1))),(a38.set k39 true))))
        else
          (wBL () (↑k39:Int)).bind fun _ =>
          (wAe (S:=(Arr Int 64) × (Arr Int 8) × (Arr Bool 16)) (E:=(Arr Int 64) × (Arr Int 8) × (Arr Bool 16) × Bool) (fun (a303,a304,a305) x332 =>
            if x332=(lane:Int) then
              some (.inl (a303,a304,a305))
            else
              (chk x332 8).bind fun _ =>
              if 0 < (a303.get (k39 * 8 + x332.toNat)) then
                (wAN f x332 (⟨b,may,a303,a304,a305⟩:wAD) ()).bind fun (x383,x384) =>
                if x383=true then
                  some (.inr (((x384.1.set (k39 * 8 + x332.toNat) (w64 ((x384.1.get (k39 * 8 + x332.toNat)) - 1))).set (k39 * 8 + lane) (w64 (((x384.1.set (k39 * 8 + x332.toNat) (w64 ((x384.1.get (k39 * 8 + x332.toNat)) - 1))).get (k39 * 8 + lane)) + 1))),x384.2.1,x384.2.2,true))
                else
                  some (.inl (x384.1,x384.2.1,x384.2.2))
              else
                some (.inl (a303,a304,a305))) (a36,a37,(a38.set k39 true)) (⟨b,may,a36,a37,(a38.set k39 true)⟩:wAD) () (↑k39:Int)).bind fun rr321 =>
          match rr321 with
          | .inl (y439,y440,y441) =>
            some (.inl (y439,y440,y441))
          | .inr (y442,y443,y444,y445) =>
            esc (some (y445,(y442,y443,y444)))
      else
        some (.inl (a36,a37,a38)))
      (fun k st=>st.1=h/\st.2.1=u/\Clo n can sh h u (fun _=>True) m st.2.2 lane/\∀ s,s < k->can s lane=true->st.2.2.get s=true)
      (fun r=>Out n can sh c h u m lane r.1 r.2.1 r.2.2.1 r.2.2.2) (by omega) ⟨rfl,rfl,⟨⟨fun s hs q=>(m1s s hs).trans q,fun l hl' q=>m1l l hl' q⟩,fun l hl' q1 q2 hne=>(by have q3:=(m1n l hl' hne).symm.trans q1;rw [q2] at q3;cases q3),fun s _ hs q1 q2=>(by have q3:=(m1s s hs).symm.trans q1;rw [q2] at q3;cases q3),m1m⟩,fun s hs=>absurd hs (Nat.not_lt_zero s)⟩
      (by
      rintro k ⟨h',u',mk⟩ hk ⟨rfl,rfl,J1,J2⟩
      simp only at J1 J2 ⊢
      rw [wCi (by omega) (by omega),hH]
      by_cases c1:mk.get k=true
      · rw [if_pos c1]
        refine .inl ⟨_,rfl,rfl,rfl,J1,fun s hs q=>?_⟩
        by_cases e:s=k
        · rw [e];exact c1
        · exact J2 s (by omega) q
      rw [if_neg c1,K.can_is hk hl,hH]
      by_cases c2:can k lane=true
      case neg =>
        rw [if_neg c2]
        refine .inl ⟨_,rfl,rfl,rfl,J1,fun s hs q=>?_⟩
        by_cases e:s=k
        · rw [e] at q;exact absurd q c2
        · exact J2 s (by omega) q
      rw [if_pos c2,wCf (by rw [K.ns];exact hk),hH,(K.sh k hk).1]
      have bd:=F.bd K hk hl
      simp only at bd
      have hmk:mk.get k=false:=by simpa using c1
      have hm0:m.get k=false:=by
        cases e:m.get k with
        | false=>rfl
        | true=>rw [J1.ext.s k hk e] at hmk;cases hmk
      by_cases c3:u'.get k < sh k
      · rw [if_pos c3,wAf (by omega) (by omega),wAf (by omega) (by omega)]
        refine .inr ⟨_,rfl,.inl ⟨rfl,F.more n8 hk hl c2 c3,fun s hs q l hl'=>?_⟩⟩
        simp only
        rw [wBV _ (by omega),if_neg]
        intro e
        have:s=k:=by omega
        rw [this,hm0] at q
        cases q
      rw [if_neg c3]
      unfold wBL
      rw [hH]
      have hset:∀ s,s < n->(mk.set k true).get s=if s=k then true else mk.get s:=fun s hs=>wBV _ (by omega) _
      have hsetl:∀ l,l < n->(mk.set k true).get (8 + l)=mk.get (8 + l):=fun l hl'=>by rw [wBV _ (by omega),if_neg (by omega)]
      have hX1:Ext n mk (mk.set k true):=⟨fun s hs q=>by rw [hset s hs];exact orT q,fun l hl' q=>by rw [hsetl l hl'];exact q⟩
      rcases wMe (S:=HUM) (E:=(Arr Int 64) × (Arr Int 8) × (Arr Bool 16) × Bool) K (fun ((a303,a304,a305):HUM) x332 =>
            if x332=(lane:Int) then
              some (.inl (a303,a304,a305))
            else
              (chk x332 8).bind fun _ =>
              if 0 < (a303.get (k * 8 + x332.toNat)) then
                (wAN f x332 (⟨b,may,a303,a304,a305⟩:wAD) ()).bind fun (x383,x384) =>
                if x383=true then
                  some (.inr (((x384.1.set (k * 8 + x332.toNat) (w64 ((x384.1.get (k * 8 + x332.toNat)) - 1))).set (k * 8 + lane) (w64 (((x384.1.set (k * 8 + x332.toNat) (w64 ((x384.1.get (k * 8 + x332.toNat)) - 1))).get (k * 8 + lane)) + 1))),x384.2.1,x384.2.2,true))
                else
                  some (.inl (x384.1,x384.2.1,x384.2.2))
              else
                some (.inl (a303,a304,a305))) (h',u',mk.set k true) h' u' (mk.set k true) hk
        (fun j st=>st.1=h'/\st.2.1=u'/\Ext n (mk.set k true) st.2.2/\Clo n can sh h' u' (fun s=>s ≠ k) m st.2.2 lane/\∀ l,l < j->0 < h'.get (k * 8 + l)->st.2.2.get (8 + l)=true)
        (fun e=>Out n can sh c h' u' m lane e.2.2.2 e.1 e.2.1 e.2.2.1) ⟨rfl,rfl,Ext.rfl,⟨J1.ext.trans hX1,fun l hl' q1 q2 hne s hs q=>hX1.s s hs (J1.lanes l hl' (by rw [<- hsetl l hl'];exact q1) q2 hne s hs q),fun s hne hs q1 q2=>by
            rw [hset s hs,if_neg hne] at q1
            obtain ⟨g1,g2,l,g3,g4,g5⟩:=J1.skiers s trivial hs q1 q2
            exact ⟨g1,fun l hl' q=>by rw [hsetl l hl'];exact g2 l hl' q,l,g3,g4,by rw [hsetl l g3];exact g5⟩,hX1.l lane hl J1.me⟩,fun l hl'=>by omega⟩
        (by
        rintro j ⟨h2,u2,mj⟩ hj ⟨rfl,rfl,X1,Cj,Lj⟩
        simp only at X1 Cj Lj
        constructor
        · intro q
          refine ⟨rfl,rfl,X1,Cj,fun l hl' p=>?_⟩
          by_cases e:l=j
          · subst e;rw [F.pos k l hk hj p] at q;cases q
          · exact Lj l (by omega) p
        intro q
        simp only
        by_cases c4:(j:Int)=lane
        · rw [if_pos c4]
          refine .inl ⟨_,rfl,rfl,rfl,X1,Cj,fun l hl' p=>?_⟩
          by_cases e:l=j
          · rw [e,show j=lane by omega];exact Cj.me
          · exact Lj l (by omega) p
        rw [if_neg c4,wCi (by omega) (by omega),hH,nW]
        by_cases c5:0 < h2.get (k * 8 + j)
        case neg =>
          rw [if_neg c5]
          refine .inl ⟨_,rfl,rfl,rfl,X1,Cj,fun l hl' p=>?_⟩
          by_cases e:l=j
          · rw [e] at p;exact absurd p c5
          · exact Lj l (by omega) p
        rw [if_pos c5]
        have hun:unm mj n < f:=by
          have a1:=wLp X1.s n (nI _)
          have a2:=wLq (show k < 16 by omega) hmk n hk
          have a3:=wLp J1.ext.s n (nI _)
          omega
        obtain ⟨ok,h3,u3,m3,e3,o3⟩:=ih j h2 u2 mj c hun hj F
        rw [e3,hH]
        simp only
        rcases o3 with ⟨rfl,F3,R3⟩ | ⟨rfl,rfl,rfl,C3,A3⟩
        · rw [if_pos rfl]
          have kj:mj.get k=true:=X1.s k hk (by rw [hset k hk,if_pos rfl])
          have r1:h3.get (k * 8 + j)=h2.get (k * 8 + j):=R3 k hk kj j hj
          have b3:=F3.bd K hk hj
          have b4:=F3.bd K hk hl
          have T:=F3.turn n8 hk hj hl c2 (show j ≠ lane by omega) (by rw [r1];exact c5)
          have w1:w64 (h3.get (k * 8 + j) - 1)=h3.get (k * 8 + j) - 1:=wAf (by omega) (by omega)
          rw [w1]
          have g2:(h3.set (k * 8 + j) (h3.get (k * 8 + j) - 1)).get (k * 8 + lane)=h3.get (k * 8 + lane):=by rw [wBV _ (by omega),if_neg (by omega)]
          have w2:w64 ((h3.set (k * 8 + j) (h3.get (k * 8 + j) - 1)).get (k * 8 + lane) + 1)=(h3.set (k * 8 + j) (h3.get (k * 8 + j) - 1)).get (k * 8 + lane) + 1:=by rw [g2];exact wAf (by omega) (by omega)
          rw [w2]
          refine .inr ⟨_,rfl,.inl ⟨rfl,T,fun s hs p l hl'=>?_⟩⟩
          have hne:s ≠ k:=fun e=>by rw [e,hm0] at p;cases p
          simp only
          rw [wBV _ (by omega),if_neg (by omega),wBV _ (by omega),if_neg (by omega)]
          exact R3 s hs (Cj.ext.s s hs p) l hl'
        · rw [if_neg (by decide)]
          refine .inl ⟨_,rfl,rfl,rfl,X1.trans C3.ext,⟨Cj.ext.trans C3.ext,fun l hl' q1 q2 hne s hs p=>?_,fun s hne hs q1 q2=>?_,C3.ext.l lane hl Cj.me⟩,fun l hl' p=>?_⟩
          · cases e:mj.get (8 + l) with
            | true=>exact C3.ext.s s hs (Cj.lanes l hl' e q2 hne s hs p)
            | false =>
              by_cases e2:l=j
              · subst e2;exact A3 s hs p
              · exact C3.lanes l hl' q1 e e2 s hs p
          · cases e:mj.get s with
            | true =>
              obtain ⟨g1,g2,l,g3,g4,g5⟩:=Cj.skiers s hne hs e q2
              exact ⟨g1,fun l hl' p=>C3.ext.l l hl' (g2 l hl' p),l,g3,g4,C3.ext.l l g3 g5⟩
            | false=>exact C3.skiers s trivial hs q1 e
          · by_cases e:l=j
            · rw [e];exact C3.me
            · exact C3.ext.l l (by omega) (Lj l (by omega) p)) with ⟨⟨h2,u2,m2⟩,e2,I1,I2,I3,I4,I5⟩ | ⟨⟨h2,u2,m2,ok⟩,e2,hz⟩
      · simp only at I1 I2
        subst I1 I2
        erw [e2]
        rw [hH]
        refine .inl ⟨_,rfl,rfl,rfl,⟨I4.ext,I4.lanes,fun s _ hs q1 q2=>?_,I4.me⟩,fun s hs p=>?_⟩
        · by_cases e:s=k
          · subst e
            exact ⟨by omega,I5,lane,hl,c2,I4.me⟩
          · exact I4.skiers s e hs q1 q2
        · by_cases e:s=k
          · rw [e];exact I3.s k hk (by rw [hset k hk,if_pos rfl])
          · exact I3.s s (by omega) (hX1.s s (by omega) (J2 s (by omega) p))
      · erw [e2]
        rw [hH]
        exact .inr ⟨_,rfl,hz⟩) with ⟨⟨h',u',m'⟩,e,rfl,rfl,J1,J2⟩ | ⟨⟨ok,h',u',m'⟩,e,hz⟩
    · erw [e]
      exact ⟨false,_,_,_,rfl,.inr ⟨rfl,rfl,rfl,J1,J2⟩⟩
    · erw [e]
      exact ⟨ok,_,_,_,rfl,hz⟩
end
end Go.Proofs.Ytkeeechdijfkhaa
namespace Go.Proofs.Ytkeeechdijfkhaa
open Go.KL
section
variable {n:Nat} {can:Nat->Nat->Bool} {sh:Nat->Int} {b:wAC} {may:List (wAA × Bool)}
theorem wEf {α:Type} [Inhabited α] {n:Nat} {x:α} {i:Nat} (h:i < n):(Arr.fill n x).get i=x:=by
 unfold Arr.fill Arr.get
 simp [nl,kD,h]
theorem wMf {c dn:Nat->Int} {h:Arr Int 64} {u:Arr Int 8} {m:Arr Bool 16} {lane:Nat} (F:Fl n can sh c h u) (n8:n <= 8) (hl:lane < n) (C:Clo n can sh h u (fun _=>True) (Arr.fill 16 false) m lane) (A:∀ s,s < n->can s lane=true->m.get s=true)
  (hc:∀ l,l < n->c l <= dn l) (hlt:c lane < dn lane):shL n can sh (fun l=>m.get (8 + l)) < dnL n dn (fun l=>m.get (8 + l)):=by
 have ad:∀ s,s < n->(adj n can (fun l=>m.get (8 + l)) s=true ↔ m.get s=true):=fun s hs=>by
  rw [wLo]
  constructor
  ·rintro ⟨l,h1,h2,h3⟩
   by_cases e:l=lane
   ·rw [e] at h3;exact A s hs h3
   ·exact C.lanes l h1 h2 (wEf (by omega)) e s hs h3
  ·intro q
   obtain ⟨_,_,l,h1,h2,h3⟩:=C.skiers s trivial hs q (wEf (by omega))
   exact ⟨l,h1,h3,h2⟩
 have e1:wBz (fun l=>if m.get (8 + l)=true then c l else 0) n=wBz (fun s=>wBz (fun l=>if m.get (8 + l)=true then h.get (s * 8 + l) else 0) n) n:=by
  rw [wGC]
  refine wAx n fun l hl=>?_
  rw [wLn,F.col l hl]
 have e2:shL n can sh (fun l=>m.get (8 + l)) <= wBz (fun l=>if m.get (8 + l)=true then c l else 0) n:=by
  rw [e1]
  refine wGB n fun s hs=>?_
  by_cases q:m.get s=true
  ·rw [if_pos ((ad s hs).2 q)]
   obtain ⟨g1,g2,_⟩:=C.skiers s trivial hs q (wEf (by omega))
   refine kV g1 (Int.le_of_eq ?_)
   rw [<- F.row s hs]
   refine wAx n fun l hl'=>?_
   by_cases p:m.get (8 + l)=true
   ·rw [if_pos p]
   ·rw [if_neg p]
    have:=F.nn s l hs hl'
    have:¬ 0 < h.get (s * 8 + l):=fun r=>p (g2 l hl' r)
    omega
  ·rw [if_neg fun r=>q ((ad s hs).1 r)]
   refine wLm n fun l hl'=>?_
   split
   ·exact F.nn s l hs hl'
   ·exact nX _
 have e3:dnL n dn (fun l=>m.get (8 + l))=wBz (fun l=>if m.get (8 + l)=true then c l else 0) n + wBz (fun l=>if m.get (8 + l)=true then dn l - c l else 0) n:=by
  unfold dnL
  rw [<- wDK]
  refine wAx n fun l _=>?_
  split <;> omega
 have e4:=wEF (f:=fun l=>if m.get (8 + l)=true then dn l - c l else 0) (fun l hl'=>by
  split
  ·have:=hc l hl';omega
  ·exact nX _) hl
 simp only [if_pos C.me] at e4
 omega
def wGD (m:Arr Bool 16) (n:Nat):List Int:=((ny n).filter fun l=>m.get (8 + l)).map fun l:Nat=>(l:Int)
theorem wLr (K:Desk n can sh b may) (h:Arr Int 64) (u:Arr Int 8) (m:Arr Bool 16):wAk ⟨b,may,h,u,m⟩=some (wGD m n):=by
 have n8:=K.n8
 unfold wAk
 simp only [K.nd]
 rw [wEb (S:=List Int) (n:=n) (fun k=>wGD m k) (s0:=[]) rfl (by omega) fun k hk=>?_]
 ·rfl
 ·rw [wCi (by omega) (by omega),hH]
  have ml:(wGD m k).length <= k:=by
   unfold wGD
   rw [kH]
   exact ni (na _ _) (by simp)
  have st:wGD m (k + 1)=wGD m k ++ if m.get (8 + k)=true then [(k:Int)] else []:=by
   unfold wGD
   rw [kJ,nz,kK]
   by_cases e:m.get (8 + k)=true
   ·rw [if_pos e,show [k].filter (fun l=>m.get (8 + l))=[k] by simp [e]];rfl
   ·rw [if_neg e,show [k].filter (fun l=>m.get (8 + l))=[] by simp [e]];rfl
  rw [st]
  by_cases e:m.get (8 + k)=true
  ·rw [if_pos e,if_pos e,wDA (by simp only [nk,nO];omega),hH]
  ·rw [if_neg e,if_neg e,nV]
def Sol (n:Nat) (can:Nat->Nat->Bool) (sh dn:Nat->Int) (r:List Int × HUM):Prop :=
 (r.1=[]/\Fl n can sh dn r.2.1 r.2.2.1) \/ (r.1 ≠ []/\r.1=wGD r.2.2.2 n/\shL n can sh (fun l=>r.2.2.2.get (8 + l)) < dnL n dn (fun l=>r.2.2.2.get (8 + l)))
theorem wHM {dn:Nat->Int} (K:Desk n can sh b may) (hd:∀ l,l < n->gd b.Down l=dn l/\0 <= dn l/\dn l <= 1000) {h:Arr Int 64} {u:Arr Int 8} (m:Arr Bool 16) (F:Fl n can sh (fun _=>0) h u) :
  ∃ r,wAZ ⟨b,may,h,u,m⟩=some r/\Sol n can sh dn r:=by
 have n8:=K.n8
 unfold wAZ
 simp only [K.nd]
 rcases wEe (S:=HUM) (B:=List Int × HUM) (n:=n) (s0:=(h,u,m)) (body:=fun (k39:Nat) ((a36,a37,a38):HUM) =>
  (idx b.Down (↑k39:Int)).bind fun x60 =>
  jn (wHT 0 x60 (fun (k84:Nat) ((a81,a82,a83):HUM) =>
   (wAN 1000 (↑k39:Int) (⟨b,may,a81,a82,(Arr.fill 16 false)⟩:wAD) ()).bind fun (x125,x126) =>
   if x125=true then
    some (.inl (x126.1,x126.2.1,x126.2.2))
   else
    (wAk (⟨b,may,x126.1,x126.2.1,x126.2.2⟩:wAD)).bind fun x146 =>
    esc (esc ((wKt x146).bind fun x165 =>
    some (x146,(x126.1,x126.2.1,x126.2.2))))) (a36,a37,a38)) fun (y175,y176,y177) =>
  some (.inl (y175,y176,y177)))
  (fun k st=>Fl n can sh (fun l=>if l < k then dn l else 0) st.1 st.2.1) (Sol n can sh dn) (by omega)
  (by
   have:(fun l=>if l < 0 then dn l else 0)=fun _=>(0:Int):=funext fun l=>if_neg (by omega)
   rw [this];exact F)
  (by
   rintro k ⟨h1,u1,m1⟩ hk J
   simp only at J ⊢
   obtain ⟨d1,d2,d3⟩:=hd k hk
   rw [wCf (by rw [K.nd];exact hk),hH,d1]
   obtain ⟨q,hq⟩:∃ q:Nat,dn k=q:=⟨(dn k).toNat,by omega⟩
   rw [hq]
   rcases wEe (S:=HUM) (B:=HUM ⊕ (List Int × HUM)) (n:=q) (s0:=(h1,u1,m1)) (body:=fun (k84:Nat) ((a81,a82,a83):HUM) =>
   (wAN 1000 (↑k:Int) (⟨b,may,a81,a82,(Arr.fill 16 false)⟩:wAD) ()).bind fun (x125,x126) =>
   if x125=true then
    some (.inl (x126.1,x126.2.1,x126.2.2))
   else
    (wAk (⟨b,may,x126.1,x126.2.1,x126.2.2⟩:wAD)).bind fun x146 =>
    esc (esc ((wKt x146).bind fun x165 =>
    some (x146,(x126.1,x126.2.1,x126.2.2)))))
    (fun r st=>Fl n can sh (fun l=>if l < k then dn l else if l=k then (r:Int) else 0) st.1 st.2.1) (fun x=>∃ r,x=.inr r/\Sol n can sh dn r) (by omega)
    (by
     have:(fun l=>if l < k then dn l else if l=k then ((0:Nat):Int) else 0)=fun l=>if l < k then dn l else 0:=funext fun l=>by
      by_cases e:l < k
      ·rw [if_pos e,if_pos e]
      ·rw [if_neg e,if_neg e];split <;> rfl
     rw [this];exact J)
    (by
     rintro r ⟨h2,u2,m2⟩ hr J2
     simp only at J2 ⊢
     have hun:unm (Arr.fill 16 false) n < 1000:=by
      have:∀ j,unm (Arr.fill 16 false) j <= j:=by
       intro j
       induction j with
       | zero=>exact nI _
       | succ j ih=>rw [unm];split <;> omega
      have:=this n
      omega
     obtain ⟨ok,h3,u3,m3,e3,o3⟩:=wOV K 1000 k h2 u2 (Arr.fill 16 false) _ hun hk J2
     rw [e3,hH]
     simp only
     rcases o3 with ⟨rfl,F3,_⟩ | ⟨rfl,rfl,rfl,C3,A3⟩
     ·rw [if_pos rfl]
      refine .inl ⟨_,rfl,?_⟩
      have:(fun l=>(if l < k then dn l else if l=k then (r:Int) else 0) + one k l)=fun l=>if l < k then dn l else if l=k then ((r + 1:Nat):Int) else 0:=funext fun l=>by
       unfold one
       split
       ·rw [if_neg (by omega)];omega
       ·split <;> omega
      rw [<- this]
      exact F3
     ·rw [if_neg (by decide),wLr K,hH]
      have sh1:=wMf (dn:=dn) J2 n8 hk C3 A3 (fun l hl=>by
       split
       ·omega
       ·split
        ·rename_i e;rw [e];omega
        ·exact (hd l hl).2.1) (by rw [if_neg (by omega),if_pos rfl];omega)
      have ne:wGD m3 n ≠ []:=fun e=>by
       have:(k:Int) ∈ wGD m3 n:=by
        unfold wGD
        exact List.mem_map.2 ⟨k,nu.2 ⟨nv.2 hk,C3.me⟩,rfl⟩
       rw [e] at this
       cases this
      rw [wJk ne,hH]
      exact .inr ⟨_,rfl,_,rfl,.inr ⟨ne,rfl,sh1⟩⟩) with ⟨⟨h2,u2,m2⟩,e,J2⟩ | ⟨x,e,r,rfl,hz⟩
   ·erw [e]
    refine .inl ⟨_,rfl,?_⟩
    have:(fun l=>if l < k then dn l else if l=k then (q:Int) else 0)=fun l=>if l < k + 1 then dn l else 0:=funext fun l=>by
     by_cases e1:l < k
     ·rw [if_pos e1,if_pos (by omega)]
     ·rw [if_neg e1]
      by_cases e2:l=k
      ·rw [if_pos e2,if_pos (by omega),e2,hq]
      ·rw [if_neg e2,if_neg (by omega)]
    rw [<- this]
    exact J2
   ·erw [e]
    exact .inr ⟨_,rfl,hz⟩) with ⟨⟨h',u',m'⟩,e,J⟩ | ⟨r,e,hz⟩
 ·erw [e]
  refine ⟨_,rfl,.inl ⟨rfl,?_⟩⟩
  simp only at J
  exact ⟨J.nn,J.pos,J.row,J.cap,fun l hl=>by have:=J.col l hl;rw [if_pos hl] at this;exact this⟩
 ·erw [e]
  exact ⟨r,rfl,hz⟩
theorem Fl.asg {dn:Nat->Int} {h:Arr Int 64} {u:Arr Int 8} (F:Fl n can sh dn h u):Asg n can sh dn (fun s l=>h.get (s * 8 + l)) :=
 ⟨F.nn,F.pos,fun s hs=>by have:=F.row s hs;have:=F.cap s hs;omega,F.col⟩
def Can (n:Nat) (can:Nat->Nat->Bool) (sh dn:Nat->Int):Prop:=∃ x,Asg n can sh dn x
theorem Sol.none_iff {dn:Nat->Int} {r:List Int × HUM} (S:Sol n can sh dn r):r.1=[] ↔ Can n can sh dn:=by
 rcases S with ⟨e,F⟩ | ⟨e,_,lt⟩
 ·exact ⟨fun _=>⟨_,F.asg⟩,fun _=>e⟩
 ·refine ⟨fun q=>absurd q e,fun ⟨x,hx⟩=>?_⟩
  have:=hx.hall (fun l=>r.2.2.2.get (8 + l))
  omega
theorem Sol.short {dn:Nat->Int} {r:List Int × HUM} (S:Sol n can sh dn r) (h:¬ Can n can sh dn):∃ L:Nat->Bool,shL n can sh L < dnL n dn L:=by
 rcases S with ⟨e,F⟩ | ⟨e,_,lt⟩
 ·exact absurd ⟨_,F.asg⟩ h
 ·exact ⟨_,lt⟩
end
end Go.Proofs.Ytkeeechdijfkhaa
namespace Go.KL
variable {S B α:Type}
theorem wLs {body:S->Option (S ⊕ B)} (F:Nat):∀ (m:Nat) (s:Nat->S),(∀ i,i < m->body (s i)=some (.inl (s (i + 1))))->iter body (m + F) (s 0)=iter body F (s m)
 | 0,s,_=>by rw [nj]
 | m + 1,s,h=>by
  rw [show m + 1 + F=(m + F) + 1 by omega,iter,h 0 (by omega)]
  exact wLs F m (fun i=>s (i + 1)) fun i hi=>h (i + 1) (by omega)
theorem wLt {body:S->Option (S ⊕ B)} {m:Nat} (s:Nat->S) (h:∀ i,i < m->body (s i)=some (.inl (s (i + 1)))) {b:B} (hb:body (s m)=some (.inr b)) {s0:S} (h0:s 0=s0) (hm:m < 1000000):iter body big s0=some b:=by
 subst h0
 have:=wLs (big - m - 1 + 1) m s h
 rw [show m + (big - m - 1 + 1)=big by unfold big;omega] at this
 rw [this,iter,hb]
theorem wGk [Inhabited α] {l:List α} {i k:Nat} {x:α} (hi:i < l.length) (hk:k < l.length):gd (l.set i x) k=if k=i then x else gd l k:=by
 have h1:=wBf (xs:=l.set i x) (k:=k) (by rw [kL];exact hk)
 rw [List.getElem?_set] at h1
 by_cases e:i=k
 ·subst e
  rw [if_pos rfl,if_pos hi] at h1
  rw [if_pos rfl]
  exact (nD h1).symm
 ·rw [if_neg e,wBf hk] at h1
  rw [if_neg (fun h=>e h.symm)]
  exact (nD h1).symm
theorem wOW [Inhabited α] {l:List α} {k:Nat} (h:k < l.length):gd l k=l[k]:=by
 have:=wBf h
 rw [ng h] at this
 exact (nD this).symm
end Go.KL
namespace Go.Proofs.Ytkeeechdijfkhaa
open Go.KL
section
variable {K V:Type} [DecidableEq K]
theorem wHr {m:List (K × V)} {x y:K} {v:V}:wDh (mput m x v) y=if y=x then some v else wDh m y:=by
 induction m with
 | nil=>simp only [mput,wDh]
 | cons p m ih =>
  obtain ⟨a,u⟩:=p
  rw [mput]
  by_cases h:x=a
  ·subst h
   rw [if_pos rfl,wDh,wDh]
   split <;> rfl
  ·rw [if_neg h,wDh,wDh,ih]
   by_cases e:y=a
   ·rw [if_pos e,if_pos e,if_neg (by rw [e];exact Ne.symm h)]
   ·rw [if_neg e,if_neg e]
theorem wOX {m:List (K × V)} {x a:K} {v:V} (h:a ∈ (mput m x v).map (·.1)):a=x \/ a ∈ m.map (·.1):=by
 induction m with
 | nil=>exact .inl (by simpa [mput] using h)
 | cons p m ih =>
  obtain ⟨b,u⟩:=p
  rw [mput] at h
  split at h
  ·rename_i e
   rw [nK,nG] at h
   rcases h with h | h
   ·exact .inl h
   ·exact .inr (by rw [nK];exact kP _ h)
  ·rw [nK,nG] at h
   rcases h with h | h
   ·exact .inr (by rw [nK,h];exact List.mem_cons_self)
   ·rcases ih h with h | h
    ·exact .inl h
    ·exact .inr (by rw [nK];exact kP _ h)
theorem wHs {m:List (K × V)} {x:K} {v:V} (h:(m.map (·.1)).Nodup):((mput m x v).map (·.1)).Nodup:=by
 induction m with
 | nil=>simp [mput]
 | cons p m ih =>
  obtain ⟨b,u⟩:=p
  rw [nK,nt] at h
  rw [mput]
  split
  ·rename_i e
   rw [nK,nt,e]
   exact h
  ·rename_i e
   rw [nK,nt]
   refine ⟨fun q=>?_,ih h.2⟩
   rcases wOX q with q | q
   ·exact e q.symm
   ·exact h.1 q
theorem wMg {m:List (K × V)} {x:K} (h:x ∉ m.map (·.1)):wDh m x=none:=by
 induction m with
 | nil=>rfl
 | cons p m ih =>
  obtain ⟨a,u⟩:=p
  rw [nK,nG] at h
  rw [wDh,if_neg fun e=>h (.inl e),ih fun q=>h (.inr q)]
theorem wMh {m:List (K × V)} (hn:(m.map (·.1)).Nodup) {x y:K}:wDh (mdel m x) y=if y=x then none else wDh m y:=by
 induction m with
 | nil=>simp only [mdel,wDh];split <;> rfl
 | cons p m ih =>
  obtain ⟨a,u⟩:=p
  rw [nK,nt] at hn
  rw [mdel]
  by_cases h:x=a
  ·subst h
   rw [if_pos rfl,wDh]
   by_cases e:y=x
   ·rw [if_pos e,e];exact wMg hn.1
   ·rw [if_neg e,if_neg e]
  ·rw [if_neg h,wDh,wDh,ih hn.2]
   by_cases e:y=a
   ·rw [if_pos e,if_pos e,if_neg (by rw [e];exact Ne.symm h)]
   ·rw [if_neg e,if_neg e]
end
theorem wEG (x a b:Int):wAW x a b=some (decide (a <= x/\x <= b)):=by
 unfold wAW
 by_cases h:a <= x
 ·rw [if_pos h];simp [h]
 ·rw [if_neg h];simp [h]
theorem allB {l:List Int} {f:Int->Option Bool} {p:Int->Bool} (hf:∀ a,f a=some (p a)) (hn:l.length <= 9223372036854775807):wBN l f=some (l.all p):=by
 unfold wBN wAn wAw wAy
 have:=wGj (R:=Int) (l:=l) (f:=fun x=>(f x).bind fun x5=>some (!x5)) (p:=fun a=>!p a) (fun a _=>by rw [hf];rfl) hn id
 simp only [id] at this
 rw [this]
 simp only [hH,wGA]
 congr 1
 clear this hn
 induction l with
 | nil=>rfl
 | cons a l ih=>rw [kR,List.all_cons,<- ih];cases p a <;> simp
theorem allP {l:List wAA} {f:wAA->Option Bool} {p:wAA->Bool} (hf:∀ a,f a=some (p a)) (hn:l.length <= 9223372036854775807):wAo l f=some (l.all p):=by
 unfold wAo wAM wAO wAY
 have:=wGj (R:=Int) (l:=l) (f:=fun x=>(f x).bind fun x5=>some (!x5)) (p:=fun a=>!p a) (fun a _=>by rw [hf];rfl) hn id
 simp only [id] at this
 rw [this]
 simp only [hH,wGA]
 congr 1
 clear this hn
 induction l with
 | nil=>rfl
 | cons a l ih=>rw [kR,List.all_cons,<- ih];cases p a <;> simp
def Lt (p q:wAA):Prop:=p.Skier < q.Skier \/ (p.Skier=q.Skier/\p.Lane < q.Lane)
theorem wOY {p q:wAA} (h:Lt p q):wCG p q=some true:=by
 unfold wCG
 rcases h with h | ⟨h1,h2⟩
 ·rw [if_pos h]
 ·rw [if_neg (by omega),if_pos h1,decide_eq_true h2]
structure wNK (n:Nat) (p:wAA):Prop where
 s:0 <= p.Skier/\p.Skier < n
 l:0 <= p.Lane/\p.Lane < n
 ne:p.Skier ≠ p.Lane
structure GoodB (n:Nat) (b:wAC):Prop where
 nb:1 <= n/\n <= 8
 ns:b.Shots.length=n
 nd:b.Down.length=n
 sh:∀ s,s < n->0 <= gd b.Shots s/\gd b.Shots s <= 8
 dn:∀ l,l < n->0 <= gd b.Down l/\gd b.Down l <= 5
 ac:∀ p ∈ b.Across,wNK n p
 so:b.Across.Pairwise Lt
 al:b.Across.length <= 1000
theorem memB {α:Type} [Inhabited α] {l:List α} {a:α} (h:a ∈ l):∃ i,i < l.length/\gd l i=a:=by
 obtain ⟨i,hi,e⟩:=List.getElem_of_mem h
 exact ⟨i,hi,by rw [wOW hi];exact e⟩
theorem wMi {n:Nat} {b:wAC} (G:GoodB n b):wBn b=some 0:=by
 have hn:=G.nb
 unfold wBn
 rw [wEG,hH,if_pos (decide_eq_true (by rw [G.ns];omega)),if_pos (by rw [G.ns,G.nd]),allB (f:=wBB) (p:=fun x=>decide (0 <= x/\x <= 8)) (fun a=>by unfold wBB;rw [wEG];rfl) (by rw [G.ns];omega),hH,if_pos (by
  rw [nf]
  intro x hx
  obtain ⟨i,hi,rfl⟩:=memB hx
  exact decide_eq_true (G.sh i (by rw [<- G.ns];exact hi))),allB (f:=wBC) (p:=fun x=>decide (0 <= x/\x <= 5)) (fun a=>by unfold wBC;rw [wEG];rfl) (by rw [G.nd];omega),hH,if_pos (by
  rw [nf]
  intro x hx
  obtain ⟨i,hi,rfl⟩:=memB hx
  exact decide_eq_true (G.dn i (by rw [<- G.nd];exact hi))),
  allP (f:=fun x=>wBD x (↑b.Shots.length:Int)) (p:=fun p=>decide (0 <= p.Skier/\p.Skier <= (n:Int) - 1) && (decide (0 <= p.Lane/\p.Lane <= (n:Int) - 1) && decide (¬ p.Skier=p.Lane))) (fun p=>by
   unfold wBD
   rw [G.ns,wAf (by omega) (by omega),wEG,hH]
   by_cases h1:0 <= p.Skier/\p.Skier <= (n:Int) - 1
   ·rw [if_pos (decide_eq_true h1),wEG,hH,decide_eq_true h1,Bool.true_and]
    by_cases h2:0 <= p.Lane/\p.Lane <= (n:Int) - 1
    ·rw [if_pos (decide_eq_true h2),decide_eq_true h2,Bool.true_and]
    ·rw [if_neg (by simpa using h2),decide_eq_false h2,Bool.false_and]
   ·rw [if_neg (by simpa using h1),decide_eq_false h1,Bool.false_and]) (by have:=G.al;omega),hH,if_pos (by
  rw [nf]
  intro p hp
  have h:=G.ac p hp
  have h1:=h.s;have h2:=h.l
  rw [nB,nB]
  exact ⟨decide_eq_true (by omega),decide_eq_true (by omega),decide_eq_true h.ne⟩)]
 by_cases e:b.Across.length=0
 ·refine wLt (S:=Int) (m:=0) (fun i=>(i:Int) + 1) (fun i hi=>by omega) ?_ rfl (by omega)
  rw [if_neg (by omega)]
  rfl
 refine wLt (S:=Int) (m:=b.Across.length - 1) (fun i=>(i:Int) + 1) (fun i hi=>?_) ?_ rfl (by have:=G.al;omega)
 ·have al:=G.al
  have h1:i < b.Across.length:=by omega
  have h2:i + 1 < b.Across.length:=by omega
  rw [if_pos (by omega),show w64 ((i:Int) + 1 - 1)=(i:Int) by rw [Int.add_sub_cancel];exact wAf (by omega) (by omega),wCf h1,hH,show ((i:Int) + 1)=((i + 1:Nat):Int) by omega,wCf h2,hH,wOY (by
   have:=List.pairwise_iff_getElem.1 G.so i (i + 1) h1 h2 (by omega)
   rw [wOW h1,wOW h2]
   exact this),hH,if_pos rfl,wAf (by omega) (by omega)]
 ·rw [if_neg (by omega)]
  rfl
def wCu (b:wAC) (s l:Nat):Bool:=decide (s=l) || decide ((⟨(s:Int),(l:Int)⟩:wAA) ∈ b.Across)
theorem wFM {b:wAC} {s l:Nat}:wCu b s l=true ↔ s=l \/ (⟨(s:Int),(l:Int)⟩:wAA) ∈ b.Across:=by
 unfold wCu;simp
def shB (b:wAC) (s:Nat):Int:=gd b.Shots s
def dnB (b:wAC) (l:Nat):Int:=gd b.Down l
theorem wHt {n:Nat} {b:wAC} (n8:n <= 8) (ns:b.Shots.length=n) (al:b.Across.length <= 1000):∃ may m,wBR b=some ⟨b,may,Arr.fill 64 0,Arr.fill 8 0,m⟩/\(may.map (·.1)).Nodup/\∀ s l:Nat,s < n->wDt may ⟨(s:Int),(l:Int)⟩ false=wCu b s l:=by
 unfold wBR
 obtain ⟨m1,e1,u1,g1⟩:∃ m1,(wCq 0 (↑b.Shots.length:Int) (fun (k28:Nat) l25 =>
  some (mput l25 (⟨(↑k28:Int),(↑k28:Int)⟩:wAA) true)) ([]:List (wAA × Bool)))=some m1/\(m1.map (·.1)).Nodup/\∀ q,wDh m1 q=if 0 <= q.Skier/\q.Skier < n/\q.Lane=q.Skier then some true else none:=by
  rw [ns,wCz (by omega)]
  obtain ⟨m1,e,h1,h2⟩:=wDg (S:=List (wAA × Bool)) (body:=fun (k28:Nat) l25=>some (mput l25 (⟨(↑k28:Int),(↑k28:Int)⟩:wAA) true)) (fun k m=>(m.map (·.1)).Nodup/\∀ q,wDh m q=if 0 <= q.Skier/\q.Skier < k/\q.Lane=q.Skier then some true else none) n 0 [] ⟨List.nodup_nil,fun q=>by rw [if_neg (by omega)];rfl⟩ (fun i m _ hi ⟨h1,h2⟩=>⟨_,rfl,wHs h1,fun q=>by
   rw [wHr,h2]
   by_cases e:q=⟨(i:Int),(i:Int)⟩
   ·rw [if_pos e,if_pos (show 0 <= q.Skier/\q.Skier < ((i + 1:Nat):Int)/\q.Lane=q.Skier by
     subst e
     refine ⟨Int.natCast_nonneg i,?_,rfl⟩
     show (i:Int) < ((i + 1:Nat):Int)
     omega)]
   ·rw [if_neg e]
    have ne:¬ (q.Skier=i/\q.Lane=i):=fun h=>e (by obtain ⟨a,c⟩:=q;simp only at h;rw [h.1,h.2])
    by_cases c:0 <= q.Skier/\q.Skier < i/\q.Lane=q.Skier
    ·rw [if_pos c,if_pos (by omega)]
    ·rw [if_neg c,if_neg (by omega)]⟩)
  rw [nj] at h2
  exact ⟨m1,e,h1,h2⟩
 rw [e1,hH]
 obtain ⟨m2,e2,u2,g2⟩:∃ m2,(wCq 0 (↑b.Across.length:Int) (fun (k90:Nat) l87 =>
  (idx b.Across (↑k90:Int)).bind fun x112 =>
  some (mput l87 x112 true)) m1)=some m2/\(m2.map (·.1)).Nodup/\∀ q,wDh m2 q=if q ∈ b.Across.take b.Across.length then some true else wDh m1 q:=by
  rw [wCz (by omega)]
  obtain ⟨m2,e,h1,h2⟩:=wDg (S:=List (wAA × Bool)) (body:=fun (k90:Nat) l87 =>
  (idx b.Across (↑k90:Int)).bind fun x112 =>
  some (mput l87 x112 true)) (fun k m=>(m.map (·.1)).Nodup/\∀ q,wDh m q=if q ∈ b.Across.take k then some true else wDh m1 q) b.Across.length 0 m1 ⟨u1,fun q=>by rw [List.take_zero,if_neg (by simp)]⟩ (by
   rintro i m _ hi ⟨h1,h2⟩
   have hi:i < b.Across.length:=by omega
   refine ⟨_,by rw [wCf hi,hH],wHs h1,fun q=>?_⟩
   rw [wHr,h2,wLl hi]
   by_cases e:q=gd b.Across i
   ·rw [if_pos e,if_pos (by rw [e];simp)]
   ·rw [if_neg e]
    by_cases c:q ∈ b.Across.take i
    ·rw [if_pos c,if_pos (nc _ c)]
    ·rw [if_neg c,if_neg fun h=>(nH.1 h).elim c fun h=>e (nZ.1 h)])
  rw [nj] at h2
  exact ⟨m2,e,h1,h2⟩
 rw [e2,hH]
 refine ⟨m2,_,rfl,u2,fun s l hs=>?_⟩
 unfold wDt
 rw [g2,List.take_length,g1]
 unfold wCu
 by_cases c:(⟨(s:Int),(l:Int)⟩:wAA) ∈ b.Across
 ·rw [if_pos c,decide_eq_true c,Bool.or_true];rfl
 ·rw [if_neg c,decide_eq_false c,Bool.or_false]
  by_cases e:s=l
  ·rw [if_pos (by simp only;omega),decide_eq_true e];rfl
  ·rw [if_neg (by simp only;omega),decide_eq_false e];rfl
theorem wIi {n:Nat} {can:Nat->Nat->Bool} {sh:Nat->Int} (n8:n <= 8) (h:∀ s,s < n->0 <= sh s):Fl n can sh (fun _=>0) (Arr.fill 64 0) (Arr.fill 8 0):=by
 have g:∀ s l,s < n->l < n->(Arr.fill 64 (0:Int)).get (s * 8 + l)=0:=fun s l hs hl=>wEf (by omega)
 have g2:∀ s,s < n->(Arr.fill 8 (0:Int)).get s=0:=fun s hs=>wEf (by omega)
 exact ⟨fun s l hs hl=>by rw [g s l hs hl];exact nX _,fun s l hs hl q=>by rw [g s l hs hl] at q;omega,fun s hs=>by rw [g2 s hs];exact wBh n fun l hl=>g s l hs hl,fun s hs=>by rw [g2 s hs];exact h s hs,fun l hl=>wBh n fun s hs=>g s l hs hl⟩
theorem wJX {n:Nat} {b:wAC} (G:GoodB n b):∃ may m,wBY b=some (some ⟨b,may,Arr.fill 64 0,Arr.fill 8 0,m⟩,0)/\(may.map (·.1)).Nodup/\Desk n (wCu b) (shB b) b may:=by
 obtain ⟨may,m,e,h1,h2⟩:=wHt (by have:=G.nb;omega) G.ns G.al
 refine ⟨may,m,?_,h1,⟨by have:=G.nb;omega,G.ns,G.nd,fun s hs=>⟨rfl,by have:=G.sh s hs;unfold shB;omega⟩,fun s l hs _=>h2 s l hs⟩⟩
 unfold wBY
 rw [wMi G,hH,if_pos rfl,e,hH]
theorem GoodB.solve {n:Nat} {b:wAC} (G:GoodB n b) {may:List (wAA × Bool)} (K:Desk n (wCu b) (shB b) b may) (m:Arr Bool 16):∃ r,wAZ ⟨b,may,Arr.fill 64 0,Arr.fill 8 0,m⟩=some r/\Sol n (wCu b) (shB b) (dnB b) r :=
 wHM K (fun l hl=>⟨rfl,by have:=G.dn l hl;omega⟩) m (wIi K.n8 fun s hs=>(G.sh s hs).1)
end Go.Proofs.Ytkeeechdijfkhaa
namespace Go.Proofs.Ytkeeechdijfkhaa
open Go.KL
def wMj (b:wAC) (s l s' l':Nat):Bool:=if s'=s/\l'=l then false else wCu b s' l'
def shW (b:wAC) (s k s':Nat):Int:=if s'=s then shB b s - k else shB b s'
def dnW (b:wAC) (l k l':Nat):Int:=if l'=l then dnB b l - k else dnB b l'
def PW (n:Nat) (b:wAC) (s l k:Nat):Prop:=Can n (wMj b s l) (shW b s k) (dnW b l k)
section
variable {n:Nat} {b:wAC} {may:List (wAA × Bool)}
theorem wOZ {s l k:Nat} (hl:l < n) (L:Nat->Bool):dnL n (dnW b l k) L=dnL n (dnB b) L - (if L l=true then (k:Int) else 0):=by
 unfold dnL
 rw [wCY (f:=fun i=>if L i=true then dnB b i else 0) (g:=fun i=>if L i=true then dnW b l k i else 0) hl fun i hi hne=>by unfold dnW;rw [if_neg hne]]
 unfold dnW
 simp only [if_true]
 split <;> omega
theorem wOa {s k:Nat} (hs:s < n) (can:Nat->Nat->Bool) (L:Nat->Bool):shL n can (shW b s k) L=shL n can (shB b) L - (if adj n can L s=true then (k:Int) else 0):=by
 unfold shL
 rw [wCY (f:=fun i=>if adj n can L i=true then shB b i else 0) (g:=fun i=>if adj n can L i=true then shW b s k i else 0) hs fun i hi hne=>by unfold shW;rw [if_neg hne]]
 unfold shW
 simp only [if_true]
 split <;> omega
theorem wOb {s l i j k:Nat} (hs:s < n) (hl:l < n) (h1:PW n b s l i) (h2:PW n b s l k) (hij:i <= j) (hjk:j <= k) (L:Nat->Bool):¬ shL n (wMj b s l) (shW b s j) L < dnL n (dnW b l j) L:=by
 obtain ⟨x,hx⟩:=h1
 obtain ⟨y,hy⟩:=h2
 have a:=hx.hall L
 have c:=hy.hall L
 rw [wOZ (s:=s) hl,wOa hs] at a c ⊢
 split at a <;> split at a <;> simp_all <;> omega
theorem wGl (G:GoodB n b) {s l k:Nat} (hs:s < n) (hl:l < n) (h1:(k:Int) <= shB b s) (h2:(k:Int) <= dnB b l) (h:Arr Int 64) (u:Arr Int 8) (m:Arr Bool 16):∃ b' may' m',wAp ⟨b,may,h,u,m⟩ (s:Int) (l:Int) (k:Int)=some ⟨b',may',Arr.fill 64 0,Arr.fill 8 0,m'⟩ /\
  Desk n (wMj b s l) (shW b s k) b' may'/\∀ j,j < n->gd b'.Down j=dnW b l k j/\0 <= dnW b l k j/\dnW b l k j <= 1000:=by
 have hn:=G.nb
 have hS:s < b.Shots.length:=by rw [G.ns];exact hs
 have hD:l < b.Down.length:=by rw [G.nd];exact hl
 have cl:∀ x:List Int,x.length <= 8->wAP x=some x:=fun x hx=>by
  unfold wAP
  rw [wDA (by simp only [nO];omega)]
  rfl
 have b1:=G.sh s hs;have b2:=G.dn l hl
 unfold shB at h1;unfold dnB at h2
 unfold wAp
 simp only
 rw [cl _ (by rw [G.ns];omega),hH,cl _ (by rw [G.nd];omega),hH,wCi (by omega) (by omega),hH,wCi (by omega) (by omega),hH,nW,nW,wAf (by omega) (by omega),wAf (by omega) (by omega)]
 obtain ⟨may',m',e,u1,g⟩:=wHt (b:=⟨b.Shots.set s (gd b.Shots s - k),b.Down.set l (gd b.Down l - k),b.Across⟩) (n:=n) (by omega) (by simp [G.ns]) G.al
 rw [e,hH]
 refine ⟨_,_,_,rfl,⟨by omega,by simp [G.ns],by simp [G.nd],fun i hi=>?_,fun i j hi hj=>?_⟩,fun j hj=>?_⟩
 ·simp only
  rw [wGk hS (by rw [G.ns];exact hi)]
  have:=G.sh i hi
  unfold shW shB
  split <;> simp <;> omega
 ·unfold wDt
  simp only
  rw [wMh u1]
  unfold wMj
  by_cases c:i=s/\j=l
  ·rw [if_pos (by rw [c.1,c.2]),if_pos c];rfl
  ·rw [if_neg (by
    intro q
    injection q with q1 q2
    exact c ⟨by omega,by omega⟩),if_neg c]
   exact g i j hi
 ·simp only
  rw [wGk hD (by rw [G.nd];exact hj)]
  have:=G.dn j hj
  unfold dnW dnB
  split <;> omega
def wCZ (b:wAC) (s l:Nat):Int:=if wCu b s l=true then min (shB b s) (dnB b l) else 0
theorem wOc (G:GoodB n b) (K:Desk n (wCu b) (shB b) b may) {s l:Nat} (hs:s < n) (hl:l < n) (h:Arr Int 64) (u:Arr Int 8) (m:Arr Bool 16):wBO ⟨b,may,h,u,m⟩ (s:Int) (l:Int)=some (wCZ b s l):=by
 unfold wBO
 rw [K.can_is hs hl,hH]
 unfold wCZ
 by_cases c:wCu b s l=true
 ·rw [if_pos c,if_pos c]
  simp only
  rw [wCf (by rw [G.ns];exact hs),hH,wCf (by rw [G.nd];exact hl),hH]
  rfl
 ·rw [if_neg c,if_neg c]
theorem wOd (G:GoodB n b) (K:Desk n (wCu b) (shB b) b may) {s l:Nat} (hs:s < n) (hl:l < n) (h:Arr Int 64) (u:Arr Int 8) (m:Arr Bool 16):∃ lo hi,wBP ⟨b,may,h,u,m⟩ (s:Int) (l:Int)=some ⟨lo,hi⟩ /\
  (((∀ k:Nat,(k:Int) <= wCZ b s l->¬ PW n b s l k)/\lo=-1/\hi=0) \/ ∃ a c:Nat,lo=a/\hi=c/\a <= c/\(c:Int) <= wCZ b s l/\∀ k:Nat,(k:Int) <= wCZ b s l->(PW n b s l k ↔ a <= k/\k <= c)):=by
 have hn:=G.nb
 have b1:=G.sh s hs;have b2:=G.dn l hl
 have hm:0 <= wCZ b s l/\wCZ b s l <= 5/\wCZ b s l <= shB b s/\wCZ b s l <= dnB b l:=by
  unfold wCZ shB dnB
  split <;> omega
 unfold wBP
 rw [wOc G K hs hl,hH]
 obtain ⟨M,hM⟩:∃ M:Nat,wCZ b s l=M:=⟨(wCZ b s l).toNat,by omega⟩
 rw [hM] at hm ⊢
 rw [wAf (by omega) (by omega),show ((M:Int) + 1)=((M + 1:Nat):Int) by omega,wCz (by omega)]
 obtain ⟨⟨lo,hi⟩,e,I⟩:=wDg (S:=Int × Int) (body:=fun (k35:Nat) ((x33,x34):Int × Int) =>
  (wAp ⟨b,may,h,u,m⟩ (s:Int) (l:Int) (↑k35:Int)).bind fun x66 =>
  (wAZ x66).bind fun (x92,x93) =>
  if x92=[] then
   if x33 < 0 then
    some ((↑k35:Int),(↑k35:Int))
   else
    some (x33,(↑k35:Int))
  else
   some (x33,x34)) (fun k st=>((∀ j,j < k->¬ PW n b s l j)/\st=(-1,0)) \/ ∃ a c:Nat,st=((a:Int),(c:Int))/\a <= c/\c < k/\PW n b s l a/\PW n b s l c/\∀ j,j < k->PW n b s l j->a <= j/\j <= c) (M + 1) 0 (-1,0) (.inl ⟨fun j hj=>by omega,rfl⟩)
  (by
   rintro k ⟨lo,hi⟩ _ hk I
   obtain ⟨b',may',m',e1,K',d'⟩:=wGl (may:=may) G hs hl (show (k:Int) <= shB b s by omega) (show (k:Int) <= dnB b l by omega) h u m
   obtain ⟨r,e2,S⟩:=wHM K' d' m' (wIi K'.n8 fun i hi=>by
    have:=G.sh i hi
    unfold shW
    split
    ·omega
    ·exact this.1)
   simp only
   rw [e1,hH,e2,hH]
   by_cases c:r.1=[]
   ·rw [if_pos c]
    have P:PW n b s l k:=S.none_iff.1 c
    rcases I with ⟨g,e⟩ | ⟨a,c',e,h1,h2,h3,h4,h5⟩
    ·injection e with e3 e4
     subst e3 e4
     rw [if_pos (by omega)]
     exact ⟨_,rfl,.inr ⟨k,k,rfl,nI _,by omega,P,P,fun j hj q=>by
      by_cases e:j=k
      ·omega
      ·exact absurd q (g j (by omega))⟩⟩
    ·injection e with e3 e4
     subst e3 e4
     rw [if_neg (by omega)]
     exact ⟨_,rfl,.inr ⟨a,k,rfl,by omega,by omega,h3,P,fun j hj q=>by
      by_cases e:j=k
      ·omega
      ·have:=h5 j (by omega) q;omega⟩⟩
   ·rw [if_neg c]
    have nP:¬ PW n b s l k:=fun q=>c (S.none_iff.2 q)
    refine ⟨_,rfl,?_⟩
    rcases I with ⟨g,e⟩ | ⟨a,c',e,h1,h2,h3,h4,h5⟩
    ·exact .inl ⟨fun j hj=>by
      by_cases e:j=k
      ·rw [e];exact nP
      ·exact g j (by omega),e⟩
    ·exact .inr ⟨a,c',e,h1,by omega,h3,h4,fun j hj q=>by
      by_cases e:j=k
      ·rw [e] at q;exact absurd q nP
      ·exact h5 j (by omega) q⟩)
 rw [e,hH]
 refine ⟨lo,hi,rfl,?_⟩
 rw [nj] at I
 rcases I with ⟨g,e⟩ | ⟨a,c,e,h1,h2,h3,h4,h5⟩
 ·injection e with e3 e4
  exact .inl ⟨fun k hk=>g k (by omega),e3,e4⟩
 ·injection e with e3 e4
  refine .inr ⟨a,c,e3,e4,h1,by omega,fun k hk=>⟨fun q=>h5 k (by omega) q,fun ⟨q1,q2⟩=>?_⟩⟩
  apply Classical.byContradiction
  intro np
  obtain ⟨b',may',m',e1,K',d'⟩:=wGl (may:=may) G hs hl (show (k:Int) <= shB b s by omega) (show (k:Int) <= dnB b l by omega) h u m
  obtain ⟨r,e2,S⟩:=wHM K' d' m' (wIi K'.n8 fun i hi=>by
    have:=G.sh i hi
    unfold shW
    split
    ·omega
    ·exact this.1)
  obtain ⟨L,lt⟩:=S.short np
  exact wOb hs hl h3 h4 q1 q2 L lt
end
end Go.Proofs.Ytkeeechdijfkhaa
namespace Go.Proofs.Ytkeeechdijfkhaa
open Go.KL
section
variable {n:Nat} {b:wAC}
theorem wOe {x:List Int} (hx:x.length <= 1000):wAP x=some x:=by
 unfold wAP
 rw [wDA (by simp only [nO];omega)]
 rfl
theorem cut_B {x:List Int} {k:Nat} (h:k <= x.length):cut x 0 (k:Int)=some (x.take k):=by
 unfold cut
 rw [if_pos ⟨by omega,by omega,by omega⟩]
 simp
def tabN (h:Arr Int 64) (n k:Nat):List (List Int):=(ny k).map fun s=>((h.l.drop (s * 8)).take 8).take n
def tab (h:Arr Int 64) (n:Nat):List (List Int):=tabN h n n
theorem wLu (G:GoodB n b):∃ t c,wBg b=some (t,c)/\((Can n (wCu b) (shB b) (dnB b)/\c=0/\∃ h u,Fl n (wCu b) (shB b) (dnB b) h u/\t=tab h n) \/ (¬ Can n (wCu b) (shB b) (dnB b)/\t=[]/\c=7)):=by
 have hn:=G.nb
 obtain ⟨may,m,e1,_,K⟩:=wJX G
 obtain ⟨⟨L,h,u,m2⟩,e2,S⟩:=G.solve K m
 unfold wBg wCI
 rw [e1,hH]
 simp only [if_true]
 rw [e2,hH]
 simp only
 by_cases c:L=[]
 ·have C:Can n (wCu b) (shB b) (dnB b):=S.none_iff.1 c
  rw [if_pos c,hH]
  simp only [if_true]
  rw [G.ns,G.nd]
  rw [wEb (S:=List (List Int)) (n:=n) (fun k=>tabN h n k) (s0:=[]) rfl (by omega) fun k hk=>?_]
  ·have F:Fl n (wCu b) (shB b) (dnB b) h u:=by
    rcases S with ⟨_,F⟩ | ⟨q,_⟩
    ·exact F
    ·exact absurd c q
   exact ⟨_,_,rfl,.inl ⟨C,rfl,h,u,F,rfl⟩⟩
  ·have hh:=h.h
   have hlen:((h.l.drop (k * 8)).take 8).length=8:=by rw [kC,List.length_drop];omega
   rw [wCi (by omega) (by omega),hH,cut_B (by rw [hlen];omega),hH,wOe (by rw [kC];omega),hH,wDA (by unfold tabN;simp only [kH,List.length_range,nk,nO];omega),hH]
   unfold tabN
   rw [kJ,kK]
   rfl
 ·have nC:¬ Can n (wCu b) (shB b) (dnB b):=fun q=>c (S.none_iff.2 q)
  rw [if_neg c,hH]
  simp only
  rw [if_neg (by decide)]
  exact ⟨_,_,rfl,.inr ⟨nC,rfl,rfl⟩⟩
theorem wOf (G:GoodB n b) {s l:Nat} (hs:s < n) (hl:l < n):∃ r,wCH b (s:Int) (l:Int)=some r/\((¬ Can n (wCu b) (shB b) (dnB b)/\r=(⟨0,0⟩,7)) \/ (Can n (wCu b) (shB b) (dnB b)/\∃ lo hi,r=(⟨lo,hi⟩,0) /\
  (((∀ k:Nat,(k:Int) <= wCZ b s l->¬ PW n b s l k)/\lo=-1/\hi=0) \/ ∃ a c:Nat,lo=a/\hi=c/\a <= c/\(c:Int) <= wCZ b s l/\∀ k:Nat,(k:Int) <= wCZ b s l->(PW n b s l k ↔ a <= k/\k <= c)))):=by
 have hn:=G.nb
 obtain ⟨may,m,e1,_,K⟩:=wJX G
 obtain ⟨⟨L,h,u,m2⟩,e2,S⟩:=G.solve K m
 unfold wCH wBq
 rw [e1,hH]
 simp only [if_true]
 rw [G.ns,wAf (by omega) (by omega),wEG,hH,if_pos (decide_eq_true (by omega)),G.nd,wAf (by omega) (by omega),wEG,hH,if_pos (decide_eq_true (by omega)),e2,hH]
 simp only
 by_cases c:L=[]
 ·have C:Can n (wCu b) (shB b) (dnB b):=S.none_iff.1 c
  obtain ⟨lo,hi,e3,q⟩:=wOd G K hs hl h u m2
  rw [if_pos c,hH]
  simp only [if_true]
  rw [e3,hH]
  exact ⟨_,rfl,.inr ⟨C,lo,hi,rfl,q⟩⟩
 ·have nC:¬ Can n (wCu b) (shB b) (dnB b):=fun q=>c (S.none_iff.2 q)
  rw [if_neg c,hH]
  simp only
  rw [if_neg (by decide)]
  exact ⟨_,rfl,.inl ⟨nC,rfl⟩⟩
end
end Go.Proofs.Ytkeeechdijfkhaa
namespace Go.Proofs.Ytkeeechdijfkhaa
open Go.KL
section
variable {n:Nat} {b:wAC}
theorem pw_of {x:Nat->Nat->Int} (A:Asg n (wCu b) (shB b) (dnB b) x) {s l k:Nat} (hs:s < n) (hl:l < n) (hk:x s l=k):PW n b s l k:=by
 refine ⟨fun s' l'=>if s'=s/\l'=l then 0 else x s' l',fun i j hi hj=>?_,fun i j hi hj q=>?_,fun i hi=>?_,fun j hj=>?_⟩
 ·split
  ·exact nX _
  ·exact A.nn i j hi hj
 ·unfold wMj
  split at q
  ·omega
  ·rename_i c;rw [if_neg c];exact A.pos i j hi hj q
 ·unfold shW
  by_cases e:i=s
  ·subst e
   rw [if_pos rfl,wCY (f:=x i) (g:=fun l'=>if i=i/\l'=l then 0 else x i l') hl fun j hj hne=>by rw [if_neg fun c=>hne c.2]]
   have:=A.row i hi
   rw [if_pos ⟨rfl,rfl⟩,hk]
   omega
  ·rw [if_neg e]
   refine kV (Int.le_of_eq (wAx n fun j hj=>?_)) (A.row i hi)
   rw [if_neg fun c=>e c.1]
 ·unfold dnW
  by_cases e:j=l
  ·subst e
   rw [if_pos rfl,wCY (f:=fun i=>x i j) (g:=fun i=>if i=s/\j=j then 0 else x i j) hs fun i hi hne=>by rw [if_neg fun c=>hne c.1],A.col j hj,if_pos ⟨rfl,rfl⟩,hk]
   omega
  ·rw [if_neg e,<- A.col j hj]
   exact wAx n fun i hi=>by rw [if_neg fun c=>e c.2]
structure Twin (n:Nat) (b:wAC) (s l k:Nat) (can:Nat->Nat->Bool) (sh dn:Nat->Int):Prop where
 c1:∀ i j,i < n->j < n->i ≠ s->can i j=wCu b i j
 c2:∀ j,j < n->can n j=wMj b s l s j
 s1:∀ i,i < n->i ≠ s->sh i=shB b i
 s2:sh s=0
 s3:sh n=shB b s - k
 d1:∀ j,j < n->dn j=dnW b l k j
 d2:dn n=0
theorem wMk {s l k:Nat} {can:Nat->Nat->Bool} {sh dn:Nat->Int} (T:Twin n b s l k can sh dn) (hs:s < n) (hl:l < n):PW n b s l k ↔ Can (n + 1) can sh dn:=by
 constructor
 ·rintro ⟨x,A⟩
  refine ⟨fun i j=>if j=n then 0 else if i=s then 0 else if i=n then x s j else x i j,fun i j hi hj=>?_,fun i j hi hj q=>?_,fun i hi=>?_,fun j hj=>?_⟩
  ·by_cases e1:j=n
   ·rw [if_pos e1];exact nX _
   rw [if_neg e1]
   by_cases e2:i=s
   ·rw [if_pos e2];exact nX _
   rw [if_neg e2]
   by_cases e3:i=n
   ·rw [if_pos e3];exact A.nn s j hs (by omega)
   ·rw [if_neg e3];exact A.nn i j (by omega) (by omega)
  ·by_cases e1:j=n
   ·rw [if_pos e1] at q;omega
   rw [if_neg e1] at q
   by_cases e2:i=s
   ·rw [if_pos e2] at q;omega
   rw [if_neg e2] at q
   by_cases e3:i=n
   ·rw [if_pos e3] at q
    rw [e3,T.c2 j (by omega)]
    exact A.pos s j hs (by omega) q
   ·rw [if_neg e3] at q
    rw [T.c1 i j (by omega) (by omega) e2]
    have:=A.pos i j (by omega) (by omega) q
    unfold wMj at this
    rw [if_neg fun c=>e2 c.1] at this
    exact this
  ·rw [wBz,if_pos rfl,kW]
   by_cases e2:i=s
   ·rw [e2,T.s2,wBh n fun j hj=>by rw [if_neg (by omega),if_pos rfl]]
    exact nX _
   by_cases e3:i=n
   ·rw [e3,T.s3,wAx n fun j hj=>by rw [if_neg (show ¬ j=n by omega),if_neg (show ¬ n=s by omega),if_pos rfl]]
    have:=A.row s hs
    unfold shW at this
    rw [if_pos rfl] at this
    exact this
   ·rw [T.s1 i (by omega) e2,wAx n fun j hj=>by rw [if_neg (show ¬ j=n by omega),if_neg e2,if_neg e3]]
    have:=A.row i (by omega)
    unfold shW at this
    rw [if_neg e2] at this
    exact this
  ·by_cases e1:j=n
   ·rw [e1,T.d2]
    exact wBh (n + 1) fun i _=>if_pos rfl
   rw [T.d1 j (by omega),<- A.col j (by omega),wBz,if_neg e1,if_neg (show ¬ n=s by omega),if_pos rfl]
   rw [wCY (f:=fun i=>x i j) (g:=fun i=>if j=n then 0 else if i=s then 0 else if i=n then x s j else x i j) hs fun i hi hne=>by rw [if_neg e1,if_neg hne,if_neg (by omega)]]
   rw [if_neg e1,if_pos rfl]
   omega
 ·rintro ⟨y,A⟩
  have z:∀ j,j < n->y s j=0:=fun j hj=>by
   have a:=wEF (f:=y s) (fun i hi=>A.nn s i (by omega) hi) (show j < n + 1 by omega)
   have c:=A.row s (by omega)
   have d:=A.nn s j (by omega) (by omega)
   rw [T.s2] at c
   omega
  refine ⟨fun i j=>if i=s then y n j else y i j,fun i j hi hj=>?_,fun i j hi hj q=>?_,fun i hi=>?_,fun j hj=>?_⟩
  ·split
   ·exact A.nn n j (by omega) (by omega)
   ·exact A.nn i j (by omega) (by omega)
  ·by_cases e:i=s
   ·rw [if_pos e] at q
    rw [e,<- T.c2 j hj]
    exact A.pos n j (by omega) (by omega) q
   ·rw [if_neg e] at q
    unfold wMj
    rw [if_neg fun c=>e c.1,<- T.c1 i j hi hj e]
    exact A.pos i j (by omega) (by omega) q
  ·unfold shW
   by_cases e:i=s
   ·simp only [if_pos e]
    have c:=A.row n (by omega)
    have d:=A.nn n n (by omega) (by omega)
    rw [T.s3,wBz] at c
    show wBz (y n) n <= _
    omega
   ·simp only [if_neg e]
    have c:=A.row i (by omega)
    have d:=A.nn i n (by omega) (by omega)
    rw [T.s1 i hi e,wBz] at c
    show wBz (y i) n <= _
    omega
  ·have c:=A.col j (by omega)
   rw [wBz,T.d1 j hj] at c
   rw [<- c,wCY (f:=fun i=>y i j) (g:=fun i=>if i=s then y n j else y i j) hs fun i hi hne=>if_neg hne,if_pos rfl,z j hj]
   omega
end
end Go.Proofs.Ytkeeechdijfkhaa
namespace Go.Proofs.Ytkeeechdijfkhaa
open Go.KL
theorem wLv {a b:Int} (h0:0 <= a) (hb:0 < b):∃ x,rem a b=some x/\0 <= x/\x < b:=by
 refine ⟨a.tmod b,if_neg (by omega),?_,?_⟩
 ·rw [nq h0];exact Int.emod_nonneg _ (by omega)
 ·rw [nq h0];exact kX _ hb
theorem wIj (x:Int):0 <= wDR x:=by unfold wDR;omega
theorem wOg (x:Int):wDR x < 4294967296:=by unfold wDR;omega
theorem w64u (x:Int):w64 (wDR x)=wDR x:=by
 have:=wIj x
 have:=wOg x
 exact wAf (by omega) (by omega)
theorem wMl (a:Int) {b:Int} (hb:b ≠ 0):∃ x,quo a b=some x:=⟨_,if_neg hb⟩
theorem wLw (d:wAE) (n:Int) (h0:0 <= d.next) (h1:d.next <= 1000000):∃ x d',wAU d n=some (x,d')/\0 <= d'.next/\d'.next <= d.next + 1/\0 <= x/\(x < n \/ (n <= 1/\x=0)):=by
 unfold wAU
 by_cases hn:n <= 1
 ·exact ⟨0,d,by rw [if_pos hn],h0,by omega,by omega,.inr ⟨hn,rfl⟩⟩
 rw [if_neg hn]
 by_cases hl:(d.bytes.length:Int)=0
 ·exact ⟨0,d,by rw [if_pos hl],h0,by omega,by omega,.inl (by omega)⟩
 rw [if_neg hl]
 obtain ⟨r,e1,r0,r1⟩:=wLv h0 (show (0:Int) < d.bytes.length by omega)
 obtain ⟨b,e2⟩:∃ b,idx d.bytes r=some b:=by
  unfold idx
  rw [if_pos r0,ng (by omega)]
  exact ⟨_,rfl⟩
 obtain ⟨q,e3⟩:=wMl d.next (b:=d.bytes.length) hl
 obtain ⟨st,e4,_,_⟩:=wLv (wIj ((wDR ((wDR ((wDR (d.state * 45)) + (wDR b))) + (wDR (77 * (wDR q))))) + 1)) (b:=65519) (by decide)
 rw [e1,hH,e2,hH,e3,hH,e4,hH,wAf (x:=d.next + 1) (by omega) (by omega)]
 have fin:∀ z:Int,∃ x d',((rem (w64 (wDR z)) n).bind fun x=>some (x,(⟨d.bytes,d.next + 1,st⟩:wAE)))=some (x,d')/\0 <= d'.next/\d'.next <= d.next + 1/\0 <= x/\(x < n \/ (n <= 1/\x=0)):=by
  intro z
  obtain ⟨x,e5,x0,x1⟩:=wLv (a:=w64 (wDR z)) (b:=n) (by rw [w64u];exact wIj z) (by omega)
  exact ⟨x,_,by rw [e5];rfl,by show 0 <= d.next + 1;omega,by show d.next + 1 <= _;omega,x0,.inl x1⟩
 by_cases c1:wDR q=0
 ·rw [if_pos c1]
  by_cases c2:n <= 256
  ·rw [if_pos c2];exact fin _
  ·rw [if_neg c2];exact fin _
 ·rw [if_neg c1];exact fin _
theorem wOh (d:wAE) (a b:Int) (h0:0 <= d.next) (h1:d.next <= 1000000) (ha:-1000000 <= a) (hab:a <= b) (hb:b <= 1000000):∃ x d',wAS d a b=some (x,d')/\0 <= d'.next/\d'.next <= d.next + 1/\a <= x/\x <= b:=by
 unfold wAS
 rw [wAf (x:=b - a) (by omega) (by omega),wAf (x:=b - a + 1) (by omega) (by omega)]
 obtain ⟨x,d',e,n0,n1,x0,x1⟩:=wLw d (b - a + 1) h0 h1
 refine ⟨a + x,d',?_,n0,n1,by omega,by omega⟩
 rw [e,hH]
 simp only
 rw [wAf (by omega) (by omega)]
end Go.Proofs.Ytkeeechdijfkhaa
namespace Go.Proofs.Ytkeeechdijfkhaa
open Go.KL
def wDP (d:wAE) (n:Int):Prop:=0 <= d.next/\d.next <= n
theorem wNL {d:wAE} {N:Int} (h:wDP d N) (hN:N <= 1000000) (n:Int):∃ x d',wAU d n=some (x,d')/\wDP d' (N + 1)/\0 <= x/\(x < n \/ (n <= 1/\x=0)):=by
 obtain ⟨x,d',e,a,b,c⟩:=wLw d n h.1 (by have:=h.2;omega)
 exact ⟨x,d',e,⟨a,by have:=h.2;omega⟩,c⟩
theorem wNM {d:wAE} {N:Int} (h:wDP d N) (hN:N <= 1000000) {a b:Int} (ha:-1000000 <= a) (hab:a <= b) (hb:b <= 1000000):∃ x d',wAS d a b=some (x,d')/\wDP d' (N + 1)/\a <= x/\x <= b:=by
 obtain ⟨x,d',e,c,c2,c3⟩:=wOh d a b h.1 (by have:=h.2;omega) ha hab hb
 exact ⟨x,d',e,⟨c,by have:=h.2;omega⟩,c3⟩
theorem wJz {S:Type} {body:Nat->S->Option S} {n:Nat} {s0:S} (I:Nat->S->Prop) (hn:n <= 1000) (h0:I 0 s0) (h:∀ i s,i < n->I i s->∃ s',body i s=some s'/\I (i + 1) s'):∃ s,wCq 0 (n:Int) body s0=some s/\I n s:=by
 rw [wCz (by omega)]
 have:=wDg (body:=body) I n 0 s0 h0 fun i s _ h2 h3=>h i s (by omega) h3
 rwa [nj] at this
end Go.Proofs.Ytkeeechdijfkhaa
namespace Go.Proofs.Ytkeeechdijfkhaa
open Go.KL
theorem wGE {l:List wAA} (b:wAA) (hn:l.length <= 1000):wAG l b=some (decide (b ∈ l)):=by
 have key:∀ (m k:Nat),k + m=l.length->∃ q,jn (forN (B:=Int) (fun k2 _ =>
   (idx l (↑k2:Int)).bind fun x22 =>
   if b=x22 then
    esc (some (↑k2:Int))
   else
    some (.inl ())) m k ()) (fun _=>some (-1))=some q/\(0 <= q ↔ b ∈ l.drop k):=by
  intro m
  induction m with
  | zero=>intro k hk;exact ⟨-1,rfl,by rw [kM (by omega)];simp⟩
  | succ m ih =>
   intro k hk
   have hlt:k < l.length:=by omega
   rw [forN,wOU hlt,wCf hlt,hH]
   by_cases e:b=gd l k
   ·rw [if_pos e]
    exact ⟨(k:Int),rfl,by simp [e]⟩
   ·rw [if_neg e]
    obtain ⟨q,h1,h2⟩:=ih (k + 1) (by omega)
    exact ⟨q,h1,by rw [h2];simp [e]⟩
 unfold wAG wAT
 obtain ⟨q,h1,h2⟩:=key l.length 0 (by omega)
 rw [wFz (by omega),h1,hH]
 rw [List.drop_zero] at h2
 simp [h2]
theorem wJY {d:wAE} {N:Int} (h:wDP d N) (hN:N <= 1000000) (n:Int):∃ x d',wAV d n=some (x,d')/\wDP d' (N + 1):=by
 obtain ⟨x,d',e,g,_⟩:=wNL h hN n
 exact ⟨decide (x=0),d',by unfold wAV;rw [e];rfl,g⟩
structure AcOK (n i j:Nat) (l:List wAA):Prop where
 ok:∀ p ∈ l,wNK n p/\(p.Skier < i \/ (p.Skier=i/\p.Lane < j))
 so:l.Pairwise Lt
 len:l.length <= i * n + j
theorem AcOK.add {n i j:Nat} {l:List wAA} (h:AcOK n i j l) (hi:i < n) (hj:j < n) (hne:i ≠ j):AcOK n i (j + 1) (l ++ [⟨(i:Int),(j:Int)⟩]):=by
 refine ⟨fun p hp=>?_,?_,by rw [nR,nS];have:=h.len;omega⟩
 ·rcases nH.1 hp with hp | hp
  ·obtain ⟨a,c⟩:=h.ok p hp
   exact ⟨a,by omega⟩
  ·rw [nZ.1 hp]
   exact ⟨⟨by simp only;omega,by simp only;omega,by simp only;omega⟩,.inr ⟨rfl,by simp only;omega⟩⟩
 ·rw [nU]
  refine ⟨h.so,List.pairwise_singleton _ _,fun p hp q hq=>?_⟩
  rw [nZ.1 hq]
  have:=(h.ok p hp).2
  unfold Lt
  simp only
  omega
theorem AcOK.next {n i j:Nat} {l:List wAA} (h:AcOK n i j l):AcOK n i (j + 1) l :=
 ⟨fun p hp=>⟨(h.ok p hp).1,by have:=(h.ok p hp).2;omega⟩,h.so,by have:=h.len;omega⟩
structure RowOK (n k:Nat) (ac:List wAA) (t:Int) (dn0 dn row:List Int):Prop where
 rl:row.length=n
 dl:dn.length=n
 nn:∀ l,l < n->0 <= gd row l
 ps:∀ l,l < n->0 < gd row l->k=l \/ (⟨(k:Int),(l:Int)⟩:wAA) ∈ ac
 sm:wBz (fun l=>gd row l) n <= t
 dd:∀ l,l < n->gd dn l=gd dn0 l + gd row l
 d5:∀ l,l < n->0 <= gd dn l/\gd dn l <= 5
theorem RowOK.skip {n k:Nat} {ac:List wAA} {t:Int} {dn0 dn row:List Int} (h:RowOK n k ac t dn0 dn row):RowOK n k ac (t + 1) dn0 dn row :=
 ⟨h.rl,h.dl,h.nn,h.ps,by have:=h.sm;omega,h.dd,h.d5⟩
theorem RowOK.hit {n k:Nat} {ac:List wAA} {t:Int} {dn0 dn row:List Int} (h:RowOK n k ac t dn0 dn row) {l:Nat} (hl:l < n) (hc:k=l \/ (⟨(k:Int),(l:Int)⟩:wAA) ∈ ac) (h5:gd dn l < 5) :
  RowOK n k ac (t + 1) dn0 (dn.set l (gd dn l + 1)) (row.set l (gd row l + 1)):=by
 have g1:∀ i,i < n->gd (dn.set l (gd dn l + 1)) i=if i=l then gd dn l + 1 else gd dn i:=fun i hi=>wGk (by rw [h.dl];exact hl) (by rw [h.dl];exact hi)
 have g2:∀ i,i < n->gd (row.set l (gd row l + 1)) i=if i=l then gd row l + 1 else gd row i:=fun i hi=>wGk (by rw [h.rl];exact hl) (by rw [h.rl];exact hi)
 refine ⟨by simp [h.rl],by simp [h.dl],fun i hi=>?_,fun i hi q=>?_,?_,fun i hi=>?_,fun i hi=>?_⟩
 ·rw [g2 i hi];have:=h.nn i hi;have:=h.nn l hl;split <;> omega
 ·rw [g2 i hi] at q
  by_cases e:i=l
  ·rw [e];exact hc
  ·rw [if_neg e] at q;exact h.ps i hi q
 ·rw [wCY (f:=fun i=>gd row i) hl fun i hi hne=>by rw [g2 i hi,if_neg hne],g2 l hl,if_pos rfl]
  have:=h.sm
  omega
 ·rw [g1 i hi,g2 i hi]
  by_cases e:i=l
  ·subst e;rw [if_pos rfl,if_pos rfl];have:=h.dd i hi;omega
  ·rw [if_neg e,if_neg e];exact h.dd i hi
 ·rw [g1 i hi]
  have:=h.d5 i hi;have:=h.d5 l hl
  split <;> omega
theorem RowOK.bd {n k:Nat} {ac:List wAA} {t:Int} {dn0 dn row:List Int} (h:RowOK n k ac t dn0 dn row) (ht:t <= 100) {l:Nat} (hl:l < n):0 <= gd row l/\gd row l <= 100:=by
 have a:=wEF (f:=fun l=>gd row l) (fun i hi=>h.nn i hi) hl
 have:=h.sm
 have:=h.nn l hl
 omega
theorem wFN {S T:Type} {body:Nat->S->Option S} {n:Nat} {s0:S} {k:S->Option T} {R:T->Prop} (I:Nat->S->Prop) (hn:n <= 1000) (h0:I 0 s0) (step:∀ i s,i < n->I i s->∃ s',body i s=some s'/\I (i + 1) s') (cont:∀ s,I n s->∃ r,k s=some r/\R r):∃ r,(wCq 0 (n:Int) body s0).bind k=some r/\R r:=by
 obtain ⟨s,e,h⟩:=wJz I hn h0 step
 rw [e,hH]
 exact cont s h
theorem wPo {n:Nat} (h:n <= 1000):mkz 8 (n:Int) (0:Int)=some (kO n 0):=by
 unfold mkz
 rw [if_pos ⟨by omega,by omega,by omega⟩]
 simp
theorem wGm {n i:Nat} (h:i < n):gd (kO n (0:Int)) i=0:=by
 unfold gd
 simp [nl,kD,h]
structure Mdd (n:Nat) (b:wAC) (t:List (List Int)):Prop where
 good:GoodB n b
 al:b.Across.length <= 64
 tl:t.length=n
 rl:∀ s,s < n->(gd t s).length=n
 asg:Asg n (wCu b) (shB b) (dnB b) (fun s l=>gd (gd t s) l)
structure MadeI (n k:Nat) (ac:List wAA) (sh dn:List Int) (t:List (List Int)):Prop where
 sl:sh.length=k
 dl:dn.length=n
 tl:t.length=k
 s6:∀ s,s < k->3 <= gd sh s/\gd sh s <= 6
 d5:∀ l,l < n->0 <= gd dn l/\gd dn l <= 5
 rl:∀ s,s < k->(gd t s).length=n
 nn:∀ s l,s < k->l < n->0 <= gd (gd t s) l
 ps:∀ s l,s < k->l < n->0 < gd (gd t s) l->s=l \/ (⟨(s:Int),(l:Int)⟩:wAA) ∈ ac
 sm:∀ s,s < k->wBz (fun l=>gd (gd t s) l) n <= gd sh s
 cm:∀ l,l < n->gd dn l=wBz (fun s=>gd (gd t s) l) k
theorem wOi (p0:List Int) {N:Nat} (hN:1 <= N/\N <= 8):∃ r,wBK ⟨p0,0,17⟩ (N:Int)=some r/\(∃ n,n <= N/\Mdd n r.1 r.2.1)/\wDP r.2.2 100000:=by
 unfold wBK
 obtain ⟨a,d1,e1,g1,a1,a2⟩:=wNM (d:=⟨p0,0,17⟩) (N:=0) ⟨by simp,by simp⟩ (by omega) (a:=1) (b:=(N:Int)) (by omega) (by omega) (by omega)
 rw [e1,hH]
 simp only
 obtain ⟨n,rfl⟩:∃ n:Nat,a=n:=⟨a.toNat,by omega⟩
 have nN:n <= N:=by omega
 refine wFN (fun i st=>wDP ⟨st.1,st.2.1,st.2.2.1⟩ (10 + 100 * (i:Int))/\AcOK n i 0 st.2.2.2) (by omega) ⟨⟨g1.1,by have:=g1.2;simp only at this ⊢;omega⟩,fun p hp=>by simp at hp,List.Pairwise.nil,by simp⟩ ?_ ?_
 ·rintro i ⟨B,x,y,l⟩ hi ⟨G,H⟩
  simp only at G H ⊢
  refine wFN (fun j st=>wDP ⟨st.1,st.2.1,st.2.2.1⟩ (10 + 100 * (i:Int) + 2 * (j:Int))/\AcOK n i j st.2.2.2) (by omega) ⟨⟨G.1,by have:=G.2;simp only at this ⊢;omega⟩,H⟩ ?_ ?_
  ·rintro j ⟨B2,x2,y2,l2⟩ hj ⟨G2,H2⟩
   simp only at G2 H2 ⊢
   by_cases c:(i:Int)=(j:Int)
   ·rw [if_pos c]
    exact ⟨_,rfl,⟨G2.1,by have:=G2.2;simp only at this ⊢;omega⟩,H2.next⟩
   ·rw [if_neg c]
    obtain ⟨q,d2,e2,g2⟩:=wJY G2 (by omega) 4
    rw [e2,hH]
    simp only
    have hl:=H2.len
    have:i * n <= 64:=ni (Nat.mul_le_mul (show i <= 8 by omega) (show n <= 8 by omega)) (by omega)
    by_cases c2:q=true
    ·rw [if_pos c2,wDA (by simp only [nk,nO];omega),hH]
     exact ⟨_,rfl,⟨g2.1,by have:=g2.2;simp only at this ⊢;omega⟩,H2.add hi hj (by omega)⟩
    ·rw [if_neg c2]
     exact ⟨_,rfl,⟨g2.1,by have:=g2.2;simp only at this ⊢;omega⟩,H2.next⟩
  ·rintro ⟨B2,x2,y2,l2⟩ ⟨G2,H2⟩
   refine ⟨_,rfl,⟨G2.1,by have:=G2.2;simp only at this ⊢;omega⟩,fun p hp=>?_,H2.so,by have:=H2.len;simp only at this ⊢;rw [Nat.add_mul,Nat.one_mul];omega⟩
   obtain ⟨u,v⟩:=H2.ok p hp
   exact ⟨u,.inl (by have:=u.s;omega)⟩
 rintro ⟨B,x,y,ac⟩ ⟨G,H⟩
 simp only at G H ⊢
 have acl:ac.length <= 64:=by
  have:=H.len
  have:n * n <= 8 * 8:=Nat.mul_le_mul (by omega) (by omega)
  omega
 rw [wPo (by omega),hH]
 refine wFN (fun k st=>wDP ⟨st.1,st.2.1,st.2.2.1⟩ (1000 + 100 * (k:Int))/\MadeI n k ac st.2.2.2.1 st.2.2.2.2.1 st.2.2.2.2.2) (by omega) ⟨⟨G.1,by have:=G.2;simp only at this ⊢;omega⟩,rfl,by simp,rfl,fun s hs=>by omega,fun l hl=>by simp only;rw [wGm hl];omega,fun s hs=>by omega,fun s l hs=>by omega,fun s l hs=>by omega,fun s hs=>by omega,fun l hl=>wGm hl⟩ ?_ ?_
 ·rintro k ⟨B2,x2,y2,sh,dn,t⟩ hk ⟨G2,M⟩
  simp only at G2 M ⊢
  obtain ⟨q,d2,e2,g2,q1,q2⟩:=wNM G2 (by omega) (a:=3) (b:=6) (by omega) (by omega) (by omega)
  have sl:=M.sl;have tl:=M.tl
  rw [e2,hH]
  simp only
  rw [wDA (by simp only [nk,nO];omega),hH,hH,wCi (by omega) (by rw [nR,nS];omega),hH]
  have gq:gd (sh ++ [q]) k=q:=by rw [<- sl];exact wFL _ _ _
  rw [gq]
  obtain ⟨Q,rfl⟩:∃ Q:Nat,q=Q:=⟨q.toNat,by omega⟩
  refine wFN (fun r st=>wDP ⟨st.1,st.2.1,st.2.2.1⟩ (1001 + 100 * (k:Int) + 4 * (r:Int))/\RowOK n k ac r dn st.2.2.2.1 st.2.2.2.2) (by omega) ⟨⟨g2.1,by have:=g2.2;simp only at this ⊢;omega⟩,by simp,M.dl,fun l hl=>by rw [wGm hl];omega,fun l hl p=>by rw [wGm hl] at p;omega,by rw [wBh n fun l hl=>wGm hl];omega,fun l hl=>by show gd dn l=gd dn l + gd (kO n (0:Int)) l;rw [wGm hl];omega,M.d5⟩ ?_ ?_
  ·rintro r ⟨B3,x3,y3,dn3,row⟩ hr ⟨G3,W⟩
   simp only at G3 W ⊢
   have dl3:=W.dl;have rl3:=W.rl
   obtain ⟨c1,d4,e4,g4⟩:=wJY G3 (by omega) 4
   rw [e4,hH]
   simp only
   by_cases h1:c1=true
   ·rw [if_pos h1]
    obtain ⟨z,d5,e5,g5,z0,z1⟩:=wNL g4 (by omega) (n:Int)
    rw [e5,hH]
    simp only
    obtain ⟨l,rfl⟩:∃ l:Nat,z=l:=⟨z.toNat,by omega⟩
    have hl:l < n:=by omega
    have bd:=W.bd (by omega) hl
    rw [wCi (by omega) (by omega),hH,nW]
    by_cases h2:gd dn3 l < 5
    case neg =>
     rw [if_neg h2]
     exact ⟨_,rfl,⟨g5.1,by have:=g5.2;simp only at this ⊢;omega⟩,W.skip⟩
    rw [if_pos h2]
    obtain ⟨c2,d6,e6,g6⟩:=wJY g5 (by omega) 4
    rw [e6,hH]
    simp only
    by_cases h3:c2=true
    ·rw [if_pos h3]
     exact ⟨_,rfl,⟨g6.1,by have:=g6.2;simp only at this ⊢;omega⟩,W.skip⟩
    rw [if_neg h3]
    have d0:=W.d5 l hl
    have hit:∀ hc:k=l \/ (⟨(k:Int),(l:Int)⟩:wAA) ∈ ac,∃ s',(((chk (l:Int) row.length).bind fun _=>some (d6.bytes,d6.next,d6.state,dn3.set l (w64 (gd dn3 l + 1)),row.set l (w64 (gd row l + 1)))).bind fun x:List Int × Int × Int × List Int × List Int=>some (x.1,x.2.1,x.2.2.1,x.2.2.2.1,x.2.2.2.2))=some s'/\wDP ⟨s'.1,s'.2.1,s'.2.2.1⟩ (1001 + 100 * (k:Int) + 4 * ((r + 1:Nat):Int))/\RowOK n k ac ((r + 1:Nat):Int) dn s'.2.2.2.1 s'.2.2.2.2:=fun hc=>by
     rw [wCi (by omega) (by omega),hH,wAf (by omega) (by omega),wAf (by omega) (by omega)]
     exact ⟨_,rfl,⟨g6.1,by have:=g6.2;simp only at this ⊢;omega⟩,W.hit hl hc h2⟩
    by_cases h4:(l:Int)=(k:Int)
    ·rw [if_pos h4]
     exact hit (.inl (by omega))
    ·rw [if_neg h4,wGE _ (by omega),hH]
     by_cases h5:(⟨(k:Int),(l:Int)⟩:wAA) ∈ ac
     ·rw [if_pos (decide_eq_true h5)]
      exact hit (.inr h5)
     ·rw [if_neg (by simpa using h5)]
      exact ⟨_,rfl,⟨g6.1,by have:=g6.2;simp only at this ⊢;omega⟩,W.skip⟩
   ·rw [if_neg h1]
    have hl:k < n:=hk
    have bd:=W.bd (by omega) hl
    have d0:=W.d5 k hl
    rw [wCi (by omega) (by omega),hH]
    by_cases h2:gd dn3 k < 5
    case neg =>
     rw [if_neg h2]
     exact ⟨_,rfl,⟨g4.1,by have:=g4.2;simp only at this ⊢;omega⟩,W.skip⟩
    rw [if_pos h2]
    obtain ⟨c2,d6,e6,g6⟩:=wJY g4 (by omega) 4
    rw [e6,hH]
    simp only
    by_cases h3:c2=true
    ·rw [if_pos h3]
     exact ⟨_,rfl,⟨g6.1,by have:=g6.2;simp only at this ⊢;omega⟩,W.skip⟩
    rw [if_neg h3]
    simp only [if_true]
    rw [wCi (by omega) (by omega),hH,wAf (by omega) (by omega),wAf (by omega) (by omega)]
    exact ⟨_,rfl,⟨g6.1,by have:=g6.2;simp only at this ⊢;omega⟩,W.hit hl (.inl rfl) h2⟩
  ·rintro ⟨B3,x3,y3,dn3,row⟩ ⟨G3,W⟩
   simp only at G3 W ⊢
   rw [wDA (by simp only [nk,nO];omega),hH]
   have gt:∀ s,s < k->gd (t ++ [row]) s=gd t s:=fun s hs=>wEc (by omega)
   have gk:gd (t ++ [row]) k=row:=by rw [<- tl];exact wFL _ _ _
   have gs:∀ s,s < k->gd (sh ++ [(Q:Int)]) s=gd sh s:=fun s hs=>wEc (by omega)
   refine ⟨_,rfl,⟨G3.1,by have:=G3.2;simp only at this ⊢;omega⟩,by simp [sl],W.dl,by simp [tl],fun s hs=>?_,W.d5,fun s hs=>?_,fun s l hs hl=>?_,fun s l hs hl=>?_,fun s hs=>?_,fun l hl=>?_⟩
   ·by_cases e:s=k
    ·subst e;simp only;rw [gq];omega
    ·simp only;rw [gs s (by omega)];exact M.s6 s (by omega)
   ·by_cases e:s=k
    ·subst e;simp only;rw [gk];exact W.rl
    ·simp only;rw [gt s (by omega)];exact M.rl s (by omega)
   ·by_cases e:s=k
    ·subst e;simp only;rw [gk];exact W.nn l hl
    ·simp only;rw [gt s (by omega)];exact M.nn s l (by omega) hl
   ·by_cases e:s=k
    ·subst e;simp only;rw [gk];exact W.ps l hl
    ·simp only;rw [gt s (by omega)];exact M.ps s l (by omega) hl
   ·by_cases e:s=k
    ·subst e;simp only;rw [gk,gq];exact W.sm
    ·simp only;rw [gt s (by omega),gs s (by omega)];exact M.sm s (by omega)
   ·simp only
    rw [wBz,gk,wAx k fun s hs=>by rw [gt s hs],<- M.cm l hl]
    exact W.dd l hl
 ·rintro ⟨B2,x2,y2,sh,dn,t⟩ ⟨G2,M⟩
  simp only at G2 M ⊢
  refine ⟨_,rfl,⟨n,nN,⟨⟨by omega,M.sl,M.dl,fun s hs=>by have:=M.s6 s hs;simp only;omega,M.d5,fun p hp=>(H.ok p hp).1,H.so,by simp only;omega⟩,acl,M.tl,M.rl,M.nn,fun s l hs hl q=>wFM.2 (M.ps s l hs hl q),M.sm,fun l hl=>(M.cm l hl).symm⟩⟩,⟨G2.1,by have:=G2.2;simp only at this ⊢;omega⟩⟩
end Go.Proofs.Ytkeeechdijfkhaa
namespace Go.Proofs.Ytkeeechdijfkhaa
open Go.KL
section
variable {n:Nat} {b:wAC}
def twL (b:wAC) (n s l k:Nat):List wAA:=((ny k).filter fun j=>decide (j ≠ l) && wCu b s j).map fun j:Nat=>⟨(n:Int),(j:Int)⟩
def twB (b:wAC) (n s l k:Nat):wAC:=⟨b.Shots.set s 0 ++ [shB b s - k],(b.Down ++ [0]).set l (dnB b l - k),b.Across.filter (fun p=>decide (p.Skier ≠ (s:Int))) ++ twL b n s l n⟩
theorem wLx {s l:Nat}:∀ k,(twL b n s l k).length <= k:=fun k=>by
 unfold twL
 rw [kH]
 exact ni (na _ _) (by simp)
theorem wGF {s l k:Nat} {p:wAA}:p ∈ twL b n s l k ↔ ∃ j:Nat,j < k/\j ≠ l/\wCu b s j=true/\p=⟨(n:Int),(j:Int)⟩:=by
 unfold twL
 rw [List.mem_map]
 constructor
 ·rintro ⟨j,hj,rfl⟩
  rw [nu,nv,nB,decide_eq_true_iff] at hj
  exact ⟨j,hj.1,hj.2.1,hj.2.2,rfl⟩
 ·rintro ⟨j,h1,h2,h3,rfl⟩
  exact ⟨j,nu.2 ⟨nv.2 h1,by rw [nB,decide_eq_true_iff];exact ⟨h2,h3⟩⟩,rfl⟩
theorem wOj (G:GoodB n b) (n7:n <= 7) {s l k:Nat} (hs:s < n) (hl:l < n) (h1:(k:Int) <= shB b s) (h2:(k:Int) <= dnB b l) (al:b.Across.length <= 900):GoodB (n + 1) (twB b n s l k)/\Twin n b s l k (wCu (twB b n s l k)) (shB (twB b n s l k)) (dnB (twB b n s l k)):=by
 have ns:=G.ns;have nd:=G.nd
 have S1:∀ i,i < n->gd (twB b n s l k).Shots i=if i=s then 0 else shB b i:=fun i hi=>by
  unfold twB
  simp only
  rw [wEc (by rw [kL];omega),wGk (by omega) (by omega)]
  rfl
 have S2:gd (twB b n s l k).Shots n=shB b s - k:=by
  unfold twB
  have:=wFL (b.Shots.set s 0) [] (shB b s - k)
  rw [kL,ns] at this
  exact this
 have D1:∀ i,i < n + 1->gd (twB b n s l k).Down i=if i=l then dnB b l - k else if i=n then 0 else dnB b i:=fun i hi=>by
  unfold twB
  simp only
  rw [wGk (by rw [nR,nS];omega) (by rw [nR,nS];omega)]
  by_cases e:i=l
  ·rw [if_pos e,if_pos e]
  ·rw [if_neg e,if_neg e]
   by_cases e2:i=n
   ·rw [if_pos e2,e2,<- nd];exact wFL _ _ _
   ·rw [if_neg e2,wEc (by omega)];rfl
 have A1:∀ p,p ∈ (twB b n s l k).Across ↔ (p ∈ b.Across/\p.Skier ≠ (s:Int)) \/ p ∈ twL b n s l n:=fun p=>by
  unfold twB
  simp only
  rw [nH,nu,decide_eq_true_iff]
 have b1:=G.sh s hs;have b2:=G.dn l hl
 unfold shB at h1;unfold dnB at h2
 refine ⟨⟨by omega,by unfold twB;simp [ns],by unfold twB;simp [nd],fun i hi=>?_,fun i hi=>?_,fun p hp=>?_,?_,?_⟩,⟨fun i j hi hj hne=>?_,fun j hj=>?_,fun i hi hne=>?_,?_,?_,fun j hj=>?_,?_⟩⟩
 ·by_cases e:i=n
  ·rw [e,S2];unfold shB;omega
  ·rw [S1 i (by omega)]
   have:=G.sh i (by omega)
   unfold shB
   split <;> omega
 ·rw [D1 i hi]
  by_cases e:i=l
  ·rw [if_pos e];unfold dnB;omega
  ·rw [if_neg e]
   by_cases e2:i=n
   ·rw [if_pos e2];omega
   ·rw [if_neg e2];have:=G.dn i (by omega);unfold dnB;omega
 ·rcases (A1 p).1 hp with ⟨h,_⟩ | h
  ·have:=G.ac p h
   exact ⟨by have:=this.s;omega,by have:=this.l;omega,this.ne⟩
  ·obtain ⟨j,hj,_,_,rfl⟩:=wGF.1 h
   exact ⟨by simp only;omega,by simp only;omega,by simp only;omega⟩
 ·unfold twB
  simp only
  rw [nU]
  refine ⟨G.so.filter _,?_,fun p hp q hq=>?_⟩
  ·unfold twL
   rw [List.pairwise_map]
   refine List.Pairwise.imp ?_ (List.pairwise_lt_range.filter _)
   intro i j hij
   exact .inr ⟨rfl,by simp only;omega⟩
  ·obtain ⟨j,hj,_,_,rfl⟩:=wGF.1 hq
   have:=(G.ac p (nu.1 hp).1).s
   exact .inl (by simp only;omega)
 ·unfold twB
  simp only
  rw [nR]
  have:=na (fun p:wAA=>decide (p.Skier ≠ (s:Int))) b.Across
  have:=wLx (b:=b) (n:=n) (s:=s) (l:=l) n
  omega
 ·rw [Bool.eq_iff_iff,wFM,wFM,A1]
  constructor
  ·rintro (h | ⟨h,_⟩ | h)
   ·exact .inl h
   ·exact .inr h
   ·obtain ⟨q,_,_,_,e⟩:=wGF.1 h
    injection e with e1 e2
    omega
  ·rintro (h | h)
   ·exact .inl h
   ·exact .inr (.inl ⟨h,by simp only;omega⟩)
 ·rw [Bool.eq_iff_iff,wFM,A1]
  unfold wMj
  constructor
  ·rintro (h | ⟨h,_⟩ | h)
   ·omega
   ·have:=(G.ac _ h).s;simp only at this;omega
   ·obtain ⟨q,h3,h4,h5,e⟩:=wGF.1 h
    injection e with e1 e2
    have:q=j:=by omega
    subst this
    rw [if_neg fun c=>h4 c.2]
    exact h5
  ·intro h
   split at h
   ·cases h
   ·rename_i c
    exact .inr (.inr (wGF.2 ⟨j,hj,fun e=>c ⟨rfl,e⟩,h,rfl⟩))
 ·unfold shB
  have:=S1 i hi
  rw [if_neg hne] at this
  exact this
 ·unfold shB
  have:=S1 s hs
  rw [if_pos rfl] at this
  exact this
 ·exact S2
 ·have:=D1 j (by omega)
  unfold dnW
  rw [if_neg (show ¬ j=n by omega)] at this
  exact this
 ·have:=D1 n (by omega)
  rw [if_neg (show ¬ n=l by omega),if_pos rfl] at this
  exact this
end
theorem wPp {S B:Type} {body:Nat->S->Option (S ⊕ B)} {n:Nat} {s0:S} {k:S->Option B} {r:B} (I:Nat->S->Prop) (hn:n <= 1000) (h0:I 0 s0) (step:∀ i s,i < n->I i s->∃ s',body i s=some (.inl s')/\I (i + 1) s') (cont:∀ s,I n s->k s=some r):jn (wHT 0 (n:Int) body s0) k=some r:=by
 rcases wEe I (fun _=>False) hn h0 (fun i s hi h=>.inl (step i s hi h)) with ⟨s,e,h⟩ | ⟨_,_,h⟩
 ·rw [e];exact cont s h
 ·exact h.elim
theorem wNN {a:Int} {n:Nat} (ha:0 <= a) (hn:1 <= n):∃ x:Nat,rem a (n:Int)=some (x:Int)/\x < n:=by
 unfold rem
 rw [if_neg (by omega),nq ha]
 have h0:=Int.emod_nonneg a (show (n:Int) ≠ 0 by omega)
 have h1:=kX a (show (0:Int) < n by omega)
 exact ⟨(a % (n:Int)).toNat,by rw [Int.toNat_of_nonneg h0],by omega⟩
theorem wLy {x:List Int} (hx:x.length <= 1000):wAm x=some x:=by
 unfold wAm
 rw [wDA (by simp only [nO];omega)]
 rfl
theorem wOk {x:List wAA} (hx:x.length <= 1000):wAX x=some x:=by
 unfold wAX
 rw [wDA (by simp only [nO];omega)]
 rfl
theorem wOl {n:Nat} {b:wAC} (G:GoodB n b):wBF b=some b:=by
 have:=G.nb;have:=G.al
 unfold wBF
 rw [wLy (by rw [G.ns];omega),hH,wLy (by rw [G.nd];omega),hH,wOk G.al,hH]
theorem wPq (lo hi k:Int):wAu ⟨lo,hi⟩ k=some (decide (lo <= k/\k <= hi)):=by
 unfold wAu
 by_cases h:lo <= k
 ·rw [if_pos h];simp [h]
 ·rw [if_neg h];simp [h]
theorem wIk (p0:List Int) (p1 p2:Int) (_:0 <= p1) (_:p1 <= 255) (_:0 <= p2) (_:p2 <= 255):wAq p0 p1 p2=some true:=by
 have aw:wBk=some true:=rfl
 unfold wAq wCF
 rw [hH]
 obtain ⟨⟨b,t,d⟩,e1,⟨n,n5,M⟩,_⟩:=wOi p0 (N:=5) (by omega)
 simp only at n5 M
 have G:=M.good
 have hn:=G.nb
 erw [e1]
 rw [hH]
 simp only
 rw [G.ns,wAf (by omega) (by omega),wAf (by omega) (by omega)]
 obtain ⟨s,e2,hs⟩:=wNN (a:=p1) (n:=n) (by omega) hn.1
 obtain ⟨l,e3,hl⟩:=wNN (a:=p2) (n:=n) (by omega) hn.1
 rw [e2,hH,e3,hH]
 have C:Can n (wCu b) (shB b) (dnB b):=⟨_,M.asg⟩
 obtain ⟨r,e4,q⟩:=wOf G hs hl
 rw [e4,hH]
 rcases q with ⟨nC,_⟩ | ⟨_,lo,hi,rfl,q⟩
 ·exact absurd C nC
 simp only [if_true]
 have b1:=G.sh s hs;have b2:=G.dn l hl
 have hm:0 <= wCZ b s l/\wCZ b s l <= 5:=by
  unfold wCZ shB dnB
  split <;> omega
 have x0:=M.asg.nn s l hs hl
 obtain ⟨k0,hk0⟩:∃ k0:Nat,gd (gd t s) l=k0:=⟨(gd (gd t s) l).toNat,by omega⟩
 have P0:PW n b s l k0:=pw_of M.asg hs hl hk0
 have k0m:(k0:Int) <= wCZ b s l:=by
  have a1:=wEF (f:=fun j=>gd (gd t s) j) (fun j hj=>M.asg.nn s j hs hj) hl
  have a2:=wEF (f:=fun i=>gd (gd t i) l) (fun i hi=>M.asg.nn i l hi hl) hs
  have a3:=M.asg.row s hs
  have a4:=M.asg.col l hl
  unfold wCZ
  by_cases c:wCu b s l=true
  ·rw [if_pos c]
   omega
  ·rw [if_neg c]
   have:¬ 0 < gd (gd t s) l:=fun h=>c (M.asg.pos s l hs hl h)
   omega
 rcases q with ⟨nP,_⟩ | ⟨a,c,rfl,rfl,hac,hcm,hP⟩
 ·exact absurd P0 (nP k0 k0m)
 rw [if_neg (by omega),if_neg (by omega),wCf (by rw [G.ns];exact hs),hH,wCf (by rw [G.nd];exact hl),hH]
 obtain ⟨Q,hQ⟩:∃ Q:Nat,min (gd b.Shots s) (gd b.Down l)=Q:=⟨(min (gd b.Shots s) (gd b.Down l)).toNat,by omega⟩
 rw [hQ,wAf (by omega) (by omega),show (Q:Int) + 1=((Q + 1:Nat):Int) by omega]
 have al:b.Across.length <= 900:=by have:=M.al;omega
 refine wPp (fun _ _=>True) (by omega) trivial (fun k u hk _=>⟨(),?_,trivial⟩) (fun u _=>by rw [aw];rfl)
 rw [wOl G,hH]
 have ns:=G.ns;have nd:=G.nd
 rw [wCi (by omega) (by omega),hH,nW,nW]
 rw [wAf (by omega) (by omega)]
 rw [wDA (by simp;omega),hH,wDA (by simp;omega),hH,hH]
 simp only
 rw [wCi (by omega) (by simp;omega),hH]
 rw [wEb (S:=List wAA) (n:=b.Across.length) (fun j=>(b.Across.take j).filter fun p=>decide (p.Skier ≠ (s:Int))) (s0:=[]) rfl (by omega) fun j hj=>?_]
 ·rw [hH,List.take_length]
  rw [wEb (S:=List wAA) (n:=n) (fun j=>b.Across.filter (fun p=>decide (p.Skier ≠ (s:Int))) ++ twL b n s l j) (s0:=b.Across.filter fun p=>decide (p.Skier ≠ (s:Int))) (by
   show _ ++ []=_
   rw [nV]) (by omega) fun j hj=>?_]
  ·rw [hH]
   have h1:(k:Int) <= shB b s:=by unfold shB;omega
   have h2:(k:Int) <= dnB b l:=by unfold dnB;omega
   obtain ⟨G2,T2⟩:=wOj G (by omega) hs hl h1 h2 al
   have gl:gd (b.Down ++ [0]) l=gd b.Down l:=wEc (by omega)
   rw [gl,wAf (by omega) (by omega)]
   have hb:(if (k:Int)=0 then some true else if (s:Int)=(l:Int) then some true else (wAG b.Across (⟨(s:Int),(l:Int)⟩:wAA)).bind fun x1298=>some x1298)=some (decide (k=0) || wCu b s l):=by
    by_cases c1:k=0
    ·rw [if_pos (by omega),decide_eq_true c1,Bool.true_or]
    rw [if_neg (by omega),decide_eq_false c1,Bool.false_or]
    unfold wCu
    by_cases c2:s=l
    ·rw [if_pos (by omega),decide_eq_true c2,Bool.true_or]
    rw [if_neg (by omega),decide_eq_false c2,Bool.false_or,wGE _ (by omega),hH]
   rw [hb,hH]
   obtain ⟨tt,cc,e5,o5⟩:=wLu G2
   erw [e5]
   rw [hH]
   simp only
   have tw:=wMk T2 hs hl
   have fin:(wAu ⟨(a:Int),(c:Int)⟩ (k:Int)).bind (fun x1364=>if (decide (k=0) || wCu b s l)=true then some (!(x1364 == decide (cc=0))) else some (!(x1364 == false)))=some false:=by
    rw [wPq,hH]
    by_cases cb:(decide (k=0) || wCu b s l)=true
    ·rw [if_pos cb]
     have km:(k:Int) <= wCZ b s l:=by
      rw [nw,decide_eq_true_iff] at cb
      unfold wCZ shB dnB
      rcases cb with cb | cb
      ·split <;> omega
      ·rw [if_pos cb];omega
     have iff1:(a <= k/\k <= c) ↔ cc=0:=by
      rw [<- hP k km,tw]
      rcases o5 with ⟨C5,z,_⟩ | ⟨C5,_,z⟩
      ·exact ⟨fun _=>z,fun _=>C5⟩
      ·exact ⟨fun h=>absurd h C5,fun h=>by omega⟩
     have:decide ((a:Int) <= (k:Int)/\(k:Int) <= (c:Int))=decide (cc=0):=by
      rw [decide_eq_decide,<- iff1]
      omega
     rw [this]
     simp
    ·rw [if_neg cb]
     have:decide ((a:Int) <= (k:Int)/\(k:Int) <= (c:Int))=false:=by
      rw [decide_eq_false_iff_not]
      rw [nw,decide_eq_true_iff] at cb
      have:wCZ b s l=0:=by unfold wCZ;rw [if_neg fun h=>cb (.inr h)]
      omega
     rw [this]
     rfl
   rcases o5 with ⟨_,rfl,_⟩ | ⟨_,_,rfl⟩
   ·rw [if_pos rfl,fin,hH,if_neg (by decide)]
   ·rw [if_neg (by decide),if_pos rfl,fin,hH,if_neg (by decide)]
  ·have tl:=wLx (b:=b) (n:=n) (s:=s) (l:=l) j
   have fl:=na (fun p:wAA=>decide (p.Skier ≠ (s:Int))) b.Across
   have st:twL b n s l (j + 1)=twL b n s l j ++ if (decide (j ≠ l) && wCu b s j)=true then [⟨(n:Int),(j:Int)⟩] else []:=by
    unfold twL
    rw [kJ,nz,kK]
    by_cases e:(decide (j ≠ l) && wCu b s j)=true
    ·rw [if_pos e,show [j].filter (fun j=>decide (j ≠ l) && wCu b s j)=[j] from kE (p:=fun j=>decide (j ≠ l) && wCu b s j) (l:=[]) e];rfl
    ·rw [if_neg e,show [j].filter (fun j=>decide (j ≠ l) && wCu b s j)=[] from kG (p:=fun j=>decide (j ≠ l) && wCu b s j) (l:=[]) e];rfl
   rw [st,<- nM]
   have ap:∀ q:wAA,app 16 (b.Across.filter (fun p=>decide (p.Skier ≠ (s:Int))) ++ twL b n s l j) [q]=some (b.Across.filter (fun p=>decide (p.Skier ≠ (s:Int))) ++ twL b n s l j ++ [q]):=fun q=>wDA (by
    rw [nR,nS];omega)
   by_cases c1:j=l
   ·rw [if_pos (by omega),if_neg (by simp [c1]),nV]
   rw [if_neg (by omega)]
   by_cases c2:j=s
   ·rw [if_pos (by omega),if_pos (by rw [decide_eq_true c1,c2];unfold wCu;simp),ap,hH]
   rw [if_neg (by omega),wGE _ (by omega),hH]
   by_cases c3:(⟨(s:Int),(j:Int)⟩:wAA) ∈ b.Across
   ·rw [if_pos (decide_eq_true c3),if_pos (by rw [decide_eq_true c1];unfold wCu;rw [decide_eq_true c3];simp),ap,hH]
   ·rw [if_neg (by simpa using c3),if_neg (by unfold wCu;rw [decide_eq_false c3,decide_eq_false (Ne.symm c2)];simp),nV]
 ·have fl:=na (fun p:wAA=>decide (p.Skier ≠ (s:Int))) (b.Across.take j)
  rw [kC] at fl
  rw [wCf hj,hH,wLl hj,nz]
  by_cases c1:(gd b.Across j).Skier=(s:Int)
  ·rw [if_pos c1,kG (by simp [c1]),List.filter_nil,nV]
  ·rw [if_neg c1,kE (by simp [c1]),List.filter_nil,wDA (by rw [nS];omega),hH]
end Go.Proofs.Ytkeeechdijfkhaa
