import Derived.Test.YtfcmijinklojbaaU2
set_option linter.all false
open Option renaming bind_some->hH
open Classical renaming propDecidable->nA,byContradiction->nJ
open Bool renaming false_eq_true->nB,and_eq_true->nL,true_eq_false->nN,not_eq_true'->na,eq_iff_iff->nc,false_and->ng,true_and->nh
open Int renaming toNat_natCast->nD
open Nat renaming le_refl->nE,pow_le_pow_right->nV,pow_succ->nj,zero_add->nk
open List renaming length_filter_le->nG,filter_append->nH,filter_nil->nI,length_take->nK,filter_cons_of_neg->nM,length_singleton->nO,take_length->nR,length_nil->nS,filter_cons_of_pos->nT,set->nU,append_nil->nW,filter_eq_self->nX,length_append->nY,getD_eq_getElem?_getD->nZ,mem_filter->nf,mem_singleton->ni
namespace Go.Proofs.Ytfcmijinklojbaa
open Go.KL
theorem wRl {S T:Nat->Bool} {l:Nat} (h1:S l=false) (h2:T l=true) (h:∀ i,i ≠ l->T i=S i):∀ n,l < n->cdS T n=cdS S n + 2 ^ l:=by
 have same:∀ n,n <= l->cdS T n=cdS S n:=by
  intro n
  induction n with
  | zero=>intro _;rfl
  | succ n ih=>intro hn;rw [cdS,cdS,ih (by omega),h n (by omega)]
 intro n
 induction n with
 | zero=>intro hl;omega
 | succ n ih =>
  intro hl
  rw [cdS,cdS]
  by_cases e:l=n
  ·subst e
   rw [same l (nE _),h1,h2,if_pos rfl,if_neg (by decide)]
   rfl
  ·rw [ih (by omega),h n (fun q=>e q.symm)]
   omega
theorem wJp {S T:Nat->Bool}:∀ n,(∀ l,l < n->S l=T l)->cdS S n=cdS T n
 | 0,_=>rfl
 | n + 1,h=>by rw [cdS,cdS,wJp n fun l hl=>h l (by omega),h n (by omega)]
theorem wLc:∀ n,cdS (fun _=>false) n=0
 | 0=>rfl
 | n + 1=>by rw [cdS,wLc n];rfl
theorem wOT {n:Nat} {b:wAB} (nd:b.Down.length=n) (n8:1 <= n/\n <= 8) {L:List Int} (hl:L.length <= 1000):∃ r,wCD (wCv b) L=some r/\r.2=wEW n L/\(wEW n L=0->r.1=(cdS (inL L) n:Int)):=by
 have hD:(wCv b).Down=b.Down:=rfl
 unfold wCD
 rw [hD,nd,wAM (by omega) (by omega)]
 rw [wLW (n:=L.length) (fun k=>decide (0 <= gd L k/\gd L k <= (n:Int) - 1)) ((0:Int),(1:Int)) (by omega) fun k hk=>?_,<- wHG (fun l=>decide (0 <= l/\l <= (n:Int) - 1))]
 ·by_cases c:L.all (fun l=>decide (0 <= l/\l <= (n:Int) - 1))=true
  case neg =>
   rw [if_neg c]
   have e:wEW n L=1:=by unfold wEW;rw [if_neg c]
   exact ⟨_,rfl,e.symm,fun q=>by omega⟩
  rw [if_pos c]
  simp only [wHM]
  have rg:∀ k,k < L.length->0 <= gd L k/\gd L k <= (n:Int) - 1:=fun k hk=>of_decide_eq_true (List.all_eq_true.1 c _ (wDi hk))
  have pw:∀ k,k <= 8->2 ^ k <= 256:=fun k hk=>nV (n:=2) (by omega) hk
  have lc:wEW n L=if wMF (fun k=>decide (gd L k < gd L (k + 1))) (L.length - 1) 0=true then 0 else 4:=by unfold wEW;rw [if_pos c]
  refine wTN (fun k st=>st=(cdS (inL (L.take k)) n:Int)/\∀ j,j + 1 < k->gd L j < gd L (j + 1)) hl ⟨?_,fun j h=>by omega⟩ ?_ ?_
  ·have:cdS (inL (L.take 0)) n=0:=by
    rw [wJp (T:=fun _=>false) n fun l _=>by simp [inL],wLc]
   rw [this];rfl
  ·rintro k st hk ⟨rfl,ok⟩
   have rk:=rg k hk
   obtain ⟨l,hlk⟩:∃ l:Nat,gd L k=l:=⟨(gd L k).toNat,by omega⟩
   have hb:(if 0 < (k:Int) then (idx L (k:Int)).bind fun x95=>(idx L (w64 ((k:Int) - 1))).bind fun x104=>some (decide (x95 <= x104)) else some false)=some (decide (0 < k) && decide (gd L k <= gd L (k - 1))):=by
    by_cases c0:0 < k
    ·rw [if_pos (by omega),wAu hk,hH,wAM (by omega) (by omega),show (k:Int) - 1=((k - 1:Nat):Int) by omega,wAu (by omega),hH,decide_eq_true c0,nh]
    ·rw [if_neg (by omega),decide_eq_false c0,ng]
   rw [hb,hH]
   by_cases cb:0 < k/\gd L k <= gd L (k - 1)
   ·rw [decide_eq_true cb.1,decide_eq_true cb.2,if_pos (show (true && true)=true from rfl)]
    have e:wEW n L=4:=by
     rw [lc,if_neg]
     rw [wDC]
     intro q
     have:=of_decide_eq_true (q (k - 1) (Nat.zero_le _) (by omega))
     rw [show k - 1 + 1=k by omega] at this
     omega
    exact .inr ⟨_,rfl,e.symm,fun q=>by omega⟩
   ·have:(decide (0 < k) && decide (gd L k <= gd L (k - 1)))=false:=by
     rw [Bool.and_eq_false_iff,decide_eq_false_iff_not,decide_eq_false_iff_not]
     by_cases c0:0 < k
     ·exact .inr fun q=>cb ⟨c0,q⟩
     ·exact .inl c0
    rw [this,if_neg (by decide)]
    have ok':∀ j,j + 1 < k + 1->gd L j < gd L (j + 1):=fun j hj=>by
     by_cases e:j + 1=k
     ·have:k - 1=j:=by omega
      rw [this] at cb
      rw [e]
      omega
     ·exact ok j (by omega)
    have inc:∀ i,i < k->gd L i < gd L k:=by
     have key:∀ j,j <= k->∀ i,i < j->gd L i < gd L j:=by
      intro j
      induction j with
      | zero=>intro _ i hi;omega
      | succ j ih =>
       intro hj i hi
       have a:=ok' j (by omega)
       by_cases e:i=j
       ·rw [e];exact a
       ·have:=ih (by omega) i (by omega);omega
     exact key k (nE _)
    have lt:=wJo (inL (L.take k)) n
    have p1:=pw n n8.2
    have p2:=pw l (by omega)
    have add:cdS (inL (L.take (k + 1))) n=cdS (inL (L.take k)) n + 2 ^ l:=by
     refine wRl ?_ ?_ (fun i hi=>?_) n (by omega)
     ·rw [Bool.eq_false_iff]
      intro q
      obtain ⟨j,hj,e⟩:=memB (wCx.1 q)
      rw [nK] at hj
      have e2:gd (L.take k) j=gd L j:=by
       unfold gd
       rw [nZ,nZ,List.getElem?_take_of_lt (by omega)]
      have:=inc j (by omega)
      rw [<- e2,e] at this
      omega
     ·exact wCx.2 (by rw [wDj hk,List.mem_append,ni];exact .inr hlk.symm)
     ·rw [nc,wCx,wCx,wDj hk,List.mem_append,ni,hlk]
      constructor
      ·rintro (q | q)
       ·exact q
       ·omega
      ·exact .inl
    refine .inl ⟨((cdS (inL (L.take k)) n + 2 ^ l:Nat):Int),?_,by rw [add],ok'⟩
    refine wEj (m:=l) (fun i=>(((2 ^ i:Nat):Int),(i:Int))) (fun i hi=>?_) ?_ rfl (by omega)
    ·have p3:=pw i (by omega)
     simp only
     rw [wAu hk,hH,hlk,if_pos (by omega),wAM (x:=(i:Int) + 1) (by omega) (by omega),nj]
     generalize 2 ^ i=P at p3 ⊢
     rw [wAM (by omega) (by omega)]
     congr 3
     omega
    ·simp only
     rw [wAu hk,hH,hlk,if_neg (by omega)]
     generalize 2 ^ l=P at p2 ⊢
     rw [wAM (by omega) (by omega)]
     rfl
  ·rintro st ⟨rfl,ok⟩
   rw [nR]
   have e:wEW n L=0:=by
    rw [lc,if_pos]
    rw [wDC]
    intro j _ hj
    exact decide_eq_true (ok j (by omega))
   exact ⟨_,rfl,e.symm,fun _=>rfl⟩
 ·rw [wAu hk,hH,wCr,hH]
  by_cases c:0 <= gd L k/\gd L k <= (n:Int) - 1
  ·rw [decide_eq_true c,if_neg (by decide),if_pos rfl]
  ·rw [decide_eq_false c,if_pos (by decide),if_neg (by decide)];rfl
end Go.Proofs.Ytfcmijinklojbaa
namespace Go.Proofs.Ytfcmijinklojbaa
open Go.KL
theorem wTO {L:List Int} (hl:L.length <= 1000) {f:Int->Option Bool} {p:Int->Bool} (hf:∀ a,f a=some (p a)):wBI L f=some (L.filter fun a=>!p a):=by
 have fi:wAg L f=some (first p L 0):=by
  unfold wAg
  have:=wFQ (R:=Int) (l:=L) (f:=f) (p:=p) (fun a _=>hf a) (by omega) id
  simp only [id] at this
  exact this
 have fs:∀ (l:List Int) (k:Nat),(first p l k=-1/\∀ a ∈ l,p a=false) \/ ∃ j:Nat,first p l k=((k + j:Nat):Int)/\j < l.length/\p (gd l j)=true/\∀ a ∈ l.take j,p a=false:=by
  intro l
  induction l with
  | nil=>intro k;exact .inl ⟨rfl,fun a h=>by cases h⟩
  | cons a l ih =>
   intro k
   rw [first]
   by_cases c:p a=true
   ·rw [if_pos c]
    exact .inr ⟨0,rfl,by simp,c,fun a h=>by cases h⟩
   ·rw [if_neg c]
    have c':p a=false:=by simpa using c
    rcases ih (k + 1) with ⟨e,h⟩ | ⟨j,e,h1,h2,h3⟩
    ·exact .inl ⟨e,fun x hx=>by
      rcases List.mem_cons.1 hx with q | q
      ·rw [q];exact c'
      ·exact h x q⟩
    ·refine .inr ⟨j + 1,by rw [e];omega,by simp only [List.length_cons];omega,h2,fun x hx=>?_⟩
     rw [List.take_succ_cons] at hx
     rcases List.mem_cons.1 hx with q | q
     ·rw [q];exact c'
     ·exact h3 x q
 unfold wBI
 rw [fi,hH]
 rcases fs L 0 with ⟨e,h⟩ | ⟨q,e,h1,h2,h3⟩
 ·rw [if_pos e]
  congr 1
  exact (nX.2 fun a ha=>by rw [h a ha];rfl).symm
 ·rw [e,if_neg (by omega),nk]
  rw [wAM (by omega) (by omega)]
  have fq:(L.take (q + 1)).filter (fun a=>!p a)=L.take q:=by
   rw [wDj h1,nH,nM (by simp [h2]),nI,nW]
   exact nX.2 fun a ha=>by rw [h3 a ha];rfl
  refine wFw (S:=List Int × Int × Int) (fun k st=>q + 1 + k <= L.length/\st.1.length=L.length/\st.2.2=((q + 1 + k:Nat):Int)/\st.2.1=(((L.take (q + 1 + k)).filter fun a=>!p a).length:Int)/\st.1.take ((L.take (q + 1 + k)).filter fun a=>!p a).length=(L.take (q + 1 + k)).filter (fun a=>!p a)/\∀ j,q + 1 + k <= j->j < L.length->gd st.1 j=gd L j) 1000 ⟨by omega,rfl,rfl,?_,?_,fun j _ _=>rfl⟩ (by omega) ?_
  ·simp only [Nat.add_zero]
   rw [fq,nK];omega
  ·simp only [Nat.add_zero]
   rw [fq,nK,show min q L.length=q by omega]
  rintro k ⟨l,i,j⟩ _ ⟨k0,ll,hj,hi,ht,hd⟩
  simp only at k0 ll hj hi ht hd ⊢
  subst hj
  have fl:((L.take (q + 1 + k)).filter fun a=>!p a).length <= q + k:=by
   have a:L.take (q + 1 + k)=L.take (q + 1) ++ (L.drop (q + 1)).take k:=by
    rw [List.take_add]
   rw [a,nH,nY,fq,nK]
   have:=nG (fun a=>!p a) ((L.drop (q + 1)).take k)
   have:=List.length_take_le k (L.drop (q + 1))
   omega
  by_cases c:q + 1 + k < L.length
  ·rw [if_pos (by omega),wDz (by omega) (by omega),hH,nD,hd _ (nE _) c,hf,hH]
   have tk:L.take (q + 1 + (k + 1))=L.take (q + 1 + k) ++ [gd L (q + 1 + k)]:=wDj c
   by_cases c2:p (gd L (q + 1 + k))=true
   ·rw [if_pos c2,wAM (by omega) (by omega)]
    have fe:(L.take (q + 1 + (k + 1))).filter (fun a=>!p a)=(L.take (q + 1 + k)).filter fun a=>!p a:=by
     rw [tk,nH,nM (by simp [c2]),nI,nW]
    refine .inl ⟨by omega,_,rfl,by omega,ll,by simp only;omega,?_,?_,fun j h4 h5=>hd j (by omega) h5⟩
    ·simp only;rw [fe];exact hi
    ·simp only;rw [fe];exact ht
   ·have fe:(L.take (q + 1 + (k + 1))).filter (fun a=>!p a)=(L.take (q + 1 + k)).filter (fun a=>!p a) ++ [gd L (q + 1 + k)]:=by
     rw [tk,nH,nT (by simpa using c2),nI]
    rw [if_neg c2,hi,wDz (by omega) (by omega),hH,nD,wAM (by omega) (by omega),wAM (by omega) (by omega)]
    refine .inl ⟨by omega,_,rfl,by omega,by simp [ll],by simp only;omega,?_,?_,fun j h4 h5=>?_⟩
    ·simp only;rw [fe,nY,nO];omega
    ·simp only
     rw [fe,nY,nO,wDj (by rw [List.length_set];omega),List.take_set_of_le (nE _),ht,wFH (by omega) (by omega),if_pos rfl]
    ·simp only
     rw [wFH (by omega) (by omega),if_neg (by omega)]
     exact hd j (by omega) h5
  ·rw [if_neg (by omega),hi]
   refine .inr ?_
   rw [show q + 1 + k=L.length by omega,nR] at ht hi ⊢
   unfold cut
   rw [if_pos ⟨by omega,by omega,by have:=nG (fun a=>!p a) L;omega⟩]
   simp only [nD,Int.toNat_zero,List.drop_zero,Nat.sub_zero,hH]
   rw [ht]
   rfl
end Go.Proofs.Ytfcmijinklojbaa
namespace Go.Proofs.Ytfcmijinklojbaa
open Go.KL
section
variable {n:Nat} {b:wAB}
def wJC (L:List Int) (l:Nat):List Int:=L.filter fun a=>!decide (a=(l:Int))
def wGZ (n:Nat) (b:wAB) (s l:Nat) (L:List Int):wAH :=
 if inL L l=true/\adj n (wBf b) (inL (wJC L l)) s=false then ⟨max 0 (wEu n (wBf b) (shB b) (dnB b) (inL L) s),wCH b s l⟩
 else if inL L l=false/\adj n (wBf b) (inL L) s=true then ⟨0,min (wCH b s l) (shB b s - wEu n (wBf b) (shB b) (dnB b) (inL L) s)⟩
 else ⟨0,wCH b s l⟩
theorem wOU {L:List Int} {l:Nat}:(wJC L l).length=L.length ↔ inL L l=false:=by
 unfold wJC
 rw [List.length_filter_eq_length_iff]
 unfold inL
 rw [decide_eq_false_iff_not]
 constructor
 ·intro h q
  have:=h _ q
  simp at this
 ·intro h a ha
  simp only [na,decide_eq_false_iff_not]
  intro e
  rw [e] at ha
  exact h ha
theorem wOV (G:GoodB n b) (S:Nat->Bool) (but:Int):-64 <= wEu n (wBf b) (shB b) (dnB b) S but/\wEu n (wBf b) (shB b) (dnB b) S but <= 40:=by
 have hn:=G.nb
 have a:∀ k,k <= n->0 <= wAy (fun l=>if S l=true then dnB b l else 0) k/\wAy (fun l=>if S l=true then dnB b l else 0) k <= 5 * (k:Int):=by
  intro k
  induction k with
  | zero=>intro _;simp only [wAy];omega
  | succ k ih =>
   intro hk
   have:=ih (by omega);have:=G.dn k (by omega)
   rw [wAy]
   unfold dnB at *
   split <;> omega
 have c:∀ k,k <= n->0 <= wAy (fun s=>if (s:Int) ≠ but/\adj n (wBf b) S s=true then shB b s else 0) k/\wAy (fun s=>if (s:Int) ≠ but/\adj n (wBf b) S s=true then shB b s else 0) k <= 8 * (k:Int):=by
  intro k
  induction k with
  | zero=>intro _;simp only [wAy];omega
  | succ k ih =>
   intro hk
   have:=ih (by omega);have:=G.sh k (by omega)
   rw [wAy]
   unfold shB at *
   split <;> omega
 have:=a n (nE _);have:=c n (nE _)
 unfold wEu dnL
 omega
theorem wPm (G:GoodB n b) {s l:Nat} (hs:s < n) (hl:l < n) {L:List Int} (hL:L.length <= 1000):wBN b (s:Int) (l:Int) L=some (if wEW n L=0 then (if @decide (Can n (wBf b) (shB b) (dnB b)) (nA _)=true then (wGZ n b s l L,0) else (⟨0,0⟩,7)) else (⟨0,0⟩,wEW n L)):=by
 obtain ⟨may,m,e1,_,K⟩:=wDm G
 have hn:=G.nb;have n8:=K.n8
 unfold wBN
 rw [e1,hH]
 simp only [if_true]
 rw [G.ns,wAM (by omega) (by omega),wCM,hH,if_pos (decide_eq_true (by omega)),G.nd,wAM (by omega) (by omega),wCM,hH,decide_eq_true (show 0 <= (l:Int)/\(l:Int) <= (n:Int) - 1 by omega),hH,if_neg (by decide),wOP K hn.1 _ _ _ hL,hH]
 by_cases c:wEW n L=0
 case neg=>rw [if_neg c,if_neg c]
 rw [if_pos c,if_pos c]
 have KL:=LanesOK.of_code c
 have ll:=KL.len
 obtain ⟨may',m',e2,_,g⟩:=wFI (b:=b) (n:=n) (by omega) G.ns G.al
 have K':Desk n (wBf b) (shB b) b may':=⟨n8,G.ns,G.nd,fun i hi=>by have:=G.sh i hi;exact ⟨rfl,by unfold shB;omega⟩,fun i j hi _=>g i j hi⟩
 obtain ⟨r,e3,S⟩:=G.solve K' m'
 rw [e2,hH,e3,hH]
 by_cases c2:r.1=[]
 case neg =>
  rw [if_neg c2,if_neg fun q=>c2 (S.none_iff.2 (@of_decide_eq_true _ (nA _) q))]
 rw [if_pos c2,if_pos (@decide_eq_true _ (nA _) (S.none_iff.1 c2)),wJB G K hs hl,hH,wON hL,hH,wTO (f:=fun x=>wCP x (l:Int)) (p:=fun a=>decide (a=(l:Int))) hL (fun a=>rfl),hH]
 have ol:(L.filter fun a=>!decide (a=(l:Int)))=wJC L l:=rfl
 have fl:=nG (fun a:Int=>!decide (a=(l:Int))) L
 rw [ol] at fl ⊢
 rw [wMG (dn:=dnB b) K (fun l hl=>⟨rfl,by have:=G.dn l hl;unfold dnB;omega⟩) (fun s hs=>(G.sh s hs).1) _ _ _ KL,hH]
 have bd:=wOV G (inL L) s
 have b1:=G.sh s hs
 unfold wGZ
 by_cases c3:(wJC L l).length=L.length
 ·have i1:=wOU.1 c3
  rw [if_neg (by omega),hH]
  simp only [nB,if_false]
  rw [if_pos (by omega),wKf K _ _ _ KL hs,hH,if_neg (show ¬ (inL L l=true/\adj n (wBf b) (inL (wJC L l)) s=false) from fun q=>by rw [i1] at q;cases q.1)]
  by_cases c4:adj n (wBf b) (inL L) s=true
  ·rw [if_pos c4,if_pos ⟨i1,c4⟩,wAu (by rw [G.ns];exact hs),hH,wAM (by omega) (by omega)]
   rfl
  ·rw [if_neg c4,if_neg fun q=>c4 q.2]
 ·have i1:inL L l=true:=by
   have:¬ inL L l=false:=fun q=>c3 (wOU.2 q)
   simpa using this
  rw [if_pos (by omega),wKf K _ _ _ (show LanesOK n (wJC L l) from KL.filter _) hs]
  simp only [hH]
  by_cases c4:adj n (wBf b) (inL (wJC L l)) s=true
  ·rw [c4,if_neg (by decide),if_neg (by omega),if_neg (fun q=>by cases q.2),if_neg (fun q=>by rw [i1] at q;cases q.1)]
  ·have c6:adj n (wBf b) (inL (wJC L l)) s=false:=by simpa using c4
   rw [c6,if_pos (by decide),if_pos ⟨i1,rfl⟩]
theorem wRm (S:Nat->Bool) {s l k:Nat} (hs:s < n):shL n (wIH b s l) (shW b s k) S=wAy (fun i=>if (i:Int) ≠ (s:Int)/\adj n (wBf b) S i=true then shB b i else 0) n + if adj n (wIH b s l) S s=true then shB b s - k else 0:=by
 unfold shL
 rw [wDT (f:=fun i=>if (i:Int) ≠ (s:Int)/\adj n (wBf b) S i=true then shB b i else 0) (g:=fun i=>if adj n (wIH b s l) S i=true then shW b s k i else 0) hs fun i hi hne=>?_]
 ·rw [if_neg (show ¬ ((s:Int) ≠ (s:Int)/\adj n (wBf b) S s=true) from fun q=>q.1 rfl)]
  unfold shW
  rw [if_pos rfl]
  omega
 ·have e:adj n (wIH b s l) S i=adj n (wBf b) S i:=by
   unfold adj wIH
   congr 1
   funext j
   rw [if_neg fun q=>hne q.1]
  rw [e]
  unfold shW
  rw [if_neg hne]
  by_cases c:adj n (wBf b) S i=true
  ·rw [if_pos c,if_pos ⟨by omega,c⟩]
  ·rw [if_neg c,if_neg fun q=>c q.2]
theorem wOW {L:List Int} {s l:Nat}:adj n (wIH b s l) (inL L) s=adj n (wBf b) (inL (wJC L l)) s:=by
 unfold adj
 congr 1
 funext j
 rw [nc,nL,nL,wCx,wCx]
 unfold wJC wIH
 rw [nf]
 by_cases e:j=l
 ·rw [if_pos ⟨rfl,e⟩,e]
  simp
 ·rw [if_neg fun q=>e q.2]
  constructor
  ·rintro ⟨h1,h2⟩;exact ⟨⟨h1,by simp only [na,decide_eq_false_iff_not];omega⟩,h2⟩
  ·rintro ⟨h1,h2⟩;exact ⟨h1.1,h2⟩
theorem wLd {L:List Int} {l:Nat} (h:inL L l=false):wJC L l=L:=by
 refine nX.2 fun a ha=>?_
 simp only [na,decide_eq_false_iff_not]
 intro e
 rw [e] at ha
 rw [wCx.2 ha] at h
 cases h
theorem wOX {s l k:Nat} (hs:s < n) (hl:l < n) (S:Nat->Bool):dnL n (dnW b l k) S - shL n (wIH b s l) (shW b s k) S=wEu n (wBf b) (shB b) (dnB b) S s - (if S l=true then (k:Int) else 0) - if adj n (wIH b s l) S s=true then shB b s - k else 0:=by
 rw [wOQ (s:=s) hl,wRm S hs]
 unfold wEu
 omega
theorem wOY {s l k:Nat} (hs:s < n) (hl:l < n) (P:PW n b s l k) (S:Nat->Bool):wEu n (wBf b) (shB b) (dnB b) S s - (if S l=true then (k:Int) else 0) - (if adj n (wIH b s l) S s=true then shB b s - k else 0) <= 0:=by
 obtain ⟨x,A⟩:=P
 have:=A.hall S
 rw [<- wOX hs hl]
 omega
theorem wPn {s l a:Nat} (hs:s < n) (hl:l < n) (P:PW n b s l (a + 1)) {L:List Int} (h:shL n (wIH b s l) (shW b s a) (inL L) < dnL n (dnW b l a) (inL L)):(wGZ n b s l L).Lo=((a + 1:Nat):Int):=by
 have h1:=wOY hs hl P (inL L)
 have h2:=wOX (b:=b) (k:=a) hs hl (inL L)
 rw [wOW] at h1 h2
 have key:inL L l=true/\adj n (wBf b) (inL (wJC L l)) s=false:=by
  cases c1:inL L l <;> cases c2:adj n (wBf b) (inL (wJC L l)) s <;> rw [c1,c2] at h1 h2 <;> simp only [if_true,nB,if_false] at h1 h2 <;> first | exact ⟨rfl,rfl⟩ | omega
 obtain ⟨c1,c2⟩:=key
 rw [c1,c2] at h1 h2
 simp only [if_true,nB,if_false] at h1 h2
 unfold wGZ
 rw [if_pos ⟨c1,c2⟩]
 simp only
 omega
theorem wOZ {s l c:Nat} (hs:s < n) (hl:l < n) (P:PW n b s l c) (hc:(c:Int) <= wCH b s l) {L:List Int} (h:shL n (wIH b s l) (shW b s (c + 1)) (inL L) < dnL n (dnW b l (c + 1)) (inL L)):(wGZ n b s l L).Hi=(c:Int):=by
 have h1:=wOY hs hl P (inL L)
 have h2:=wOX (b:=b) (k:=c + 1) hs hl (inL L)
 rw [wOW] at h1 h2
 have key:inL L l=false/\adj n (wBf b) (inL (wJC L l)) s=true:=by
  cases c1:inL L l <;> cases c2:adj n (wBf b) (inL (wJC L l)) s <;> rw [c1,c2] at h1 h2 <;> simp only [if_true,nB,if_false] at h1 h2 <;> first | exact ⟨rfl,rfl⟩ | omega
 obtain ⟨c1,c2⟩:=key
 rw [c1,c2] at h1 h2
 simp only [if_true,nB,if_false] at h1 h2
 rw [wLd c1] at c2
 unfold wGZ
 rw [if_neg (fun q=>by rw [c1] at q;cases q.1),if_pos ⟨c1,c2⟩]
 simp only
 omega
theorem wLe (s l:Nat):wGZ n b s l []=⟨0,wCH b s l⟩:=by
 have e:adj n (wBf b) (inL []) s=false:=by
  unfold adj
  rw [List.any_eq_false]
  intro j _
  simp [inL]
 unfold wGZ
 rw [if_neg (fun q=>by simp [inL] at q),if_neg (fun q=>by rw [e] at q;cases q.2)]
theorem wJq (n:Nat):LanesOK n []:=⟨fun l h=>(by cases h),List.Pairwise.nil⟩
theorem wMJ (G:GoodB n b) (C:Can n (wBf b) (shB b) (dnB b)) {s l:Nat} (hs:s < n) (hl:l < n):∃ a c:Nat,∃ low high:List Int,wBD b (s:Int) (l:Int)=some (⟨(a:Int),(c:Int)⟩,0)/\wBy b (s:Int) (l:Int)=some (low,high,0)/\LanesOK n low/\LanesOK n high/\(wGZ n b s l low).Lo=a/\(wGZ n b s l high).Hi=c/\(c:Int) <= wCH b s l/\a <= c/\PW n b s l a/\PW n b s l c:=by
 obtain ⟨a,c,e0,hac,hcm,hP⟩:=wKi G C hs hl
 have Pa:=(hP a (by omega)).2 ⟨nE _,hac⟩
 have Pc:=(hP c hcm).2 ⟨hac,nE _⟩
 have hn:=G.nb
 have b1:=G.sh s hs;have b2:=G.dn l hl
 have b3:shB b s <= 8:=b1.2
 have hm:wCH b s l <= shB b s/\wCH b s l <= dnB b l:=by
  unfold wCH shB dnB
  split <;> omega
 obtain ⟨may,m,e1,_,K⟩:=wDm G
 obtain ⟨⟨L,h,u,m2⟩,e2,S⟩:=G.solve K m
 have cL:L=[]:=S.none_iff.2 C
 obtain ⟨lo,hi,e3,q⟩:=wKh G K hs hl h u m2
 have lohi:lo=a/\hi=c:=by
  rcases q with ⟨nP,_⟩ | ⟨a',c',rfl,rfl,g1,g2,g3⟩
  ·exact absurd Pa (nP a (by omega))
  ·have p1:=(g3 a (by omega)).1 Pa
   have p2:=(g3 c hcm).1 Pc
   have p3:=(hP a' (by omega)).1 ((g3 a' (by omega)).2 ⟨nE _,g1⟩)
   have p4:=(hP c' g2).1 ((g3 c' g2).2 ⟨g1,nE _⟩)
   omega
 obtain ⟨rfl,rfl⟩:=lohi
 have sol:∀ k:Nat,(k:Int) <= wCH b s l->¬ PW n b s l k->∃ x L r,wAT ⟨b,may,h,u,m2⟩ (s:Int) (l:Int) (k:Int)=some x/\wAL x=some (L,r)/\LanesOK n L/\shL n (wIH b s l) (shW b s k) (inL L) < dnL n (dnW b l k) (inL L):=fun k hk nP=>by
  obtain ⟨b',may',m',e4,K',d'⟩:=wFT (may:=may) G hs hl (show (k:Int) <= shB b s by omega) (show (k:Int) <= dnB b l by omega) h u m2
  obtain ⟨r,e5,S'⟩:=wEi K' d' m' (wFx K'.n8 fun i hi=>by
   have:=G.sh i hi
   unfold shW
   split
   ·omega
   ·exact this.1)
  exact ⟨_,r.1,r.2,e4,e5,(S'.lanes nP).1,(S'.lanes nP).2⟩
 refine ⟨a,c,?_⟩
 unfold wBy wBM
 rw [e1,hH]
 simp only [if_true]
 rw [G.ns,wAM (by omega) (by omega),wCM,hH,if_pos (decide_eq_true (by omega)),G.nd,wAM (by omega) (by omega),wCM,hH,if_pos (decide_eq_true (by omega)),e2,hH]
 simp only
 rw [if_pos cL,hH]
 simp only [if_true]
 rw [e3,hH]
 simp only
 have hiS:∃ high,(if (c:Int) < wCH b s l then (wAT ⟨b,may,h,u,m2⟩ (s:Int) (l:Int) (w64 ((c:Int) + 1))).bind fun x=>(wAL x).bind fun (y,_)=>some y else some [])=some high/\LanesOK n high/\(wGZ n b s l high).Hi=c:=by
  by_cases cc:(c:Int) < wCH b s l
  ·rw [if_pos cc,wAM (by omega) (by omega)]
   obtain ⟨x,L2,r,e4,e5,L3,lt⟩:=sol (c + 1) (by omega) (fun q=>by have:=(hP _ (by omega)).1 q;omega)
   rw [show ((c:Int) + 1)=((c + 1:Nat):Int) by omega,e4,hH,e5]
   exact ⟨L2,rfl,L3,wOZ hs hl Pc hcm lt⟩
  ·rw [if_neg cc]
   refine ⟨[],rfl,wJq n,?_⟩
   rw [wLe]
   simp only
   omega
 obtain ⟨high,eh,Hh,hh⟩:=hiS
 have fin:∀ low:List Int,(if (c:Int) < wCH b s l then (wAT ⟨b,may,h,u,m2⟩ (s:Int) (l:Int) (w64 ((c:Int) + 1))).bind fun x=>(wAL x).bind fun (y,_)=>some (low,y,(0:Int)) else some (low,[],0))=some (low,high,0):=fun low=>by
  by_cases cc:(c:Int) < wCH b s l
  ·rw [if_pos cc] at eh ⊢
   cases ew:wAT ⟨b,may,h,u,m2⟩ (s:Int) (l:Int) (w64 ((c:Int) + 1)) with
   | none=>rw [ew] at eh;cases eh
   | some x =>
    rw [ew,hH] at eh
    rw [hH]
    cases es:wAL x with
    | none=>rw [es] at eh;cases eh
    | some y =>
     rw [es,hH] at eh
     rw [hH]
     injection eh with eh
     rw [<- eh]
  ·rw [if_neg cc] at eh ⊢
   injection eh with eh
   rw [<- eh]
 by_cases ca:0 < (a:Int)
 ·rw [if_pos ca,wAM (by omega) (by omega)]
  obtain ⟨x,L2,r,e4,e5,L3,lt⟩:=sol (a - 1) (by omega) (fun q=>by have:=(hP _ (by omega)).1 q;omega)
  rw [show ((a:Int) - 1)=((a - 1:Nat):Int) by omega,e4,hH,e5,hH]
  simp only
  rw [wJB G K hs hl,hH]
  refine ⟨L2,high,e0,fin L2,L3,Hh,?_,hh,hcm,hac,Pa,Pc⟩
  have:=wPn (a:=a - 1) hs hl (by rw [show a - 1 + 1=a by omega];exact Pa) lt
  rw [this]
  omega
 ·rw [if_neg ca,wJB G K hs hl,hH]
  refine ⟨[],high,e0,fin [],wJq n,Hh,?_,hh,hcm,hac,Pa,Pc⟩
  rw [wLe]
  simp only
  omega
end
end Go.Proofs.Ytfcmijinklojbaa
namespace Go.Proofs.Ytfcmijinklojbaa
open Go.KL
section
variable {n:Nat} {b:wAB}
theorem wKl {can:Nat->Nat->Bool} {sh dn:Nat->Int} {S T:Nat->Bool} (h:∀ l,l < n->S l=T l) (but:Int):wEu n can sh dn S but=wEu n can sh dn T but:=by
 unfold wEu
 rw [wHs h]
 congr 1
 exact wAn n fun s _=>by rw [wJl h]
theorem wOa (G:GoodB n b) {s l:Nat} (hs:s < n) {L:List Int} (K:LanesOK n L) (hl:L.length <= 1000):wDJ 0 (↑L.length:Int) (fun k99 b98 =>
              if b98=true then
                some true
              else
                (idx L (↑k99:Int)).bind fun x130 =>
                if x130=(l:Int) then
                  some false
                else
                  (wAS (wCv b) (s:Int) x130).bind fun x154 =>
                  some x154) false=some (adj n (wBf b) (inL (wJC L l)) s):=by
  rw [wDS (S:=Bool) (n:=L.length) (fun k=>(L.take k).any fun x=>!decide (x=(l:Int)) && wBf b s x.toNat) (s0:=false) rfl (by omega) fun k hk=>?_,nR]
  · congr 1
    rw [nc,wFu,List.any_eq_true]
    constructor
    · rintro ⟨x,h1,h2⟩
      have:=K.rg x h1
      rw [nL] at h2
      refine ⟨x.toNat,by omega,wCx.2 ?_,h2.2⟩
      rw [Int.toNat_of_nonneg this.1]
      exact nf.2 ⟨h1,h2.1⟩
    · rintro ⟨j,h1,h2,h3⟩
      have:=nf.1 (wCx.1 h2)
      exact ⟨(j:Int),this.1,by rw [nL];exact ⟨this.2,by simpa using h3⟩⟩
  · rw [wDj hk,List.any_append]
    by_cases c:((L.take k).any fun x=>!decide (x=(l:Int)) && wBf b s x.toNat)=true
    · rw [if_pos c,c];rfl
    · rw [if_neg c]
      have c':((L.take k).any fun x=>!decide (x=(l:Int)) && wBf b s x.toNat)=false:=by simpa using c
      rw [c',Bool.false_or,List.any_cons,List.any_nil,Bool.or_false,wAu hk,hH]
      have rg:=K.rg _ (wDi hk)
      obtain ⟨j,hj⟩:∃ j:Nat,gd L k=j:=⟨(gd L k).toNat,by omega⟩
      by_cases c2:gd L k=(l:Int)
      · rw [if_pos c2,decide_eq_true c2];rfl
      · rw [if_neg c2,decide_eq_false c2,hj,wHu G.al,hH,nD];rfl
theorem wJr (G:GoodB n b) (hc:wGX b=0) {s l:Nat} (hs:s < n) (hl:l < n) {L:List Int} (hL:L.length <= 1000):wAO (wCv b) (s:Int) (l:Int) L=some (if wEW n L=0 then (if @decide (Can n (wBf b) (shB b) (dnB b)) (nA _)=true then (wGZ n b s l L,0) else (⟨0,0⟩,7)) else (⟨0,0⟩,wEW n L)):=by
 have hn:=G.nb;have ns:=G.ns;have nd:=G.nd
 have b1:=G.sh s hs;have b2:=G.dn l hl
 have hS:(wCv b).Shots=b.Shots:=rfl
 have hD:(wCv b).Down=b.Down:=rfl
 obtain ⟨⟨x,cd⟩,e1,rfl,hx⟩:=wOT nd hn hL
 unfold wAO
 rw [wDA (by omega) G.al,hc,hH,if_pos rfl,hS,ns,wAM (by omega) (by omega),wCr,hH,decide_eq_true (by omega),if_neg (by decide),hD,nd,wAM (by omega) (by omega),wCr,hH,decide_eq_true (by omega),if_neg (by decide),e1,hH]
 simp only at hx ⊢
 by_cases c:wEW n L=0
 case neg=>rw [if_neg c,if_neg c]
 rw [if_pos c,if_pos c]
 have hx:=hx c
 subst hx
 have K:=LanesOK.of_code c
 have lt:=wJo (inL L) n
 have pw:2 ^ n <= 256:=nV (n:=2) (by omega) hn.2
 by_cases C:Can n (wBf b) (shB b) (dnB b)
 case neg =>
  have pos:wAJ (wCv b) (-1) (-1)=some false:=by
   have e:=wEk G.near (-1) (-1) (by rw [wDk];exact .inr (G.short C))
   rw [wDk,@decide_eq_false _ (nA _) fun q=>C ((wEH G).1 q)] at e
   exact e
  rw [pos,hH,if_neg (by decide),@decide_eq_false _ (nA _) C,if_neg (by decide)]
 have pos:wAJ (wCv b) (-1) (-1)=some true:=by
  have e:=wEk G.near (-1) (-1) (by rw [wDk];exact .inl ((wEH G).2 C))
  rw [wDk,@decide_eq_true _ (nA _) ((wEH G).2 C)] at e
  exact e
 rw [pos,hH,if_pos rfl,@decide_eq_true _ (nA _) C,if_pos rfl,wOa G hs K hL,hH,wHu G.al,hH]
 have lk:wAt (wCv b) ((cdS (inL L) n:Nat):Int) (s:Int) (-1) (-1)=some (wEu n (wBf b) (shB b) (dnB b) (inL L) s):=by
  rw [wJA G.near (by omega),wDk,wKl (T:=inL L) fun l hl=>wGj _ n l hl]
 have hh:wAW ((cdS (inL L) n:Nat):Int) (l:Int)=some (inL L l):=by
  rw [wKg (by omega) (by omega),wGj _ n l hl]
 have iS:idx b.Shots (s:Int)=some (gd b.Shots s):=wAu (by omega)
 have iD:idx b.Down (l:Int)=some (gd b.Down l):=wAu (by omega)
 rw [lk,hh,iS,iD]
 simp only [hH]
 have bd:=wOV G (inL L) s
 generalize hv:wEu n (wBf b) (shB b) (dnB b) (inL L) s=v at bd
 unfold wGZ
 rw [hv]
 have w0:w64 (gd b.Shots s - v)=gd b.Shots s - v:=wAM (by omega) (by omega)
 rw [w0]
 have os:inL L l=false->adj n (wBf b) (inL (wJC L l)) s=adj n (wBf b) (inL L) s:=fun h=>by rw [wLd h]
 have mo:wCH b s l=if wBf b s l=true then min (gd b.Shots s) (gd b.Down l) else 0:=rfl
 rw [mo]
 have sb:shB b s=gd b.Shots s:=rfl
 rw [sb]
 cases h1:inL L l with
 | false =>
  rw [os h1]
  cases h2:adj n (wBf b) (inL L) s with
  | false=>cases h3:wBf b s l <;> simp only [nB,if_false,if_true,and_false,false_and,true_and,and_true,hH]
  | true =>
   cases h3:wBf b s l with
   | false =>
    simp only [nB,nN,if_false,if_true,and_false,false_and,true_and,and_true,and_self,hH]
    by_cases c0:gd b.Shots s - v < 0
    ·rw [if_pos c0,show min (0:Int) (gd b.Shots s - v)=gd b.Shots s - v by omega]
    ·rw [if_neg c0,show min (0:Int) (gd b.Shots s - v)=0 by omega]
   | true =>
    simp only [nB,nN,if_false,if_true,and_false,false_and,true_and,and_true,and_self,hH]
    by_cases c0:gd b.Shots s - v < min (gd b.Shots s) (gd b.Down l)
    ·rw [if_pos c0,show min (min (gd b.Shots s) (gd b.Down l)) (gd b.Shots s - v)=gd b.Shots s - v by omega]
    ·rw [if_neg c0,show min (min (gd b.Shots s) (gd b.Down l)) (gd b.Shots s - v)=min (gd b.Shots s) (gd b.Down l) by omega]
 | true =>
  cases h2:adj n (wBf b) (inL (wJC L l)) s with
  | true=>cases h3:wBf b s l <;> simp only [nB,nN,if_false,if_true,and_false,false_and,true_and,and_true,hH]
  | false =>
   cases h3:wBf b s l with
   | false =>
    simp only [nB,nN,if_false,if_true,and_false,false_and,true_and,and_true,and_self,hH]
    by_cases c0:0 < v
    ·rw [decide_eq_true c0,if_pos rfl,show max 0 v=v by omega]
    ·rw [decide_eq_false c0,if_neg (by decide),show max 0 v=0 by omega]
   | true =>
    simp only [nB,nN,if_false,if_true,and_false,false_and,true_and,and_true,and_self,hH]
    by_cases c0:0 < v
    ·rw [decide_eq_true c0,if_pos rfl,show max 0 v=v by omega]
    ·rw [decide_eq_false c0,if_neg (by decide),show max 0 v=0 by omega]
theorem wMK (G:GoodB n b) (hc:wGX b=0) (p q:Int) {L:List Int} (hL:L.length <= 1000):∃ r,wBN b p q L=some r/\wAO (wCv b) p q L=some r:=by
 have hn:=G.nb;have ns:=G.ns;have nd:=G.nd
 have hS:(wCv b).Shots=b.Shots:=rfl
 have hD:(wCv b).Down=b.Down:=rfl
 obtain ⟨may,m,e1,_,K⟩:=wDm G
 by_cases c1:0 <= p/\p <= (n:Int) - 1
 case neg =>
  refine ⟨(⟨0,0⟩,1),?_,?_⟩
  ·unfold wBN
   rw [e1,hH]
   simp only [if_true]
   rw [ns,wAM (by omega) (by omega),wCM,hH,decide_eq_false c1,if_neg (by decide),hH]
   rfl
  ·unfold wAO
   rw [wDA (by omega) G.al,hc,hH,if_pos rfl,hS,ns,wAM (by omega) (by omega),wCr,hH,decide_eq_false c1,if_pos (by decide)]
 by_cases c2:0 <= q/\q <= (n:Int) - 1
 case neg =>
  refine ⟨(⟨0,0⟩,1),?_,?_⟩
  ·unfold wBN
   rw [e1,hH]
   simp only [if_true]
   rw [ns,wAM (by omega) (by omega),wCM,hH,decide_eq_true c1,if_pos rfl,nd,wAM (by omega) (by omega),wCM,hH,decide_eq_false c2,hH]
   rfl
  ·unfold wAO
   rw [wDA (by omega) G.al,hc,hH,if_pos rfl,hS,ns,wAM (by omega) (by omega),wCr,hH,decide_eq_true c1,if_neg (by decide),hD,nd,wAM (by omega) (by omega),wCr,hH,decide_eq_false c2,if_pos (by decide)]
 obtain ⟨s,hs⟩:∃ s:Nat,p=s:=⟨p.toNat,by omega⟩
 obtain ⟨l,hl⟩:∃ l:Nat,q=l:=⟨q.toNat,by omega⟩
 subst hs hl
 exact ⟨_,wPm G (by omega) (by omega) hL,wJr G hc (by omega) (by omega) hL⟩
end
end Go.Proofs.Ytfcmijinklojbaa
namespace Go.Proofs.Ytfcmijinklojbaa
open Go.KL
theorem wIZ {S:Type} {body:Nat->S->Option S} {n:Nat} {s0:S} (I:Nat->S->Prop) (hn:n <= 1000) (h0:I 0 s0) (h:∀ i s,i < n->I i s->∃ s',body i s=some s'/\I (i + 1) s'):∃ s,wDJ 0 (n:Int) body s0=some s/\I n s:=by
 rw [wDp (by omega)]
 have:=wEU (body:=body) I n 0 s0 h0 fun i s _ h2 h3=>h i s (by omega) h3
 rwa [nk] at this
end Go.Proofs.Ytfcmijinklojbaa
namespace Go.Proofs.Ytfcmijinklojbaa
open Go.KL
section
variable {n:Nat} {b:wAB}
def shQ (b:wAB) (s:Nat) (q:Int) (i:Nat):Int:=if i=s then q else shB b i
def cnD (n:Nat) (b:wAB) (s:Nat):Int:=wAy (fun l=>if wBf b s l=true then dnB b l else 0) n
structure wKm (n:Nat) (b:wAB) (s:Nat) (w:wAH):Prop where
 few:∃ q:Nat,(q:Int) <= shB b s/\Can n (wBf b) (shQ b s q) (dnB b)/\(∀ p:Nat,p < q->¬ Can n (wBf b) (shQ b s p) (dnB b))/\w=⟨shB b s - min (shB b s) (cnD n b s),shB b s - q⟩
theorem wOb (G:GoodB n b) (s:Nat):∀ k,k <= n->0 <= wAy (fun l=>if wBf b s l=true then dnB b l else 0) k/\wAy (fun l=>if wBf b s l=true then dnB b l else 0) k <= 5 * (k:Int)
 | 0,_=>by simp only [wAy];omega
 | k + 1,h=>by
  have a:=wOb G s k (by omega)
  have c:=G.dn k (by omega)
  rw [wAy]
  unfold dnB at a ⊢
  split <;> omega
theorem wML (G:GoodB n b) {may:List (wAD × Bool)} (K:Desk n (wBf b) (shB b) b may) (C:Can n (wBf b) (shB b) (dnB b)) {s:Nat} (hs:s < n):∃ q:Nat,(iter (fun x257 =>
            if x257 < gd b.Shots s then
              (wAP b.Shots).bind fun x281 =>
              (chk (↑s:Int) x281.length).bind fun _ =>
              (wBG (⟨(nU x281 s x257),b.Down,b.Across⟩:wAB)).bind fun x317 =>
              (wAL x317).bind fun (x343,x344) =>
              if x343=[] then
                esc (some x257)
              else
                some (.inl (w64 (x257 + 1)))
            else
              esc (some x257)) big (0:Int))=some (q:Int)/\(q:Int) <= shB b s/\Can n (wBf b) (shQ b s q) (dnB b)/\∀ p:Nat,p < q->¬ Can n (wBf b) (shQ b s p) (dnB b):=by
  have hn:=G.nb
  have b1:=G.sh s hs
  have ns:=G.ns
  obtain ⟨v,e,q,hq,h1,h2,h3⟩:=wLV (S:=Int) (B:=Int) (body:=fun x257 =>
            if x257 < gd b.Shots s then
              (wAP b.Shots).bind fun x281 =>
              (chk (↑s:Int) x281.length).bind fun _ =>
              (wBG (⟨(nU x281 s x257),b.Down,b.Across⟩:wAB)).bind fun x317 =>
              (wAL x317).bind fun (x343,x344) =>
              if x343=[] then
                esc (some x257)
              else
                some (.inl (w64 (x257 + 1)))
            else
              esc (some x257)) (fun i v=>v=(i:Int)/\v <= gd b.Shots s/\∀ p:Nat,p < i->¬ Can n (wBf b) (shQ b s p) (dnB b)) (fun v=>∃ q:Nat,v=(q:Int)/\(q:Int) <= shB b s/\Can n (wBf b) (shQ b s q) (dnB b)/\∀ p:Nat,p < q->¬ Can n (wBf b) (shQ b s p) (dnB b)) 10 (fun i v hi ⟨hv,hle,hno⟩=>by
    subst hv
    by_cases c:(i:Int) < gd b.Shots s
    · obtain ⟨may',m',e1,_,g⟩:=wFI (b:=⟨b.Shots.set s (i:Int),b.Down,b.Across⟩) (n:=n) (by omega) (by simp [ns]) G.al
      have K':Desk n (wBf b) (shQ b s i) ⟨b.Shots.set s (i:Int),b.Down,b.Across⟩ may':=⟨by omega,by simp [ns],G.nd,fun j hj=>by
        simp only
        rw [wFH (by omega) (by omega)]
        have:=G.sh j hj
        unfold shQ shB
        split <;> simp <;> omega,fun a c ha _=>g a c ha⟩
      obtain ⟨r,e2,S⟩:=wEi K' (dn:=dnB b) (fun l hl=>⟨rfl,by have:=G.dn l hl;unfold dnB;omega⟩) m' (wFx K'.n8 fun j hj=>by
        have:=G.sh j hj
        unfold shQ shB
        split <;> omega)
      rw [if_pos c,wON (by rw [ns];omega),hH,wDz (by omega) (by omega),hH,e1,hH,e2,hH]
      simp only
      by_cases c2:r.1=[]
      · rw [if_pos c2]
        exact .inr ⟨_,rfl,i,rfl,by unfold shB;omega,S.none_iff.1 c2,hno⟩
      · rw [if_neg c2,wAM (by omega) (by omega)]
        refine .inl ⟨by omega,_,rfl,by omega,by omega,fun p hp=>?_⟩
        by_cases e:p=i
        · rw [e];exact fun q=>c2 (S.none_iff.2 q)
        · exact hno p (by omega)
    · rw [if_neg c]
      refine .inr ⟨_,rfl,i,rfl,by unfold shB;omega,?_,hno⟩
      have:shQ b s (i:Int)=shB b:=funext fun j=>by
        unfold shQ
        split
        · rename_i e;rw [e];unfold shB;omega
        · rfl
      rw [this];exact C) (s0:=(0:Int)) ⟨rfl,by omega,fun p hp=>by omega⟩ (by omega)
  subst hq
  exact ⟨q,e,h1,h2,h3⟩
theorem wOc (G:GoodB n b) (C:Can n (wBf b) (shB b) (dnB b)):∃ L,wBJ b=some (L,0)/\L.length=n/\∀ s,s < n->wKm n b s (gd L s):=by
  have hn:=G.nb
  obtain ⟨may,m,e1,_,K⟩:=wDm G
  obtain ⟨⟨L,h,u,m2⟩,e2,S⟩:=G.solve K m
  have c:L=[]:=S.none_iff.2 C
  unfold wBJ wBb
  rw [e1,hH]
  simp only [if_true]
  rw [e2,hH]
  simp only
  rw [if_pos c,hH]
  simp only [if_true]
  rw [G.ns]
  obtain ⟨W,e,I1,I2⟩:=wIZ (S:=List wAH) (n:=n) (s0:=[]) (body:=fun (k82:Nat) (l78:List wAH) =>
        (idx b.Shots (↑k82:Int)).bind fun x106 =>
        (wBH () (↑k82:Int)).bind fun _ =>
        (wAp (S:=Int) (E:=Empty) (fun x182 x195 =>
          (idx b.Down x195).bind fun x227 =>
          some (.inl (w64 (x182 + x227)))) 0 (⟨b,may,h,u,m2⟩:wAF) () (↑k82:Int)).bind fun rr184 =>
        match rr184 with
        | .inl y245 =>
          (iter (fun x257 =>
            if x257 < x106 then
              (wAP b.Shots).bind fun x281 =>
              (chk (↑k82:Int) x281.length).bind fun _ =>
              (wBG (⟨(nU x281 k82 x257),b.Down,b.Across⟩:wAB)).bind fun x317 =>
              (wAL x317).bind fun (x343,x344) =>
              if x343=[] then
                esc (some x257)
              else
                some (.inl (w64 (x257 + 1)))
            else
              esc (some x257)) big 0).bind fun x250 =>
          (wCU x106 [y245]).bind fun x395 =>
          (app 16 l78 [(⟨w64 (x106 - x395),w64 (x106 - x250)⟩:wAH)]).bind fun x410 =>
          some x410
        | .inr e246 =>
          e246.elim) (fun k W=>W.length=k/\∀ s,s < k->wKm n b s (gd W s)) (by omega) ⟨rfl,fun s hs=>by omega⟩ (fun k W hk ⟨h1,h2⟩=>by
    have b1:=G.sh k hk
    rw [wAu (by rw [G.ns];exact hk),hH]
    unfold wBH
    rw [hH]
    rcases wLU (S:=Int) (E:=Empty) K (fun x182 x195 =>
          (idx b.Down x195).bind fun x227 =>
          some (.inl (w64 (x182 + x227)))) 0 h u m2 hk (fun j v=>v=wAy (fun l=>if wBf b k l=true then dnB b l else 0) j) (fun _=>False) rfl (fun j v hj hv=>by
      subst hv
      have bd:=wOb G k j (by omega)
      have d1:=G.dn j hj
      refine ⟨fun q=>?_,fun q=>.inl ⟨_,by rw [wAu (by rw [G.nd];exact hj),hH],?_⟩⟩
      · rw [wAy,if_neg (by rw [q];decide),Int.add_zero]
      · rw [wAy,if_pos q,wAM (by omega) (by omega)]
        rfl) with ⟨v,e3,hv⟩ | ⟨x,_,hx⟩
    · erw [e3]
      rw [hH]
      simp only
      obtain ⟨q,e4,q1,q2,q3⟩:=wML G K C hk
      erw [e4]
      rw [hH]
      subst hv
      have bd:=wOb G k n (nE _)
      have le:wCU (gd b.Shots k) [wAy (fun l=>if wBf b k l=true then dnB b l else 0) n]=some (min (gd b.Shots k) (cnD n b k)):=rfl
      rw [le,hH,wEV (by simp only [List.length_cons,nS];omega),hH]
      refine ⟨_,rfl,by simp [h1],fun s hs=>?_⟩
      unfold shB at q1
      have cb:0 <= cnD n b k/\cnD n b k <= 40:=by unfold cnD;omega
      rw [wAM (by omega) (by omega),wAM (by omega) (by omega)]
      by_cases e:s=k
      · subst e
        have:=wPZ W [] (⟨gd b.Shots s - min (gd b.Shots s) (cnD n b s),gd b.Shots s - q⟩:wAH)
        rw [h1] at this
        rw [this]
        exact ⟨q,q1,q2,q3,rfl⟩
      · rw [wPY (by omega)]
        exact h2 s (by omega)
    · exact hx.elim)
  erw [e]
  exact ⟨W,rfl,I1,I2⟩
theorem wMM (G:GoodB n b) (C:Can n (wBf b) (shB b) (dnB b)):∃ F:wAD->Bool,wAz b=some (b.Across.filter F,0)/\∀ p ∈ b.Across,(F p=true ↔ ¬ PW n b p.Skier.toNat p.Lane.toNat 0):=by
 have hn:=G.nb
 obtain ⟨may,m,e1,_,K⟩:=wDm G
 obtain ⟨⟨L,h,u,m2⟩,e2,S⟩:=G.solve K m
 have c:L=[]:=S.none_iff.2 C
 unfold wAz wBb
 rw [e1,hH]
 simp only [if_true]
 rw [e2,hH]
 simp only
 rw [if_pos c,hH]
 simp only [if_true]
 have sp:∀ p ∈ b.Across,∃ r,wBC ⟨b,may,h,u,m2⟩ p.Skier p.Lane=some r/\(0 < r.Lo ↔ ¬ PW n b p.Skier.toNat p.Lane.toNat 0):=fun p hp=>by
  have P:=G.ac p hp
  have p1:=P.s;have p2:=P.l
  obtain ⟨s,hs⟩:∃ s:Nat,p.Skier=s:=⟨p.Skier.toNat,by omega⟩
  obtain ⟨l,hl⟩:∃ l:Nat,p.Lane=l:=⟨p.Lane.toNat,by omega⟩
  rw [hs,hl,nD,nD]
  obtain ⟨lo,hi,e3,q⟩:=wKh G K (show s < n by omega) (show l < n by omega) h u m2
  have m0:0 <= wCH b s l:=by
   have:=G.sh s (by omega);have:=G.dn l (by omega)
   unfold wCH shB dnB
   split <;> omega
  refine ⟨_,e3,?_⟩
  simp only
  rcases q with ⟨nP,rfl,_⟩ | ⟨a,cc,rfl,rfl,h1,h2,h3⟩
  ·
   exfalso
   obtain ⟨x,A⟩:=C
   have x0:=A.nn s l (by omega) (by omega)
   obtain ⟨k0,hk0⟩:∃ k0:Nat,x s l=k0:=⟨(x s l).toNat,by omega⟩
   have a1:=wEP (f:=x s) (fun j hj=>A.nn s j (by omega) hj) (show l < n by omega)
   have a2:=wEP (f:=fun i=>x i l) (fun i hi=>A.nn i l hi (by omega)) (show s < n by omega)
   have a3:=A.row s (by omega)
   have a4:=A.col l (by omega)
   refine nP k0 ?_ (pw_of A (show s < n by omega) (show l < n by omega) hk0)
   unfold wCH
   by_cases cc:wBf b s l=true
   ·rw [if_pos cc];omega
   ·rw [if_neg cc]
    have:¬ 0 < x s l:=fun h=>cc (A.pos s l (by omega) (by omega) h)
    omega
  ·have:=h3 0 (by omega)
   rw [this]
   omega
 have fl:∀ k,k <= b.Across.length->∃ F:wAD->Bool,(∀ p ∈ b.Across.take k,(F p=true ↔ ¬ PW n b p.Skier.toNat p.Lane.toNat 0)):=fun k _=>⟨fun p=>@decide (¬ PW n b p.Skier.toNat p.Lane.toNat 0) (nA _),fun p _=>by simp⟩
 refine ⟨fun p=>@decide (¬ PW n b p.Skier.toNat p.Lane.toNat 0) (nA _),?_,fun p _=>by simp⟩
 have al:=G.al
 rw [wDS (S:=List wAD) (n:=b.Across.length) (fun k=>(b.Across.take k).filter fun p=>@decide (¬ PW n b p.Skier.toNat p.Lane.toNat 0) (nA _)) (s0:=[]) rfl (by omega) fun k hk=>?_]
 ·rw [nR]
  rfl
 ·obtain ⟨r,e4,i4⟩:=sp _ (wDi hk)
  have ll:=nG (fun p:wAD=>@decide (¬ PW n b p.Skier.toNat p.Lane.toNat 0) (nA _)) (b.Across.take k)
  rw [nK] at ll
  rw [wAu hk,hH,e4,hH,wDj hk,nH]
  by_cases c2:0 < r.Lo
  ·rw [if_pos c2,nT (by simpa using i4.1 c2),nI,wEV (by rw [nO];omega),hH]
  ·rw [if_neg c2,nM (by simpa using fun h=>c2 (i4.2 h)),nI,nW]
end
end Go.Proofs.Ytfcmijinklojbaa
namespace Go.Proofs.Ytfcmijinklojbaa
open Go.KL
def it6 (r:Nat):Nat->Nat
 | 0=>r
 | k + 1=>it6 r k / 6
def dg6 (r k:Nat):Nat:=it6 r k % 6
theorem wTP (r:Nat):∀ k,it6 r (k + 1)=it6 (r / 6) k
 | 0=>rfl
 | k + 1=>by rw [it6,wTP r k,it6]
theorem wQS (r:Nat):∀ k,it6 r k <= r
 | 0=>nE _
 | k + 1=>by have:=wQS r k;rw [it6];omega
def cd6:Nat->(Nat->Nat)->Nat
 | 0,_=>0
 | n + 1,f=>f 0 + 6 * cd6 n fun l=>f (l + 1)
theorem wQT:∀ (n:Nat) (f:Nat->Nat),(∀ l,l < n->f l <= 5)->cd6 n f < 6 ^ n
 | 0,f,_=>by simp [cd6]
 | n + 1,f,h=>by
  have a:=wQT n (fun l=>f (l + 1)) fun l hl=>h (l + 1) (by omega)
  have c:=h 0 (by omega)
  rw [cd6,nj]
  omega
theorem wQU:∀ (n:Nat) (f:Nat->Nat),(∀ l,l < n->f l <= 5)->∀ k,k < n->dg6 (cd6 n f) k=f k
 | 0,f,_,k,hk=>by omega
 | n + 1,f,h,k,hk=>by
  have c:=h 0 (by omega)
  cases k with
  | zero=>rw [dg6,it6,cd6];omega
  | succ k =>
   rw [dg6,wTP,cd6,show (f 0 + 6 * cd6 n fun l=>f (l + 1)) / 6=cd6 n fun l=>f (l + 1) by omega]
   exact wQU n (fun l=>f (l + 1)) (fun l hl=>h (l + 1) (by omega)) k (by omega)
section
variable {n:Nat} {b:wAB}
theorem wOd {f g:Nat->Int} (h:wAy f n < wAy g n):∃ k,k < n/\f k < g k:=by
 apply nJ
 intro q
 have:=wFt (f:=g) (g:=f) n fun k hk=>by
  apply nJ
  intro c
  exact q ⟨k,hk,by omega⟩
 omega
theorem wFJ {f g:Nat->Int} {k:Nat} {v:Int} (hk:k < n) (h:∀ i,i < n->i ≠ k->g i=f i) (hv:g k=f k + v):wAy g n=wAy f n + v:=by
 rw [wDT hk h,hv];omega
theorem wTQ {x:Nat->Nat->Int} (A:Asg n (wBf b) (shB b) (dnB b) x) {s:Nat} (hs:s < n) (h1:wAy (x s) n < shB b s) (h2:wAy (x s) n < cnD n b s):∃ y,Asg n (wBf b) (shB b) (dnB b) y/\wAy (y s) n=wAy (x s) n + 1:=by
 obtain ⟨l,hl,lt⟩:=wOd h2
 have x0:=A.nn s l hs hl
 have cs:wBf b s l=true:=by
  by_cases c:wBf b s l=true
  ·exact c
  ·simp only [if_neg c] at lt;omega
 rw [if_pos cs] at lt
 have col:=A.col l hl
 obtain ⟨i,hi,il⟩:∃ i,i < n/\(if i=s then x s l else 0) < x i l:=by
  refine wOd ?_
  rw [wFR hs,col]
  exact lt
 have hne:i ≠ s:=fun e=>by rw [if_pos e,e] at il;omega
 rw [if_neg hne] at il
 refine ⟨fun a j=>if j=l then (if a=s then x a j + 1 else if a=i then x a j - 1 else x a j) else x a j,⟨fun a j ha hj=>?_,fun a j ha hj q=>?_,fun a ha=>?_,fun j hj=>?_⟩,?_⟩
 ·have:=A.nn a j ha hj
  by_cases c:j=l
  ·rw [if_pos c]
   by_cases c1:a=s
   ·rw [if_pos c1];omega
   ·rw [if_neg c1]
    by_cases c2:a=i
    ·rw [if_pos c2,c2,c];omega
    ·rw [if_neg c2];exact this
  ·rw [if_neg c];exact this
 ·by_cases c:j=l
  ·rw [if_pos c] at q
   by_cases c1:a=s
   ·rw [c1,c];exact cs
   ·rw [if_neg c1] at q
    by_cases c2:a=i
    ·rw [if_pos c2] at q;exact A.pos a j ha hj (by omega)
    ·rw [if_neg c2] at q;exact A.pos a j ha hj q
  ·rw [if_neg c] at q;exact A.pos a j ha hj q
 ·by_cases c1:a=s
  ·subst c1
   rw [wFJ (f:=x a) (v:=1) hl (fun j _ hjn=>if_neg hjn) (by show (if l=l then _ else _)=_;rw [if_pos rfl,if_pos rfl])]
   omega
  ·have r:=A.row a ha
   by_cases c2:a=i
   ·rw [wFJ (f:=x a) (v:=-1) hl (fun j _ hjn=>if_neg hjn) (by show (if l=l then _ else _)=_;rw [if_pos rfl,if_neg c1,if_pos c2];omega)]
    omega
   ·rw [wAn n (g:=x a) fun j hj=>by
     by_cases c:j=l
     ·rw [if_pos c,if_neg c1,if_neg c2]
     ·rw [if_neg c]]
    exact r
 ·by_cases c:j=l
  ·subst c
   have e1:wAy (fun a=>(if a=s then x a j + 1 else if a=i then x a j - 1 else x a j)) n=wAy (fun a=>(if a=s then x a j + 1 else x a j)) n + (-1):=wFJ hi (fun a _ hai=>by show (if a=s then _ else _)=_;rw [if_neg hai]) (by show (if i=s then _ else _)=(if i=s then _ else _) + _;rw [if_neg hne,if_pos rfl,if_neg hne];omega)
   have e2:wAy (fun a=>(if a=s then x a j + 1 else x a j)) n=wAy (fun a=>x a j) n + 1:=wFJ hs (fun a _ has=>if_neg has) (if_pos rfl)
   simp only [if_true]
   rw [e1,e2,col]
   omega
  ·simp only [if_neg c]
   exact A.col j hj
 ·exact wFJ hl (fun j _ hjn=>if_neg hjn) (by show (if l=l then _ else _)=_;rw [if_pos rfl,if_pos rfl])
theorem wRn {x:Nat->Nat->Int} (A:Asg n (wBf b) (shB b) (dnB b) x) {s:Nat} (hs:s < n) (hx:wAy (x s) n <= min (shB b s) (cnD n b s)):∃ y,Asg n (wBf b) (shB b) (dnB b) y/\wAy (y s) n=min (shB b s) (cnD n b s):=by
 have key:∀ (d:Nat) (x:Nat->Nat->Int),Asg n (wBf b) (shB b) (dnB b) x->wAy (x s) n + d=min (shB b s) (cnD n b s)->∃ y,Asg n (wBf b) (shB b) (dnB b) y/\wAy (y s) n=min (shB b s) (cnD n b s):=by
  intro d
  induction d with
  | zero=>intro x A h;exact ⟨x,A,by omega⟩
  | succ d ih =>
   intro x A h
   obtain ⟨y,B,e⟩:=wTQ A hs (by omega) (by omega)
   exact ih y B (by omega)
 exact key (min (shB b s) (cnD n b s) - wAy (x s) n).toNat x A (by omega)
def dnR (b:wAB) (r l:Nat):Int:=dnB b l - dg6 r l
def wKn (n:Nat) (b:wAB) (s r:Nat):Prop:=(∀ l,l < n->(dg6 r l:Int) <= dnB b l/\(dg6 r l=0 \/ wBf b s l=true))/\wAy (fun l=>(dg6 r l:Int)) n <= shB b s/\Can n (wBf b) (shQ b s 0) (dnR b r)
theorem wRo {s r:Nat} (hs:s < n) (Q:wKn n b s r):∃ x,Asg n (wBf b) (shB b) (dnB b) x/\wAy (x s) n=wAy (fun l=>(dg6 r l:Int)) n:=by
 obtain ⟨h1,h2,y,A⟩:=Q
 have z:∀ j,j < n->y s j=0:=fun j hj=>by
  have a:=wEP (f:=y s) (fun i hi=>A.nn s i hs hi) hj
  have c:=A.row s hs
  have d:=A.nn s j hs hj
  unfold shQ at c
  rw [if_pos rfl] at c
  omega
 refine ⟨fun i j=>if i=s then (dg6 r j:Int) else y i j,⟨fun i j hi hj=>?_,fun i j hi hj q=>?_,fun i hi=>?_,fun j hj=>?_⟩,wAn n fun j _=>if_pos rfl⟩
 ·split
  ·omega
  ·exact A.nn i j hi hj
 ·by_cases e:i=s
  ·rw [if_pos e] at q
   rw [e]
   exact (h1 j hj).2.resolve_left (by omega)
  ·rw [if_neg e] at q;exact A.pos i j hi hj q
 ·by_cases e:i=s
  ·rw [wAn n fun j _=>if_pos e,e];exact h2
  ·rw [wAn n fun j _=>if_neg e]
   have:=A.row i hi
   unfold shQ at this
   rw [if_neg e] at this
   exact this
 ·have c:=A.col j hj
  unfold dnR at c
  rw [wDT (f:=fun i=>y i j) hs fun i _ hne=>if_neg hne,c]
  simp only [if_true]
  rw [z j hj]
  omega
theorem wOe (G:GoodB n b) {x:Nat->Nat->Int} (A:Asg n (wBf b) (shB b) (dnB b) x) {s:Nat} (hs:s < n):∃ r,r < 6 ^ n/\wKn n b s r/\wAy (fun l=>(dg6 r l:Int)) n=wAy (x s) n:=by
 have u:∀ l,l < n->0 <= x s l/\x s l <= dnB b l:=fun l hl=>by
  have a1:=A.nn s l hs hl
  have a2:=wEP (f:=fun i=>x i l) (fun i hi=>A.nn i l hi hl) hs
  have a3:=A.col l hl
  omega
 have f5:∀ l,l < n->(x s l).toNat <= 5:=fun l hl=>by have:=u l hl;have:=(G.dn l hl).2;unfold dnB at *;omega
 have dv:∀ l,l < n->(dg6 (cd6 n fun l=>(x s l).toNat) l:Int)=x s l:=fun l hl=>by
  rw [wQU n _ f5 l hl]
  have:=u l hl
  omega
 have se:wAy (fun l=>(dg6 (cd6 n fun l=>(x s l).toNat) l:Int)) n=wAy (x s) n:=wAn n dv
 refine ⟨_,wQT n _ f5,⟨fun l hl=>⟨by rw [dv l hl];exact (u l hl).2,?_⟩,by rw [se];exact A.row s hs,?_⟩,se⟩
 ·by_cases c:0 < x s l
  ·exact .inr (A.pos s l hs hl c)
  ·have:=dv l hl;have:=u l hl
   exact .inl (by omega)
 ·refine ⟨fun i j=>if i=s then 0 else x i j,fun i j hi hj=>?_,fun i j hi hj q=>?_,fun i hi=>?_,fun j hj=>?_⟩
  ·split
   ·exact Int.le_refl _
   ·exact A.nn i j hi hj
  ·by_cases e:i=s
   ·rw [if_pos e] at q;omega
   ·rw [if_neg e] at q;exact A.pos i j hi hj q
  ·unfold shQ
   by_cases e:i=s
   ·rw [if_pos e,wCz n fun j _=>if_pos e];exact Int.le_refl _
   ·rw [if_neg e,wAn n fun j _=>if_neg e];exact A.row i hi
  ·unfold dnR
   rw [dv j hj,wDT (f:=fun i=>x i j) hs fun i _ hne=>if_neg hne,A.col j hj]
   simp only [if_true]
   omega
def wJs (b:wAB) (s:Nat) (D:List Int):wAB:=⟨b.Shots.set s 0,D,b.Across⟩
theorem wPo (G:GoodB n b) {s r:Nat} (hs:s < n) {D:List Int} (dl:D.length=n) (dv:∀ l,l < n->gd D l=dnR b r l) (ok:∀ l,l < n->(dg6 r l:Int) <= dnB b l):wAJ (wCv (wJs b s D)) (-1) (-1)=some (@decide (Can n (wBf b) (shQ b s 0) (dnR b r)) (nA _)):=by
 have hn:=G.nb;have ns:=G.ns
 have sv:∀ i,i < n->gd (b.Shots.set s 0) i=shQ b s 0 i:=fun i hi=>by
  rw [wFH (by omega) (by omega)]
  rfl
 have db:∀ l,l < n->0 <= dnR b r l/\dnR b r l <= 5:=fun l hl=>by
  have:=ok l hl
  have g:dnB b l <= 5:=(G.dn l hl).2
  unfold dnR;omega
 have sb:∀ i,i < n->0 <= shQ b s 0 i/\shQ b s 0 i <= 8:=fun i hi=>by
  have g:0 <= shB b i/\shB b i <= 8:=G.sh i hi
  unfold shQ;split <;> omega
 have N:wSJ n (wJs b s D):=⟨hn.2,by simp [wJs,ns],dl,fun i hi=>by
   show -1000 <= gd (b.Shots.set s 0) i/\gd (b.Shots.set s 0) i <= 1000
   rw [sv i hi];have:=sb i hi;omega,fun l hl=>by
   show -1000 <= gd D l/\gd D l <= 1000
   rw [dv l hl];have:=db l hl;omega,G.al⟩
 obtain ⟨may',m',_,_,g⟩:=wFI (b:=wJs b s D) (n:=n) hn.2 (by simp [wJs,ns]) G.al
 have K':Desk n (wBf b) (shQ b s 0) (wJs b s D) may':=⟨hn.2,by simp [wJs,ns],dl,fun j hj=>⟨sv j hj,by have:=sb j hj;omega⟩,fun a c ha _=>g a c ha⟩
 obtain ⟨q,e2,S⟩:=wEi K' (dn:=dnR b r) (fun l hl=>⟨dv l hl,by have:=db l hl;omega⟩) m' (wFx K'.n8 fun j hj=>(sb j hj).1)
 have cx:wGx (wJs b s D) (-1) (-1)=wBf b:=wDk (wJs b s D)
 have sN:∀ S,shL n (wBf b) (shB (wJs b s D)) S=shL n (wBf b) (shQ b s 0) S:=fun S=>wAn n fun i hi=>by
  rw [show shB (wJs b s D) i=shQ b s 0 i from sv i hi]
 have dN:∀ S,dnL n (dnB (wJs b s D)) S=dnL n (dnR b r) S:=fun S=>wAn n fun i hi=>by
  rw [show dnB (wJs b s D) i=dnR b r i from dv i hi]
 have all:(∀ S:Nat->Bool,dnL n (dnB (wJs b s D)) S <= shL n (wGx (wJs b s D) (-1) (-1)) (shB (wJs b s D)) S) ↔ Can n (wBf b) (shQ b s 0) (dnR b r):=by
  constructor
  ·intro h
   apply nJ
   intro nC
   obtain ⟨T,lt⟩:=S.short nC
   have:=h T
   rw [cx,sN,dN] at this
   omega
  ·rintro ⟨x,A⟩ T
   rw [cx,sN,dN]
   exact A.hall T
 have e:=wEk N (-1) (-1) (by
  by_cases c:Can n (wBf b) (shQ b s 0) (dnR b r)
  ·exact .inl (all.2 c)
  ·obtain ⟨T,lt⟩:=S.short c
   refine .inr ⟨T,?_⟩
   rw [cx,sN,dN]
   exact lt)
 rw [e]
 congr 1
 by_cases c:Can n (wBf b) (shQ b s 0) (dnR b r)
 ·rw [@decide_eq_true _ (nA _) c,@decide_eq_true _ (nA _) (all.2 c)]
 ·rw [@decide_eq_false _ (nA _) c,@decide_eq_false _ (nA _) fun q=>c (all.1 q)]
theorem wMN {S:Type} {body:Nat->S->Option S} {n:Nat} {s0:S} (I:Nat->S->Prop) (hn:n <= 100000) (h0:I 0 s0) (h:∀ i s,i < n->I i s->∃ s',body i s=some s'/\I (i + 1) s'):∃ s,wDJ 0 (n:Int) body s0=some s/\I n s:=by
 rw [wDp (by omega)]
 have:=wEU (body:=body) I n 0 s0 h0 fun i s _ h2 h3=>h i s (by omega) h3
 rwa [nk] at this
def okR (b:wAB) (s r:Nat):Nat->Bool
 | 0=>true
 | k + 1=>okR b s r k && (decide ((dg6 r k:Int) <= gd b.Down k) && (decide (dg6 r k=0) || wBf b s k))
theorem wKo {s r:Nat}:∀ k,okR b s r k=true ↔ ∀ l,l < k->(dg6 r l:Int) <= dnB b l/\(dg6 r l=0 \/ wBf b s l=true)
 | 0=>by simp [okR]
 | k + 1=>by
  rw [okR,nL,wKo k,nL,Bool.or_eq_true,decide_eq_true_iff,decide_eq_true_iff]
  constructor
  ·rintro ⟨h1,h2⟩ l hl
   by_cases e:l=k
   ·rw [e];exact h2
   ·exact h1 l (by omega)
  ·intro h
   exact ⟨fun l hl=>h l (by omega),h k (by omega)⟩
theorem wPp (G:GoodB n b) {s r:Nat} (hr:r <= 100000):∃ D:List Int,wDJ 0 (n:Int) (fun k907 (l903,x904,x905,b906) =>
      (rem x904 6).bind fun x940 =>
      (quo x904 6).bind fun x943 =>
      (if b906=true then
        (idx b.Down (↑k907:Int)).bind fun x952 =>
        if x940 <= x952 then
          if x940=0 then
            some true
          else
            (wAS (wCv b) (s:Int) (↑k907:Int)).bind fun x977 =>
            some x977
        else
          some false
      else
        some false).bind fun b946 =>
      (chk (↑k907:Int) l903.length).bind fun _ =>
      some ((nU l903 k907 (w64 ((gd l903 k907) - x940))),x943,w64 (x905 + x940),b946)) (b.Down,((r:Nat):Int),(0:Int),true)=some (D,(it6 r n:Int),wAy (fun l=>(dg6 r l:Int)) n,okR b s r n)/\D.length=n/\∀ l,l < n->gd D l=dnR b r l:=by
  have hn:=G.nb;have nd:=G.nd
  obtain ⟨⟨D,x,y,z⟩,e,h1,h2,h3⟩:=wIZ (S:=List Int × Int × Int × Bool) (n:=n) (s0:=(b.Down,((r:Nat):Int),(0:Int),true)) (body:=fun k907 (l903,x904,x905,b906) =>
      (rem x904 6).bind fun x940 =>
      (quo x904 6).bind fun x943 =>
      (if b906=true then
        (idx b.Down (↑k907:Int)).bind fun x952 =>
        if x940 <= x952 then
          if x940=0 then
            some true
          else
            (wAS (wCv b) (s:Int) (↑k907:Int)).bind fun x977 =>
            some x977
        else
          some false
      else
        some false).bind fun b946 =>
      (chk (↑k907:Int) l903.length).bind fun _ =>
      some ((nU l903 k907 (w64 ((gd l903 k907) - x940))),x943,w64 (x905 + x940),b946)) (fun k st=>st.2=((it6 r k:Int),wAy (fun l=>(dg6 r l:Int)) k,okR b s r k)/\st.1.length=n/\∀ l,l < n->gd st.1 l=if l < k then dnR b r l else dnB b l) (by omega) ⟨rfl,nd,fun l hl=>by rw [if_neg (by omega)];rfl⟩ (by
    rintro k ⟨D,x,y,z⟩ hk ⟨h1,h2,h3⟩
    simp only at h1 h2 h3 ⊢
    injection h1 with e1 e2
    injection e2 with e2 e3
    subst e1 e2 e3
    have il:=wQS r k
    have hd:(it6 r k % 6:Nat)=dg6 r k:=rfl
    have r1:rem (it6 r k:Int) 6=some (dg6 r k:Int):=by
      unfold rem
      rw [if_neg (by decide),Int.tmod_eq_emod_of_nonneg (by omega)]
      congr 1
    have r2:quo (it6 r k:Int) 6=some (it6 r (k + 1):Int):=by
      unfold quo
      rw [if_neg (by decide),Int.tdiv_eq_ediv_of_nonneg (by omega),wAM (by omega) (by omega)]
      congr 1
    have dk:dg6 r k <= 5:=by unfold dg6;omega
    have sb:∀ m,m <= k->0 <= wAy (fun l=>(dg6 r l:Int)) m/\wAy (fun l=>(dg6 r l:Int)) m <= 5 * (m:Int):=by
      intro m
      induction m with
      | zero=>intro _;simp only [wAy];omega
      | succ m ih =>
        intro hm
        have:=ih (by omega)
        have:dg6 r m <= 5:=by unfold dg6;omega
        rw [wAy];omega
    have sk:=sb k (nE _)
    have g:=G.dn k hk
    have gk:=h3 k hk
    rw [if_neg (by omega)] at gk
    unfold dnB at gk
    have hb:(if okR b s r k=true then
        (idx b.Down (k:Int)).bind fun x952 =>
        if (dg6 r k:Int) <= x952 then
          if (dg6 r k:Int)=0 then
            some true
          else
            (wAS (wCv b) (s:Int) (k:Int)).bind fun x977 =>
            some x977
        else
          some false
      else
        some false)=some (okR b s r (k + 1)):=by
      rw [okR]
      by_cases c:okR b s r k=true
      · rw [if_pos c,c,nh,wAu (by omega),hH]
        by_cases c1:(dg6 r k:Int) <= gd b.Down k
        · rw [if_pos c1,decide_eq_true c1,nh]
          by_cases c2:dg6 r k=0
          · rw [if_pos (by omega),decide_eq_true c2,Bool.true_or]
          · rw [if_neg (by omega),decide_eq_false c2,Bool.false_or,wHu G.al,hH]
        · rw [if_neg c1,decide_eq_false c1,ng]
      · rw [if_neg c]
        have:okR b s r k=false:=by simpa using c
        rw [this,ng]
    rw [r1,hH,r2,hH,hb,hH,wDz (by omega) (by omega),hH,gk,wAM (by omega) (by omega),wAM (by omega) (by omega)]
    refine ⟨_,rfl,?_,by simp [h2],fun l hl=>?_⟩
    · simp only;rw [wAy]
    · simp only
      rw [wFH (by omega) (by omega)]
      by_cases e:l=k
      · rw [if_pos e,e,if_pos (by omega)];rfl
      · rw [if_neg e,h3 l hl]
        by_cases e2:l < k
        · rw [if_pos e2,if_pos (by omega)]
        · rw [if_neg e2,if_neg (by omega)])
  simp only at h1 h2 h3
  refine ⟨D,?_,h2,fun l hl=>by rw [h3 l hl,if_pos hl]⟩
  rw [<- h1]
  exact e
theorem wMO (G:GoodB n b) (n4:n <= 4) (C:Can n (wBf b) (shB b) (dnB b)) {s:Nat} (hs:s < n) {w:wAH} (W:wKm n b s w):wBK (wCv b) (s:Int)=some w:=by
 have hn:=G.nb;have ns:=G.ns;have nd:=G.nd
 have b1:0 <= shB b s/\shB b s <= 8:=G.sh s hs
 have hS:(wCv b).Shots=b.Shots:=rfl
 have hD:(wCv b).Down=b.Down:=rfl
 have hA:(wCv b).Across=b.Across.map rpB:=rfl
 have pw:∀ k,k <= 4->6 ^ k <= 1296:=fun k hk=>nV (n:=6) (by omega) hk
 obtain ⟨q,q1,q2,q3,rfl⟩:=W.few
 have asum:∀ x,Asg n (wBf b) (shB b) (dnB b) x->(q:Int) <= wAy (x s) n/\wAy (x s) n <= min (shB b s) (cnD n b s):=fun x A=>by
  have r1:=A.row s hs
  have r0:=wKe (f:=x s) n fun l hl=>A.nn s l hs hl
  have r2:wAy (x s) n <= cnD n b s:=wFt n fun l hl=>by
   by_cases c:wBf b s l=true
   ·rw [if_pos c]
    have a2:=wEP (f:=fun i=>x i l) (fun i hi=>A.nn i l hi hl) hs
    have a4:=A.col l hl
    omega
   ·rw [if_neg c]
    have:¬ 0 < x s l:=fun h=>c (A.pos s l hs hl h)
    omega
  have q4:(q:Int) <= wAy (x s) n:=by
   apply nJ
   intro h
   refine q3 (wAy (x s) n).toNat (by omega) ⟨x,A.nn,A.pos,fun i hi=>?_,A.col⟩
   unfold shQ
   split
   ·rename_i e;rw [e];omega
   ·exact A.row i hi
  exact ⟨q4,by omega⟩
 have rsum:∀ r,wKn n b s r->(q:Int) <= wAy (fun l=>(dg6 r l:Int)) n/\wAy (fun l=>(dg6 r l:Int)) n <= min (shB b s) (cnD n b s):=fun r Q=>by
  obtain ⟨x,A,e⟩:=wRo hs Q
  rw [<- e]
  exact asum x A
 obtain ⟨rq,rq1,rq2,rq3⟩:∃ r,r < 6 ^ n/\wKn n b s r/\wAy (fun l=>(dg6 r l:Int)) n=q:=by
  obtain ⟨x,A⟩:=q2
  have A':Asg n (wBf b) (shB b) (dnB b) x:=⟨A.nn,A.pos,fun i hi=>by
   have:=A.row i hi
   unfold shQ at this
   split at this
   ·rename_i e;rw [e] at this ⊢;omega
   ·exact this,A.col⟩
  have l:=(asum x A').1
  have u:=A.row s hs
  unfold shQ at u
  rw [if_pos rfl] at u
  obtain ⟨r,h1,h2,h3⟩:=wOe G A' hs
  exact ⟨r,h1,h2,by omega⟩
 obtain ⟨rm,rm1,rm2,rm3⟩:∃ r,r < 6 ^ n/\wKn n b s r/\wAy (fun l=>(dg6 r l:Int)) n=min (shB b s) (cnD n b s):=by
  obtain ⟨x,A⟩:=C
  obtain ⟨y,B,e⟩:=wRn A hs (asum x A).2
  obtain ⟨r,h1,h2,h3⟩:=wOe G B hs
  exact ⟨r,h1,h2,by rw [h3];exact e⟩
 have M0:0 <= min (shB b s) (cnD n b s):=by have:=(rsum rm rm2).1;omega
 unfold wBK
 rw [hD,hS,hA,nd]
 rw [wDS (S:=Int) (n:=n) (fun k=>((6 ^ k:Nat):Int)) (s0:=1) rfl (by omega) fun k hk=>?p6,hH]
 case p6 =>
  have:=pw k (by omega)
  rw [nj]
  generalize 6 ^ k=P at this ⊢
  rw [wAM (by omega) (by omega)]
  congr 1
  omega
 have p1:=pw n n4
 have step:∀ (r:Nat) (x y:Int),r < 6 ^ n->((app 8 ([]:List Int) b.Shots).bind fun x111 =>
  (app 8 ([]:List Int) b.Down).bind fun x126 =>
  some (x111,x126))=some (b.Shots,b.Down):=fun r x y hr=>by
  rw [wEV (by simp only [nS];omega),hH,wEV (by simp only [nS];omega),hH]
  rfl
 obtain ⟨⟨lo,hi⟩,e,i1,i2,i3,i4⟩:=wMN (S:=Int × Int) (n:=6 ^ n) (s0:=((9:Int),(0:Int))) (body:=fun k70 (x68,x69) =>
  ((app 8 ([]:List Int) b.Shots).bind fun x111 =>
  (app 8 ([]:List Int) b.Down).bind fun x126 =>
  some (x111,x126)).bind fun (l97,l100) =>
  (wDJ 0 (↑n:Int) (fun k907 (l903,x904,x905,b906) =>
   (rem x904 6).bind fun x940 =>
   (quo x904 6).bind fun x943 =>
   (if b906=true then
    (idx b.Down (↑k907:Int)).bind fun x952 =>
    if x940 <= x952 then
     if x940=0 then
      some true
     else
      (wAS (wCv b) (s:Int) (↑k907:Int)).bind fun x977 =>
      some x977
    else
     some false
   else
    some false).bind fun b946 =>
   (chk (↑k907:Int) l903.length).bind fun _ =>
   some ((nU l903 k907 (w64 ((gd l903 k907) - x940))),x943,w64 (x905 + x940),b946)) (l100,(↑k70:Int),0,true)).bind fun (y912,y913,y914,y915) =>
  (chk (s:Int) l97.length).bind fun _ =>
  if y915=true then
   (idx b.Shots (s:Int)).bind fun x1061 =>
   if y914 <= x1061 then
    (wAJ (⟨(nU l97 (s:Int).toNat 0),y912,b.Across.map rpB⟩:wAC) (-1) (-1)).bind fun x1091 =>
    if x1091=true then
     some (min x68 (w64 (x1061 - y914)),max x69 (w64 (x1061 - y914)))
    else
     some (x68,x69)
   else
    some (x68,x69)
  else
   some (x68,x69)) (fun k st=>(∀ r,r < k->wKn n b s r->st.1 <= shB b s - wAy (fun l=>(dg6 r l:Int)) n)/\(st.1=9 \/ ∃ r,wKn n b s r/\st.1=shB b s - wAy (fun l=>(dg6 r l:Int)) n)/\(∀ r,r < k->wKn n b s r->shB b s - wAy (fun l=>(dg6 r l:Int)) n <= st.2)/\(st.2=0 \/ ∃ r,wKn n b s r/\st.2=shB b s - wAy (fun l=>(dg6 r l:Int)) n)) (by omega) ⟨fun r hr=>by omega,.inl rfl,fun r hr=>by omega,.inl rfl⟩ (by
  rintro r ⟨x,y⟩ hr ⟨j1,j2,j3,j4⟩
  simp only at j1 j2 j3 j4 ⊢
  have skip:¬ wKn n b s r->(∀ r',r' < r + 1->wKn n b s r'->x <= shB b s - wAy (fun l=>(dg6 r' l:Int)) n)/\(x=9 \/ ∃ r,wKn n b s r/\x=shB b s - wAy (fun l=>(dg6 r l:Int)) n)/\(∀ r',r' < r + 1->wKn n b s r'->shB b s - wAy (fun l=>(dg6 r' l:Int)) n <= y)/\(y=0 \/ ∃ r,wKn n b s r/\y=shB b s - wAy (fun l=>(dg6 r l:Int)) n):=fun nQ =>
   ⟨fun r' h Q=>by
    by_cases e:r'=r
    ·rw [e] at Q;exact absurd Q nQ
    ·exact j1 r' (by omega) Q,j2,fun r' h Q=>by
    by_cases e:r'=r
    ·rw [e] at Q;exact absurd Q nQ
    ·exact j3 r' (by omega) Q,j4⟩
  rw [step r x y hr,hH]
  obtain ⟨D,eD,dl,dv⟩:=wPp G (s:=s) (r:=r) (by omega)
  simp only
  rw [eD,hH]
  simp only
  rw [wDz (by omega) (by omega),hH]
  by_cases c1:okR b s r n=true
  ·rw [if_pos c1,wAu (by omega),hH]
   have ok:=(wKo n).1 c1
   by_cases c2:wAy (fun l=>(dg6 r l:Int)) n <= gd b.Shots s
   ·rw [if_pos c2,nD]
    have pr:=wPo G hs dl dv fun l hl=>(ok l hl).1
    have eR:(⟨(nU b.Shots s 0),D,b.Across.map rpB⟩:wAC)=wCv (wJs b s D):=rfl
    rw [eR,pr,hH]
    by_cases c3:Can n (wBf b) (shQ b s 0) (dnR b r)
    ·have Q:wKn n b s r:=⟨ok,c2,c3⟩
     have sm:=rsum r Q
     have sv:shB b s=gd b.Shots s:=rfl
     rw [@decide_eq_true _ (nA _) c3,if_pos rfl,wAM (by omega) (by omega)]
     refine ⟨_,rfl,fun r' h Q'=>?_,?_,fun r' h Q'=>?_,?_⟩
     ·by_cases e:r'=r
      ·subst e;simp only;omega
      ·have:=j1 r' (by omega) Q';simp only;omega
     ·simp only
      by_cases m:x <= gd b.Shots s - wAy (fun l=>(dg6 r l:Int)) n
      ·rw [show min x (gd b.Shots s - wAy (fun l=>(dg6 r l:Int)) n)=x by omega];exact j2
      ·exact .inr ⟨r,Q,by omega⟩
     ·by_cases e:r'=r
      ·subst e;simp only;omega
      ·have:=j3 r' (by omega) Q';simp only;omega
     ·simp only
      by_cases m:gd b.Shots s - wAy (fun l=>(dg6 r l:Int)) n <= y
      ·rw [show max y (gd b.Shots s - wAy (fun l=>(dg6 r l:Int)) n)=y by omega];exact j4
      ·exact .inr ⟨r,Q,by omega⟩
    ·rw [@decide_eq_false _ (nA _) c3,if_neg (by decide)]
     exact ⟨_,rfl,skip fun Q=>c3 Q.2.2⟩
   ·rw [if_neg c2]
    exact ⟨_,rfl,skip fun Q=>c2 Q.2.1⟩
  ·rw [if_neg c1]
   exact ⟨_,rfl,skip fun Q=>c1 ((wKo n).2 Q.1)⟩)
 erw [e]
 rw [hH]
 simp only at i1 i2 i3 i4 ⊢
 have f1:=i1 rm rm1 rm2
 have f2:=i3 rq rq1 rq2
 have g1:lo=shB b s - min (shB b s) (cnD n b s):=by
  rcases i2 with h | ⟨r,Q,h⟩
  ·omega
  ·have:=(rsum r Q).2;omega
 have g2:hi=shB b s - q:=by
  rcases i4 with h | ⟨r,Q,h⟩
  ·omega
  ·have:=(rsum r Q).1;omega
 rw [g1,g2]
end
end Go.Proofs.Ytfcmijinklojbaa
namespace Go.Proofs.Ytfcmijinklojbaa
open Go.KL
theorem wKp {x:List Int} (hx:x.length <= 1000):wBA x=some x:=by
 unfold wBA
 rw [wEV (by simp only [nS];omega)]
 rfl
theorem wRp {x:List wAD} (hx:x.length <= 1000):wAv x=some x:=by
 unfold wAv
 rw [wEV (by simp only [nS];omega)]
 rfl
end Go.Proofs.Ytfcmijinklojbaa
namespace Go.Proofs.Ytfcmijinklojbaa
open Go.KL
theorem wLf {b:wAB} (sl:b.Shots.length <= 1000) (dl:b.Down.length <= 1000) (al:b.Across.length <= 1000) (h:wGX b ≠ 0):wBo b=some (none,wGX b):=by
 unfold wBo
 rw [wMH sl dl al,hH,if_neg h]
theorem wJt {l:List Int} (h:l.length <= 1000):wAU l l=some true:=by
 unfold wAU
 exact wGh (by omega)
theorem wHx {b:wAB} (sl:b.Shots.length <= 1000) (dl:b.Down.length <= 1000) (al:b.Across.length <= 1000):wAs b b=some true:=by
 unfold wAs
 rw [wJt sl,hH,if_pos rfl,wJt dl,hH,if_pos rfl]
 have:wAN b.Across b.Across=some true:=by
  unfold wAN
  exact wGh (by omega)
 rw [this,hH]
theorem wRq {l:List wAD} (h:l.length <= 1000):wAN l l=some true:=by
 unfold wAN
 exact wGh (by omega)
theorem wPq {b:wAB} (h:wBT b 4=some false):(b.Shots.length <= 4 \/ 8 < b.Shots.length)/\b.Shots.length <= 12/\b.Down.length <= 12/\b.Across.length <= 70:=by
 unfold wBT at h
 split at h
 ·split at h
  ·cases h
  ·split at h
   ·cases h
   ·split at h
    ·cases h
    ·injection h with h
     have:=of_decide_eq_false h
     omega
 ·split at h
  ·cases h
  ·split at h
   ·cases h
   ·injection h with h
    have:=of_decide_eq_false h
    omega
theorem wMP (b:wAB):∃ r,wBT b 4=some r:=by
 unfold wBT
 split
 ·split
  ·exact ⟨_,rfl⟩
  ·split
   ·exact ⟨_,rfl⟩
   ·split
    ·exact ⟨_,rfl⟩
    ·exact ⟨_,rfl⟩
 ·split
  ·exact ⟨_,rfl⟩
  ·split
   ·exact ⟨_,rfl⟩
   ·exact ⟨_,rfl⟩
theorem wTR {S B:Type} {body:Nat->S->Option (S ⊕ B)} {n:Nat} {s0:S} {k:S->Option B} {r:B} (I:Nat->S->Prop) (hn:n <= 1000) (h0:I 0 s0) (step:∀ i s,i < n->I i s->∃ s',body i s=some (.inl s')/\I (i + 1) s') (cont:∀ s,I n s->k s=some r):jn (wFy 0 (n:Int) body s0) k=some r:=by
 rcases wFS I (fun _=>False) hn h0 (fun i s hi h=>.inl (step i s hi h)) with ⟨s,e,h⟩ | ⟨_,_,h⟩
 ·rw [e];exact cont s h
 ·exact h.elim
theorem wIa {b:wAB} {p q:Int} {r:wAH × Int} (e:wBD b p q=some r) (h:r.2 ≠ 0):wBy b p q=some ([],[],r.2):=by
 unfold wBD at e
 unfold wBy
 cases hp:wBM b p q with
 | none=>rw [hp] at e;cases e
 | some v =>
  obtain ⟨x,c⟩:=v
  rw [hp,hH] at e
  rw [hH]
  cases x with
  | none =>
   simp only at e ⊢
   by_cases c0:c=0
   ·rw [if_pos c0] at e;cases e
   ·rw [if_neg c0] at e ⊢
    injection e with e
    rw [<- e]
  | some d =>
   simp only at e ⊢
   by_cases c0:c=0
   ·rw [if_pos c0] at e
    cases hs:wBC d p q with
    | none=>rw [hs] at e;cases e
    | some w =>
     rw [hs,hH] at e
     injection e with e
     rw [<- e] at h
     exact absurd rfl h
   ·rw [if_neg c0] at e ⊢
    injection e with e
    rw [<- e]
theorem wOf {n:Nat} {b:wAB} (G:GoodB n b) (nC:¬ Can n (wBf b) (shB b) (dnB b)):wBJ b=some ([],7)/\wAz b=some ([],7):=by
 obtain ⟨may,m,e1,_,K⟩:=wDm G
 obtain ⟨r,e2,S⟩:=G.solve K m
 have c:¬ r.1=[]:=fun q=>nC (S.none_iff.1 q)
 have es:∃ d,wBb b=some (d,7):=by
  unfold wBb
  rw [e1,hH]
  simp only [if_true]
  rw [e2,hH]
  rw [if_neg c]
  exact ⟨_,rfl⟩
 obtain ⟨d,es⟩:=es
 constructor
 ·unfold wBJ
  rw [es,hH]
  cases d <;> rfl
 ·unfold wAz
  rw [es,hH]
  cases d <;> rfl
theorem wRr {b:wAB} {p q:Int} {L:List Int} (hg:b.Shots.length <= 4 \/ 8 < b.Shots.length) (sl:b.Shots.length <= 12) (dl:b.Down.length <= 12) (al:b.Across.length <= 70) (ll:L.length <= 12):(
              (wBN b p q L).bind fun (x2760,x2761) =>
              (wAO (wCv b) p q L).bind fun (x2801,x2802) =>
              if x2760=x2801 then
                if x2761=x2802 then
                  (wAc (wCv b)).bind fun x2822 =>
                  (wBJ b).bind fun (x2841,x2842) =>
                  (wAz b).bind fun (x2868,x2869) =>
                  (if x2842=x2822 then
                    if x2869=x2822 then
                      if x2842=0 then
                        some (decide (¬ ((↑x2841.length:Int)=(↑b.Shots.length:Int))))
                      else
                        if 0 < (w64 ((↑x2841.length:Int) + (↑x2868.length:Int))) then
                          some true
                        else
                          some false
                    else
                      some true
                  else
                    some true).bind fun b2882 =>
                  if b2882=true then
                    some false
                  else
                    if x2842=0 then
                      jn (wFy 0 (↑x2841.length:Int) (fun k2924 _ =>
                        (chk (↑k2924:Int) x2841.length).bind fun _ =>
                        (wBK (wCv b) (↑k2924:Int)).bind fun x2971 =>
                        if (gd x2841 k2924)=x2971 then
                          some (.inl ())
                        else
                          esc (some false)) ()) fun _ =>
                      (wDJ 0 (↑b.Across.length:Int) (fun k3021 l3017 =>
                        (idx b.Across (↑k3021:Int)).bind fun x3050 =>
                        (wAX (wCv b) x3050.Skier x3050.Lane).bind fun (x3101,x3102) =>
                        if 0 < x3101.Lo then
                          (app 16 l3017 [x3050]).bind fun x3126 =>
                          some x3126
                        else
                          some l3017) []).bind fun y3026 =>
                      (wAN x2868 y3026).bind fun x3174 =>
                      if x3174=true then
                        (wAs b b).bind fun x3273 =>
                        if x3273=true then
                          (wAU L L).bind fun x3308 =>
                          if x3308=true then
                            (wAh).bind fun x3320 =>
                            some x3320
                          else
                            some false
                        else
                          some false
                      else
                        some false
                    else
                      (wAs b b).bind fun x3391 =>
                      if x3391=true then
                        (wAU L L).bind fun x3416 =>
                        if x3416=true then
                          (wAh).bind fun x3428 =>
                          some x3428
                        else
                          some false
                      else
                        some false
                else
                  some false
              else
                some false)=some true:=by
  have aw:wAh=some true:=rfl
  by_cases hc:wGX b=0
  case neg =>
    have ea:=wLf (b:=b) (by omega) (by omega) (by omega) hc
    have ec:=wDA (b:=b) (by omega) (by omega)
    have i:=wRg b
    have f1:wBN b p q L=some (⟨0,0⟩,wGX b):=by
      unfold wBN
      rw [ea,hH]
      simp only
      rw [if_neg hc,hH,if_neg (by decide),if_neg hc]
    have f2:wAO (wCv b) p q L=some (⟨0,0⟩,wGX b):=by
      unfold wAO
      rw [ec,hH,if_neg hc]
    have f3:wAc (wCv b)=some (wGX b):=by
      unfold wAc
      rw [ec,hH,if_neg hc]
    have es:wBb b=some (none,wGX b):=by
      unfold wBb
      rw [ea,hH]
      simp only
      rw [if_neg hc]
    have f4:wBJ b=some ([],wGX b):=by
      unfold wBJ
      rw [es,hH]
      simp only
      rw [if_neg hc]
    have f5:wAz b=some ([],wGX b):=by
      unfold wAz
      rw [es,hH]
      simp only
      rw [if_neg hc]
    simp only [f1,f2,f3,f4,f5,hH,if_true,if_neg hc]
    rw [if_neg (by decide),hH,if_neg (by decide),wHx (by omega) (by omega) (by omega),hH,if_pos rfl,wJt (by omega),hH,if_pos rfl,aw]
    rfl
  have G:=wJn hc (by omega)
  have hn:=G.nb
  obtain ⟨r,e1,e2⟩:=wMK G hc p q (L:=L) (by omega)
  simp only [e1,e2,hH,if_true]
  by_cases C:Can b.Shots.length (wBf b) (shB b) (dnB b)
  case neg =>
    rcases wGq G hc with ⟨C',_⟩ | ⟨_,f3⟩
    · exact absurd C' C
    obtain ⟨f4,f5⟩:=wOf G C
    simp only [f3,f4,f5,hH,if_true]
    rw [if_neg (by decide),if_neg (by decide),hH,if_neg (by decide),if_neg (by decide),wHx (by omega) (by omega) (by omega),hH,if_pos rfl,wJt (by omega),hH,if_pos rfl,aw]
    rfl
  rcases wGq G hc with ⟨_,f3⟩ | ⟨nC,_⟩
  case inr=>exact absurd C nC
  obtain ⟨W,f4,wl,wo⟩:=wOc G C
  obtain ⟨F,f5,hF⟩:=wMM G C
  simp only [f3,f4,f5,hH,if_true]
  rw [wl,decide_eq_false (fun h=>h rfl),if_neg (by decide)]
  refine wTR (fun _ _=>True) (by omega) trivial (fun s _ hs _=>⟨(),?_,trivial⟩) (fun _ _=>?_)
  · rw [wDz (by omega) (by omega),hH,wMO G (by omega) C hs (wo s hs),hH,if_pos rfl]
  rw [wDS (S:=List wAD) (n:=b.Across.length) (fun k=>(b.Across.take k).filter F) (s0:=[]) rfl (by omega) fun k hk=>?st,nR,hH]
  case st =>
    have pm:=wDi hk
    have P:=G.ac _ pm
    have p1:=P.s;have p2:=P.l
    obtain ⟨s,hs⟩:∃ s:Nat,(gd b.Across k).Skier=s:=⟨(gd b.Across k).Skier.toNat,by omega⟩
    obtain ⟨l,hl⟩:∃ l:Nat,(gd b.Across k).Lane=l:=⟨(gd b.Across k).Lane.toNat,by omega⟩
    obtain ⟨a,c,e,h1,h2,h3⟩:=wKi G C (show s < _ by omega) (show l < _ by omega)
    have i:=hF _ pm
    rw [hs,hl,nD,nD,h3 0 (by omega)] at i
    have fl:=nG F (b.Across.take k)
    rw [nK] at fl
    rw [wAu hk,hH,hs,hl,wHw G hc C (by omega) (by omega) h1 h2 h3,hH,wDj hk,nH]
    simp only
    by_cases c2:0 < (a:Int)
    · rw [if_pos c2,nT (i.2 (by omega)),nI,wEV (by rw [nO];omega),hH]
    · rw [if_neg c2,nM (fun h=>by have:=i.1 h;omega),nI,nW]
  have fl:=nG F b.Across
  rw [wRq (by omega),hH,if_pos rfl,wHx (by omega) (by omega) (by omega),hH,if_pos rfl,wJt (by omega),hH,if_pos rfl,aw]
  rfl
theorem wOg (p0:wAB) (p1 p2:Int) (p3:List Int) (_:-9223372036854775808 <= p1) (_:p1 <= 9223372036854775807) (_:-9223372036854775808 <= p2) (_:p2 <= 9223372036854775807):wBn p0 p1 p2 p3=some true:=by
 have aw:wAh=some true:=rfl
 unfold wBn
 obtain ⟨g,eg⟩:=wMP p0
 rw [eg,hH]
 cases g with
 | true=>rw [if_pos rfl,aw];rfl
 | false =>
 rw [if_neg (by decide)]
 obtain ⟨s4,sl,dl,al⟩:=wPq eg
 by_cases l12:12 < (p3.length:Int)
 ·rw [if_pos l12,aw];rfl
 rw [if_neg l12]
 have cb:wCC p0=some p0:=by
  unfold wCC
  rw [wKp (by omega),hH,wKp (by omega),hH,wRp (by omega),hH]
 rw [cb,hH,wKp (by omega),hH,wRh (by omega),hH,hH]
 simp only
 have rB:(⟨(wCv p0).Shots,(wCv p0).Down,(wCv p0).Across⟩:wAC)=wCv p0:=rfl
 have pB:(⟨p0.Shots,p0.Down,p0.Across⟩:wAB)=p0:=rfl
 rw [rB,pB]
 have fin:=wRr (b:=p0) (p:=p1) (q:=p2) (L:=p3) s4 sl dl al (by omega)
 by_cases hc:wGX p0=0
 case neg =>
  have ea:=wLf (b:=p0) (by omega) (by omega) (by omega) hc
  have f1:wBD p0 p1 p2=some (⟨0,0⟩,wGX p0):=by
   unfold wBD wBM
   rw [ea,hH]
   simp only
   rw [if_neg hc,hH]
   simp only
   rw [if_neg hc]
  have f2:wAX (wCv p0) p1 p2=some (⟨0,0⟩,wGX p0):=by
   unfold wAX
   rw [wDA (by omega) (by omega),hH,if_neg hc]
  have f3:=wIa f1 hc
  simp only [f1,f2,f3,hH,if_true,if_neg hc]
  rw [show decide (0 < w64 ((([]:List Int).length:Int) + (([]:List Int).length:Int)))=false from rfl,if_neg (by decide)]
  exact fin
 have G:=wJn hc (by omega)
 have hn:=G.nb
 obtain ⟨r,f1,f2,h1,_,_⟩:=wOS G hc p1 p2
 rw [f1,hH,f2,hH]
 simp only [if_true]
 by_cases c0:r.2=0
 ·obtain ⟨s,l,rfl,rfl,hs,hl,C⟩:=h1 c0
  obtain ⟨a,c,low,high,e4,e5,L1,L2,v1,v2,_⟩:=wMJ G C hs hl
  rw [f1] at e4
  injection e4 with e4
  subst e4
  have sh:∀ L,LanesOK p0.Shots.length L->wAO (wCv p0) (s:Int) (l:Int) L=some (wGZ p0.Shots.length p0 s l L,0):=fun L K=>by
   have:=K.len
   rw [wJr G hc hs hl (by omega),if_pos K.code,if_pos (@decide_eq_true _ (nA _) C)]
  rw [e5,hH]
  simp only [if_true]
  rw [hH,if_neg (by decide),sh low L1,hH,sh high L2,hH]
  simp only [if_true]
  rw [if_pos v1,if_pos v2]
  exact fin
 ·rw [wIa f1 c0,hH]
  simp only [if_true,if_neg c0]
  rw [show decide (0 < w64 ((([]:List Int).length:Int) + (([]:List Int).length:Int)))=false from rfl,hH,if_neg (by decide)]
  exact fin
end Go.Proofs.Ytfcmijinklojbaa
