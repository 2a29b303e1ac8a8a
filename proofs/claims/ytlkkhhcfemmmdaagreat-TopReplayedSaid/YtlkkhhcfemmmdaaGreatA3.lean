import Derived.Test.YtlkkhhcfemmmdaaGreatA2
import Derived.Test.YtlkkhhcfemmmdaaGreatA1
set_option linter.all false
open Option renaming bind_some->nA
open List renaming length_singleton->nB,mem_range->nD,range->nE,length_append->nG,set->nH,mem_singleton->nI,length_set->nJ,mem_map->nM,getElem_of_mem->nN,countP_congr->nO,range_succ->nP,map_append->nQ,append_nil->nR,mem_append->nS,getD_eq_getElem?_getD->nT,length_range->nW,pairwise_singleton->nY,mem_filter->nZ,length_map->na,countP_map->nb,length_filter_le->nc,pairwise_append->nh,map_congr_left->ni,filter_append->nj,filter_congr->np
open Int renaming toNat_natCast->nK,le_refl->nL,tmod_eq_emod_of_nonneg->nU
open Bool renaming not_eq_true'->nV,and_eq_true->nX
open List.Perm renaming refl->ng
open Nat renaming zero_add->nm
namespace Go.Proofs.YtlkkhhcfemmmdaaGreat
open Go.KL
def wTM (f:Nat->Int):Nat->Int
 | 0=>1
 | k + 1=>if f (k + 1)=f k then wTM f k else (k:Int) + 2
theorem wGU {l:List wAC} {k j:Nat} {v:wAC} (hk:k < l.length):gd (nH l k v) j=if j=k then v else gd l j:=by
 unfold gd
 rw [nT,nT,List.getElem?_set]
 by_cases e:k=j
 ·subst e;rw [if_pos rfl,if_pos hk,if_pos rfl];rfl
 ·rw [if_neg e,if_neg (fun h=>e h.symm)]
structure PI (Z:List wAC) (k:Nat) (y:List wAC):Prop where
 len:y.length=Z.length
 lo:∀ j,j < k->gd y j=⟨(gd Z j).Bib,wTM (fun i=>(gd Z i).Total) j,(gd Z j).Total⟩
 hi:∀ j,k <= j->gd y j=gd Z j
def pRd (k224:Nat) (l223:List wAC):Option (List wAC) :=
 (chk (↑k224:Int) l223.length).bind fun _ =>
 if 0 < (↑k224:Int) then
 (chk (↑k224:Int) (nH l223 k224 (⟨(gd l223 k224).Bib,(↑(k224 + 1):Int),(gd l223 k224).Total⟩:wAC)).length).bind fun _ =>
 (chk (w64 ((↑k224:Int) - 1)) (nH l223 k224 (⟨(gd l223 k224).Bib,(↑(k224 + 1):Int),(gd l223 k224).Total⟩:wAC)).length).bind fun _ =>
 if ((gd (nH l223 k224 (⟨(gd l223 k224).Bib,(↑(k224 + 1):Int),(gd l223 k224).Total⟩:wAC)) k224).Total)=((gd (nH l223 k224 (⟨(gd l223 k224).Bib,(↑(k224 + 1):Int),(gd l223 k224).Total⟩:wAC)) (w64 ((↑k224:Int) - 1)).toNat).Total) then
 some (nH (nH l223 k224 (⟨(gd l223 k224).Bib,(↑(k224 + 1):Int),(gd l223 k224).Total⟩:wAC)) k224 (⟨(gd (nH l223 k224 (⟨(gd l223 k224).Bib,(↑(k224 + 1):Int),(gd l223 k224).Total⟩:wAC)) k224).Bib,(gd (nH l223 k224 (⟨(gd l223 k224).Bib,(↑(k224 + 1):Int),(gd l223 k224).Total⟩:wAC)) (w64 ((↑k224:Int) - 1)).toNat).Place,(gd (nH l223 k224 (⟨(gd l223 k224).Bib,(↑(k224 + 1):Int),(gd l223 k224).Total⟩:wAC)) k224).Total⟩:wAC))
 else
 some (nH l223 k224 (⟨(gd l223 k224).Bib,(↑(k224 + 1):Int),(gd l223 k224).Total⟩:wAC))
 else
 some (nH l223 k224 (⟨(gd l223 k224).Bib,(↑(k224 + 1):Int),(gd l223 k224).Total⟩:wAC))
theorem wVN {Z:List wAC} (hZ:Z.length <= 1000) {k:Nat} {y:List wAC} (hk:k < Z.length) (I:PI Z k y):∃ y',pRd k y=some y'/\PI Z (k + 1) y':=by
 obtain ⟨hl,hlo,hhi⟩:=I
 have hky:k < y.length:=by omega
 have g0:=hhi k (Nat.le_refl _)
 unfold pRd
 rw [wDA (by omega) (by omega),nA,g0]
 cases k with
 | zero =>
  rw [if_neg (by omega)]
  refine ⟨_,rfl,by rw [nJ];exact hl,fun j hj=>?_,fun j hj=>?_⟩
  ·have:j=0:=by omega
   subst this
   rw [wGU hky,if_pos rfl]
   rfl
  ·rw [wGU hky,if_neg (by omega)]
   exact hhi j (by omega)
 | succ k =>
  have hw:w64 (((k + 1:Nat):Int) - 1)=(k:Int):=by rw [wAT (by omega) (by omega)];omega
  have g1:=hlo k (by omega)
  simp only [hw]
  rw [if_pos (by omega),wDA (i:=((k + 1:Nat):Int)) (by omega) (by rw [nJ];omega),nA,wDA (i:=(k:Int)) (by omega) (by rw [nJ];omega),nA,nK,wGU hky,if_pos rfl,wGU hky,if_neg (show ¬ k=k + 1 by omega),g1]
  simp only
  by_cases c:(gd Z (k + 1)).Total=(gd Z k).Total
  ·rw [if_pos c,List.set_set]
   refine ⟨_,rfl,by rw [nJ];exact hl,fun j hj=>?_,fun j hj=>?_⟩
   ·rw [wGU hky]
    by_cases e:j=k + 1
    ·subst e
     rw [if_pos rfl,wTM,if_pos c]
    ·rw [if_neg e]
     exact hlo j (by omega)
   ·rw [wGU hky,if_neg (by omega)]
    exact hhi j (by omega)
  ·rw [if_neg c]
   refine ⟨_,rfl,by rw [nJ];exact hl,fun j hj=>?_,fun j hj=>?_⟩
   ·rw [wGU hky]
    by_cases e:j=k + 1
    ·subst e
     rw [if_pos rfl,wTM,if_neg c]
     congr 1
    ·rw [if_neg e]
     exact hlo j (by omega)
   ·rw [wGU hky,if_neg (by omega)]
    exact hhi j (by omega)
theorem wPd {Z:List wAC} (ho:Z.Pairwise fun a b=>a.Total <= b.Total):∀ k,k < Z.length->wTM (fun i=>(gd Z i).Total) k=1 + ((Z.countP fun x=>decide (x.Total < (gd Z k).Total):Nat):Int):=by
 have le:∀ i j,i < j->j < Z.length->(gd Z i).Total <= (gd Z j).Total:=fun i j hij hj=>by
  have:=(List.pairwise_iff_getElem.1 ho) i j (by omega) hj hij
  rw [wFq (by omega),wFq hj]
  exact this
 have new:∀ k,k < Z.length->(k=0 \/ (gd Z (k - 1)).Total ≠ (gd Z k).Total)->(Z.countP fun x=>decide (x.Total < (gd Z k).Total))=k:=by
  intro i hi h
  have c1:(Z.take i).countP (fun x=>decide (x.Total < (gd Z i).Total))=i:=by
   have:(Z.take i).countP (fun x=>decide (x.Total < (gd Z i).Total))=(Z.take i).length:=List.countP_eq_length.2 fun x hx=>by
    obtain ⟨j,hj,rfl⟩:=nN hx
    rw [List.length_take] at hj
    rw [List.getElem_take,<- wFq (by omega),decide_eq_true_eq]
    rcases h with h | h
    ·omega
    ·have a1:=le (i - 1) i (by omega) hi
     by_cases e:j=i - 1
     ·subst e;omega
     ·have:=le j (i - 1) (by omega) (by omega)
      omega
   rw [this,List.length_take]
   omega
  have c2:(Z.drop i).countP (fun x=>decide (x.Total < (gd Z i).Total))=0:=List.countP_eq_zero.2 fun x hx=>by
   obtain ⟨j,hj,rfl⟩:=nN hx
   rw [List.length_drop] at hj
   rw [List.getElem_drop,<- wFq (by omega),decide_eq_true_eq]
   by_cases e:j=0
   ·subst e;rw [Nat.add_zero];omega
   ·have:=le i (i + j) (by omega) (by omega)
    omega
  have:=List.countP_append (p:=fun x:wAC=>decide (x.Total < (gd Z i).Total)) (l₁:=Z.take i) (l₂:=Z.drop i)
  rw [List.take_append_drop,c1,c2,Nat.add_zero] at this
  exact this
 intro k
 induction k with
 | zero =>
  intro hk
  rw [wTM,new 0 hk (.inl rfl)]
  rfl
 | succ k ih =>
  intro hk
  rw [wTM]
  by_cases c:(gd Z (k + 1)).Total=(gd Z k).Total
  ·rw [if_pos c,ih (by omega),c]
  ·rw [if_neg c,new (k + 1) hk (.inr (by rw [Nat.add_sub_cancel];exact fun h=>c h.symm))]
   omega
theorem wVO {l:List wAC} {f:wAC->Option Bool} {p:wAC->Bool} (hf:∀ a ∈ l,f a=some (p a)) (hn:l.length <= 1000):wAg l f=some (first p l 0):=by
 unfold wAg
 exact wFY (p:=p) (fun a ha=>by rw [hf a ha]) (by omega) id
theorem wMx {α:Type} [Inhabited α] {p:α->Bool}:∀ {l:List α} {k j:Nat},j < l.length->p (gd l j)=true->∃ i,first p l k=((k + i:Nat):Int)/\i < l.length/\p (gd l i)=true
 | [],_,j,hj,_=>by simp at hj
 | a :: l,k,j,hj,h=>by
  rw [first]
  by_cases c:p a=true
  ·rw [if_pos c]
   exact ⟨0,by simp,by simp,c⟩
  ·rw [if_neg c]
   cases j with
   | zero=>exact absurd h c
   | succ j =>
    obtain ⟨i,h1,h2,h3⟩:=wMx (l:=l) (k:=k + 1) (j:=j) (by simpa using hj) h
    exact ⟨i + 1,by rw [h1];congr 1;omega,by simp;omega,h3⟩
def inL (T:Nat->Int) (O:Nat->Bool) (k:Nat):List wAC:=((nE k).filter fun i=>!O i).map fun (i:Nat)=>⟨3 * (i:Int) + 1,0,T i⟩
def wJZ (O:Nat->Bool) (k:Nat):List wAC:=((nE k).filter fun i=>O i).map fun (i:Nat)=>⟨3 * (i:Int) + 1,-1,0⟩
theorem wIL (T:Nat->Int) (O:Nat->Bool) (k:Nat):inL T O (k + 1)=inL T O k ++ if O k=true then [] else [⟨3 * (k:Int) + 1,0,T k⟩]:=by
 unfold inL
 rw [nP,nj,nQ]
 cases h:O k <;> simp [h]
theorem wHW (O:Nat->Bool) (k:Nat):wJZ O (k + 1)=wJZ O k ++ if O k=true then [⟨3 * (k:Int) + 1,-1,0⟩] else []:=by
 unfold wJZ
 rw [nP,nj,nQ]
 cases h:O k <;> simp [h]
theorem wPe {T T2:Nat->Int} {O O2:Nat->Bool} {k:Nat} (h:∀ i,i < k->T i=T2 i/\O i=O2 i):inL T O k=inL T2 O2 k:=by
 unfold inL
 rw [np (q:=fun i=>!O2 i) fun i hi=>by rw [(h i (nD.1 hi)).2]]
 exact ni fun i hi=>by rw [(h i (nD.1 (nZ.1 hi).1)).1]
theorem wNi {O O2:Nat->Bool} {k:Nat} (h:∀ i,i < k->O i=O2 i):wJZ O k=wJZ O2 k:=by
 unfold wJZ
 rw [np (q:=fun i=>O2 i) fun i hi=>h i (nD.1 hi)]
theorem wPf {T:Nat->Int} {O:Nat->Bool} {k:Nat} {x:wAC}:x ∈ inL T O k ↔ ∃ i:Nat,i < k/\O i=false/\x=⟨3 * (i:Int) + 1,0,T i⟩:=by
 simp only [inL,nM,nZ,nD,nV]
 exact ⟨fun ⟨i,⟨h1,h2⟩,h3⟩=>⟨i,h1,h2,h3.symm⟩,fun ⟨i,h1,h2,h3⟩=>⟨i,⟨h1,h2⟩,h3.symm⟩⟩
theorem wMy {O:Nat->Bool} {k:Nat} {x:wAC}:x ∈ wJZ O k ↔ ∃ i:Nat,i < k/\O i=true/\x=⟨3 * (i:Int) + 1,-1,0⟩:=by
 simp only [wJZ,nM,nZ,nD]
 exact ⟨fun ⟨i,⟨h1,h2⟩,h3⟩=>⟨i,h1,h2,h3.symm⟩,fun ⟨i,h1,h2,h3⟩=>⟨i,⟨h1,h2⟩,h3.symm⟩⟩
theorem wMG (T:Nat->Int) (O:Nat->Bool) (k:Nat):(inL T O k).length <= k:=by
 unfold inL
 rw [na]
 have:=nc (fun i=>!O i) (nE k)
 rwa [nW] at this
theorem wMz (O:Nat->Bool) (k:Nat):(wJZ O k).length <= k:=by
 unfold wJZ
 rw [na]
 have:=nc (fun i=>O i) (nE k)
 rwa [nW] at this
def pcR (T:Nat->Int) (O:Nat->Bool) (i:Nat):Int:=if O i=true then 0 else 1 + (((nE 5).countP fun j=>!O j && decide (T j < T i):Nat):Int)
def PL (T:Nat->Int) (O:Nat->Bool) (lines:List wAC):Prop:=lines.length <= 10/\∀ i:Nat,i < 5->∃ j:Nat,j < lines.length/\first (fun x:wAC=>decide (x.Bib=3 * (i:Int) + 1)) lines 0=(j:Int)/\max 0 (gd lines j).Place=pcR T O i
def wVP (p0:wAL) (p1:Cx) (k50:Nat):MB × List wAC × List wAC->Option (MB × List wAC × List wAC)
 | (l39,l42,l46) =>
  (idx p0.Record.Skiers (↑k50:Int)).bind fun x81 =>
  (wBo p0 x81 (p1.1,p1.2.1,l39)).bind fun (x112,x113,x114) =>
  if x113=true then
   (app 24 l46 [(⟨x81.Bib,-1,0⟩:wAC)]).bind fun x135 =>
   some (x114,l42,x135)
  else
   (app 24 l42 [(⟨x81.Bib,0,x112⟩:wAC)]).bind fun x158 =>
   some (x114,x158,l46)
theorem wNj (p0:wAL) (p1:Cx):wBU p0 p1 =
 (wCs 0 (↑p0.Record.Skiers.length:Int) (wVP p0 p1) (p1.2.2,[],[])).bind fun (y55,y56,y57) =>
 (wAY y56 (fun x=>wBC x.1 x.2)).bind fun x206 =>
 (wCs 0 (↑x206.length:Int) pRd x206).bind fun y229 =>
 (app 24 y229 y57).bind fun x289 =>
 some (x289,y55):=rfl
theorem wPg {p0:wAL} {p1:Cx} {w:MB} {T:Nat->Int} {O:Nat->Bool} (h5:p0.Record.Skiers.length=5) (h:wCs 0 ((5:Nat):Int) (wVP p0 p1) (p1.2.2,[],[])=some (w,inL T O 5,wJZ O 5)):∃ lines,wBU p0 p1=some (lines,w)/\PL T O lines:=by
 rw [wNj,h5,h,nA]
 simp only
 have li:=wMG T O 5
 have lo:=wMz O 5
 obtain ⟨Z,e2,z1,z2⟩:=wMC (P:=fun _=>True) (K:=fun x:wAC=>x.Total) (c:=fun x=>wBC x.1 x.2) (fun a b _ _=>by
  unfold wBC
  simp only
  rw [wHU]
  refine ⟨_,rfl,?_⟩
  split
  ·omega
  ·split <;> omega) (l:=inL T O 5) (by omega) (fun _ _=>trivial)
 have hz:=z1.length_eq
 rw [stbJ,e2,nA]
 obtain ⟨y,e3,P⟩:=wEm (n:=Z.length) (s0:=Z) (body:=pRd) (PI Z) (by omega) ⟨rfl,fun j hj=>by omega,fun j _=>rfl⟩ fun k y hk I=>wVN (by omega) hk I
 have yl:=P.len
 rw [e3,nA,wDZ (by omega),nA]
 refine ⟨_,rfl,by rw [nG];omega,fun i hi=>?_⟩
 have ex:∃ j,j < (y ++ wJZ O 5).length/\decide ((gd (y ++ wJZ O 5) j).Bib=3 * (i:Int) + 1)=true:=by
  cases hO:O i
  ·obtain ⟨j,hj,ej⟩:=nN (z1.mem_iff.2 (wPf.2 ⟨i,hi,hO,rfl⟩:(⟨3 * (i:Int) + 1,0,T i⟩:wAC) ∈ inL T O 5))
   rw [<- wFq hj] at ej
   refine ⟨j,by rw [nG];omega,?_⟩
   rw [wFo (by omega),P.lo j hj,ej]
   simp
  ·obtain ⟨j,hj,ej⟩:=nN (List.mem_append_right y (wMy.2 ⟨i,hi,hO,rfl⟩:(⟨3 * (i:Int) + 1,-1,0⟩:wAC) ∈ wJZ O 5))
   rw [<- wFq hj] at ej
   exact ⟨j,hj,by rw [ej];simp⟩
 obtain ⟨j0,h0,h0'⟩:=ex
 obtain ⟨j,h1,h2,h3⟩:=wMx (p:=fun x:wAC=>decide (x.Bib=3 * (i:Int) + 1)) (k:=0) h0 h0'
 rw [nm] at h1
 refine ⟨j,h2,h1,?_⟩
 simp only [decide_eq_true_eq] at h3
 by_cases c:j < Z.length
 ·have hm:=z1.mem_iff.1 (wDp c)
  obtain ⟨q,q1,q2,q3⟩:=wPf.1 hm
  rw [wFo (by omega),P.lo j c] at h3 ⊢
  rw [q3] at h3
  have:q=i:=by simp only at h3;omega
  subst this
  unfold pcR
  rw [if_neg (by rw [q2];decide)]
  simp only
  rw [wPd z2 j c,q3,z1.countP_eq]
  simp only
  unfold inL
  rw [nb,List.countP_filter,Int.max_eq_right (by omega)]
  congr 2
  exact nO fun a _=>by simp [Bool.and_comm]
 ·have hj:gd (y ++ wJZ O 5) j ∈ wJZ O 5:=by
   rw [wFq h2,List.getElem_append_right (by omega)]
   exact List.getElem_mem _
  obtain ⟨q,q1,q2,q3⟩:=wMy.1 hj
  rw [q3] at h3
  have:q=i:=by simp only at h3;omega
  subst this
  unfold pcR
  rw [if_pos q2,q3]
  rfl
def plR (T:Nat->Int) (O:Nat->Bool):List Int:=(nE 5).map (pcR T O)
theorem wMH {t:Nat->Int} {l:List wAA} {lines:List wAC} {T:Nat->Int} {O:Nat->Bool} (h:PL T O lines):wBc ⟨30,skR t,l⟩ lines=some (plR T O,true):=by
 have hl:=h.1
 unfold wBc
 simp only
 rw [wFS,wMq (S:=List Int) (n:=5) (fun k=>(nE k).map (pcR T O)) (s0:=[]) rfl (by omega) fun k hk=>?_]
 ·rfl
 ·obtain ⟨j,h1,h2,h3⟩:=h.2 k hk
  rw [wCi (by rw [wFS];exact hk),nA,wMv t hk,wVO (p:=fun x=>decide (x.Bib=3 * (k:Int) + 1)) (fun a _=>by unfold wBd;rfl) (by omega),nA,h2,if_neg (by omega),if_neg (by omega),wCi h1,nA,h3,wDZ (by simp;omega),nA,nP,nQ]
  rfl
theorem wTN {D D':wAL} {s:List wAA} {g:Nat} {m:Int} (W:TwoP D D' s (3 * (g:Int) + 1) m) {t:Nat->Int} (ht:∀ i,i < 5->-1 <= t i/\t i <= 360000) (k1:D.Record.Skiers=skR t) (k2:D'.Record.Skiers=skR t) :
  ∃ T O T' lines lines' w w',wBU D (D,[],[])=some (lines,w)/\PL T O lines/\wBU D' (D',[],[])=some (lines',w')/\PL T' O lines'/\∀ i,i < 5->T i <= T' i/\(i ≠ g->T' i=T i):=by
 obtain ⟨⟨w,a,b⟩,⟨w',a',b'⟩,e1,e2,_,T,O,T',h1,h2,h3,h4,h5⟩:=wIy (n:=5) (f:=wVP D (D,[],[])) (g:=wVP D' (D',[],[])) (s0:=([],[],[])) (t0:=([],[],[]))
  (fun k u u'=>RlV u.1 u'.1/\∃ T O T',u.2.1=inL T O k/\u.2.2=wJZ O k/\u'.2.1=inL T' O k/\u'.2.2=wJZ O k/\∀ i,i < k->T i <= T' i/\(i ≠ g->T' i=T i)) (by omega) ⟨RlV.nil,fun _=>0,fun _=>false,fun _=>0,rfl,rfl,rfl,rfl,fun i hi=>by omega⟩ fun k u u' hk h=>by
   obtain ⟨w,a,b⟩:=u
   obtain ⟨w',a',b'⟩:=u'
   obtain ⟨r,T,O,T',h1,h2,h3,h4,h5⟩:=h
   simp only at r h1 h2 h3 h4
   have tk:=ht k hk
   obtain ⟨v,o,v',z,z',q1,q2,q3,q4,q5⟩:=wPc W (sk:=⟨3 * (k:Int) + 1,t k⟩) tk.1 tk.2 r
   have cI:∀ (F:Nat->Int) (x:Int),inL F O k=inL (fun i=>if i=k then x else F i) (fun i=>if i=k then o else O i) k:=fun F x=>wPe fun i hi=>by rw [if_neg (by omega),if_neg (by omega)];exact ⟨rfl,rfl⟩
   have cO:wJZ O k=wJZ (fun i=>if i=k then o else O i) k:=wNi fun i hi=>by rw [if_neg (by omega)]
   have fin:∀ i,i < k + 1->(if i=k then v else T i) <= (if i=k then v' else T' i)/\(i ≠ g->(if i=k then v' else T' i)=if i=k then v else T i):=fun i hi=>by
    by_cases e:i=k
    ·rw [if_pos e,if_pos e]
     exact ⟨q4,fun h=>q5 (by simp only;omega)⟩
    ·rw [if_neg e,if_neg e]
     exact h5 i (by omega)
   have la:=wMG T O k
   have la':=wMG T' O k
   have lb:=wMz O k
   unfold wVP
   simp only
   rw [k1,k2,wCi (by rw [wFS];exact hk),nA,nA,wMv t hk,q1,q2,nA,nA]
   simp only
   rw [h1,h2,h3,h4]
   cases o
   ·rw [if_neg (by decide),if_neg (by decide),wDZ (by simp only [nB];omega),wDZ (by simp only [nB];omega),nA,nA]
    refine ⟨_,_,rfl,rfl,q3,_,fun i=>if i=k then false else O i,_,?_,?_,?_,?_,fin⟩
    ·simp only;rw [wIL,<- cI T v,if_neg (by simp),if_pos rfl]
    ·simp only;rw [wHW,<- cO,if_neg (by simp),nR]
    ·simp only;rw [wIL,<- cI T' v',if_neg (by simp),if_pos rfl]
    ·simp only;rw [wHW,<- cO,if_neg (by simp),nR]
   ·rw [if_pos rfl,if_pos rfl,wDZ (by simp only [nB];omega),nA,nA]
    refine ⟨_,_,rfl,rfl,q3,_,fun i=>if i=k then true else O i,_,?_,?_,?_,?_,fin⟩
    ·simp only;rw [wIL,<- cI T v,if_pos (by simp),nR]
    ·simp only;rw [wHW,<- cO,if_pos (by simp)]
    ·simp only;rw [wIL,<- cI T' v',if_pos (by simp),nR]
    ·simp only;rw [wHW,<- cO,if_pos (by simp)]
 simp only at h1 h2 h3 h4
 subst h1 h2 h3 h4
 obtain ⟨lines,l1,l2⟩:=wPg (p0:=D) (p1:=(D,[],[])) (by rw [k1,wFS]) e1
 obtain ⟨lines',l3,l4⟩:=wPg (p0:=D') (p1:=(D',[],[])) (by rw [k2,wFS]) e2
 exact ⟨T,O,T',lines,lines',_,_,l1,l2,l3,l4,h5⟩
theorem wRi {r:wAI} {D:wAL} {lines:List wAC} {w:MB} (h:wED r=some (some D,0)) (h2:wBU D (D,[],[])=some (lines,w)):wBs r=some (lines,0):=by
 unfold wBs
 rw [h,nA]
 simp only
 rw [if_pos trivial,show wDv D []=some [] from rfl,nA,h2,nA]
theorem raceR {t:Nat->Int} (ht:∀ i,i < 5->-1 <= t i/\t i <= 360000) {s:List wAA} (S:SOK s) (sl:s.length <= 20) (n20:∀ x ∈ s,x.Number <= 20) {g:Nat} (hg:g < 5) {m:Int} (m0:0 <= m) (m1:m <= 36000) :
  ∃ T O T',(∀ l:List wAA,l.Perm s->∃ lines,wBs ⟨30,skR t,l⟩=some (lines,0)/\PL T O lines)/\(∃ lines,wBs ⟨30,skR t,s ++ [pen (3 * (g:Int) + 1) m]⟩=some (lines,0)/\PL T' O lines)/\∀ i,i < 5->T i <= T' i/\(i ≠ g->T' i=T i):=by
 have S':SOK (s ++ [pen (3 * (g:Int) + 1) m]):=by
  refine ⟨by rw [nG,nB];omega,fun d hd=>?_,?_⟩
  ·rcases nS.1 hd with h | h
   ·exact S.ok d h
   ·rw [nI.1 h]
    refine ⟨?_,?_,?_,?_,?_,?_,m0,m1,fun h=>?_,fun _=>⟨rfl,g,hg,rfl⟩,fun h=>?_⟩ <;> simp only [pen] at * <;> omega
  ·refine nh.2 ⟨S.inc,nY _ _,fun a ha b hb=>?_⟩
   rw [nI.1 hb]
   have:=n20 a ha
   simp only [pen];omega
 have hA:=fun l hp=>wRd ht S (l:=l) hp
 have hB:=wRd ht S' (ng _)
 rw [wQl s rfl] at hB
 have W:TwoP ⟨⟨30,skR t,s⟩,s.reverse.foldl atS [],abL s⟩ ⟨⟨30,skR t,s ++ [pen (3 * (g:Int) + 1) m]⟩,(s ++ [pen (3 * (g:Int) + 1) m]).reverse.foldl atS [],abL s⟩ s (3 * (g:Int) + 1) m :=
  ⟨⟨rfl,rfl,fun k=>by have:=(wRc s k).1;simp only;omega,fun k y hy=>by
   have h:=(wRc s k).2 y hy
   have d:=S.ok y h.1
   have d0:=d.n0
   have d1:=n20 y h.1
   have d2:=d.u0
   have d3:=d.u1
   by_cases c:y.Kind <= 4
   ·have:=(d.pe c).1;omega
   ·have:=d.ab (by omega);omega⟩,rfl,rfl,S,n20,m0,m1⟩
 obtain ⟨T,O,T',lines,lines',w,w',h1,h2,h3,h4,h5⟩:=wTN W ht rfl rfl
 exact ⟨T,O,T',fun l hp=>⟨lines,wRi (hA l hp) h1,h2⟩,⟨lines',wRi hB h3,h4⟩,h5⟩
theorem cnt4 {α:Type} {A B C D:α->Bool}:∀ {l:List α},(∀ x ∈ l,(A x).toNat + (B x).toNat <= (C x).toNat + (D x).toNat)->l.countP A + l.countP B <= l.countP C + l.countP D
 | [],_=>Nat.le_refl _
 | x :: l,h=>by
  have:=cnt4 (l:=l) fun y hy=>h y (.tail _ hy)
  have hx:=h x (.head _)
  simp only [List.countP_cons]
  cases hA:A x <;> cases hB:B x <;> cases hC:C x <;> cases hD:D x <;> simp [hA,hB,hC,hD] at hx ⊢ <;> omega
theorem wNA {α:Type} (l:List α):l.countP (fun _=>false)=0:=by simp
theorem wMI {g:Nat} (hg:g < 5):(nE 5).countP (fun j=>decide (j=g))=1:=by
 have:∀ g:Fin 5,(nE 5).countP (fun j=>decide (j=g.val))=1:=by decide
 exact this ⟨g,hg⟩
def bt (T:Nat->Int) (O:Nat->Bool) (i:Nat):Nat:=(nE 5).countP fun j=>!O j && decide (T j < T i)
theorem wTO {T:Nat->Int} {O:Nat->Bool} {i j:Nat} (hj:j < 5) (oj:O j=false):T j < T i ↔ bt T O j < bt T O i:=by
 constructor
 ·intro h
  have h1:=cnt4 (A:=fun k=>!O k && decide (T k < T j)) (B:=fun k=>decide (k=j)) (C:=fun k=>!O k && decide (T k < T i)) (D:=fun _=>false) (l:=nE 5) fun k _=>by
   by_cases e:k=j
   ·subst e;simp [oj,h]
   ·by_cases c:T k < T j
    ·have:T k < T i:=by omega
     simp [e,c,this]
    ·simp [e,c]
  rw [wMI hj,wNA] at h1
  exact h1
 ·intro h
  rcases Int.lt_or_le (T j) (T i) with c | c
  ·exact c
  ·have h1:=cnt4 (A:=fun k=>!O k && decide (T k < T i)) (B:=fun _=>false) (C:=fun k=>!O k && decide (T k < T j)) (D:=fun _=>false) (l:=nE 5) fun k _=>by
    by_cases c2:T k < T i
    ·have:T k < T j:=by omega
     simp [c2,this]
    ·simp [c2]
   rw [wNA] at h1
   unfold bt at h
   omega
theorem bt_le {T:Nat->Int} {O:Nat->Bool} {i:Nat} (hi:i < 5):bt T O i <= 4:=by
 have:=cnt2 (A:=fun j=>!O j && decide (T j < T i)) (B:=fun j=>decide (j=i)) (fun j=>by
  simp only [nX,decide_eq_true_eq]
  rintro ⟨⟨_,h⟩,rfl⟩
  omega) (nE 5)
 rw [wMI hi,nW] at this
 unfold bt
 omega
theorem wJa {T:Nat->Int} {O:Nat->Bool} {i:Nat} (h:O i=true):pcR T O i=0:=if_pos h
theorem wKN {T:Nat->Int} {O:Nat->Bool} {i:Nat} (h:O i=false):pcR T O i=1 + (bt T O i:Int):=if_neg (by rw [h];decide)
theorem wVQ (T:Nat->Int) (O:Nat->Bool) {i:Nat} (hi:i < 5):gd (plR T O) i=pcR T O i:=by
 unfold plR
 rw [wFq (by simpa using hi)]
 simp
theorem wNB (T:Nat->Int) (O:Nat->Bool):wFv (plR T O):=by
 refine ⟨by simp [plR],fun p hp=>?_,fun p hp h0=>?_⟩
 ·obtain ⟨i,hi,rfl⟩:=nM.1 hp
  have hi:=nD.1 hi
  cases h:O i
  ·rw [wKN h];have:=bt_le (T:=T) (O:=O) hi;omega
  ·rw [wJa h];omega
 ·obtain ⟨i,hi,rfl⟩:=nM.1 hp
  have hi:=nD.1 hi
  cases h:O i
  ·unfold plR
   rw [nb,wKN h]
   congr 2
   refine (nO fun j hj=>?_:(nE 5).countP (fun j=>!O j && decide (T j < T i))=_)
   have hj:=nD.1 hj
   simp only [Function.comp_apply,nX,nV,decide_eq_true_eq]
   cases hO:O j
   ·rw [wKN hO]
    have:=wTO (T:=T) (O:=O) (i:=i) hj hO
    exact ⟨fun e=>by have:=this.1 e.2;exact ⟨by omega,by omega⟩,fun e=>⟨rfl,this.2 (by omega)⟩⟩
   ·rw [wJa hO];simp
  ·exact absurd (wJa h) h0
theorem wTP {T:Nat->Int} {O:Nat->Bool} {g:Nat} (hg:g < 5) (og:O g=false):wJB (plR T O) (pcR T O g)=(nE 5).countP fun j=>!O j && decide (T j=T g):=by
 unfold wJB plR
 rw [nb]
 refine nO fun j hj=>?_
 have hj:=nD.1 hj
 simp only [Function.comp_apply,nX,nV,decide_eq_true_eq]
 rw [wKN og]
 cases hO:O j
 ·rw [wKN hO]
  have h1:=wTO (T:=T) (O:=O) (i:=g) hj hO
  have h2:=wTO (T:=T) (O:=O) (i:=j) hg og
  refine ⟨fun e=>⟨rfl,?_⟩,fun e=>?_⟩
  ·have n1:¬ T j < T g:=fun c=>by have:=h1.1 c;omega
   have n2:¬ T g < T j:=fun c=>by have:=h2.1 c;omega
   omega
  ·have n1:¬ bt T O j < bt T O g:=fun c=>by have:=h1.2 c;omega
   have n2:¬ bt T O g < bt T O j:=fun c=>by have:=h2.2 c;omega
   omega
 ·rw [wJa hO]
  exact ⟨fun e=>absurd e (by omega),fun e=>nomatch e.1⟩
theorem wTQ:∀ p m p' m':Fin 6,1 <= p.val->1 <= m.val->p.val + m.val <= 6->1 <= m'.val->p'.val + m'.val <= 6->p.val + m.val <= p'.val + 1->wt p'.val m'.val / (m'.val:Int) <= wt p.val m.val / (m.val:Int):=by decide +kernel
theorem wTR {T T':Nat->Int} {O:Nat->Bool} {g:Nat} (hg:g < 5) (h:∀ i,i < 5->T i <= T' i/\(i ≠ g->T' i=T i)):ptR (plR T' O) g <= ptR (plR T O) g:=by
 have hgg:=(h g hg).1
 by_cases e:T' g=T g
 ·have:plR T' O=plR T O:=by
   unfold plR
   refine ni fun i hi=>?_
   unfold pcR
   split
   ·rfl
   ·congr 2
    have q:∀ j,j < 5->T' j=T j:=fun j hj=>by
     by_cases c:j=g
     ·rw [c,e]
     ·exact (h j hj).2 c
    refine nO fun j hj=>?_
    rw [q j (nD.1 hj),q i (nD.1 hi)]
  rw [this]
  exact nL _
 have lt:T g < T' g:=by omega
 unfold ptR
 rw [wVQ T' O hg,wVQ T O hg]
 cases og:O g
 ·have R:=wNB T O
  have R':=wNB T' O
  have m1:pcR T O g ∈ plR T O:=nM.2 ⟨g,nD.2 hg,rfl⟩
  have m2:pcR T' O g ∈ plR T' O:=nM.2 ⟨g,nD.2 hg,rfl⟩
  have n1:pcR T O g ≠ 0:=by rw [wKN og];omega
  have n2:pcR T' O g ≠ 0:=by rw [wKN og];omega
  obtain ⟨a1,a2,a3⟩:=wMD R m1 n1
  obtain ⟨b1,b2,b3⟩:=wMD R' m2 n2
  rw [if_neg n1,if_neg n2]
  have key:=cnt4 (A:=fun j=>!O j && decide (T j < T g)) (B:=fun j=>!O j && decide (T j=T g)) (C:=fun j=>!O j && decide (T' j < T' g)) (D:=fun j=>decide (j=g)) (l:=nE 5) fun j hj=>by
   have hj:=nD.1 hj
   by_cases c:j=g
   ·subst c;simp [og]
   ·rw [(h j hj).2 c]
    by_cases c1:T j < T g
    ·have:T j < T' g:=by omega
     have:¬ T j=T g:=by omega
     simp [*]
    ·by_cases c2:T j=T g
     ·have:T j < T' g:=by omega
      simp [*]
     ·simp [c1,c2]
  rw [wMI hg,<- wTP hg og] at key
  have p1:=wKN (T:=T) og
  have p2:=wKN (T:=T') og
  unfold bt at p1 p2
  generalize pcR T O g=p at *
  generalize pcR T' O g=p' at *
  obtain ⟨p,rfl⟩:∃ k:Nat,p=(k:Int):=⟨p.toNat,by omega⟩
  obtain ⟨p',rfl⟩:∃ k:Nat,p'=(k:Int):=⟨p'.toNat,by omega⟩
  rw [nK,nK]
  exact wTQ ⟨p,by omega⟩ ⟨wJB (plR T O) p,by omega⟩ ⟨p',by omega⟩ ⟨wJB (plR T' O) p',by omega⟩ (by show 1 <= p;omega) a2 (by show p + wJB (plR T O) p <= 6;omega) b2 (by show p' + wJB (plR T' O) p' <= 6;omega) (by show p + wJB (plR T O) p <= p' + 1;omega)
 ·rw [wJa og,wJa og,if_pos rfl]
  exact nL _
theorem wNC {a b:Int} (h0:0 <= a) (hb:0 < b):∃ x,rem a b=some x/\0 <= x/\x < b:=by
 refine ⟨a.tmod b,if_neg (by omega),?_,?_⟩
 ·rw [nU h0];exact Int.emod_nonneg _ (by omega)
 ·rw [nU h0];exact Int.emod_lt_of_pos _ hb
theorem wMJ (x:Int):0 <= wGB x:=by unfold wGB;omega
theorem wTS (x:Int):wGB x < 4294967296:=by unfold wGB;omega
theorem w64u (x:Int):w64 (wGB x)=wGB x:=by
 have:=wMJ x
 have:=wTS x
 exact wAT (by omega) (by omega)
theorem wQo (a:Int) {b:Int} (hb:b ≠ 0):∃ x,quo a b=some x:=⟨_,if_neg hb⟩
theorem wMK (d:wAE) (n:Int) (h0:0 <= d.next) (h1:d.next <= 1000000):∃ x d',wAM d n=some (x,d')/\0 <= d'.next/\d'.next <= d.next + 1/\0 <= x/\(x < n \/ (n <= 1/\x=0)):=by
 unfold wAM
 by_cases hn:n <= 1
 ·exact ⟨0,d,by rw [if_pos hn],h0,by omega,by omega,.inr ⟨hn,rfl⟩⟩
 rw [if_neg hn]
 by_cases hl:(d.bytes.length:Int)=0
 ·exact ⟨0,d,by rw [if_pos hl],h0,by omega,by omega,.inl (by omega)⟩
 rw [if_neg hl]
 obtain ⟨r,e1,r0,r1⟩:=wNC h0 (show (0:Int) < d.bytes.length by omega)
 obtain ⟨b,e2⟩:∃ b,idx d.bytes r=some b:=by
  unfold idx
  rw [if_pos r0,List.getElem?_eq_getElem (by omega)]
  exact ⟨_,rfl⟩
 obtain ⟨q,e3⟩:=wQo d.next (b:=d.bytes.length) hl
 obtain ⟨st,e4,_,_⟩:=wNC (wMJ ((wGB ((wGB ((wGB (d.state * 45)) + (wGB b))) + (wGB (77 * (wGB q))))) + 1)) (b:=65519) (by decide)
 rw [e1,nA,e2,nA,e3,nA,e4,nA,wAT (x:=d.next + 1) (by omega) (by omega)]
 have fin:∀ z:Int,∃ x d',((rem (w64 (wGB z)) n).bind fun x=>some (x,(⟨d.bytes,d.next + 1,st⟩:wAE)))=some (x,d')/\0 <= d'.next/\d'.next <= d.next + 1/\0 <= x/\(x < n \/ (n <= 1/\x=0)):=by
  intro z
  obtain ⟨x,e5,x0,x1⟩:=wNC (a:=w64 (wGB z)) (b:=n) (by rw [w64u];exact wMJ z) (by omega)
  exact ⟨x,_,by rw [e5];rfl,by show 0 <= d.next + 1;omega,by show d.next + 1 <= _;omega,x0,.inl x1⟩
 by_cases c1:wGB q=0
 ·rw [if_pos c1]
  by_cases c2:n <= 256
  ·rw [if_pos c2];exact fin _
  ·rw [if_neg c2];exact fin _
 ·rw [if_neg c1];exact fin _
theorem wTT (d:wAE) (a b:Int) (h0:0 <= d.next) (h1:d.next <= 1000000) (ha:-1000000 <= a) (hab:a <= b) (hb:b <= 1000000):∃ x d',wAX d a b=some (x,d')/\0 <= d'.next/\d'.next <= d.next + 1/\a <= x/\x <= b:=by
 unfold wAX
 rw [wAT (x:=b - a) (by omega) (by omega),wAT (x:=b - a + 1) (by omega) (by omega)]
 obtain ⟨x,d',e,n0,n1,x0,x1⟩:=wMK d (b - a + 1) h0 h1
 refine ⟨a + x,d',?_,n0,n1,by omega,by omega⟩
 rw [e,nA]
 simp only
 rw [wAT (by omega) (by omega)]
def DK (lo:Int) (d:wAE):Prop:=0 <= d.next/\d.next <= lo
theorem wJA {d:wAE} {lo:Int} (h:DK lo d) (hl:lo <= 1000000) (n:Int):∃ x d',wAM d n=some (x,d')/\DK (lo + 1) d'/\0 <= x/\(x < n \/ (n <= 1/\x=0)):=by
 obtain ⟨x,d',e,n0,n1,x0,x1⟩:=wMK d n h.1 (by have:=h.2;omega)
 exact ⟨x,d',e,⟨n0,by have:=h.2;omega⟩,x0,x1⟩
theorem wPh {d:wAE} {lo:Int} (h:DK lo d) (hl:lo <= 1000000) (a b:Int) (ha:-1000000 <= a) (hab:a <= b) (hb:b <= 1000000):∃ x d',wAX d a b=some (x,d')/\DK (lo + 1) d'/\a <= x/\x <= b:=by
 obtain ⟨x,d',e,n0,n1,x0,x1⟩:=wTT d a b h.1 (by have:=h.2;omega) ha hab hb
 exact ⟨x,d',e,⟨n0,by have:=h.2;omega⟩,x0,x1⟩
theorem wVR {d:wAE} {lo:Int} (h:DK lo d) (hl:lo <= 1000000) (n:Int):∃ b d',wBV d n=some (b,d')/\DK (lo + 1) d':=by
 obtain ⟨x,d',e,k,_⟩:=wJA h hl n
 unfold wBV
 rw [e]
 exact ⟨_,_,rfl,k⟩
theorem DK.le {a b:Int} {d:wAE} (h:DK a d) (l:a <= b):DK b d:=⟨h.1,by have:=h.2;omega⟩
structure SkL (L:List wAH):Prop where
 len:L.length <= 5
 at_:∀ i:Nat,i < L.length->(gd L i).Bib=3 * (i:Int) + 1/\-1 <= (gd L i).Time/\(gd L i).Time <= 360000
theorem SkL.nil:SkL []:=⟨by simp,fun i h=>by simp at h⟩
theorem SkL.snoc {L:List wAH} (h:SkL L) (hl:L.length < 5) {b tm:Int} (hb:b=3 * (L.length:Int) + 1) (h0:-1 <= tm) (h1:tm <= 360000):SkL (L ++ [⟨b,tm⟩]):=by
 refine ⟨by simp;omega,fun i hi=>?_⟩
 rw [nG,nB] at hi
 by_cases c:i < L.length
 ·rw [wFo c];exact h.at_ i c
 ·have:i=L.length:=by omega
  subst this
  rw [wFp]
  exact ⟨hb,h0,h1⟩
theorem SkL.five {L:List wAH} (h:SkL L) (hl:L.length=5):L=skR (fun i=>(gd L i).Time)/\∀ i,i < 5->-1 <= (gd L i).Time/\(gd L i).Time <= 360000:=by
 refine ⟨wRX (by rw [wFS,hl]) fun k hk=>?_,fun i hi=>(h.at_ i (by omega)).2⟩
 rw [wMv _ (by omega)]
 have:=(h.at_ k hk).1
 cases hq:gd L k with
 | mk b tm=>rw [hq] at this;simp only at this ⊢;rw [this]
def S1 {S:Type} (I:S->Prop) (a:Option S):Prop:=∃ u,a=some u/\I u
theorem S1.bind {S R:Type} {I:S->Prop} {a:Option S} {K:S->Option R} {P:Option R->Prop} (h:S1 I a) (hK:∀ u,I u->P (K u)):P (a.bind K):=by
 obtain ⟨u,rfl,h⟩:=h
 exact hK u h
theorem for1 {S R:Type} {f:Nat->S->Option S} {n:Nat} {s0:S} {K:S->Option R} {P:Option R->Prop} (I:Nat->S->Prop) (hn:n <= 1000) (h0:I 0 s0) (h:∀ i s,i < n->I i s->S1 (I (i + 1)) (f i s)) (hK:∀ u,I n u->P (K u)):P ((wCs 0 (n:Int) f s0).bind K):=by
 obtain ⟨u,e,hu⟩:=wEm I hn h0 h
 rw [e];exact hK u hu
def MadeR (lo:Int) (u:wAI × wAE):Prop:=DK lo u.2/\∃ L s,u.1=⟨30,L,s⟩/\1 <= L.length/\SkL L/\SOK s/\s.length <= 10/\∀ x ∈ s,x.Number <= 20
theorem wTU (d:wAE) {lo:Int} (h:DK lo d) (hl:lo <= 500000):S1 (MadeR (lo + 300)) (wCT d 5 10):=by
 unfold wCT
 obtain ⟨n,d1,e1,k1,n1,n2⟩:=wPh h (by omega) 1 5 (by omega) (by omega) (by omega)
 rw [e1,nA]
 simp only
 obtain ⟨n,rfl⟩:∃ k:Nat,n=(k:Int):=⟨n.toNat,by omega⟩
 refine for1 (fun k (u:List Int × Int × Int × List wAH)=>DK (lo + 1 + 2 * k) ⟨u.1,u.2.1,u.2.2.1⟩/\SkL u.2.2.2/\u.2.2.2.length=k) (by omega) ⟨k1.le (by omega),SkL.nil,rfl⟩ (fun k u hk hu=>?_) fun u hu=>?_
 ·obtain ⟨b,x,st,L⟩:=u
  obtain ⟨q1,q2,q3⟩:=hu
  simp only at q1 q2 q3 ⊢
  obtain ⟨y,d2,e2,k2,y0,y1⟩:=wJA q1 (by omega) 20
  rw [e2,nA]
  simp only
  obtain ⟨c,d3,e3,k3⟩:=wVR k2 (by omega) 12
  rw [e3,nA]
  simp only
  rw [wAT (x:=3 * (k:Int)) (by omega) (by omega),wAT (x:=3 * (k:Int) + 1) (by omega) (by omega),wAT (x:=50 * y) (by omega) (by omega),wAT (x:=15000 + 50 * y) (by omega) (by omega),wDZ (by simp only [nB];omega),wDZ (by simp only [nB];omega),nA,nA]
  cases c
  ·exact ⟨_,rfl,k3.le (by omega),q2.snoc (by omega) (by rw [q3]) (by omega) (by omega),by simp only [nG,nB];omega⟩
  ·exact ⟨_,rfl,k3.le (by omega),q2.snoc (by omega) (by rw [q3]) (by omega) (by omega),by simp only [nG,nB];omega⟩
 obtain ⟨by2,nx2,st2,L⟩:=u
 obtain ⟨k2,hL,hn⟩:=hu
 simp only at k2 hL hn ⊢
 obtain ⟨m,d3,e3,k3,m0,m1⟩:=wJA k2 (by omega) (w64 (10 + 1))
 rw [wAT (x:=10 + 1) (by omega) (by omega)] at m1
 rw [e3,nA]
 simp only
 obtain ⟨m,rfl⟩:∃ k:Nat,m=(k:Int):=⟨m.toNat,by omega⟩
 refine for1 (fun k (u:List Int × Int × Int × List wAA × Int)=>DK (lo + 50 + 10 * k) ⟨u.1,u.2.1,u.2.2.1⟩/\SOK u.2.2.2.1/\u.2.2.2.1.length=k/\(∀ x ∈ u.2.2.2.1,x.Number <= u.2.2.2.2)/\0 <= u.2.2.2.2/\u.2.2.2.2 <= 2 * k) (by omega) ⟨k3.le (by omega),⟨by simp,fun d h=>(nomatch h),.nil⟩,rfl,fun x h=>(nomatch h),nL _,by simp⟩ (fun k u hk hu=>?_) fun u hu=>?_
 ·obtain ⟨b,x,st,s,z⟩:=u
  obtain ⟨q1,q2,q3,q4,q5,q6⟩:=hu
  simp only at q1 q2 q3 q4 q5 q6 ⊢
  obtain ⟨a,d4,e4,k4,a0,a1⟩:=wPh q1 (by omega) 1 2 (by omega) (by omega) (by omega)
  rw [e4,nA]
  simp only
  obtain ⟨kd,d5,e5,k5,kd0,kd1⟩:=wJA k4 (by omega) 10
  rw [e5,nA]
  simp only
  obtain ⟨mn,d6,e6,k6,mn0,mn1⟩:=wJA k5 (by omega) 36
  rw [e6,nA]
  simp only
  rw [wAT (x:=z + a) (by omega) (by omega)]
  have hz:1 <= z + a:=by omega
  have hz2:z + a <= 2 * (k:Int) + 2:=by omega
  have hlt:∀ x ∈ s,x.Number < z + a:=fun x hx=>by have:=q4 x hx;omega
  generalize hnum:z + a=num at hz hz2 hlt ⊢
  refine S1.bind (I:=fun (u:List Int × Int × Int × Bool)=>DK (lo + 54 + 10 * k) ⟨u.1,u.2.1,u.2.2.1⟩/\(u.2.2.2=true->1 < num)) ?_ ?_
  ·split
   ·rename_i c
    split
    ·obtain ⟨y,d7,e7,k7⟩:=wVR k6 (by omega) 3
     rw [e7]
     exact ⟨_,rfl,k7.le (by omega),fun _=>c⟩
    ·exact ⟨_,rfl,k6.le (by omega),fun _=>c⟩
   ·exact ⟨_,rfl,k6.le (by omega),fun h=>nomatch h⟩
  rintro ⟨b7,x7,s7,c7⟩ ⟨k7,hc7⟩
  simp only at k7 hc7 ⊢
  obtain ⟨kk,hkk,kk0,kk1,kkn⟩:∃ kk,(if c7=true then some 7 else some kd)=some kk/\0 <= kk/\kk <= 9/\(c7=true->1 < num):=by
   split
   ·exact ⟨7,rfl,by omega,by omega,hc7⟩
   ·exact ⟨kd,rfl,by omega,by omega,hc7⟩
  rw [hkk,nA]
  refine S1.bind (I:=fun (u:List Int × Int × Int × Int)=>DK (lo + 55 + 10 * k) ⟨u.1,u.2.1,u.2.2.1⟩/\0 <= u.2.2.2/\u.2.2.2 <= 9/\(num=1->u.2.2.2 <= 4)) ?_ ?_
  ·split
   ·obtain ⟨y,d8,e8,k8,y0,y1⟩:=wJA k7 (by omega) 5
    rw [e8]
    exact ⟨_,rfl,k8.le (by omega),y0,by simp only;omega,fun _=>by simp only;omega⟩
   ·rename_i c
    exact ⟨_,rfl,k7.le (by omega),kk0,kk1,fun h=>absurd h c⟩
  rintro ⟨b8,x8,s8,kd8⟩ ⟨k8,h80,h81,h82⟩
  simp only at k8 h80 h81 h82 ⊢
  refine S1.bind (I:=fun (u:List Int × Int × Int × Int × Int × Int)=>DK (lo + 60 + 10 * k) ⟨u.1,u.2.1,u.2.2.1⟩/\DOK ⟨num,kd8,mn,u.2.2.2.1,u.2.2.2.2.1,u.2.2.2.2.2⟩) ?_ ?_
  ·split
   ·rename_i c
    obtain ⟨w,d9,e9,k9,w0,w1⟩:=wJA k8 (by omega) (L.length:Int)
    have hw:w.toNat < L.length:=by omega
    have hb:=(hL.at_ _ hw).1
    have h5:=hL.len
    rw [e9,nA]
    simp only
    rw [wDA w0 (by omega),nA]
    obtain ⟨y,d10,e10,k10,y0,y1⟩:=wJA k9 (by omega) 8
    rw [e10,nA]
    simp only
    have mk:∀ mu:Int,0 <= mu->mu <= 36000->(kd8=3->mu=0)->DOK ⟨num,kd8,mn,(gd L w.toNat).Bib,mu,0⟩:=fun mu u0 u1 u2=>by
     refine ⟨hz,?_,h80,h81,mn0,?_,u0,u1,fun h=>?_,fun _=>⟨rfl,w.toNat,by omega,hb⟩,fun h=>?_⟩ <;> simp only at * <;> omega
    split
    ·rename_i c2
     obtain ⟨v,d11,e11,k11,v0,v1⟩:=wJA k10 (by omega) 3
     rw [e11,nA]
     simp only
     rw [if_neg (by omega)]
     exact ⟨_,rfl,k11.le (by omega),mk v v0 (by omega) (by omega)⟩
    ·split
     ·exact ⟨_,rfl,k10.le (by omega),mk 0 (by omega) (by omega) (by omega)⟩
     ·rename_i c3
      rw [wAT (x:=50 * y) (by omega) (by omega)]
      exact ⟨_,rfl,k10.le (by omega),mk (50 * y) (by omega) (by omega) (fun h=>absurd h c3)⟩
   ·rename_i c
    rw [wAT (x:=num - 6) (by omega) (by omega),wAT (x:=num - 1) (by omega) (by omega)]
    obtain ⟨w,d9,e9,k9,w0,w1⟩:=wPh k8 (by omega) (max 1 (num - 6)) (num - 1) (by omega) (by omega) (by omega)
    rw [e9,nA]
    simp only
    have mk:∀ mu:Int,0 <= mu->mu <= 36000->(kd8 ≠ 6->mu=0)->DOK ⟨num,kd8,mn,0,mu,w⟩:=fun mu u0 u1 u2=>by
     refine ⟨hz,?_,h80,h81,mn0,?_,u0,u1,fun h=>?_,fun h=>?_,fun h=>⟨rfl,?_,w1⟩⟩ <;> simp only at * <;> omega
    split
    ·obtain ⟨v,d11,e11,k11,v0,v1⟩:=wJA k9 (by omega) 8
     rename_i c2
     rw [e11,nA]
     simp only
     rw [wAT (x:=50 * v) (by omega) (by omega)]
     exact ⟨_,rfl,k11.le (by omega),mk (50 * v) (by omega) (by omega) (fun h=>absurd c2 h)⟩
    ·exact ⟨_,rfl,k9.le (by omega),mk 0 (by omega) (by omega) (fun _=>rfl)⟩
  rintro ⟨b9,x9,s9,p1,p2,p3⟩ ⟨k9,ok⟩
  simp only at k9 ok ⊢
  rw [wDZ (by simp only [nB];omega),nA]
  refine ⟨_,rfl,k9.le (by omega),⟨by simp only [nG,nB];omega,fun d hd=>?_,nh.2 ⟨q2.inc,nY _ _,fun a ha b hb=>?_⟩⟩,by simp only [nG,nB];omega,fun x hx=>?_,by simp only;omega,by simp only;omega⟩
  ·rcases nS.1 hd with h | h
   ·exact q2.ok d h
   ·rw [nI.1 h];exact ok
  ·rw [nI.1 hb];exact hlt a ha
  ·rcases nS.1 hx with h | h
   ·have:=hlt x h;simp only;omega
   ·rw [nI.1 h];exact nL _
 ·obtain ⟨b,x,st,s,z⟩:=u
  obtain ⟨q1,q2,q3,q4,q5,q6⟩:=hu
  simp only at q1 q2 q3 q4 q5 q6 ⊢
  exact ⟨_,rfl,q1.le (by omega),L,s,rfl,by omega,hL,q2,by omega,fun x hx=>by have:=q4 x hx;omega⟩
theorem wQp {l:List Int} {i k:Int} (i0:0 <= i) (i1:i < l.length) (k0:0 <= k) (k1:k < l.length):(nH (nH l i.toNat (gd l k.toNat)) k.toNat (gd l i.toNat)).Perm l:=by
 rw [wFq (show k.toNat < l.length by omega),wFq (show i.toNat < l.length by omega)]
 exact List.set_set_perm (by omega) (by omega)
theorem wNk (d:wAE) (n:Nat) (h0:0 <= d.next) (h1:d.next <= 100000) (hn:n <= 1000):∃ l d',wBX d (n:Int)=some (l,d')/\0 <= d'.next/\d'.next <= d.next + n/\l.Perm ((nE n).map fun (k:Nat)=>(k:Int)):=by
 unfold wBX
 have e1:max (0:Int) n=n:=by omega
 rw [e1,wEG (by omega)]
 obtain ⟨s,hs,hI⟩:=wIw (body:=fun (k19:Nat) (l15:List Int)=>(app 8 l15 [(k19:Int)]).bind fun x47=>some x47) (fun k l=>l=(nE k).map fun (k:Nat)=>(k:Int)) n 0 [] rfl (fun i s _ hi e=>by
  subst e
  refine ⟨_,by rw [app,if_pos (by simp;omega)];rfl,?_⟩
  rw [nP,nQ];rfl)
 rw [hs,nA]
 rw [nm] at hI
 have hlen:s.length=n:=by rw [hI];simp
 rw [wAT (by omega) (by omega)]
 refine (wHT (I:=fun j (st:List Int × Int × Int × List Int × Int)=>st.2.2.2.1.Perm s/\0 <= st.2.1/\st.2.1 <= d.next + j/\st.2.2.2.2=(s.length:Int) - 1 - j) (Z:=fun (b:List Int × wAE)=>0 <= b.2.next/\b.2.next <= d.next + n/\b.1.Perm s) n ?_ ⟨ng _,by simpa using h0,by simp,by simp⟩ (by omega)).elim fun b hb=>⟨b.1,b.2,hb.1,hb.2.1,hb.2.2.1,hI ▸ hb.2.2.2⟩
 rintro j ⟨b,nx,st,l,i⟩ hj ⟨hp,n0,n1,hi⟩
 simp only at hp n0 n1 hi ⊢
 have hl:l.length=s.length:=hp.length_eq
 by_cases c:0 < i
 ·left
  refine ⟨by omega,?_⟩
  rw [if_pos c,wAT (x:=i + 1) (by omega) (by omega)]
  obtain ⟨x,d',e,m0,m1,x0,x1⟩:=wMK ⟨b,nx,st⟩ (i + 1) n0 (by simp only;omega)
  have x1':x < l.length:=by omega
  rw [e,nA]
  simp only
  rw [wDA x0 (by omega),nA,wDA (by omega) (by omega),nA,wDA x0 (by rw [nJ];omega),nA,wAT (by omega) (by omega)]
  exact ⟨_,rfl,(wQp (by omega) (by omega) x0 x1').trans hp,m0,by simp only at m1 ⊢;omega,by simp only;omega⟩
 ·right
  rw [if_neg c]
  exact ⟨_,rfl,n0,by simp only;omega,hp⟩
theorem wQq {α:Type} [Inhabited α] {l:List α} {p:List Int} (h:p.Perm ((nE l.length).map fun (k:Nat)=>(k:Int))):(p.map fun i=>gd l i.toNat).Perm l:=by
 have:=h.map fun i=>gd l i.toNat
 refine this.trans ?_
 rw [List.map_map]
 have e:(nE l.length).map ((fun i:Int=>gd l i.toNat) ∘ fun (k:Nat)=>(k:Int))=l:=by
  refine List.ext_getElem (by simp) fun i h1 h2=>?_
  simp only [List.getElem_map,List.getElem_range,Function.comp]
  rw [nK,wFq h2]
 rw [e]
theorem wTV {p:List Int} {n:Nat} (h:p.Perm ((nE n).map fun (k:Nat)=>(k:Int))):∀ i ∈ p,0 <= i/\i < n:=by
 intro i hi
 obtain ⟨k,hk,e⟩:=nM.1 (h.mem_iff.1 hi)
 have:=nD.1 hk
 omega
theorem wVS {S R:Type} {n:Nat} {body:Nat->S->Option (S ⊕ R)} {s0:S} {K:S->Option R} {v:R} (I:Nat->S->Prop) (hn:n <= 1000) (h0:I 0 s0) (h:∀ i s,i < n->I i s->S1 (fun r=>∃ s',r=Sum.inl s'/\I (i + 1) s') (body i s)) (hK:∀ s,I n s->K s=some v):jn (wGa 0 (n:Int) body s0) K=some v:=by
 rw [wEl (by omega)]
 rcases wIK (body:=body) I (fun _=>False) n 0 s0 h0 (fun i s _ h2 h3=>by
  obtain ⟨r,e,s',rfl,hI⟩:=h i s (by omega) h3
  exact .inl ⟨s',e,hI⟩) with ⟨s',h1,h2⟩ | ⟨b,_,h⟩
 ·rw [h1,nm] at *;exact hK s' h2
 ·exact h.elim
theorem wQr {t:Nat->Int} {s:List wAA} (h:s.length <= 1000):wBj ⟨30,skR t,s⟩=some ⟨30,skR t,s⟩:=by
 unfold wBj wBa wBI
 simp only
 rw [wDZ (by rw [wFS];simp),nA,nA,wDZ (by simp only [List.length_nil];omega),nA,nA]
 rfl
theorem wPi {L:List wAH} {d:wAE} {lo:Int} (h:DK lo d) (hl:lo <= 500000) (hL:SkL L):S1 (fun (u:List wAH × List Int × Int × Int)=>SkL u.1/\u.1.length=5/\DK (lo + 10) ⟨u.2.1,u.2.2.1,u.2.2.2⟩) (iter (fun (l354,l357,x360,x361) =>
      if (↑l354.length:Int) < 5 then
        (wAM (⟨l357,x360,x361⟩:wAE) 20).bind fun (x423,x424) =>
        (app 16 l354 [(⟨w64 ((w64 (3 * (↑l354.length:Int))) + 1),w64 (15000 + (w64 (50 * x423)))⟩:wAH)]).bind fun x443 =>
        some (.inl (x443,x424.bytes,x424.next,x424.state))
      else
        esc (some (l354,l357,x360,x361))) big (L,d.bytes,d.next,d.state)):=by
  refine wHT (fun (k:Nat) (u:List wAH × List Int × Int × Int)=>SkL u.1/\k <= u.1.length/\DK (lo + k) ⟨u.2.1,u.2.2.1,u.2.2.2⟩) _ 5 ?_ ⟨hL,Nat.zero_le _,h.le (by omega)⟩ (by omega)
  rintro k ⟨L,b,x,st⟩ hk ⟨q1,q2,q3⟩
  simp only at q1 q2 q3 ⊢
  by_cases c:(L.length:Int) < 5
  · left
    obtain ⟨y,d2,e2,k2,y0,y1⟩:=wJA q3 (by omega) 20
    rw [if_pos c,e2,nA]
    simp only
    rw [wAT (x:=3 * (L.length:Int)) (by omega) (by omega),wAT (x:=3 * (L.length:Int) + 1) (by omega) (by omega),wAT (x:=50 * y) (by omega) (by omega),wAT (x:=15000 + 50 * y) (by omega) (by omega),wDZ (by simp only [nB];omega),nA]
    exact ⟨by omega,_,rfl,q1.snoc (by omega) rfl (by omega) (by omega),by simp only [nG,nB];omega,k2.le (by omega)⟩
  · right
    rw [if_neg c]
    have:=q1.len
    exact ⟨_,rfl,q1,by simp only;omega,q3.le (by omega)⟩
theorem wQs {s:List wAA} {σ:List Int} (hs:s.length <= 100) (hp:σ.Perm ((nE s.length).map fun (k:Nat)=>(k:Int))):S1 (fun y=>y.Perm s) (wCs 0 (↑σ.length:Int) (fun k1040 l1039 =>
      (chk (↑k1040:Int) σ.length).bind fun _ =>
      (idx s (gd σ k1040)).bind fun x1081 =>
      (chk (↑k1040:Int) l1039.length).bind fun _ =>
      some (nH l1039 k1040 x1081)) s):=by
  have sl:σ.length=s.length:=by rw [hp.length_eq];simp
  obtain ⟨y,e,yl,hy⟩:=wEm (n:=σ.length) (s0:=s) (body:=fun k1040 l1039 =>
      (chk (↑k1040:Int) σ.length).bind fun _ =>
      (idx s (gd σ k1040)).bind fun x1081 =>
      (chk (↑k1040:Int) l1039.length).bind fun _ =>
      some (nH l1039 k1040 x1081)) (fun k l=>l.length=s.length/\∀ j,j < k->gd l j=gd s (gd σ j).toNat) (by omega) ⟨rfl,fun j hj=>by omega⟩ fun k l hk hI=>by
    obtain ⟨h1,h2⟩:=hI
    have hm:=wTV hp _ (wDp hk)
    obtain ⟨q,hq⟩:∃ q:Nat,gd σ k=(q:Int):=⟨(gd σ k).toNat,by omega⟩
    rw [wDA (by omega) (by omega),nA,hq,wCi (by omega),nA,wDA (by omega) (by omega),nA]
    refine ⟨_,rfl,by rw [nJ];exact h1,fun j hj=>?_⟩
    rw [wPT (by omega) (by omega)]
    by_cases c:j=k
    · rw [if_pos c,c,hq,nK]
    · rw [if_neg c];exact h2 j (by omega)
  refine ⟨y,e,?_⟩
  have:y=σ.map fun i=>gd s i.toNat:=wRX (by rw [na];omega) fun k hk=>by rw [hy k (by omega),wTE _ (by omega)]
  rw [this]
  exact wQq hp
theorem idx30 {α:Type} (a b c:α):idx [a,b,c] 0=some a:=rfl
theorem idx31 {α:Type} (a b c:α):idx [a,b,c] 1=some b:=rfl
theorem idx32 {α:Type} (a b c:α):idx [a,b,c] 2=some c:=rfl
theorem wVT {l:List wAN} (h:l.length=5):wBM l l=some true:=by
 unfold wBM
 exact wNf (by omega)
theorem CupOK.more {n B:Int} {Dn:List (List Int)} (C:CupOK n B Dn) (h:(Dn.length:Int) < n) {r:List Int} (R:wFv r):CupOK n B (Dn ++ [r]):=⟨C.n1,C.n4,C.b1,C.bn,by rw [nG,nB];omega,fun x hx=>by
 rcases nS.1 hx with h | h
 ·exact C.ok x h
 ·rw [nI.1 h];exact R⟩
structure SI (n B:Int) (g k:Nat) (Dn Dm:List (List Int)) (d q:wAE):Prop where
 c:CupOK n B Dn
 f:CupOK n B Dm
 lc:Dn.length=k
 lf:Dm.length=k
 pt:∀ i,i < k->ptR (gd Dm i) g <= ptR (gd Dn i) g
 dd:DK (10 + 400 * k) d
 dq:DK (400 * k) q
theorem wLI (p0 p1:List Int) (p2 p3:Int) (h20:0 <= p2) (h21:p2 <= 255) (h30:0 <= p3) (h31:p3 <= 255):wCE p0 p1 p2 p3=some true:=by
 unfold wCE wDS
 rw [nA,nA]
 obtain ⟨n,d1,e1,k1,n1,n4⟩:=wPh (d:=⟨p0,0,17⟩) (lo:=0) ⟨nL _,nL _⟩ (by omega) 1 4 (by omega) (by omega) (by omega)
 rw [e1,nA]
 simp only
 obtain ⟨B,d2,e2,k2,b1,bn⟩:=wPh k1 (by omega) 1 n (by omega) (by omega) (by omega)
 rw [e2,nA]
 simp only
 obtain ⟨g,e3,g0,g5⟩:=wNC (a:=w64 p2) (b:=5) (by rw [wAT (by omega) (by omega)];exact h20) (by omega)
 rw [e3,nA,wAT (x:=3 * g) (by omega) (by omega),wAT (x:=3 * g + 1) (by omega) (by omega),wAT (x:=p3) (by omega) (by omega)]
 obtain ⟨n,rfl⟩:∃ k:Nat,n=(k:Int):=⟨n.toNat,by omega⟩
 obtain ⟨g,rfl⟩:∃ k:Nat,g=(k:Int):=⟨g.toNat,by omega⟩
 have g5':g < 5:=by omega
 refine wVS (fun k u=>∃ Dn Dm b x s b2 x2 s2,u=(5,(n:Int),B,P5,Dm,5,(n:Int),B,P5,Dn,b,x,s,5,(n:Int),B,P5,Dn,b2,x2,s2)/\SI n B g k Dn Dm ⟨b,x,s⟩ ⟨b2,x2,s2⟩) (by omega)
  ⟨[],[],_,_,_,_,_,_,rfl,⟨by omega,by omega,b1,bn,by simp,fun r h=>nomatch h⟩,⟨by omega,by omega,b1,bn,by simp,fun r h=>nomatch h⟩,rfl,rfl,fun i h=>by omega,k2.le (by omega),⟨nL _,nL _⟩⟩ (fun k u hk hu=>?_) fun u hu=>?_
 ·obtain ⟨Dn,Dm,b,x,st,b2,x2,st2,rfl,I⟩:=hu
  have dd:=I.dd
  have dq:=I.dq
  have lc:=I.lc
  have lf:=I.lf
  simp only
  refine S1.bind (wTU ⟨b,x,st⟩ dd (by omega)) ?_
  rintro ⟨r,d3⟩ ⟨k3,L,s,hr,L1,hL,hs,sl,s20⟩
  simp only at hr k3
  subst hr
  simp only
  refine S1.bind (wPi k3 (by omega) hL) ?_
  rintro ⟨L5,b4,x4,st4⟩ ⟨hL5,l5,k4⟩
  simp only at hL5 l5 k4 ⊢
  obtain ⟨eL,ht⟩:=hL5.five l5
  generalize (fun i=>(gd L5 i).Time)=t at eL
  have ht':∀ i,i < 5->-1 <= t i/\t i <= 360000:=fun i hi=>by
   have:=ht i hi
   rw [eL,wMv t hi] at this
   exact this
  subst eL
  rw [wQr (by omega),nA,nA,nA]
  simp only
  obtain ⟨σ,d5,e5,x50,x51,hσ⟩:=wNk ⟨b2,x2,st2⟩ s.length dq.1 (by have:=dq.2;omega) (by omega)
  rw [e5,nA]
  simp only
  refine S1.bind (wQs (by omega) hσ) ?_
  intro mix hmix
  refine S1.bind (I:=fun w=>w=if k=0 then s ++ [pen (3 * (g:Int) + 1) p3] else s) ?_ ?_
  ·by_cases c:k=0
   ·rw [if_pos (show (k:Int)=0 by omega),wDZ (by simp only [nB];omega),nA,if_pos c]
    exact ⟨_,rfl,rfl⟩
   ·rw [if_neg (show ¬ (k:Int)=0 by omega),if_neg c]
    exact ⟨_,rfl,rfl⟩
  intro w hw
  obtain ⟨T,O,T',r1,⟨lp,r2,r3⟩,r4⟩:=raceR ht' hs (by omega) s20 g5' h30 (by omega:p3 <= 36000)
  obtain ⟨lc1,a1,a2⟩:=r1 s (ng _)
  obtain ⟨lc2,a3,a4⟩:=r1 mix hmix
  obtain ⟨Tw,lw,a5,a6,a7⟩:∃ Tw lw,wBs ⟨30,skR t,w⟩=some (lw,0)/\PL Tw O lw/\ptR (plR Tw O) g <= ptR (plR T O) g:=by
   rw [hw]
   by_cases c:k=0
   ·rw [if_pos c];exact ⟨T',lp,r2,r3,wTR g5' r4⟩
   ·rw [if_neg c];exact ⟨T,lc1,a1,a2,nL _⟩
  have C1:=I.c.more (r:=plR T O) (by omega) (wNB T O)
  have C2:=I.f.more (r:=plR Tw O) (by omega) (wNB Tw O)
  have A1:wCw ⟨5,(n:Int),B,P5,Dn⟩ [plR T O]=some (mkC n B (Dn ++ [plR T O]),0):=wPZ I.c C1
  have A2:wCw ⟨5,(n:Int),B,P5,Dm⟩ [plR Tw O]=some (mkC n B (Dm ++ [plR Tw O]),0):=wPZ I.f C2
  obtain ⟨tl,t1,t2⟩:=wTH C1
  rw [idx30,nA,a1,nA]
  simp only
  rw [wMH a2,nA]
  simp only
  rw [if_pos trivial,if_pos trivial,A1,nA]
  simp only
  rw [if_pos trivial,idx31,nA,a3,nA]
  simp only
  rw [wMH a4,nA]
  simp only
  rw [if_pos trivial,if_pos trivial,A1,nA]
  simp only
  rw [if_pos trivial,idx32,nA,a5,nA]
  simp only
  rw [wMH a6,nA]
  simp only
  rw [if_pos trivial,if_pos trivial,A2,nA]
  simp only
  rw [if_pos trivial,t1,nA,nA]
  simp only
  rw [if_pos trivial,if_pos trivial,wVT t2,nA,if_pos rfl]
  refine ⟨_,rfl,_,rfl,Dn ++ [plR T O],Dm ++ [plR Tw O],b4,x4,st4,d5.bytes,d5.next,d5.state,rfl,C1,C2,by rw [nG,nB];omega,by rw [nG,nB];omega,fun i hi=>?_,k4.le (by omega),⟨x50,by have:=dq.2;simp only at x51 this ⊢;omega⟩⟩
  by_cases c:i < k
  ·rw [wFo (by omega),wFo (by omega)];exact I.pt i c
  ·have ei:i=k:=by omega
   have z1:gd (Dn ++ [plR T O]) i=plR T O:=by rw [ei,<- lc];exact wFp _ _ _
   have z2:gd (Dm ++ [plR Tw O]) i=plR Tw O:=by rw [ei,<- lf];exact wFp _ _ _
   rw [z1,z2];exact a7
 ·obtain ⟨Dn,Dm,b,x,st,b2,x2,st2,rfl,I⟩:=hu
  obtain ⟨⟨v1,v2,v3⟩,hv⟩:=wPY I.c
  obtain ⟨la,ea,al,ta⟩:=wMu I.c
  obtain ⟨lb,eb,bl,tb⟩:=wMu I.f
  unfold mkC at hv ea eb
  simp only
  rw [hv,nA,nA]
  simp only
  rw [ea,nA]
  simp only
  rw [eb,nA]
  simp only
  have fin:gd lb g <= gd la g:=by
   have tb':=tb g g5'
   rw [I.lf,<- I.lc] at tb'
   refine wVG (fun y hy=>?_) (ta g g5') tb'
   obtain ⟨i,hi,rfl⟩:=nM.1 hy
   have hi:=nD.1 hi
   exact I.pt i (by have:=I.lc;omega)
  rw [if_pos trivial,if_pos trivial,if_pos trivial,if_pos trivial,if_pos trivial,if_pos (by omega),if_pos (by omega),wDA (by omega) (by omega),nA,wDA (by omega) (by omega),nA,nK,if_pos fin]
  rfl
end Go.Proofs.YtlkkhhcfemmmdaaGreat
