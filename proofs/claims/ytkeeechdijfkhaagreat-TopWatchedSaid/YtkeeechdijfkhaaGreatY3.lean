import Derived.Test.YtkeeechdijfkhaaGreatY2
set_option linter.all false
open Option renaming bind_some->nA
open List renaming length_cons->nB,length_nil->nH,mem_singleton->nI,all_eq_true->nJ,mem_append->nL,length_append->nM,range->nN,cons_append->nP,sum_replicate_nat->nR,length_singleton->nS,range_eq_range'->nT,length_flatMap->nU,mem_map->nV,flatMap_cons->nW
open Int renaming toNat_natCast->nD,toNat_of_nonneg->nG,sub_add_cancel->nK,add_comm->nQ
open Bool renaming and_eq_true->nE,false_eq_true->nO
namespace Go.Proofs.YtkeeechdijfkhaaGreat
open Go.KL Go.KL.Net
structure RC (r:wAD):Prop where
 n:1 <= r.Starts.length/\r.Starts.length <= 8
 m:r.Splits.length <= 7
 c:r.Clocks.length <= 4
 q:r.Readings.length <= 40
 st:∀ s ∈ r.Starts,0 <= s/\s <= 360000
 sp:∀ s ∈ r.Splits,s.Lo <= s.Hi/\0 <= s.Lo/\s.Hi <= 360000
 ck:∀ s ∈ r.Clocks,(s.Offset.Lo <= s.Offset.Hi/\-36000 <= s.Offset.Lo/\s.Offset.Hi <= 36000)/\0 <= s.Error/\s.Error <= 600
 rt:∀ x ∈ r.Readings,0 <= x.Time/\x.Time <= 360000
 ru:∀ x ∈ r.Readings,0 <= x.Skier/\x.Skier < r.Starts.length/\0 <= x.Mat/\x.Mat <= r.Splits.length/\0 <= x.Clock/\x.Clock < r.Clocks.length
def zp:wAF:=⟨-1,0⟩
def wHv (r:wAD) (p:wAF):Prop:=p=zp \/ (0 <= p.skier/\p.skier < r.Starts.length/\0 <= p.mat/\p.mat <= r.Splits.length) \/ (p.skier=-1/\1 <= p.mat/\p.mat <= r.Clocks.length)
def wDu (r:wAD) (x:wAK):Prop :=
 (x.Kind=0/\0 <= x.Skier/\x.Skier < r.Starts.length/\x.Index=0) \/ (x.Kind=1/\0 <= x.Skier/\x.Skier < r.Starts.length/\0 <= x.Index/\x.Index < r.Splits.length) \/
 (x.Kind=2/\x.Skier=0/\0 <= x.Index/\x.Index < r.Clocks.length) \/ (x.Kind=3/\x.Skier=0/\0 <= x.Index/\x.Index < r.Readings.length)
abbrev Pt:=wAF
def wCl (r:wAD) (x:wAK):Pt × Pt × Int × Int :=
 if x.Kind=0 then (zp,⟨x.Skier,0⟩,gd r.Starts x.Skier.toNat,-gd r.Starts x.Skier.toNat)
 else if x.Kind=1 then (⟨x.Skier,x.Index⟩,⟨x.Skier,x.Index + 1⟩,(gd r.Splits x.Index.toNat).Hi,-(gd r.Splits x.Index.toNat).Lo)
 else if x.Kind=2 then (zp,⟨-1,1 + x.Index⟩,-(gd r.Clocks x.Index.toNat).Offset.Lo,(gd r.Clocks x.Index.toNat).Offset.Hi)
 else (⟨-1,1 + (gd r.Readings x.Index.toNat).Clock⟩,⟨(gd r.Readings x.Index.toNat).Skier,(gd r.Readings x.Index.toNat).Mat⟩,(gd r.Readings x.Index.toNat).Time + (gd r.Clocks (gd r.Readings x.Index.toNat).Clock.toNat).Error,(gd r.Clocks (gd r.Readings x.Index.toNat).Clock.toNat).Error - (gd r.Readings x.Index.toNat).Time)
def wDB (r:wAD) (x:wAK):Pt × Pt × Int:=if x.Up=true then ((wCl r x).1,(wCl r x).2.1,(wCl r x).2.2.1) else ((wCl r x).2.1,(wCl r x).1,(wCl r x).2.2.2)
theorem wFc {α:Type} [Inhabited α] {l:List α} {i:Int} (h0:0 <= i) (h1:i < l.length):idx l i=some (gd l i.toNat):=by
 obtain ⟨k,rfl⟩:=Int.eq_ofNat_of_zero_le h0
 rw [wGN (by omega)]
 rfl
theorem wCT {α:Type} [Inhabited α] {l:List α} {i:Int} (h0:0 <= i) (h1:i < l.length):gd l i.toNat ∈ l:=wBI (by omega)
theorem wPm {r:wAD} (C:RC r) {x:wAK} (h:wDu r x):wBd r x=some (wDB r x):=by
 unfold wBd wCB wDN wDO wDP wDQ wDR wDS wCu wCv wBp wCa
 have hm:=C.m;have hc:=C.c;have hq:=C.q;have hn:=C.n
 rcases h with ⟨k,a,b,c⟩ | ⟨k,a,b,c,d⟩ | ⟨k,a,c,d⟩ | ⟨k,a,c,d⟩
 ·have g:=C.st _ (wCT a b)
  have e4:wCl r x=(zp,⟨x.Skier,0⟩,gd r.Starts x.Skier.toNat,-gd r.Starts x.Skier.toNat):=if_pos k
  have w:w64 (-gd r.Starts x.Skier.toNat)=-gd r.Starts x.Skier.toNat:=wAb (by omega) (by omega)
  rw [if_pos k,wFc a b]
  simp only [nA]
  rw [w]
  unfold wDB
  rw [e4]
  split <;> rfl
 ·have g:=C.sp _ (wCT c d)
  have e4:wCl r x=(⟨x.Skier,x.Index⟩,⟨x.Skier,x.Index + 1⟩,(gd r.Splits x.Index.toNat).Hi,-(gd r.Splits x.Index.toNat).Lo):=(if_neg (by omega)).trans (if_pos k)
  have w:w64 (-(gd r.Splits x.Index.toNat).Lo)=-(gd r.Splits x.Index.toNat).Lo:=wAb (by omega) (by omega)
  have w2:w64 (x.Index + 1)=x.Index + 1:=wAb (by omega) (by omega)
  rw [if_neg (by omega),if_pos k,wFc c d]
  simp only [nA]
  rw [w,w2]
  unfold wDB
  rw [e4]
  split <;> rfl
 ·have g:=C.ck _ (wCT c d)
  have e4:wCl r x=(zp,⟨-1,1 + x.Index⟩,-(gd r.Clocks x.Index.toNat).Offset.Lo,(gd r.Clocks x.Index.toNat).Offset.Hi):=(if_neg (by omega)).trans ((if_neg (by omega)).trans (if_pos k))
  have w:w64 (-(gd r.Clocks x.Index.toNat).Offset.Lo)=-(gd r.Clocks x.Index.toNat).Offset.Lo:=wAb (by omega) (by omega)
  have w2:w64 (1 + x.Index)=1 + x.Index:=wAb (by omega) (by omega)
  rw [if_neg (by omega),if_neg (by omega),if_pos k,wFc c d]
  simp only [nA]
  rw [w,w2]
  unfold wDB
  rw [e4]
  split <;> rfl
 ·have g:=C.rt _ (wCT c d)
  have u:=C.ru _ (wCT c d)
  have gc:=C.ck _ (wCT u.2.2.2.2.1 u.2.2.2.2.2)
  have e4:wCl r x=(⟨-1,1 + (gd r.Readings x.Index.toNat).Clock⟩,⟨(gd r.Readings x.Index.toNat).Skier,(gd r.Readings x.Index.toNat).Mat⟩,(gd r.Readings x.Index.toNat).Time + (gd r.Clocks (gd r.Readings x.Index.toNat).Clock.toNat).Error,(gd r.Clocks (gd r.Readings x.Index.toNat).Clock.toNat).Error - (gd r.Readings x.Index.toNat).Time):=(if_neg (by omega)).trans ((if_neg (by omega)).trans (if_neg (by omega)))
  rw [if_neg (by omega),if_neg (by omega),if_neg (by omega),if_pos k,wFc c d]
  simp only [nA]
  rw [wFc u.2.2.2.2.1 u.2.2.2.2.2]
  simp only [nA]
  generalize gd r.Readings x.Index.toNat=X at *
  generalize gd r.Clocks X.Clock.toNat=Y at *
  have w:w64 (X.Time + Y.Error)=X.Time + Y.Error:=wAb (by omega) (by omega)
  have w2:w64 (1 + X.Clock)=1 + X.Clock:=wAb (by omega) (by omega)
  have w3:w64 (Y.Error - X.Time)=Y.Error - X.Time:=wAb (by omega) (by omega)
  rw [w,w2,w3]
  unfold wDB
  rw [e4]
  split <;> rfl
theorem wGQ {r:wAD} (C:RC r) {x:wAK} (h:wDu r x):wHv r (wDB r x).1/\wHv r (wDB r x).2.1/\-400000 <= (wDB r x).2.2/\(wDB r x).2.2 <= 400000:=by
 have key:wHv r (wCl r x).1/\wHv r (wCl r x).2.1/\(-400000 <= (wCl r x).2.2.1/\(wCl r x).2.2.1 <= 400000)/\(-400000 <= (wCl r x).2.2.2/\(wCl r x).2.2.2 <= 400000):=by
  have hn:=C.n
  unfold wCl
  rcases h with ⟨k,a,b,c⟩ | ⟨k,a,b,c,d⟩ | ⟨k,a,c,d⟩ | ⟨k,a,c,d⟩
  ·have g:=C.st _ (wCT a b)
   rw [if_pos k]
   exact ⟨.inl rfl,.inr (.inl ⟨a,b,by simp only;omega,by simp only;omega⟩),by simp only;omega,by simp only;omega⟩
  ·have g:=C.sp _ (wCT c d)
   rw [if_neg (by omega),if_pos k]
   exact ⟨.inr (.inl ⟨a,b,by simp only;omega,by simp only;omega⟩),.inr (.inl ⟨a,b,by simp only;omega,by simp only;omega⟩),by simp only;omega,by simp only;omega⟩
  ·have g:=C.ck _ (wCT c d)
   rw [if_neg (by omega),if_neg (by omega),if_pos k]
   exact ⟨.inl rfl,.inr (.inr ⟨rfl,by simp only;omega,by simp only;omega⟩),by simp only;omega,by simp only;omega⟩
  ·have g:=C.rt _ (wCT c d)
   have u:=C.ru _ (wCT c d)
   have gc:=C.ck _ (wCT u.2.2.2.2.1 u.2.2.2.2.2)
   rw [if_neg (by omega),if_neg (by omega),if_neg (by omega)]
   exact ⟨.inr (.inr ⟨rfl,by simp only;omega,by simp only;omega⟩),.inr (.inl ⟨u.1,u.2.1,u.2.2.1,u.2.2.2.1⟩),by simp only;omega,by simp only;omega⟩
 obtain ⟨h1,h2,h3,h4⟩:=key
 unfold wDB
 split
 ·exact ⟨h1,h2,h3⟩
 ·exact ⟨h2,h1,h4⟩
def two (kind skier i:Nat):List wAK:=[⟨kind,skier,i,true⟩,⟨kind,skier,i,false⟩]
def wJn (kind skier m:Nat):List wAK:=(nN m).flatMap (two kind skier)
def skL (kind ns m:Nat):List wAK:=(nN ns).flatMap fun s=>wJn kind s m
def wJo (r:wAD):List wAK:=skL 0 r.Starts.length 1 ++ (skL 1 r.Starts.length r.Splits.length ++ (skL 2 1 r.Clocks.length ++ skL 3 1 r.Readings.length))
theorem wRl {kind ns m:Nat} {x:wAK}:x ∈ skL kind ns m ↔ x.Kind=kind/\0 <= x.Skier/\x.Skier < ns/\0 <= x.Index/\x.Index < m:=by
 unfold skL wJn two
 simp only [List.mem_flatMap,List.mem_range,List.mem_cons,List.not_mem_nil,or_false]
 constructor
 ·rintro ⟨s,hs,i,hi,rfl | rfl⟩ <;> exact ⟨rfl,by simp only;omega,by simp only;omega,by simp only;omega,by simp only;omega⟩
 ·rintro ⟨a,b,c,d,e⟩
  refine ⟨x.Skier.toNat,by omega,x.Index.toNat,by omega,?_⟩
  obtain ⟨k,s,i,u⟩:=x
  simp only at a b c d e
  subst a
  rw [nG b,nG d]
  cases u <;> simp
theorem wEu {r:wAD} {x:wAK}:x ∈ wJo r ↔ wDu r x:=by
 unfold wJo wDu
 simp only [nL,wRl]
 omega
theorem wRm (kind ns m:Nat):(skL kind ns m).length=2 * m * ns:=by
 unfold skL wJn
 rw [nU]
 have:∀ s:Nat,((nN m).flatMap (two kind s)).length=2 * m:=fun s=>by
  rw [nU]
  have e:(nN m).map (fun a=>(two kind s a).length)=List.replicate m 2:=by
   apply List.ext_getElem (by simp)
   intro i h1 h2
   simp [two]
  rw [e,nR]
  omega
 have e:(nN ns).map (fun s=>((nN m).flatMap (two kind s)).length)=List.replicate ns (2 * m):=by
  apply List.ext_getElem (by simp)
  intro i h1 h2
  simp [this]
 rw [e,nR,Nat.mul_comm]
theorem wJp {r:wAD} (C:RC r):(wJo r).length <= 216:=by
 unfold wJo
 simp only [nM,wRm]
 have hm:=C.m;have hc:=C.c;have hq:=C.q;have hn:=C.n
 have h1:2 * r.Splits.length * r.Starts.length <= 14 * 8:=Nat.mul_le_mul (by omega) hn.2
 omega
section
variable {S E:Type}
def wIx (f:S->wAK->Option (S ⊕ E)):List wAK->S->Option (S ⊕ E)
 | [],s=>some (.inl s)
 | x :: l,s=>(f s x).bind fun y=>match y with
  | .inl s'=>wIx f l s'
  | .inr e=>some (.inr e)
theorem wLq (f:S->wAK->Option (S ⊕ E)):∀ (l m:List wAK) (s:S),wIx f (l ++ m) s=(wIx f l s).bind fun y=>match y with
  | .inl s'=>wIx f m s'
  | .inr e=>some (.inr e)
 | [],_,_=>rfl
 | x :: l,m,s=>by
  rw [nP,wIx,wIx]
  cases f s x with
  | none=>rfl
  | some y=>cases y with
   | inl s'=>exact wLq f l m s'
   | inr e=>rfl
def lif {B:Type} (k:E->B) (x:Option (S ⊕ E)):Option (S ⊕ B):=x.bind fun y=>match y with
 | .inl s=>some (.inl s)
 | .inr e=>some (.inr (k e))
theorem wGi {B:Type} (k:E->B) {body:Nat->S->Option (S ⊕ B)} {f:S->wAK->Option (S ⊕ E)} {L:Nat->List wAK}:∀ (m i:Nat) (s:S),(∀ j s,i <= j->j < i + m->body j s=lif k (wIx f (L j) s))->forN body m i s=lif k (wIx f ((List.range' i m).flatMap L) s)
 | 0,_,_,_=>rfl
 | m + 1,i,s,h=>by
  rw [forN,h i s (Nat.le_refl _) (by omega),List.range'_succ,nW,wLq]
  cases wIx f (L i) s with
  | none=>rfl
  | some y=>cases y with
   | inl s'=>exact wGi k m (i + 1) s' fun j s h1 h2=>h j s (by omega) (by omega)
   | inr e=>rfl
theorem wQU {B:Type} (k:E->B) (x:Option (S ⊕ E)):jn (lif (fun e=>(.inr (k e):S ⊕ B)) x) (fun y=>some (.inl y))=lif k x:=by
 cases x with
 | none=>rfl
 | some y=>cases y <;> rfl
theorem wTQ (x:Option (S ⊕ E)):jn (lif (fun e=>(.inr e:S ⊕ E)) x) (fun y=>some (.inl y))=x:=by
 cases x with
 | none=>rfl
 | some y=>cases y <;> rfl
theorem wTR (f:S->wAK->Option (S ⊕ E)) (kind skier i:Nat) (s:S):((f s (⟨(kind:Int),(skier:Int),(i:Int),true⟩:wAK)).bind fun yr141 =>
          match yr141 with
          | .inl s151 =>
            (f s151 (⟨(kind:Int),(skier:Int),(i:Int),false⟩:wAK)).bind fun yr154 =>
            match yr154 with
            | .inl s164 =>
              some (.inl s164)
            | .inr s164 =>
              esc (esc (esc (some (.inr s164))))
          | .inr s151 =>
            esc (esc (esc (some (.inr s151)))))=lif (fun e=>(.inr (.inr (.inr e)):S ⊕ (S ⊕ (S ⊕ E)))) (wIx f (two kind skier i) s):=by
  unfold two
  rw [wIx]
  cases f s (⟨(kind:Int),(skier:Int),(i:Int),true⟩:wAK) with
  | none=>rfl
  | some y=>cases y with
    | inr e=>rfl
    | inl s' =>
      simp only [nA]
      rw [wIx]
      cases f s' (⟨(kind:Int),(skier:Int),(i:Int),false⟩:wAK) with
      | none=>rfl
      | some y=>cases y <;> rfl
theorem wOk (f:S->wAK->Option (S ⊕ E)) (s0:S) {r:wAD} (C:RC r):wBf f s0 r=wIx f (wJo r) s0:=by
  unfold wBf
  have hm:=C.m;have hc:=C.c;have hq:=C.q;have hn:=C.n
  have inner:∀ (kind skier m:Nat) (s:S),m <= 1000->(wFI 0 (m:Int) (fun k113 s111 =>
          (f s111 (⟨(kind:Int),(skier:Int),(↑k113:Int),true⟩:wAK)).bind fun yr141 =>
          match yr141 with
          | .inl s151 =>
            (f s151 (⟨(kind:Int),(skier:Int),(↑k113:Int),false⟩:wAK)).bind fun yr154 =>
            match yr154 with
            | .inl s164 =>
              some (.inl s164)
            | .inr s164 =>
              esc (esc (esc (some (.inr s164))))
          | .inr s151 =>
            esc (esc (esc (some (.inr s151))))) s)=lif (fun e=>(.inr (.inr (.inr e)):S ⊕ (S ⊕ (S ⊕ E)))) (wIx f (wJn kind skier m) s):=fun kind skier m s hm=>by
    rw [wDb (by omega),wGi (fun e=>(.inr (.inr (.inr e)):S ⊕ (S ⊕ (S ⊕ E)))) (f:=f) (L:=two kind skier) m 0 s fun j s _ _=>wTR f kind skier j s,<- nT]
    rfl
  have skier:∀ (kind ns m:Nat) (s:S),ns <= 1000->m <= 1000->(jn (wFI 0 (ns:Int) (fun k78 s76 =>
        jn (wFI 0 (m:Int) (fun k113 s111 =>
          (f s111 (⟨(kind:Int),(↑k78:Int),(↑k113:Int),true⟩:wAK)).bind fun yr141 =>
          match yr141 with
          | .inl s151 =>
            (f s151 (⟨(kind:Int),(↑k78:Int),(↑k113:Int),false⟩:wAK)).bind fun yr154 =>
            match yr154 with
            | .inl s164 =>
              some (.inl s164)
            | .inr s164 =>
              esc (esc (esc (some (.inr s164))))
          | .inr s151 =>
            esc (esc (esc (some (.inr s151))))) s76) fun y195 =>
        some (.inl y195)) s) fun y219 =>
      some (.inl y219))=lif (fun e=>(.inr e:S ⊕ E)) (wIx f (skL kind ns m) s):=fun kind ns m s hns hm=>by
    rw [wDb (by omega),wGi (fun e=>(.inr (.inr e):S ⊕ (S ⊕ E))) (f:=f) (L:=fun q=>wJn kind q m) ns 0 s fun j s _ _=>by rw [inner kind j m s hm,wQU],wQU,<- nT]
    rfl
  unfold wFI
  rw [if_pos (by omega)]
  show jn (forN _ 4 0 s0) _=_
  rw [wGi (fun e=>(.inr e:S ⊕ E)) (f:=f) (L:=fun k=>if k=0 then skL 0 r.Starts.length 1 else if k=1 then skL 1 r.Starts.length r.Splits.length else if k=2 then skL 2 1 r.Clocks.length else skL 3 1 r.Readings.length) 4 0 s0 fun j s _ hj=>?_,wTQ]
  · congr 1
    show List.flatMap _ [0,1,2,3]=_
    simp only [nW,List.flatMap_nil,List.append_nil]
    rfl
  · have:j=0 \/ j=1 \/ j=2 \/ j=3:=by omega
    rcases this with rfl | rfl | rfl | rfl
    · exact skier 0 r.Starts.length 1 s (by omega) (by omega)
    · exact skier 1 r.Starts.length r.Splits.length s (by omega) (by omega)
    · exact skier 2 1 r.Clocks.length s (by omega) (by omega)
    · exact skier 3 1 r.Readings.length s (by omega) (by omega)
end
end Go.Proofs.YtkeeechdijfkhaaGreat
namespace Go.Proofs.YtkeeechdijfkhaaGreat
open Go.KL Go.KL.Net
def wEZ:List Pt->Nat->List (Pt × Int)
 | [],_=>[]
 | p :: l,k=>(p,(k:Int)) :: wEZ l (k + 1)
theorem wIr:∀ (l:List Pt) (k:Nat),(wEZ l k).length=l.length
 | [],_=>rfl
 | _ :: l,k=>by rw [wEZ,nB,nB,wIr l]
theorem wLr:∀ (l:List Pt) (p:Pt) (k:Nat),wEZ (l ++ [p]) k=wEZ l k ++ [(p,((k + l.length:Nat):Int))]
 | [],p,k=>by simp [wEZ]
 | a :: l,p,k=>by
  rw [nP,wEZ,wEZ,wLr l p (k + 1),nP,nB]
  congr 4
  omega
theorem wLs:∀ {l:List Pt} {k:Nat} {p:Pt},p ∉ l->wIw (wEZ l k) p=none/\∀ v,mput (wEZ l k) p v=wEZ l k ++ [(p,v)]
 | [],_,_,_=>⟨rfl,fun _=>rfl⟩
 | a :: l,k,p,h=>by
  rw [List.mem_cons,not_or] at h
  obtain ⟨h1,h2⟩:=wLs (l:=l) (k:=k + 1) h.2
  refine ⟨by rw [wEZ,wIw,if_neg h.1];exact h1,fun v=>?_⟩
  rw [wEZ,mput,if_neg h.1,h2 v];rfl
theorem wOl:∀ {l:List Pt} {k i:Nat},l.Nodup->i < l.length->wIw (wEZ l k) (gd l i)=some ((k + i:Nat):Int)
 | a :: l,k,0,_,_=>by
  rw [wEZ,wIw]
  exact if_pos rfl
 | a :: l,k,i + 1,nd,hi=>by
  rw [List.nodup_cons] at nd
  have hi':i < l.length:=by simpa using hi
  have e:gd (a :: l) (i + 1)=gd l i:=rfl
  have hne:gd l i ≠ a:=fun h=>nd.1 (h ▸ wBI hi')
  rw [e,wEZ,wIw,if_neg hne,wOl nd.2 hi']
  congr 2
  omega
def pos (pts:List Pt) (p:Pt):Nat:=(wBE (wEZ pts 0) p 0).toNat
theorem wLt {α:Type} [Inhabited α] {l:List α} {a:α} (h:a ∈ l):∃ i,i < l.length/\gd l i=a:=by
 obtain ⟨i,hi,e⟩:=List.getElem_of_mem h
 exact ⟨i,hi,by rw [wEK hi,e]⟩
theorem wLu {pts:List Pt} (nd:pts.Nodup) {i:Nat} (hi:i < pts.length):pos pts (gd pts i)=i/\wBE (wEZ pts 0) (gd pts i) 0=(i:Int)/\wIS (wEZ pts 0) (gd pts i)=true:=by
 unfold pos wBE wIS
 rw [wOl nd hi]
 simp
theorem wIM {pts:List Pt} (nd:pts.Nodup) {p:Pt} (h:p ∈ pts):pos pts p < pts.length/\gd pts (pos pts p)=p/\wBE (wEZ pts 0) p 0=(pos pts p:Int)/\wIS (wEZ pts 0) p=true:=by
 obtain ⟨i,hi,rfl⟩:=wLt h
 obtain ⟨h1,h2,h3⟩:=wLu nd hi
 rw [h1]
 exact ⟨hi,rfl,h2,h3⟩
def wHf (pts:List Pt) (p:Pt):List Pt:=if p ∈ pts then pts else pts ++ [p]
theorem wKs {pts:List Pt} (nd:pts.Nodup) (p:Pt):(wHf pts p).Nodup:=by
 unfold wHf
 split
 ·exact nd
 ·rename_i h
  rw [List.nodup_append]
  exact ⟨nd,by simp,fun a ha b hb e=>h (by rw [nI.1 hb] at e;exact e ▸ ha)⟩
theorem wDX {pts:List Pt} {p q:Pt}:q ∈ wHf pts p ↔ q ∈ pts \/ q=p:=by
 unfold wHf
 split
 ·rename_i h
  exact ⟨.inl,fun e=>e.elim id fun e=>e ▸ h⟩
 ·rw [nL,nI]
theorem wLv (pts:List Pt) (p:Pt):pts.length <= (wHf pts p).length/\(wHf pts p).length <= pts.length + 1:=by
 unfold wHf
 split <;> simp
theorem wLw {pts:List Pt} (nd:pts.Nodup) {p q:Pt} (h:q ∈ pts):wBE (wEZ (wHf pts p) 0) q 0=wBE (wEZ pts 0) q 0:=by
 unfold wHf
 split
 ·rfl
 ·rename_i hp
  obtain ⟨i,hi,rfl⟩:=wLt h
  have e:gd (pts ++ [p]) i=gd pts i:=wDW hi
  have nd2:=wKs nd p
  unfold wHf at nd2
  rw [if_neg hp] at nd2
  rw [(wLu nd hi).2.1,<- e,(wLu nd2 (by rw [nM];omega)).2.1]
theorem wLx {pts:List Pt} (nd:pts.Nodup) (p:Pt):(if (wIS (wEZ pts 0) p)=true then some (wEZ pts 0) else some (mput (wEZ pts 0) p (↑((wEZ pts 0).length):Int)))=some (wEZ (wHf pts p) 0):=by
 by_cases h:p ∈ pts
 ·rw [if_pos (wIM nd h).2.2.2,wHf,if_pos h]
 ·have ho:=wLs (k:=0) h
  have hn:¬ wIS (wEZ pts 0) p=true:=by unfold wIS;rw [ho.1];simp
  rw [if_neg hn,ho.2,wHf,if_neg h,wLr,wIr,Nat.zero_add]
theorem wOm {pts:List Pt} {p:Pt} {i:Nat} (h:i < pts.length):gd (wHf pts p) i=gd pts i:=by
 unfold wHf
 split
 ·rfl
 ·exact wDW h
def mkE (r:wAD) (pts:List Pt) (x:wAK):wAd:=⟨x,wBE (wEZ pts 0) (wDB r x).1 0,wBE (wEZ pts 0) (wDB r x).2.1 0,(wDB r x).2.2⟩
structure Desk (r:wAD) (d:wAr) (pts:List Pt):Prop where
 c:RC r
 race:d.Race=r
 num:d.number=wEZ pts 0
 nd:pts.Nodup
 len:1 <= pts.length/\pts.length <= 433
 zero:gd pts 0=zp
 all:∀ p,p ∈ pts ↔ wHv r p
 edges:d.edges=(wJo r).map (mkE r pts)
structure OpI (r:wAD) (pre:List wAK) (s:List wAd × List (Pt × Int)) (pts:List Pt):Prop where
 num:s.2=wEZ pts 0
 nd:pts.Nodup
 len:1 <= pts.length/\pts.length <= 1 + 2 * pre.length
 zero:gd pts 0=zp
 ok:∀ p ∈ pts,wHv r p
 has:∀ x ∈ pre,(wDB r x).1 ∈ pts/\(wDB r x).2.1 ∈ pts
 edges:s.1=pre.map (mkE r pts)
def opF (r:wAD):List wAd × List (Pt × Int)->wAK->Option ((List wAd × List (Pt × Int)) ⊕ Empty):=fun (l1591,l1595) x1616 =>
  (wBd r x1616).bind fun (x1652,x1653,x1654) =>
  (wCg 0 2 (fun k1692 l1689 =>
   (idx ([x1652,x1653]:List wAF) (↑k1692:Int)).bind fun x1718 =>
   if (wIS l1689 x1718)=true then
    some l1689
   else
    some (mput l1689 x1718 (↑(l1689.length):Int))) l1595).bind fun y1697 =>
  (app 56 l1591 [(⟨x1616,(wBE y1697 x1652 0),(wBE y1697 x1653 0),x1654⟩:wAd)]).bind fun x1773 =>
  some (.inl (x1773,y1697))
theorem wTS {r:wAD} (C:RC r) {pre:List wAK} (hp:pre.length <= 216) {x:wAK} (hx:wDu r x) {s:List wAd × List (Pt × Int)} {pts:List Pt} (I:OpI r pre s pts):∃ s' pts',opF r s x=some (.inl s')/\OpI r (pre ++ [x]) s' pts':=by
 obtain ⟨es,num⟩:=s
 obtain ⟨hn,nd,hl,hz,ok,has,he⟩:=I
 simp only at hn he
 subst hn he
 obtain ⟨o1,o2,_,_⟩:=wGQ C hx
 unfold opF
 simp only
 rw [wPm C hx,nA]
 have nd1:=wKs nd (wDB r x).1
 have nd2:=wKs nd1 (wDB r x).2.1
 have loop:(wCg 0 2 (fun k1692 l1689 =>
   (idx ([(wDB r x).1,(wDB r x).2.1]:List wAF) (↑k1692:Int)).bind fun x1718 =>
   if (wIS l1689 x1718)=true then
    some l1689
   else
    some (mput l1689 x1718 (↑(l1689.length):Int))) (wEZ pts 0))=some (wEZ (wHf (wHf pts (wDB r x).1) (wDB r x).2.1) 0):=by
  unfold wCg
  rw [if_pos (by omega)]
  show forN' _ 2 0 (wEZ pts 0)=_
  have i0:idx ([(wDB r x).1,(wDB r x).2.1]:List wAF) ((0:Nat):Int)=some (wDB r x).1:=rfl
  have i1:idx ([(wDB r x).1,(wDB r x).2.1]:List wAF) ((0 + 1:Nat):Int)=some (wDB r x).2.1:=rfl
  simp only [forN',i0,i1,nA]
  rw [wLx nd]
  simp only
  rw [wLx nd1]
 rw [loop,nA,wEr (by rw [List.length_map];simp only [nB,nH];omega),nA]
 have l1:=wLv pts (wDB r x).1
 have l2:=wLv (wHf pts (wDB r x).1) (wDB r x).2.1
 have same:∀ q ∈ pts,wBE (wEZ (wHf (wHf pts (wDB r x).1) (wDB r x).2.1) 0) q 0=wBE (wEZ pts 0) q 0:=fun q hq=>by
  rw [wLw nd1 (wDX.2 (.inl hq)),wLw nd hq]
 refine ⟨_,wHf (wHf pts (wDB r x).1) (wDB r x).2.1,rfl,rfl,nd2,⟨by omega,by rw [nM,nS];omega⟩,?_,fun p hp=>?_,fun y hy=>?_,?_⟩
 ·rw [wOm (by omega),wOm (by omega),hz]
 ·rcases wDX.1 hp with hp | rfl
  ·rcases wDX.1 hp with hp | rfl
   ·exact ok p hp
   ·exact o1
  ·exact o2
 ·rcases nL.1 hy with hy | hy
  ·obtain ⟨a,b⟩:=has y hy
   exact ⟨wDX.2 (.inl (wDX.2 (.inl a))),wDX.2 (.inl (wDX.2 (.inl b)))⟩
  ·have:=nI.1 hy
   subst this
   exact ⟨wDX.2 (.inl (wDX.2 (.inr rfl))),wDX.2 (.inr rfl)⟩
 ·simp only
  rw [List.map_append]
  congr 1
  refine List.map_congr_left fun y hy=>?_
  obtain ⟨a,b⟩:=has y hy
  unfold mkE
  rw [same _ a,same _ b]
theorem skip (r:wAD) (p:Pt) (h:wHv r p) (C:RC r):p=zp \/ ∃ x,wDu r x/\(wDB r x).2.1=p:=by
 rcases h with h | ⟨a,b,c,d⟩ | ⟨a,b,c⟩
 ·exact .inl h
 ·right
  by_cases e:p.mat=0
  ·refine ⟨⟨0,p.skier,0,true⟩,.inl ⟨rfl,a,b,rfl⟩,?_⟩
   show (⟨p.skier,0⟩:Pt)=p
   rw [<- e]
  ·refine ⟨⟨1,p.skier,p.mat - 1,true⟩,.inr (.inl ⟨rfl,a,b,by simp only;omega,by simp only;omega⟩),?_⟩
   show (⟨p.skier,p.mat - 1 + 1⟩:Pt)=p
   rw [nK]
 ·right
  refine ⟨⟨2,0,p.mat - 1,true⟩,.inr (.inr (.inl ⟨rfl,rfl,by simp only;omega,by simp only;omega⟩)),?_⟩
  show (⟨-1,1 + (p.mat - 1)⟩:Pt)=p
  rw [<- a,nQ,nK]
theorem wOn {r:wAD} (C:RC r):∃ d pts,wCw r=some d/\Desk r d pts:=by
 unfold wCw wBp wCU
 simp only [nA]
 rw [wOk _ _ C]
 have hlen:=wJp C
 have key:∀ (l pre:List wAK) (s:List wAd × List (Pt × Int)) (pts:List Pt),OpI r pre s pts->pre.length + l.length <= 216->(∀ x ∈ l,wDu r x)->∃ s' pts',wIx (opF r) l s=some (.inl s')/\OpI r (pre ++ l) s' pts':=by
  intro l
  induction l with
  | nil=>intro pre s pts I _ _;exact ⟨s,pts,rfl,by rw [List.append_nil];exact I⟩
  | cons x l ih =>
   intro pre s pts I hl hx
   simp only [nB] at hl
   obtain ⟨s1,p1,e,I1⟩:=wTS C (by omega) (hx x (by simp)) I
   obtain ⟨s2,p2,e2,I2⟩:=ih (pre ++ [x]) s1 p1 I1 (by rw [nM,nS];omega) fun y hy=>hx y (by simp [hy])
   refine ⟨s2,p2,by rw [wIx,e];exact e2,?_⟩
   rw [List.append_assoc] at I2
   exact I2
 obtain ⟨⟨es,num⟩,pts,e,I⟩:=key (wJo r) [] ([],mput ([]:List (Pt × Int)) (⟨-1,0⟩:wAF) 0) [zp] ⟨rfl,by simp,⟨by simp,by simp⟩,rfl,fun p hp=>.inl (nI.1 hp),(fun x hx=>by cases hx),rfl⟩ (by simpa using hlen) fun x hx=>wEu.1 hx
 rw [List.nil_append] at I
 have hz:zp ∈ pts:=I.zero ▸ wBI I.len.1
 refine ⟨⟨r,num,es⟩,pts,?_,C,rfl,I.num,I.nd,⟨I.len.1,by have:=I.len.2;omega⟩,I.zero,fun p=>⟨I.ok p,fun h=>?_⟩,I.edges⟩
 ·show (wIx (opF r) (wJo r) _).bind _=_
  rw [e]
  rfl
 ·rcases skip r p h C with rfl | ⟨x,hx,rfl⟩
  ·exact hz
  ·exact (I.has x (wEu.2 hx)).2
end Go.Proofs.YtkeeechdijfkhaaGreat
namespace Go.Proofs.YtkeeechdijfkhaaGreat
open Go.KL Go.KL.Net
def wDd (r:wAD) (y:Pt->Int):Prop:=∀ x,wDu r x->y (wDB r x).2.1 <= y (wDB r x).1 + (wDB r x).2.2
section
variable {r:wAD} {y:Pt->Int}
theorem fp0 (F:wDd r y) {s:Int} (h0:0 <= s) (h1:s < r.Starts.length):y ⟨s,0⟩=y zp + gd r.Starts s.toNat:=by
 have a:y ⟨s,0⟩ <= y zp + gd r.Starts s.toNat:=F ⟨0,s,0,true⟩ (.inl ⟨rfl,h0,h1,rfl⟩)
 have b:y zp <= y ⟨s,0⟩ + -gd r.Starts s.toNat:=F ⟨0,s,0,false⟩ (.inl ⟨rfl,h0,h1,rfl⟩)
 omega
theorem fp1 (F:wDd r y) {s k:Int} (h0:0 <= s) (h1:s < r.Starts.length) (k0:0 <= k) (k1:k < r.Splits.length):y ⟨s,k⟩ + (gd r.Splits k.toNat).Lo <= y ⟨s,k + 1⟩/\y ⟨s,k + 1⟩ <= y ⟨s,k⟩ + (gd r.Splits k.toNat).Hi:=by
 have a:y ⟨s,k + 1⟩ <= y ⟨s,k⟩ + (gd r.Splits k.toNat).Hi:=F ⟨1,s,k,true⟩ (.inr (.inl ⟨rfl,h0,h1,k0,k1⟩))
 have b:y ⟨s,k⟩ <= y ⟨s,k + 1⟩ + -(gd r.Splits k.toNat).Lo:=F ⟨1,s,k,false⟩ (.inr (.inl ⟨rfl,h0,h1,k0,k1⟩))
 omega
theorem fp2 (F:wDd r y) {k:Int} (k0:0 <= k) (k1:k < r.Clocks.length):y ⟨-1,1 + k⟩ <= y zp - (gd r.Clocks k.toNat).Offset.Lo/\y zp <= y ⟨-1,1 + k⟩ + (gd r.Clocks k.toNat).Offset.Hi:=by
 have a:y ⟨-1,1 + k⟩ <= y zp + -(gd r.Clocks k.toNat).Offset.Lo:=F ⟨2,0,k,true⟩ (.inr (.inr (.inl ⟨rfl,rfl,k0,k1⟩)))
 have b:y zp <= y ⟨-1,1 + k⟩ + (gd r.Clocks k.toNat).Offset.Hi:=F ⟨2,0,k,false⟩ (.inr (.inr (.inl ⟨rfl,rfl,k0,k1⟩)))
 omega
theorem wMg (C:RC r) (F:wDd r y) {p:Pt} (hp:wHv r p):-3300000 <= y p - y zp/\y p - y zp <= 3300000:=by
 rcases hp with rfl | ⟨a,b,c,d⟩ | ⟨a,b,c⟩
 ·omega
 ·have key:∀ k:Nat,(k:Int) <= r.Splits.length->0 <= y ⟨p.skier,k⟩ - y zp/\y ⟨p.skier,k⟩ - y zp <= 360000 * ((k:Int) + 1):=by
   intro k
   induction k with
   | zero =>
    intro _
    have:=fp0 F a b
    have:=C.st _ (wCT a b)
    show 0 <= y ⟨p.skier,0⟩ - y zp/\y ⟨p.skier,0⟩ - y zp <= _
    omega
   | succ k ih =>
    intro hk
    have h:=ih (by omega)
    have f:=fp1 F a b (k:=(k:Int)) (by omega) (by omega)
    have g:=C.sp _ (wCT (l:=r.Splits) (i:=(k:Int)) (by omega) (by omega))
    have e:((k + 1:Nat):Int)=(k:Int) + 1:=by omega
    rw [e]
    omega
  have:=key p.mat.toNat (by omega)
  rw [nG c] at this
  have hm:=C.m
  have e:(⟨p.skier,p.mat⟩:Pt)=p:=rfl
  rw [e] at this
  omega
 ·have f:=fp2 F (k:=p.mat - 1) (by omega) (by omega)
  have g:=(C.ck _ (wCT (l:=r.Clocks) (i:=p.mat - 1) (by omega) (by omega))).1
  have e:(⟨-1,1 + (p.mat - 1)⟩:Pt)=p:=by rw [<- a,nQ,nK]
  rw [e] at f
  omega
theorem to_zp {S:Pt->Prop} (hS:∀ x,wDu r x->S (wDB r x).1->S (wDB r x).2.1) {p:Pt} (hp:wHv r p) (h:S p):S zp:=by
 rcases hp with rfl | ⟨a,b,c,d⟩ | ⟨a,b,c⟩
 ·exact h
 ·have key:∀ k:Nat,(k:Int) <= r.Splits.length->S ⟨p.skier,k⟩->S zp:=by
   intro k
   induction k with
   | zero=>intro _ hk;exact hS ⟨0,p.skier,0,false⟩ (.inl ⟨rfl,a,b,rfl⟩) hk
   | succ k ih =>
    intro hk h
    refine ih (by omega) ?_
    have e:((k + 1:Nat):Int)=(k:Int) + 1:=by omega
    rw [e] at h
    exact hS ⟨1,p.skier,k,false⟩ (.inr (.inl ⟨rfl,a,b,by simp only;omega,by simp only;omega⟩)) h
  refine key p.mat.toNat (by omega) ?_
  rw [nG c];exact h
 ·have e:(⟨-1,1 + (p.mat - 1)⟩:Pt)=p:=by rw [<- a,nQ,nK]
  refine hS ⟨2,0,p.mat - 1,false⟩ (.inr (.inr (.inl ⟨rfl,rfl,by simp only;omega,by simp only;omega⟩))) ?_
  show S ⟨-1,1 + (p.mat - 1)⟩
  rw [e];exact h
theorem of_zp {S:Pt->Prop} (hS:∀ x,wDu r x->S (wDB r x).1->S (wDB r x).2.1) (h:S zp) {p:Pt} (hp:wHv r p):S p:=by
 rcases hp with rfl | ⟨a,b,c,d⟩ | ⟨a,b,c⟩
 ·exact h
 ·have key:∀ k:Nat,(k:Int) <= r.Splits.length->S ⟨p.skier,k⟩:=by
   intro k
   induction k with
   | zero=>intro _;exact hS ⟨0,p.skier,0,true⟩ (.inl ⟨rfl,a,b,rfl⟩) h
   | succ k ih =>
    intro hk
    have e:((k + 1:Nat):Int)=(k:Int) + 1:=by omega
    rw [e]
    exact hS ⟨1,p.skier,k,true⟩ (.inr (.inl ⟨rfl,a,b,by simp only;omega,by simp only;omega⟩)) (ih (by omega))
  have:=key p.mat.toNat (by omega)
  rw [nG c] at this
  exact this
 ·have e:(⟨-1,1 + (p.mat - 1)⟩:Pt)=p:=by rw [<- a,nQ,nK]
  have:=hS ⟨2,0,p.mat - 1,true⟩ (.inr (.inr (.inl ⟨rfl,rfl,by simp only;omega,by simp only;omega⟩))) h
  rw [<- e];exact this
def turn (x:wAK):wAK:=⟨x.Kind,x.Skier,x.Index,!x.Up⟩
theorem wRn {x:wAK} (h:wDu r x):wDu r (turn x)/\(wDB r (turn x)).1=(wDB r x).2.1/\(wDB r (turn x)).2.1=(wDB r x).1:=by
 refine ⟨h,?_⟩
 obtain ⟨k,s,i,u⟩:=x
 unfold wDB turn
 cases u <;> exact ⟨rfl,rfl⟩
structure IsDP (r:wAD) (a:Pt) (f:Pt->Int):Prop where
 ok:wDd r f
 zero:f a=0
 gr:∀ y,wDd r y->∀ p,wHv r p->y p - y a <= f p
theorem IsDP.one {a:Pt} {f g:Pt->Int} (F:IsDP r a f) (G:IsDP r a g) {p:Pt} (hp:wHv r p):f p=g p:=by
 have h1:=F.gr g G.ok p hp
 have h2:=G.gr f F.ok p hp
 have:=F.zero;have:=G.zero
 omega
theorem IsDP.near {a:Pt} {f:Pt->Int} (C:RC r) (F:IsDP r a f) (ha:wHv r a) {p:Pt} (hp:wHv r p):-6600000 <= f p/\f p <= 6600000:=by
 have h1:=wMg C F.ok ha
 have h2:=wMg C F.ok hp
 have:=F.zero
 omega
end
section
variable {r:wAD} {d:wAr} {pts:List Pt} (D:Desk r d pts)
include D
theorem Desk.pos_ok {p:Pt} (hp:wHv r p):pos pts p < pts.length/\gd pts (pos pts p)=p/\wBE d.number p 0=(pos pts p:Int):=by
 obtain ⟨h1,h2,h3,_⟩:=wIM D.nd ((D.all p).2 hp)
 exact ⟨h1,h2,by rw [D.num];exact h3⟩
theorem Desk.gd_ok {v:Nat} (hv:v < pts.length):wHv r (gd pts v)/\pos pts (gd pts v)=v:=⟨(D.all _).1 (wBI hv),(wLu D.nd hv).1⟩
theorem Desk.ed_is {x:wAK} (h:wDu r x) (p:Bool):ed p (mkE r pts x)=if p then ⟨pos pts (wDB r x).2.1,pos pts (wDB r x).1,(wDB r x).2.2⟩ else ⟨pos pts (wDB r x).1,pos pts (wDB r x).2.1,(wDB r x).2.2⟩:=by
 obtain ⟨o1,o2,_,_⟩:=wGQ D.c h
 have h1:=(wIM D.nd ((D.all _).2 o1)).2.2.1
 have h2:=(wIM D.nd ((D.all _).2 o2)).2.2.1
 unfold ed mkE
 simp only [h1,h2,nD]
theorem Desk.mem {p:Bool} {e:Ed}:e ∈ d.edges.map (ed p) ↔ ∃ x,wDu r x/\e=ed p (mkE r pts x):=by
 rw [D.edges,List.map_map]
 constructor
 ·intro h
  obtain ⟨x,hx,rfl⟩:=nV.1 h
  exact ⟨x,wEu.1 hx,rfl⟩
 ·rintro ⟨x,hx,rfl⟩
  exact nV.2 ⟨x,wEu.2 hx,rfl⟩
theorem Desk.edOK:∀ e ∈ d.edges,EdOK pts.length e:=by
 intro e he
 rw [D.edges] at he
 obtain ⟨x,hx,rfl⟩:=nV.1 he
 have h:=wEu.1 hx
 obtain ⟨o1,o2,c1,c2⟩:=wGQ D.c h
 obtain ⟨h1,_,h2,_⟩:=wIM D.nd ((D.all _).2 o1)
 obtain ⟨g1,_,g2,_⟩:=wIM D.nd ((D.all _).2 o2)
 unfold mkE
 rw [h2,g2]
 exact ⟨by simp only;omega,by simp only;omega,by simp only;omega,by simp only;omega,c1,c2⟩
theorem Desk.elen:d.edges.length <= 1000:=by
 have:=wJp D.c
 rw [D.edges,List.length_map]
 omega
theorem Desk.feas {y:Pt->Int} (F:wDd r y):wHe (d.edges.map (ed false)) fun v=>y (gd pts v):=by
 intro e he
 obtain ⟨x,hx,rfl⟩:=D.mem.1 he
 obtain ⟨o1,o2,_,_⟩:=wGQ D.c hx
 rw [D.ed_is hx]
 simp only [nO,if_false]
 rw [(D.pos_ok o1).2.1,(D.pos_ok o2).2.1]
 exact F x hx
theorem Desk.back {z:Nat->Int} (F:wHe (d.edges.map (ed false)) z):wDd r fun p=>z (pos pts p):=by
 intro x hx
 have:=F _ (D.mem.2 ⟨x,hx,rfl⟩)
 rw [D.ed_is hx] at this
 simp only [nO,if_false] at this
 exact this
theorem Desk.backT {z:Nat->Int} (F:wHe (d.edges.map (ed true)) z):wDd r fun p=>-z (pos pts p):=by
 intro x hx
 have:=F _ (D.mem.2 ⟨x,hx,rfl⟩)
 rw [D.ed_is hx] at this
 simp only [if_true] at this
 simp only
 omega
theorem Desk.con (p:Bool):Con pts.length 6600000 (d.edges.map (ed p)):=by
 refine ⟨fun e he=>?_,fun z hz a b ha hb=>?_,fun S i hi hSi hS v hv=>?_⟩
 ·obtain ⟨x,hx,rfl⟩:=D.mem.1 he
  obtain ⟨o1,o2,_,_⟩:=wGQ D.c hx
  have h1:=(D.pos_ok o1).1
  have h2:=(D.pos_ok o2).1
  rw [D.ed_is hx]
  split
  ·exact ⟨h2,h1⟩
  ·exact ⟨h1,h2⟩
 ·obtain ⟨pa,ea⟩:=D.gd_ok ha
  obtain ⟨pb,eb⟩:=D.gd_ok hb
  cases p with
  | false =>
   have h1:=wMg D.c (D.back hz) pa
   have h2:=wMg D.c (D.back hz) pb
   simp only [ea,eb] at h1 h2
   omega
  | true =>
   have h1:=wMg D.c (D.backT hz) pa
   have h2:=wMg D.c (D.backT hz) pb
   simp only [ea,eb] at h1 h2
   omega
 ·have hcl:∀ x,wDu r x->S (pos pts (wDB r x).1)->S (pos pts (wDB r x).2.1):=fun x hx h=>by
   cases p with
   | false =>
    have:=hS _ (D.mem.2 ⟨x,hx,rfl⟩)
    rw [D.ed_is hx] at this
    simp only [nO,if_false] at this
    exact this h
   | true =>
    obtain ⟨t1,t2,t3⟩:=wRn hx
    have:=hS _ (D.mem.2 ⟨_,t1,rfl⟩)
    rw [D.ed_is t1] at this
    simp only [if_true] at this
    rw [t2,t3] at this
    exact this h
  obtain ⟨pi,ei⟩:=D.gd_ok hi
  obtain ⟨pv,ev⟩:=D.gd_ok hv
  have:=of_zp (S:=fun q=>S (pos pts q)) hcl (to_zp (S:=fun q=>S (pos pts q)) hcl pi (by show S (pos pts (gd pts i));rw [ei];exact hSi)) pv
  have this:S (pos pts (gd pts v)):=this
  rwa [ev] at this
theorem Desk.cost (p:Bool):∀ e ∈ d.edges.map (ed p),e.c <= 400000:=by
 intro e he
 obtain ⟨x,hx,rfl⟩:=D.mem.1 he
 obtain ⟨_,_,_,c⟩:=wGQ D.c hx
 rw [D.ed_is hx]
 split <;> exact c
theorem Desk.nlen:d.number.length=pts.length:=by rw [D.num,wIr]
theorem Desk.any:∃ f last ok,wAs d (-1) false=some (f,last,ok)/\f.far.length=pts.length/\f.by_.length=pts.length/\(ok=true ↔ ∃ y,wDd r y)/\(ok=true->wDd r fun p=>gd f.far (pos pts p))/\(ok=false->0 <= last/\last < pts.length):=by
 obtain ⟨f,last,ok,e,bl,fl,h1,h2⟩:=wJm D.nlen D.len.1 (by have:=D.len.2;omega) D.edOK D.elen (-1) false
 have hp:0 < pts.length:=D.len.1
 have t0:wHY (-1) 0=0:=by unfold wHY;rw [if_pos (.inl (by omega))]
 have feas:ok=true->wDd r fun p=>gd f.far (pos pts p):=fun h=>D.back ((h1 h).feas (D.con false) (D.cost false) hp t0)
 refine ⟨f,last,ok,e,fl,bl,⟨fun h=>⟨_,feas h⟩,fun ⟨y,hy⟩=>?_⟩,feas,fun h=>⟨(h2 h).1,(h2 h).2.1⟩⟩
 cases ok with
 | true=>rfl
 | false =>
  exfalso
  obtain ⟨δ,M⟩:=wOi (D.con false) (D.feas hy) hp t0 (fun v _=>(wQT (-1) v).1)
  exact (h2 rfl).2.2 δ M fun v hv=>by have:=M.hi (D.con false) hp t0 v hv;omega
theorem Desk.from_ (hy:∃ y,wDd r y) {a:Pt} (ha:wHv r a):∃ f last,wAs d (pos pts a:Int) false=some (f,last,true)/\f.far.length=pts.length/\IsDP r a fun p=>gd f.far (pos pts p):=by
 obtain ⟨f,last,ok,e,bl,fl,h1,h2⟩:=wJm D.nlen D.len.1 (by have:=D.len.2;omega) D.edOK D.elen (pos pts a:Int) false
 obtain ⟨hp,hg,_⟩:=D.pos_ok ha
 have t0:wHY (pos pts a:Int) (pos pts a)=0:=by unfold wHY;rw [if_pos (.inr rfl)]
 obtain ⟨y,hy⟩:=hy
 have hok:ok=true:=by
  cases ok with
  | true=>rfl
  | false =>
   exfalso
   obtain ⟨δ,M⟩:=wOi (D.con false) (D.feas hy) hp t0 (fun v _=>(wQT _ v).1)
   exact (h2 rfl).2.2 δ M fun v hv=>by have:=M.hi (D.con false) hp t0 v hv;omega
 subst hok
 have I:=(h1 rfl).isD (by omega) (D.con false) (D.cost false) hp
 refine ⟨f,last,e,fl,D.back I.ok,I.zero,fun z hz p hpt=>?_⟩
 have:=I.gr _ (D.feas hz) (pos pts p) (D.pos_ok hpt).1
 simp only [hg,(D.pos_ok hpt).2.1] at this
 exact this
end
end Go.Proofs.YtkeeechdijfkhaaGreat
namespace Go.Proofs.YtkeeechdijfkhaaGreat
open Go.KL Go.KL.Net
open Classical
structure F4 (r:wAD) (y:Pt->Int):Prop where
 a:∀ s:Nat,s < r.Starts.length->y ⟨(s:Int),0⟩=y zp + gd r.Starts s
 b:∀ s k:Nat,s < r.Starts.length->k < r.Splits.length->(gd r.Splits k).Lo <= y ⟨(s:Int),(k:Int) + 1⟩ - y ⟨(s:Int),(k:Int)⟩/\y ⟨(s:Int),(k:Int) + 1⟩ - y ⟨(s:Int),(k:Int)⟩ <= (gd r.Splits k).Hi
 c:∀ k:Nat,k < r.Clocks.length->y ⟨-1,1 + (k:Int)⟩ <= y zp - (gd r.Clocks k).Offset.Lo/\y zp <= y ⟨-1,1 + (k:Int)⟩ + (gd r.Clocks k).Offset.Hi
 d:∀ x ∈ r.Readings,y ⟨x.Skier,x.Mat⟩ <= y ⟨-1,1 + x.Clock⟩ + (x.Time + (gd r.Clocks x.Clock.toNat).Error)/\y ⟨-1,1 + x.Clock⟩ <= y ⟨x.Skier,x.Mat⟩ + ((gd r.Clocks x.Clock.toNat).Error - x.Time)
theorem wTT {r:wAD} {y:Pt->Int}:wDd r y ↔ F4 r y:=by
 constructor
 ·intro F
  refine ⟨fun s hs=>?_,fun s k hs hk=>?_,fun k hk=>?_,fun x hx=>?_⟩
  ·have h:=fp0 F (s:=(s:Int)) (by omega) (by omega)
   rwa [nD] at h
  ·have h:=fp1 F (s:=(s:Int)) (k:=(k:Int)) (by omega) (by omega) (by omega) (by omega)
   rw [nD] at h
   omega
  ·have h:=fp2 F (k:=(k:Int)) (by omega) (by omega)
   rwa [nD] at h
  ·obtain ⟨k,hk,rfl⟩:=wLt hx
   have a:y ⟨(gd r.Readings k).Skier,(gd r.Readings k).Mat⟩ <= y ⟨-1,1 + (gd r.Readings k).Clock⟩ + ((gd r.Readings k).Time + (gd r.Clocks (gd r.Readings k).Clock.toNat).Error):=F ⟨3,0,(k:Int),true⟩ (.inr (.inr (.inr ⟨rfl,rfl,by simp only;omega,by simp only;omega⟩)))
   have b:y ⟨-1,1 + (gd r.Readings k).Clock⟩ <= y ⟨(gd r.Readings k).Skier,(gd r.Readings k).Mat⟩ + ((gd r.Clocks (gd r.Readings k).Clock.toNat).Error - (gd r.Readings k).Time):=F ⟨3,0,(k:Int),false⟩ (.inr (.inr (.inr ⟨rfl,rfl,by simp only;omega,by simp only;omega⟩)))
   exact ⟨a,b⟩
 ·rintro ⟨h1,h2,h3,h4⟩ x hx
  have key:y (wCl r x).2.1 <= y (wCl r x).1 + (wCl r x).2.2.1/\y (wCl r x).1 <= y (wCl r x).2.1 + (wCl r x).2.2.2:=by
   unfold wCl
   rcases hx with ⟨k,a,b,c⟩ | ⟨k,a,b,c,d⟩ | ⟨k,a,c,d⟩ | ⟨k,a,c,d⟩
   ·have h:=h1 x.Skier.toNat (by omega)
    rw [nG a] at h
    rw [if_pos k]
    simp only
    omega
   ·have h:=h2 x.Skier.toNat x.Index.toNat (by omega) (by omega)
    rw [nG a,nG c] at h
    rw [if_neg (by omega),if_pos k]
    simp only
    omega
   ·have h:=h3 x.Index.toNat (by omega)
    rw [nG c] at h
    rw [if_neg (by omega),if_neg (by omega),if_pos k]
    simp only
    omega
   ·have h:=h4 _ (wCT c d)
    rw [if_neg (by omega),if_neg (by omega),if_neg (by omega)]
    simp only
    omega
  unfold wDB
  split
  ·exact key.1
  ·exact key.2
end Go.Proofs.YtkeeechdijfkhaaGreat
namespace Go.Proofs.YtkeeechdijfkhaaGreat
open Go.KL Go.KL.Net
open Classical
def wPn (f:Nat->Int):Nat->Int
 | 0=>0
 | k + 1=>wPn f k + f k
theorem wTU {r:wAD} {y:Pt->Int} (F:wDd r y) {s:Nat} (hs:s < r.Starts.length):∀ k:Nat,k <= r.Splits.length->y zp + gd r.Starts s + wPn (fun j=>(gd r.Splits j).Lo) k <= y ⟨(s:Int),(k:Int)⟩/\y ⟨(s:Int),(k:Int)⟩ <= y zp + gd r.Starts s + wPn (fun j=>(gd r.Splits j).Hi) k
 | 0,_=>by
  have:=(wTT.1 F).a s hs
  rw [show ((0:Nat):Int)=0 from rfl,this]
  simp only [wPn]
  omega
 | k + 1,h=>by
  have a:=wTU F hs k (by omega)
  have b:=(wTT.1 F).b s k hs (by omega)
  rw [show ((k + 1:Nat):Int)=(k:Int) + 1 by omega]
  simp only [wPn]
  omega
end Go.Proofs.YtkeeechdijfkhaaGreat
namespace Go.Proofs.YtkeeechdijfkhaaGreat
open Go.KL Go.KL.Net
open Classical
theorem wKt {f:Nat->Int} {b:Int}:∀ {m:Nat},(∀ k,k < m->0 <= f k/\f k <= b)->0 <= wPn f m/\wPn f m <= b * (m:Int)
 | 0,_=>by simp only [wPn];omega
 | m + 1,h=>by
  have a:=wKt (m:=m) fun k hk=>h k (by omega)
  have c:=h m (by omega)
  have e:b * ((m + 1:Nat):Int)=b * (m:Int) + b:=by rw [Int.natCast_add,Int.mul_add];simp
  rw [wPn,e]
  omega
end Go.Proofs.YtkeeechdijfkhaaGreat
namespace Go.Proofs.YtkeeechdijfkhaaGreat
open Go.KL Go.KL.Net
def inB (n lo hi:Int):Bool:=decide (lo <= n/\n <= hi)
theorem wKu (n lo hi:Int):wCS n lo hi=some (inB n lo hi):=by
 unfold wCS inB
 by_cases h:lo <= n
 ·rw [if_pos h];simp [h]
 ·rw [if_neg h];simp [h]
def wPo (s:wAH) (lo hi:Int):Bool:=decide (s.Lo <= s.Hi/\lo <= s.Lo/\s.Hi <= hi)
theorem wIN (s:wAH) (lo hi:Int):wCF s lo hi=some (wPo s lo hi):=by
 unfold wCF wPo
 by_cases h:s.Lo <= s.Hi
 ·by_cases h2:lo <= s.Lo
  ·rw [if_pos h,if_pos h2];simp [h,h2]
  ·rw [if_pos h,if_neg h2];simp [h2]
 ·rw [if_neg h];simp [h]
theorem wOo {l:List Int} {f:Int->Option Bool} {p:Int->Bool} (hf:∀ a ∈ l,f a=some (p a)) (hn:l.length <= 1000):wBu l f=some (l.all p):=by
 unfold wBu
 refine (wFy (R:=Bool) (p:=p) (z:=false) (K:=fun _=>some true) (fun a ha=>?_) (by omega)).trans ?_
 ·rw [hf a ha,nA];split <;> rfl
 ·split <;> simp_all
theorem wMh {l:List wAH} {f:wAH->Option Bool} {p:wAH->Bool} (hf:∀ a ∈ l,f a=some (p a)) (hn:l.length <= 1000):wBL l f=some (l.all p):=by
 unfold wBL
 refine (wFy (R:=Bool) (p:=p) (z:=false) (K:=fun _=>some true) (fun a ha=>?_) (by omega)).trans ?_
 ·rw [hf a ha,nA];split <;> rfl
 ·split <;> simp_all
theorem wKv {l:List wAI} {f:wAI->Option Bool} {p:wAI->Bool} (hf:∀ a ∈ l,f a=some (p a)) (hn:l.length <= 1000):wBF l f=some (l.all p):=by
 unfold wBF
 refine (wFy (R:=Bool) (p:=p) (z:=false) (K:=fun _=>some true) (fun a ha=>?_) (by omega)).trans ?_
 ·rw [hf a ha,nA];split <;> rfl
 ·split <;> simp_all
theorem wFz {l:List wAW} {f:wAW->Option Bool} {p:wAW->Bool} (hf:∀ a ∈ l,f a=some (p a)) (hn:l.length <= 1000):wAo l f=some (l.all p):=by
 unfold wAo
 refine (wFy (R:=Bool) (p:=p) (z:=false) (K:=fun _=>some true) (fun a ha=>?_) (by omega)).trans ?_
 ·rw [hf a ha,nA];split <;> rfl
 ·split <;> simp_all
structure wHZ (r:wAD):Prop where
 n:r.Starts.length <= 10
 m:r.Splits.length <= 9
 c:r.Clocks.length <= 6
 q:r.Readings.length <= 44
def stP (s:Int):Bool:=inB s 0 360000
def spP (s:wAH):Bool:=wPo s 0 360000
def ckP (c:wAI):Bool:=wPo c.Offset (-36000) 36000 && inB c.Error 0 600
def rtP (x:wAW):Bool:=inB x.Time 0 360000
def ruP (r:wAD) (x:wAW):Bool:=inB x.Skier 0 ((r.Starts.length:Int) - 1) && (inB x.Mat 0 r.Splits.length && inB x.Clock 0 ((r.Clocks.length:Int) - 1))
def code (r:wAD):Int :=
 if ¬ (1 <= r.Starts.length/\r.Starts.length <= 8) then 2 else if 7 < r.Splits.length then 2 else if 4 < r.Clocks.length then 2 else if 40 < r.Readings.length then 2
 else if r.Starts.all stP=true then (if r.Splits.all spP=true then (if r.Clocks.all ckP=true then (if r.Readings.all rtP=true then (if r.Readings.all (ruP r)=true then 0 else 1) else 3) else 3) else 3) else 3
theorem wOp {r:wAD} (h:code r=0):RC r:=by
 unfold code at h
 split at h
 ·omega
 ·split at h
  ·omega
  ·split at h
   ·omega
   ·split at h
    ·omega
    ·split at h
     ·split at h
      ·split at h
       ·split at h
        ·split at h
         ·rename_i a1 a2 a3 a4 h1 h2 h3 h4 h5
          rw [nJ] at h1 h2 h3 h4 h5
          refine ⟨by omega,by omega,by omega,by omega,fun s hs=>?_,fun s hs=>?_,fun s hs=>?_,fun s hs=>?_,fun s hs=>?_⟩
          ·have:=h1 s hs
           simp only [stP,inB,decide_eq_true_eq] at this
           exact this
          ·have:=h2 s hs
           simp only [spP,wPo,decide_eq_true_eq] at this
           exact this
          ·have:=h3 s hs
           simp only [ckP,wPo,inB,nE,decide_eq_true_eq] at this
           exact this
          ·have:=h4 s hs
           simp only [rtP,inB,decide_eq_true_eq] at this
           exact this
          ·have:=h5 s hs
           simp only [ruP,inB,nE,decide_eq_true_eq] at this
           omega
         ·omega
        ·omega
       ·omega
      ·omega
     ·omega
theorem wOq {r:wAD} (S:wHZ r) (s:wAa):wAq r s=some (inB s.Skier 0 ((r.Starts.length:Int) - 1) && inB s.Mat 0 r.Splits.length):=by
 have:=S.n
 unfold wAq
 rw [wAb (by omega) (by omega),wKu,nA,wKu,nA]
 cases inB s.Skier 0 ((r.Starts.length:Int) - 1)
 ·rw [if_neg (by simp)];rfl
 ·rw [if_pos rfl,Bool.true_and]
theorem wMi {r:wAD} (S:wHZ r):wDZ r=some (code r):=by
 have hn:=S.n;have hm:=S.m;have hc:=S.c;have hq:=S.q
 unfold wDZ code
 rw [wKu,nA]
 by_cases c1:1 <= r.Starts.length/\r.Starts.length <= 8
 ·have e1:inB (r.Starts.length:Int) 1 8=true:=by unfold inB;rw [decide_eq_true_eq];omega
  rw [e1,if_pos rfl,if_neg (show ¬ ¬ (1 <= r.Starts.length/\r.Starts.length <= 8) from fun h=>h c1)]
  by_cases c2:7 < r.Splits.length
  ·rw [if_pos (show (7:Int) < (r.Splits.length:Int) by omega),if_pos c2]
  ·rw [if_neg (show ¬ (7:Int) < (r.Splits.length:Int) by omega),if_neg c2]
   by_cases c3:4 < r.Clocks.length
   ·rw [if_pos (show (4:Int) < (r.Clocks.length:Int) by omega),if_pos c3]
   ·rw [if_neg (show ¬ (4:Int) < (r.Clocks.length:Int) by omega),if_neg c3]
    by_cases c4:40 < r.Readings.length
    ·rw [if_pos (show (40:Int) < (r.Readings.length:Int) by omega),if_pos c4]
    ·rw [if_neg (show ¬ (40:Int) < (r.Readings.length:Int) by omega),if_neg c4]
     rw [wOo (p:=stP) (fun a _=>by unfold wCE;rw [wKu];rfl) (by omega),nA]
     rw [wMh (p:=spP) (fun a _=>by unfold wCG;rw [wIN];rfl) (by omega),nA]
     rw [wKv (p:=ckP) (fun a _=>by
      unfold wCH ckP
      rw [wIN,nA,wKu,nA]
      cases wPo a.Offset (-36000) 36000
      ·rw [if_neg (by simp)];rfl
      ·rw [if_pos rfl];rfl) (by omega),nA]
     rw [wFz (p:=rtP) (fun a _=>by unfold wCI;rw [wKu];rfl) (by omega),nA]
     rw [wFz (p:=ruP r) (fun a _=>by
      unfold wCJ ruP
      rw [wOq S,nA,wAb (by omega) (by omega),wKu,nA]
      simp only
      cases inB a.Skier 0 ((r.Starts.length:Int) - 1)
      ·rw [if_neg (by simp)];rfl
      ·cases inB a.Mat 0 (r.Splits.length:Int)
       ·rw [if_neg (by simp)];rfl
       ·simp) (by omega),nA]
     split
     ·split
      ·split
       ·split
        ·split <;> rfl
        ·rfl
       ·rfl
      ·rfl
     ·rfl
 ·have e1:inB (r.Starts.length:Int) 1 8=false:=by unfold inB;rw [decide_eq_false_iff_not];omega
  rw [e1,if_neg (by simp),if_pos c1]
end Go.Proofs.YtkeeechdijfkhaaGreat
namespace Go.Proofs.YtkeeechdijfkhaaGreat
open Go.KL Go.KL.Net
open Classical
def wJq (r:wAD) (s:wAa):Bool:=inB s.Skier 0 ((r.Starts.length:Int) - 1) && inB s.Mat 0 r.Splits.length
def pt (s:wAa):Pt:=⟨s.Skier,s.Mat⟩
theorem wOr {r:wAD} {s:wAa} (h:wJq r s=true):wHv r (pt s)/\0 <= s.Skier/\s.Skier < r.Starts.length/\0 <= s.Mat/\s.Mat <= r.Splits.length:=by
 simp only [wJq,inB,nE,decide_eq_true_eq] at h
 exact ⟨.inr (.inl ⟨h.1.1,by simp only [pt];omega,h.2.1,h.2.2⟩),h.1.1,by omega,h.2.1,h.2.2⟩
noncomputable def wIy (r:wAD) (l:List wAa):Int:=if code r=0 then (if l.all (wJq r)=true then (if ∃ y,wDd r y then 0 else 7) else 1) else code r
theorem err0 {r:wAD} {l:List wAa} (h:wIy r l=0):RC r/\code r=0/\l.all (wJq r)=true/\∃ y,wDd r y:=by
 unfold wIy at h
 split at h
 ·split at h
  ·split at h
   ·rename_i a b c
    exact ⟨wOp a,a,b,c⟩
   ·omega
  ·omega
 ·contradiction
theorem wLy {r:wAD} (S:wHZ r):(code r ≠ 0/\wCn r=some (none,code r)) \/ (code r=0/\∃ d pts,wCn r=some (some d,0)/\Desk r d pts):=by
 unfold wCn
 rw [wMi S,nA]
 by_cases c:code r=0
 ·right
  obtain ⟨d,pts,e,D⟩:=wOn (wOp c)
  refine ⟨c,d,pts,?_,D⟩
  rw [if_pos c,e];rfl
 ·left
  exact ⟨c,if_neg c⟩
end Go.Proofs.YtkeeechdijfkhaaGreat
namespace Go.Proofs.YtkeeechdijfkhaaGreat
open Go.KL Go.KL.Net
open Classical
def yT (T:List (List Int)) (O:List Int) (p:Pt):Int:=if p.skier=-1 then (if p.mat=0 then 0 else -gd O (p.mat - 1).toNat) else gd (gd T p.skier.toNat) p.mat.toNat
theorem wPp (T:List (List Int)) (O:List Int):yT T O zp=0:=rfl
theorem wEv (T:List (List Int)) (O:List Int) {s k:Int} (h:0 <= s):yT T O ⟨s,k⟩=gd (gd T s.toNat) k.toNat:=if_neg (by simp only;omega)
theorem wGj (T:List (List Int)) (O:List Int) {k:Int} (h:0 <= k):yT T O ⟨-1,1 + k⟩=-gd O k.toNat:=by
 unfold yT
 rw [if_pos rfl,if_neg (by simp only;omega),show (1 + k - 1)=k by omega]
structure Lens (r:wAD) (T:List (List Int)) (O:List Int):Prop where
 t:T.length=r.Starts.length
 l:∀ k,k < r.Starts.length->(gd T k).length=r.Splits.length + 1
 o:O.length=r.Clocks.length
def wTV (r:wAD) (T:List (List Int)) (k:Nat):Bool:=decide (gd (gd T k) 0=gd r.Starts k) && wRc (fun j=>inB (gd (gd T k) (j + 1) - gd (gd T k) j) (gd r.Splits j).Lo (gd r.Splits j).Hi) r.Splits.length 0
def clkS (r:wAD) (O:List Int) (k:Nat):Bool:=inB (gd O k) (gd r.Clocks k).Offset.Lo (gd r.Clocks k).Offset.Hi
def redS (r:wAD) (T:List (List Int)) (O:List Int) (k:Nat):Bool :=
 inB ((gd r.Readings k).Time - gd (gd T (gd r.Readings k).Skier.toNat) (gd r.Readings k).Mat.toNat - gd O (gd r.Readings k).Clock.toNat) (-(gd r.Clocks (gd r.Readings k).Clock.toNat).Error) (gd r.Clocks (gd r.Readings k).Clock.toNat).Error
theorem wPq {r:wAD} (C:RC r) {T:List (List Int)} {O:List Int}:wDd r (yT T O) ↔ wRc (wTV r T) r.Starts.length 0=true/\wRc (clkS r O) r.Clocks.length 0=true/\wRc (redS r T O) r.Readings.length 0=true:=by
 simp only [wEB]
 constructor
 ·intro F
  refine ⟨fun k _ hk=>?_,fun k _ hk=>?_,fun k _ hk=>?_⟩
  ·have h0:=fp0 F (s:=(k:Int)) (by omega) (by omega)
   rw [wEv _ _ (by omega),wPp,nD,Int.zero_add] at h0
   unfold wTV
   rw [nE]
   refine ⟨decide_eq_true h0,(wEB _ _ _).2 fun j _ hj=>?_⟩
   have h1:=fp1 F (s:=(k:Int)) (k:=(j:Int)) (by omega) (by omega) (by omega) (by omega)
   rw [wEv _ _ (by omega),wEv _ _ (by omega),nD,nD,show ((j:Int) + 1).toNat=j + 1 by omega] at h1
   unfold inB
   rw [decide_eq_true_eq]
   omega
  ·have h:=fp2 F (k:=(k:Int)) (by omega) (by omega)
   rw [wGj _ _ (by omega),wPp,nD] at h
   unfold clkS inB
   rw [decide_eq_true_eq]
   omega
  ·have u:=C.ru _ (wBI (show k < r.Readings.length by omega))
   have a:yT T O ⟨(gd r.Readings k).Skier,(gd r.Readings k).Mat⟩ <= yT T O ⟨-1,1 + (gd r.Readings k).Clock⟩ + ((gd r.Readings k).Time + (gd r.Clocks (gd r.Readings k).Clock.toNat).Error):=F ⟨3,0,(k:Int),true⟩ (.inr (.inr (.inr ⟨rfl,rfl,by simp only;omega,by simp only;omega⟩)))
   have b:yT T O ⟨-1,1 + (gd r.Readings k).Clock⟩ <= yT T O ⟨(gd r.Readings k).Skier,(gd r.Readings k).Mat⟩ + ((gd r.Clocks (gd r.Readings k).Clock.toNat).Error - (gd r.Readings k).Time):=F ⟨3,0,(k:Int),false⟩ (.inr (.inr (.inr ⟨rfl,rfl,by simp only;omega,by simp only;omega⟩)))
   rw [wEv _ _ u.1,wGj _ _ u.2.2.2.2.1] at a b
   unfold redS inB
   rw [decide_eq_true_eq]
   omega
 ·rintro ⟨h1,h2,h3⟩ x hx
  have key:yT T O (wCl r x).2.1 <= yT T O (wCl r x).1 + (wCl r x).2.2.1/\yT T O (wCl r x).1 <= yT T O (wCl r x).2.1 + (wCl r x).2.2.2:=by
   unfold wCl
   rcases hx with ⟨k,a,b,c⟩ | ⟨k,a,b,c,d⟩ | ⟨k,a,c,d⟩ | ⟨k,a,c,d⟩
   ·have h:=h1 x.Skier.toNat (by omega) (by omega)
    unfold wTV at h
    rw [nE,decide_eq_true_eq] at h
    rw [if_pos k]
    simp only
    rw [wEv _ _ a,wPp,Int.toNat_zero,h.1]
    omega
   ·have h:=h1 x.Skier.toNat (by omega) (by omega)
    unfold wTV at h
    rw [nE] at h
    have g:=(wEB _ _ _).1 h.2 x.Index.toNat (by omega) (by omega)
    unfold inB at g
    rw [decide_eq_true_eq] at g
    rw [if_neg (by omega),if_pos k]
    simp only
    rw [wEv _ _ a,wEv _ _ a,show (x.Index + 1).toNat=x.Index.toNat + 1 by omega]
    omega
   ·have h:=h2 x.Index.toNat (by omega) (by omega)
    unfold clkS inB at h
    rw [decide_eq_true_eq] at h
    rw [if_neg (by omega),if_neg (by omega),if_pos k]
    simp only
    rw [wGj _ _ c,wPp]
    omega
   ·have h:=h3 x.Index.toNat (by omega) (by omega)
    unfold redS inB at h
    rw [decide_eq_true_eq] at h
    have u:=C.ru _ (wCT c d)
    rw [if_neg (by omega),if_neg (by omega),if_neg (by omega)]
    simp only
    rw [wEv _ _ u.1,wGj _ _ u.2.2.2.2.1]
    omega
  unfold wDB
  split
  ·exact key.1
  ·exact key.2
end Go.Proofs.YtkeeechdijfkhaaGreat
namespace Go.Proofs.YtkeeechdijfkhaaGreat
open Go.KL Go.KL.Net
open Classical
theorem wRo {r:wAD} (C:RC r):code r=0:=by
 unfold code
 rw [if_neg (fun h=>h C.n),if_neg (by have:=C.m;omega),if_neg (by have:=C.c;omega),if_neg (by have:=C.q;omega),if_pos (nJ.2 fun s hs=>by
  have:=C.st s hs
  unfold stP inB
  rw [decide_eq_true_eq];omega),if_pos (nJ.2 fun s hs=>by
  have:=C.sp s hs
  unfold spP wPo
  rw [decide_eq_true_eq];omega),if_pos (nJ.2 fun s hs=>by
  have:=C.ck s hs
  unfold ckP wPo inB
  rw [nE,decide_eq_true_eq,decide_eq_true_eq];omega),if_pos (nJ.2 fun s hs=>by
  have:=C.rt s hs
  unfold rtP inB
  rw [decide_eq_true_eq];omega),if_pos (nJ.2 fun s hs=>by
  have:=C.ru s hs
  unfold ruP inB
  rw [nE,nE,decide_eq_true_eq,decide_eq_true_eq,decide_eq_true_eq];omega)]
theorem wDm {S:Type} {body:Nat->S->Option S} {n:Nat} {s0:S} (I:Nat->S->Prop) (hn:n <= 1000) (h0:I 0 s0) (h:∀ i s,i < n->I i s->∃ s',body i s=some s'/\I (i + 1) s'):∃ s,wCg 0 (n:Int) body s0=some s/\I n s:=by
 rw [wEJ (by omega)]
 have:=wEI (body:=body) I n 0 s0 h0 fun i s _ h2 h3=>h i s (by omega) h3
 rwa [Nat.zero_add] at this
theorem wIs {α:Type} {l:List α} {a:α} {P:α->Prop} (h:∀ x ∈ l,P x) (ha:P a):∀ x ∈ l ++ [a],P x:=fun x hx=>by
 rcases nL.1 hx with h1 | h1
 ·exact h x h1
 ·rw [nI.1 h1];exact ha
def m1B:Nat->List Int × Int × Int × List Int->Option (List Int × Int × Int × List Int):=fun k62 (l53,x56,x57,l58) =>
  (wAJ (⟨l53,x56,x57⟩:wAB) 4).bind fun (x142,x143) =>
  (wAJ x143 3).bind fun (x156,x157) =>
  (app 8 l58 [w64 ((w64 (300 * x142)) + x156)]).bind fun x175 =>
  some (x157.bytes,x157.next,x157.state,x175)
def m2B:Nat->List Int × Int × Int × List wAH->Option (List Int × Int × Int × List wAH):=fun k274 (l265,x268,x269,l270) =>
  (wAM (⟨l265,x268,x269⟩:wAB) 3 9).bind fun (x305,x306) =>
  (wAJ x306 30).bind fun (x353,x354) =>
  (app 16 l270 [(⟨w64 (100 * x305),w64 ((w64 (100 * x305)) + (w64 (10 * x353)))⟩:wAH)]).bind fun x372 =>
  some (x354.bytes,x354.next,x354.state,x372)
def m3I (y282:List wAH):Nat->List Int × Int × Int × Int × List Int->Option (List Int × Int × Int × Int × List Int):=fun k541 (l532,x535,x536,x537,l538) =>
      (chk (↑k541:Int) y282.length).bind fun _ =>
      (wAM (⟨l532,x535,x536⟩:wAB) ((gd y282 k541).Lo) ((gd y282 k541).Hi)).bind fun (x589,x590) =>
      (app 8 l538 [w64 (x537 + x589)]).bind fun x609 =>
      some (x590.bytes,x590.next,x590.state,w64 (x537 + x589),x609)
def m3B (y70:List Int) (y282:List wAH):Nat->List Int × Int × Int × List (List Int)->Option (List Int × Int × Int × List (List Int)):=fun k460 (l450,x453,x454,l455) =>
  (chk (↑k460:Int) y70.length).bind fun _ =>
  (wCg 0 (↑y282.length:Int) (m3I y282) (l450,x453,x454,(gd y70 k460),[(gd y70 k460)])).bind fun (y546,y547,y548,y549,y550) =>
  (app 24 l455 [y550]).bind fun x672 =>
  some (y546,y547,y548,x672)
def m4B:Nat->List Int × Int × Int × List wAI × List Int->Option (List Int × Int × Int × List wAI × List Int):=fun k792 (l779,x782,x783,l784,l788) =>
  (wAM (⟨l779,x782,x783⟩:wAB) (-60) 20).bind fun (x826,x827) =>
  (wAJ x827 50).bind fun (x840,x841) =>
  (wAJ x841 6).bind fun (x854,x855) =>
  (app 24 l784 [(⟨(⟨x826,w64 (x826 + x840)⟩:wAH),x854⟩:wAI)]).bind fun x880 =>
  (wAM x855 x826 (w64 (x826 + x840))).bind fun (x888,x889) =>
  (app 8 l788 [x888]).bind fun x908 =>
  some (x889.bytes,x889.next,x889.state,x880,x908)
def m5B (y70:List Int) (y282:List wAH) (y468:List (List Int)) (y800:List wAI) (y801:List Int):Nat->List Int × Int × Int × List wAW->Option (List Int × Int × Int × List wAW):=fun k1736 (l1727,x1730,x1731,l1732) =>
  ((wAJ (⟨l1727,x1730,x1731⟩:wAB) (↑y70.length:Int)).bind fun (x1833,x1834) =>
  (wAJ x1834 (w64 ((↑y282.length:Int) + 1))).bind fun (x1847,x1848) =>
  (wAJ x1848 (↑y800.length:Int)).bind fun (x1861,x1862) =>
  some (x1862.bytes,x1862.next,x1862.state,x1833,x1847,x1861)).bind fun (l1767,x1770,x1771,x1774,x1775,x1776) =>
  (chk x1776 y800.length).bind fun _ =>
  (idx y468 x1774).bind fun x2140 =>
  (idx x2140 x1775).bind fun x2156 =>
  (chk x1776 y801.length).bind fun _ =>
  (wAM (⟨l1767,x1770,x1771⟩:wAB) (w64 (-((gd y800 x1776.toNat).Error))) ((gd y800 x1776.toNat).Error)).bind fun (x2171,x2172) =>
  if (w64 (-((gd y800 x1776.toNat).Error))) <= (w64 ((w64 ((max 0 (w64 ((w64 (x2156 + (gd y801 x1776.toNat))) + x2171))) - x2156)) - (gd y801 x1776.toNat))) then
   if (w64 ((w64 ((max 0 (w64 ((w64 (x2156 + (gd y801 x1776.toNat))) + x2171))) - x2156)) - (gd y801 x1776.toNat))) <= ((gd y800 x1776.toNat).Error) then
    (app 32 l1732 [(⟨x1774,x1775,x1776,max 0 (w64 ((w64 (x2156 + (gd y801 x1776.toNat))) + x2171))⟩:wAW)]).bind fun x2225 =>
    some (x2172.bytes,x2172.next,x2172.state,x2225)
   else
    some (x2172.bytes,x2172.next,x2172.state,l1732)
  else
   some (x2172.bytes,x2172.next,x2172.state,l1732)
theorem wKw (p0:wAB) (p1 p2 p3:Int):wBN p0 p1 p2 p3=(wAM p0 1 p1).bind fun (x10,x11) =>
 (wCg 0 x10 m1B (x11.bytes,x11.next,x11.state,[])).bind fun (y67,y68,y69,y70) =>
 (wAJ (⟨y67,y68,y69⟩:wAB) p2).bind fun (x223,x224) =>
 (wCg 0 x223 m2B (x224.bytes,x224.next,x224.state,[])).bind fun (y279,y280,y281,y282) =>
 (wCg 0 (↑y70.length:Int) (m3B y70 y282) (y279,y280,y281,[])).bind fun (y465,y466,y467,y468) =>
 (wAM (⟨y465,y466,y467⟩:wAB) 1 3).bind fun (x726,x727) =>
 (wCg 0 x726 m4B (x727.bytes,x727.next,x727.state,[],[])).bind fun (y797,y798,y799,y800,y801) =>
 (wAJ (⟨y797,y798,y799⟩:wAB) (w64 (p3 + 1))).bind fun (x1667,x1668) =>
 (wCg 0 x1667 (m5B y70 y282 y468 y800 y801) (x1668.bytes,x1668.next,x1668.state,[])).bind fun (y1741,y1742,y1743,y1744) =>
 some ((⟨y70,y282,y800,y1744⟩:wAD),y468,y801,(⟨y1741,y1742,y1743⟩:wAB)):=rfl
def M1 (n:Int) (k:Nat) (s:List Int × Int × Int × List Int):Prop:=0 <= s.2.1/\s.2.1 <= n + 2 * (k:Int)/\s.2.2.2.length=k/\∀ x ∈ s.2.2.2,0 <= x/\x <= 902
theorem wRp {n:Int} (n0:0 <= n) (n1:n <= 1000) {k:Nat} (hk:k < 10) {s:List Int × Int × Int × List Int} (I:M1 n k s):∃ s',m1B k s=some s'/\M1 n (k + 1) s':=by
 obtain ⟨b,nx,st,l⟩:=s
 obtain ⟨i0,i1,hl,he⟩:=I
 simp only at i0 i1 hl he
 unfold m1B
 simp only
 obtain ⟨x,d1,e1,p0,p1,x0,x1⟩:=wDA ⟨b,nx,st⟩ 4 i0 (by simp only;omega)
 obtain ⟨y,d2,e2,q0,q1,y0,y1⟩:=wDA d1 3 p0 (by simp only at p1;omega)
 simp only at p1
 rw [e1,nA]
 simp only
 rw [e2,nA]
 simp only
 rw [wAb (x:=300 * x) (by omega) (by omega),wAb (by omega) (by omega),wEr (by simp only [nB,nH];omega),nA]
 exact ⟨_,rfl,q0,by simp only;omega,by simp [hl],wIs he (by omega)⟩
def M2 (n:Int) (k:Nat) (s:List Int × Int × Int × List wAH):Prop:=0 <= s.2.1/\s.2.1 <= n + 2 * (k:Int)/\s.2.2.2.length=k/\∀ x ∈ s.2.2.2,300 <= x.Lo/\x.Lo <= x.Hi/\x.Hi <= 1190
theorem wRq {n:Int} (n0:0 <= n) (n1:n <= 1000) {k:Nat} (hk:k < 10) {s:List Int × Int × Int × List wAH} (I:M2 n k s):∃ s',m2B k s=some s'/\M2 n (k + 1) s':=by
 obtain ⟨b,nx,st,l⟩:=s
 obtain ⟨i0,i1,hl,he⟩:=I
 simp only at i0 i1 hl he
 unfold m2B
 simp only
 obtain ⟨x,d1,e1,p0,p1,x0,x1⟩:=wEs ⟨b,nx,st⟩ 3 9 i0 (by simp only;omega) (by omega) (by omega) (by omega)
 simp only at p1
 obtain ⟨y,d2,e2,q0,q1,y0,y1⟩:=wDA d1 30 p0 (by omega)
 rw [e1,nA]
 simp only
 rw [e2,nA]
 simp only
 rw [wAb (x:=100 * x) (by omega) (by omega),wAb (x:=10 * y) (by omega) (by omega),wAb (by omega) (by omega),wEr (by simp only [nB,nH];omega),nA]
 exact ⟨_,rfl,q0,by simp only;omega,by simp [hl],wIs he (by simp only;omega)⟩
structure RowI (sp:List wAH) (s0:Int) (j:Nat) (l:List Int):Prop where
 len:l.length=j + 1
 z:gd l 0=s0
 d:∀ i,i < j->(gd sp i).Lo <= gd l (i + 1) - gd l i/\gd l (i + 1) - gd l i <= (gd sp i).Hi
 b:∀ i,i < j + 1->0 <= gd l i/\gd l i <= 902 + 1190 * (i:Int)
def M3 (sp:List wAH) (s0 n:Int) (k:Nat) (s:List Int × Int × Int × Int × List Int):Prop:=0 <= s.2.1/\s.2.1 <= n + (k:Int)/\s.2.2.2.1=gd s.2.2.2.2 k/\RowI sp s0 k s.2.2.2.2
theorem wRr {sp:List wAH} (hsp:∀ x ∈ sp,300 <= x.Lo/\x.Lo <= x.Hi/\x.Hi <= 1190) {s0 n:Int} (n0:0 <= n) (n1:n <= 1000) {k:Nat} (hk:k < sp.length) (hk2:k < 10) {s:List Int × Int × Int × Int × List Int} (I:M3 sp s0 n k s):∃ s',m3I sp k s=some s'/\M3 sp s0 n (k + 1) s':=by
 obtain ⟨b,nx,st,t,l⟩:=s
 obtain ⟨i0,i1,ht,R⟩:=I
 simp only at i0 i1 ht R
 have hs:=hsp _ (wBI hk)
 have hb:=R.b k (by omega)
 have hl:=R.len
 unfold m3I
 simp only
 obtain ⟨x,d1,e1,p0,p1,x0,x1⟩:=wEs ⟨b,nx,st⟩ (gd sp k).Lo (gd sp k).Hi i0 (by simp only;omega) (by omega) (by omega) (by omega)
 simp only at p1
 rw [wBR (by omega) (by omega),nA,e1,nA]
 simp only
 rw [wAb (x:=t + x) (by omega) (by omega),wEr (by simp only [nB,nH];omega),nA]
 have gk:gd (l ++ [t + x]) (k + 1)=t + x:=by rw [<- hl,wFA]
 refine ⟨_,rfl,p0,by simp only;omega,gk.symm,by simp [hl],?_,fun i hi=>?_,fun i hi=>?_⟩
 ·simp only
  rw [wDW (by omega)];exact R.z
 ·simp only
  by_cases c:i=k
  ·rw [c,gk,wDW (by omega)]
   omega
  ·rw [wDW (by omega),wDW (by omega)]
   exact R.d i (by omega)
 ·simp only
  by_cases c:i=k + 1
  ·rw [c,gk];omega
  ·rw [wDW (by omega)]
   exact R.b i (by omega)
def M3o (st:List Int) (sp:List wAH) (n:Int) (k:Nat) (s:List Int × Int × Int × List (List Int)):Prop:=0 <= s.2.1/\s.2.1 <= n + 10 * (k:Int)/\s.2.2.2.length=k/\∀ i,i < k->RowI sp (gd st i) sp.length (gd s.2.2.2 i)
theorem wPr {st:List Int} (hst:∀ x ∈ st,0 <= x/\x <= 902) {sp:List wAH} (hl:sp.length <= 9) (hsp:∀ x ∈ sp,300 <= x.Lo/\x.Lo <= x.Hi/\x.Hi <= 1190) {n:Int} (n0:0 <= n) (n1:n <= 800) {k:Nat} (hk:k < st.length) (hk2:k < 10) {s:List Int × Int × Int × List (List Int)} (I:M3o st sp n k s):∃ s',m3B st sp k s=some s'/\M3o st sp n (k + 1) s':=by
 obtain ⟨b,nx,se,l⟩:=s
 obtain ⟨i0,i1,hll,he⟩:=I
 simp only at i0 i1 hll he
 have hs:=hst _ (wBI hk)
 unfold m3B
 simp only
 obtain ⟨⟨b',nx',st',t',l'⟩,e,J0,J1,_,J⟩:=wDm (n:=sp.length) (body:=m3I sp) (s0:=(b,nx,se,gd st k,[gd st k])) (M3 sp (gd st k) nx) (by omega) ⟨i0,by simp only;omega,rfl,rfl,rfl,(fun i hi=>by omega),fun i hi=>by
  obtain rfl:i=0:=by omega
  show 0 <= gd st k/\gd st k <= _
  omega⟩ fun i s hi I=>wRr hsp i0 (by omega) hi (by omega) I
 simp only at J0 J1 J
 rw [wBR (by omega) (by omega),nA,e,nA]
 simp only
 rw [wEr (by simp only [nB,nH];omega),nA]
 refine ⟨_,rfl,J0,by simp only;omega,by simp [hll],fun i hi=>?_⟩
 simp only
 by_cases c:i=k
 ·rw [c,show gd (l ++ [l']) k=l' by rw [<- hll,wFA]]
  exact J
 ·rw [wDW (by omega)]
  exact he i (by omega)
def ClkI (c:wAI) (o:Int):Prop:=-60 <= c.Offset.Lo/\c.Offset.Lo <= c.Offset.Hi/\c.Offset.Hi <= 70/\0 <= c.Error/\c.Error <= 5/\c.Offset.Lo <= o/\o <= c.Offset.Hi
def M4 (n:Int) (k:Nat) (s:List Int × Int × Int × List wAI × List Int):Prop:=0 <= s.2.1/\s.2.1 <= n + 4 * (k:Int)/\s.2.2.2.1.length=k/\s.2.2.2.2.length=k/\∀ i,i < k->ClkI (gd s.2.2.2.1 i) (gd s.2.2.2.2 i)
theorem wRs {n:Int} (n0:0 <= n) (n1:n <= 1000) {k:Nat} (hk:k < 10) {s:List Int × Int × Int × List wAI × List Int} (I:M4 n k s):∃ s',m4B k s=some s'/\M4 n (k + 1) s':=by
 obtain ⟨b,nx,st,l,o⟩:=s
 obtain ⟨i0,i1,hl,ho,he⟩:=I
 simp only at i0 i1 hl ho he
 unfold m4B
 simp only
 obtain ⟨a,d1,e1,p0,p1,a0,a1⟩:=wEs ⟨b,nx,st⟩ (-60) 20 i0 (by simp only;omega) (by omega) (by omega) (by omega)
 simp only at p1
 obtain ⟨y,d2,e2,q0,q1,y0,y1⟩:=wDA d1 50 p0 (by omega)
 obtain ⟨z,d3,e3,r0,r1,z0,z1⟩:=wDA d2 6 q0 (by omega)
 obtain ⟨v,d4,e4,s0,s1,v0,v1⟩:=wEs d3 a (a + y) r0 (by omega) (by omega) (by omega) (by omega)
 rw [e1,nA]
 simp only
 rw [e2,nA]
 simp only
 rw [e3,nA]
 simp only
 rw [wAb (x:=a + y) (by omega) (by omega),wEr (by simp only [nB,nH];omega),nA,e4,nA]
 simp only
 rw [wEr (by simp only [nB,nH];omega),nA]
 refine ⟨_,rfl,s0,by simp only;omega,by simp [hl],by simp [ho],fun i hi=>?_⟩
 simp only
 by_cases c:i=k
 ·have h1:gd (l ++ [(⟨⟨a,a + y⟩,z⟩:wAI)]) i=⟨⟨a,a + y⟩,z⟩:=by rw [c,<- hl,wFA]
  have h2:gd (o ++ [v]) i=v:=by rw [c,<- ho,wFA]
  rw [h1,h2]
  unfold ClkI
  simp only
  omega
 ·rw [wDW (by omega),wDW (by omega)]
  exact he i (by omega)
def RdI (n m c:Nat) (T:List (List Int)) (C:List wAI) (O:List Int) (x:wAW):Prop :=
 (0 <= x.Skier/\x.Skier < n/\0 <= x.Mat/\x.Mat <= m/\0 <= x.Clock/\x.Clock < c)/\0 <= x.Time/\x.Time <= 100000/\-(gd C x.Clock.toNat).Error <= x.Time - gd (gd T x.Skier.toNat) x.Mat.toNat - gd O x.Clock.toNat/\x.Time - gd (gd T x.Skier.toNat) x.Mat.toNat - gd O x.Clock.toNat <= (gd C x.Clock.toNat).Error
def M5 (st:List Int) (sp:List wAH) (T:List (List Int)) (C:List wAI) (O:List Int) (n:Int) (k:Nat) (s:List Int × Int × Int × List wAW):Prop:=0 <= s.2.1/\s.2.1 <= n + 4 * (k:Int)/\s.2.2.2.length <= k/\∀ x ∈ s.2.2.2,RdI st.length sp.length C.length T C O x
theorem wRt {st:List Int} {sp:List wAH} {T:List (List Int)} {C:List wAI} {O:List Int} (h1:1 <= st.length) (h2:st.length <= 10) (h3:sp.length <= 9) (hT:T.length=st.length) (hR:∀ i,i < st.length->RowI sp (gd st i) sp.length (gd T i)) (c1:1 <= C.length) (c2:C.length <= 10) (hO:O.length=C.length) (hC:∀ i,i < C.length->ClkI (gd C i) (gd O i)) {n:Int} (n0:0 <= n) (n1:n <= 1000) {k:Nat} (hk:k < 50) {s:List Int × Int × Int × List wAW} (I:M5 st sp T C O n k s):∃ s',m5B st sp T C O k s=some s'/\M5 st sp T C O n (k + 1) s':=by
 obtain ⟨b,nx,se,l⟩:=s
 obtain ⟨i0,i1,hl,he⟩:=I
 simp only at i0 i1 hl he
 unfold m5B
 simp only
 obtain ⟨x,d1,e1,p0,p1,x0,x1⟩:=wDA ⟨b,nx,se⟩ (st.length:Int) i0 (by simp only;omega)
 simp only at p1
 obtain ⟨y,d2,e2,q0,q1,y0,y1⟩:=wDA d1 ((sp.length:Int) + 1) p0 (by omega)
 obtain ⟨z,d3,e3,r0,r1,z0,z1⟩:=wDA d2 (C.length:Int) q0 (by omega)
 have hx:x.toNat < st.length:=by omega
 have hz:z.toNat < C.length:=by omega
 obtain ⟨K1,K2,K3,K4,K5,K6,K7⟩:=hC z.toNat hz
 have R:=hR x.toNat hx
 have hb:=R.b y.toNat (by omega)
 have hlen:=R.len
 obtain ⟨v,d4,e4,s0,s1,v0,v1⟩:=wEs d3 (-(gd C z.toNat).Error) (gd C z.toNat).Error r0 (by omega) (by omega) (by omega) (by omega)
 rw [e1,nA]
 simp only
 rw [wAb (x:=(sp.length:Int) + 1) (by omega) (by omega),e2,nA]
 simp only
 rw [e3,nA,nA]
 simp only
 rw [wBR (by omega) (by omega),nA,wFc x0 (by omega),nA,wFc y0 (by omega),nA,wBR (by omega) (by omega),nA,wAb (x:=-(gd C z.toNat).Error) (by omega) (by omega),show (⟨d3.bytes,d3.next,d3.state⟩:wAB)=d3 from rfl,e4,nA]
 simp only
 rw [wAb (x:=gd (gd T x.toNat) y.toNat + gd O z.toNat) (by omega) (by omega),wAb (x:=gd (gd T x.toNat) y.toNat + gd O z.toNat + v) (by omega) (by omega),wAb (x:=max 0 (gd (gd T x.toNat) y.toNat + gd O z.toNat + v) - gd (gd T x.toNat) y.toNat) (by omega) (by omega),wAb (x:=_ - gd O z.toNat) (by omega) (by omega)]
 by_cases g1:-(gd C z.toNat).Error <= max 0 (gd (gd T x.toNat) y.toNat + gd O z.toNat + v) - gd (gd T x.toNat) y.toNat - gd O z.toNat
 ·rw [if_pos g1]
  by_cases g2:max 0 (gd (gd T x.toNat) y.toNat + gd O z.toNat + v) - gd (gd T x.toNat) y.toNat - gd O z.toNat <= (gd C z.toNat).Error
  ·rw [if_pos g2,wEr (by simp only [nB,nH];omega),nA]
   refine ⟨_,rfl,s0,by simp only;omega,by simp;omega,wIs he ⟨?_,?_,?_,g1,g2⟩⟩
   ·simp only;omega
   ·simp only;omega
   ·simp only;omega
  ·rw [if_neg g2]
   exact ⟨_,rfl,s0,by simp only;omega,by simp only;omega,he⟩
 ·rw [if_neg g1]
  exact ⟨_,rfl,s0,by simp only;omega,by simp only;omega,he⟩
theorem wOs {d:wAB} (h0:d.next=0) {u w q:Int} (u1:1 <= u) (u2:u <= 8) (w1:1 <= w) (w2:w <= 8) (q0:0 <= q) (q1:q <= 40):∃ r T O d',wBN d u w q=some (r,T,O,d')/\RC r/\Lens r T O/\wDd r (yT T O)/\(∀ x ∈ r.Starts,x <= 902)/\(∀ x ∈ r.Clocks,-60 <= x.Offset.Lo/\x.Offset.Hi <= 70)/\(∀ x ∈ r.Readings,x.Time <= 100000)/\(∀ x ∈ r.Splits,300 <= x.Lo/\x.Hi <= 1190)/\1 <= r.Clocks.length/\(∀ x ∈ r.Clocks,x.Error <= 5)/\(r.Readings.length:Int) <= q/\(r.Starts.length:Int) <= u:=by
 rw [wKw]
 obtain ⟨x,d1,e1,m0,m1,x0,x1⟩:=wEs d 1 u (by omega) (by omega) (by omega) (by omega) (by omega)
 obtain ⟨n,rfl⟩:∃ n:Nat,x=n:=⟨x.toNat,by omega⟩
 obtain ⟨⟨b2,nx2,st2,S⟩,e2,a0,a1,hS,eS⟩:=wDm (n:=n) (body:=m1B) (s0:=(d1.bytes,d1.next,d1.state,[])) (M1 d1.next) (by omega) ⟨m0,by simp only;omega,rfl,by simp⟩ fun i s hi I=>wRp m0 (by omega) (by omega) I
 simp only at a0 a1 hS eS
 obtain ⟨y,d3,e3,b0,b1,y0,y1⟩:=wDA ⟨b2,nx2,st2⟩ w a0 (by simp only;omega)
 simp only at b1
 obtain ⟨m,rfl⟩:∃ n:Nat,y=n:=⟨y.toNat,by omega⟩
 obtain ⟨⟨b4,nx4,st4,P⟩,e4,c0,c1,hP,eP⟩:=wDm (n:=m) (body:=m2B) (s0:=(d3.bytes,d3.next,d3.state,[])) (M2 d3.next) (by omega) ⟨b0,by simp only;omega,rfl,by simp⟩ fun i s hi I=>wRq b0 (by omega) (by omega) I
 simp only at c0 c1 hP eP
 obtain ⟨⟨b5,nx5,st5,T⟩,e5,f0,f1,hT,eT⟩:=wDm (n:=S.length) (body:=m3B S P) (s0:=(b4,nx4,st4,[])) (M3o S P nx4) (by omega) ⟨c0,by simp only;omega,rfl,fun i hi=>by omega⟩ fun i s hi I=>wPr eS (by omega) eP c0 (by omega) hi (by omega) I
 simp only at f0 f1 hT eT
 obtain ⟨z,d6,e6,g0,g1,z0,z1⟩:=wEs ⟨b5,nx5,st5⟩ 1 3 f0 (by simp only;omega) (by omega) (by omega) (by omega)
 simp only at g1
 obtain ⟨c,rfl⟩:∃ n:Nat,z=n:=⟨z.toNat,by omega⟩
 obtain ⟨⟨b7,nx7,st7,C,O⟩,e7,k0,k1,hC,hO,eC⟩:=wDm (n:=c) (body:=m4B) (s0:=(d6.bytes,d6.next,d6.state,[],[])) (M4 d6.next) (by omega) ⟨g0,by simp only;omega,rfl,rfl,fun i hi=>by omega⟩ fun i s hi I=>wRs g0 (by omega) (by omega) I
 simp only at k0 k1 hC hO eC
 obtain ⟨v,d8,e8,l0,l1,v0,v1⟩:=wDA ⟨b7,nx7,st7⟩ (q + 1) k0 (by simp only;omega)
 simp only at l1
 obtain ⟨h,rfl⟩:∃ n:Nat,v=n:=⟨v.toNat,by omega⟩
 have hTl:T.length=S.length:=by omega
 obtain ⟨⟨b9,nx9,st9,R⟩,e9,_,_,hR,eR⟩:=wDm (n:=h) (body:=m5B S P T C O) (s0:=(d8.bytes,d8.next,d8.state,[])) (M5 S P T C O d8.next) (by omega) ⟨l0,by simp only;omega,Nat.le_refl _,by simp⟩ fun i s hi I=>wRt (by omega) (by omega) (by omega) hTl (fun i hi=>eT i (by omega)) (by omega) (by omega) (by omega) (fun i hi=>eC i (by omega)) l0 (by omega) (by omega) I
 simp only at hR eR
 rw [e1,nA]
 simp only
 rw [e2,nA]
 simp only
 rw [e3,nA]
 simp only
 rw [e4,nA]
 simp only
 rw [e5,nA]
 simp only
 rw [e6,nA]
 simp only
 rw [e7,nA]
 simp only
 rw [wAb (x:=q + 1) (by omega) (by omega),e8,nA]
 simp only
 rw [e9,nA]
 have hck:∀ x ∈ C,∃ o,ClkI x o:=fun x hx=>by
  obtain ⟨i,hi,rfl⟩:=wLt hx
  exact ⟨_,eC i (by omega)⟩
 have RR:RC ⟨S,P,C,R⟩:=⟨⟨by simp only;omega,by simp only;omega⟩,by simp only;omega,by simp only;omega,by simp only;omega,(fun s hs=>by have:=eS s hs;omega),(fun s hs=>by have:=eP s hs;omega),(fun s hs=>by
  obtain ⟨o,h1,h2,h3,h4,h5,h6,h7⟩:=hck s hs
  exact ⟨⟨h2,by omega,by omega⟩,h4,by omega⟩),(fun x hx=>by have:=eR x hx;exact ⟨this.2.1,by have:=this.2.2.1;omega⟩),fun x hx=>(eR x hx).1⟩
 refine ⟨⟨S,P,C,R⟩,T,O,_,rfl,RR,⟨hTl,fun k hk=>(eT k hk).len,by simp only;omega⟩,(wPq RR).2 ⟨?_,?_,?_⟩,fun x hx=>(eS x hx).2,fun x hx=>?_,fun x hx=>(eR x hx).2.2.1,fun x hx=>⟨(eP x hx).1,(eP x hx).2.2⟩,by simp only;omega,fun x hx=>by
  obtain ⟨o,_,_,_,_,h5,_⟩:=hck x hx
  exact h5,by simp only;omega,by simp only;omega⟩
 ·rw [wEB]
  intro i _ hi
  have hi:i < S.length:=by simp only at hi;omega
  have Q:=eT i hi
  unfold wTV
  rw [nE,decide_eq_true_eq,wEB]
  refine ⟨Q.z,fun j _ hj=>?_⟩
  unfold inB
  rw [decide_eq_true_eq]
  exact Q.d j (by simp only at hj;omega)
 ·rw [wEB]
  intro i _ hi
  have Q:=eC i (by simp only at hi;omega)
  unfold clkS inB
  rw [decide_eq_true_eq]
  exact ⟨Q.2.2.2.2.2.1,Q.2.2.2.2.2.2⟩
 ·rw [wEB]
  intro i _ hi
  have Q:=eR _ (wBI (l:=R) (k:=i) (by simp only at hi;omega))
  unfold redS inB
  rw [decide_eq_true_eq]
  exact ⟨Q.2.2.2.1,Q.2.2.2.2⟩
 ·obtain ⟨o,h1,h2,h3,_⟩:=hck x hx
  exact ⟨h1,h3⟩
theorem wPs {d:wAB} (h0:d.next=0) {u w q:Int} (u1:1 <= u) (u2:u <= 8) (w1:1 <= w) (w2:w <= 8) (q0:0 <= q) (q1:q <= 40):∃ r T O d',wBN d u w q=some (r,T,O,d')/\RC r/\Lens r T O/\wDd r (yT T O)/\(∀ x ∈ r.Starts,x <= 902)/\(∀ x ∈ r.Clocks,-60 <= x.Offset.Lo/\x.Offset.Hi <= 70)/\(∀ x ∈ r.Readings,x.Time <= 100000)/\(∀ x ∈ r.Splits,300 <= x.Lo/\x.Hi <= 1190)/\1 <= r.Clocks.length/\(∀ x ∈ r.Clocks,x.Error <= 5)/\(r.Readings.length:Int) <= q:=by
 obtain ⟨r,T,O,d',e,h1,h2,h3,h4,h5,h6,h7,h8,h9,h10,_⟩:=wOs h0 u1 u2 w1 w2 q0 q1
 exact ⟨r,T,O,d',e,h1,h2,h3,h4,h5,h6,h7,h8,h9,h10⟩
end Go.Proofs.YtkeeechdijfkhaaGreat
namespace Go.Proofs.YtkeeechdijfkhaaGreat
open Go.KL Go.KL.Net
open Classical
theorem wMj {l:List wAa} {f:wAa->Option Bool} {p:wAa->Bool} (hf:∀ a ∈ l,f a=some (p a)) (hn:l.length <= 1000):wAz l f=some (l.all p):=by
 unfold wAz
 refine (wFy (R:=Bool) (p:=p) (z:=false) (K:=fun _=>some true) (fun a ha=>?_) (by omega)).trans ?_
 ·rw [hf a ha,nA];split <;> rfl
 ·split <;> simp_all
section
variable {r:wAD} {d:wAr} {pts:List Pt} (D:Desk r d pts)
include D
theorem Desk.holds:∃ b,wBv d=some b/\(b=true ↔ ∃ y,wDd r y):=by
 obtain ⟨f,last,ok,e,_,_,h,_⟩:=D.any
 refine ⟨ok,?_,h⟩
 unfold wBv
 rw [e];rfl
end
theorem wPt {r:wAD} (S:wHZ r) {l:List wAa} (hl:l.length <= 10):∃ o,wDa r l=some (o,wIy r l)/\(wIy r l=0->∃ d pts,o=some d/\Desk r d pts)/\(wIy r l ≠ 0->o=none):=by
 unfold wDa
 rcases wLy S with ⟨c,e⟩ | ⟨c,d,pts,e,D⟩
 ·have ee:wIy r l=code r:=by unfold wIy;rw [if_neg c]
  refine ⟨none,?_,fun h=>absurd (ee ▸ h) c,fun _=>rfl⟩
  rw [e,nA,ee]
  simp only
  rw [if_neg c]
 ·rw [e,nA]
  simp only
  rw [if_pos trivial,wMj (p:=wJq r) (fun s _=>wOq S s) (by omega),nA]
  by_cases c2:l.all (wJq r)=true
  ·rw [if_pos c2]
   obtain ⟨b,e3,h3⟩:=D.holds
   rw [e3,nA]
   by_cases c3:∃ y,wDd r y
   ·have ee:wIy r l=0:=by unfold wIy;rw [if_pos c,if_pos c2,if_pos c3]
    rw [if_pos (h3.2 c3),ee]
    exact ⟨_,rfl,fun _=>⟨d,pts,rfl,D⟩,fun h=>absurd rfl h⟩
   ·have ee:wIy r l=7:=by unfold wIy;rw [if_pos c,if_pos c2,if_neg c3]
    rw [if_neg (fun h=>c3 (h3.1 h)),ee]
    exact ⟨_,rfl,fun h=>by omega,fun _=>rfl⟩
  ·have ee:wIy r l=1:=by unfold wIy;rw [if_pos c,if_neg c2]
   rw [if_neg c2,ee]
   exact ⟨_,rfl,fun h=>by omega,fun _=>rfl⟩
end Go.Proofs.YtkeeechdijfkhaaGreat
namespace Go.Proofs.YtkeeechdijfkhaaGreat
open Go.KL Go.KL.Net
open Classical
theorem wMk {r:wAD} {d:wAr} {pts:List Pt} (D:Desk r d pts) (hy:∃ y,wDd r y) {a b:Pt} (ha:wHv r a) (hb:wHv r b) {f g:Pt->Int} (hf:IsDP r a f) (hg:IsDP r b g):wBO d a b=some ⟨-g a,f b⟩:=by
 obtain ⟨f',l1,e1,n1,F'⟩:=D.from_ hy ha
 obtain ⟨g',l2,e2,n2,G'⟩:=D.from_ hy hb
 have f1:=F'.one hf hb
 have g1:=G'.one hg ha
 have gn:=hg.near D.c hb ha
 have pa:=D.pos_ok ha
 have pb:=D.pos_ok hb
 unfold wBO
 rw [pa.2.2,pb.2.2,e1,nA]
 simp only
 rw [nA,e2,nA]
 simp only
 rw [nA]
 simp only
 rw [wBR (by omega) (by omega),nA,wBR (by omega) (by omega),nA,nD,nD,f1,g1,wAb (by omega) (by omega)]
theorem wPu {r:wAD} (S:wHZ r) (s:wAa):(wIy r [s] ≠ 0->wCo r s=some (⟨0,0⟩,wIy r [s]))/\(wIy r [s]=0->∀ f g,IsDP r zp f->IsDP r (pt s) g->wCo r s=some (⟨-g zp,f (pt s)⟩,0)):=by
 unfold wCo
 obtain ⟨o,e,h0,h1⟩:=wPt S (l:=[s]) (by simp)
 rw [e,nA]
 simp only
 constructor
 ·intro c
  have ho:=h1 c
  subst ho
  simp only
  rw [if_neg c]
 ·intro c f g hf hg
  obtain ⟨d,pts,rfl,D⟩:=h0 c
  obtain ⟨C,_,hs,hy⟩:=err0 c
  simp only [List.all_cons,List.all_nil,Bool.and_true] at hs
  have hp:=(wOr (r:=r) (s:=s) hs).1
  simp only
  rw [if_pos c]
  unfold wBp wEk
  rw [nA,nA]
  show (wBO d zp (pt s)).bind _=_
  rw [wMk D hy (.inl rfl) hp hf hg]
  rfl
theorem wQV {r:wAD} (S:wHZ r) (c:code r=0) (hy:∃ y,wDd r y) {a:Pt} (ha:wHv r a):∃ f,IsDP r a f:=by
 rcases wLy S with ⟨c0,_⟩ | ⟨_,d,pts,_,D⟩
 ·exact absurd c c0
 ·obtain ⟨f,l,_,_,F⟩:=D.from_ hy ha
  exact ⟨_,F⟩
end Go.Proofs.YtkeeechdijfkhaaGreat
namespace Go.Proofs.YtkeeechdijfkhaaGreat
open Go.KL Go.KL.Net
open Classical
theorem wOt {S B:Type} {body:Nat->S->Option (S ⊕ B)} {n:Nat} {s0:S} (I:Nat->S->Prop) (h0:I 0 s0) (hn:n <= 1000) (h:∀ i s,i < n->I i s->∃ s',body i s=some (.inl s')/\I (i + 1) s'):∃ s,wFI 0 (n:Int) body s0=some (.inl s)/\I n s:=by
 rw [wDb (by omega)]
 have key:∀ (m k:Nat) (s:S),k + m=n->I k s->∃ s',forN body m k s=some (.inl s')/\I n s':=by
  intro m
  induction m with
  | zero=>intro k s hk hI;exact ⟨s,rfl,by rwa [show n=k by omega]⟩
  | succ m ih =>
   intro k s hk hI
   obtain ⟨s',e,I'⟩:=h k s (by omega) hI
   rw [forN,e]
   exact ih (k + 1) s' (by omega) I'
 exact key n 0 s0 (by omega) h0
theorem arr3 (a:Arr Int 3) {i j:Nat} (hi:i < 3) (v:Int):(a.set i v).get j=if j=i then v else a.get j:=by
 unfold Arr.set Arr.get
 simp only [List.getD_eq_getElem?_getD]
 by_cases e:j=i
 ·rw [if_pos e,e,List.getElem?_set_self (by rw [a.h];exact hi)]
  rfl
 ·rw [if_neg e,List.getElem?_set_ne (Ne.symm e)]
theorem wLz {a b:Int} (h0:0 <= a) (h1:a <= 1000000000) (hb:0 < b):quo a b=some (a / b):=by
 unfold quo
 have d0:=Int.ediv_nonneg h0 (Int.le_of_lt hb)
 have d1:=Int.ediv_le_self b h0
 rw [if_neg (by omega),Int.tdiv_eq_ediv_of_nonneg h0,wAb (by omega) (by omega)]
theorem wMl (p1:List Int):∃ l d,wBK ⟨p1,0,17⟩ 14=some (l,d)/\GdOK l:=by
 unfold wBK
 obtain ⟨n1,d1,e1,a0,a1,a2,a3⟩:=wEs ⟨p1,0,17⟩ 1 14 (by simp only;omega) (by simp only;omega) (by omega) (by omega) (by omega)
 simp only at a1
 obtain ⟨n,rfl⟩:∃ n:Nat,n1=(n:Int):=⟨n1.toNat,by omega⟩
 rw [e1,nA]
 simp only
 obtain ⟨⟨b,x,s,l,t⟩,e,i1,i2,i3,i4⟩:=wIL (n:=n) (body:=fun (k57:Nat) ((l47,x50,x51,l52,x56):List Int × Int × Int × List wAG × Int) =>
  (wAJ (⟨l47,x50,x51⟩:wAB) 25).bind fun (x86,x87) =>
  (wAJ x87 40).bind fun (x100,x101) =>
  (wAJ x101 20).bind fun (x114,x115) =>
  (app 24 l52 [(⟨x114,max 0 (w64 (x56 - x86)),w64 ((max 0 (w64 (x56 - x86))) + x100)⟩:wAG)]).bind fun x133 =>
  some (x115.bytes,x115.next,x115.state,x133,max x56 (w64 ((max 0 (w64 (x56 - x86))) + x100)))) (s0:=(d1.bytes,d1.next,d1.state,[],0))
  (fun (k:Nat) s=>(0 <= s.2.1/\s.2.1 <= 1 + 3 * (k:Int))/\s.2.2.2.1.length=k/\(0 <= s.2.2.2.2/\s.2.2.2.2 <= 40 * (k:Int))/\∀ h ∈ s.2.2.2.1,(0 <= h.Who/\h.Who <= 99)/\(0 <= h.From/\h.From <= h.To)/\h.To <= 10000) (by omega)
  ⟨by simp only;omega,rfl,by simp only;omega,fun h hh=>by cases hh⟩ (by
   rintro k ⟨b,x,s,l,t⟩ hk ⟨c1,c2,c3,c4⟩
   simp only at c1 c2 c3 c4 ⊢
   obtain ⟨u,d2,e2,p0,p1,u0,u1⟩:=wDA ⟨b,x,s⟩ 25 c1.1 (by simp only;omega)
   simp only at p1
   obtain ⟨v,d3,e3,q0,q1,v0,v1⟩:=wDA d2 40 p0 (by omega)
   obtain ⟨w,d4,e4,r0,r1,w0,w1⟩:=wDA d3 20 q0 (by omega)
   rw [e2,nA]
   simp only
   rw [e3,nA]
   simp only
   rw [e4,nA]
   simp only
   rw [wAb (x:=t - u) (by omega) (by omega),wAb (x:=max 0 (t - u) + v) (by omega) (by omega),wEr (by simp only [nB,nH];omega),nA]
   refine ⟨_,rfl,by simp only;omega,by simp [c2],by simp only;omega,fun h hh=>?_⟩
   simp only at hh
   rcases nL.1 hh with hh | hh
   ·exact c4 h hh
   ·rw [nI] at hh
    subst hh
    simp only
    omega)
 rw [e]
 simp only at i2 i4
 exact ⟨l,_,rfl,⟨by omega,i4⟩⟩
noncomputable def chN (ms:List Int) (e to:Int):Int:=if e < to then 31 else (ms.length:Int)
theorem wMA {x:List Int} (h:x.length <= 1000):∃ y,wBj x=some y/\y.length=x.length:=by
 unfold wBj wPN
 rw [if_pos (by omega)]
 exact ⟨_,rfl,List.length_mergeSort _⟩
theorem wMB {l:List wAG} (G:GdOK l) {t1 t2 e1 e2:Int} {m1 m2:List Int} (r1:Run l t1 0 m1 e1) (r2:Run l t2 0 m2 e2) (h:t1 <= t2):chN m1 e1 t1 <= chN m2 e2 t2:=by
 have c:=r1.cmp h r2
 have l1:=r1.len
 have hn:=G.n
 have b1:=r1.end_le
 have b2:=r2.end_le
 unfold chN
 by_cases q:e1 < t1
 ·have:=c.2 q
  rw [if_pos q,if_pos (by omega)]
  omega
 ·rw [if_neg q]
  split <;> omega
theorem wKx (p0 p1:List Int) (p2:Int) (h20:0 <= p2) (h21:p2 <= 255):wBa p0 p1 p2=some true:=by
  have aw:wBq=some true:=rfl
  unfold wBa
  rw [show wBt p0=some ⟨p0,0,17⟩ from rfl,nA]
  obtain ⟨r,T,O,d',e,C,L,F,h5,_,_,hsp,_⟩:=wPs (d:=⟨p0,0,17⟩) rfl (u:=5) (w:=5) (q:=12) (by omega) (by omega) (by omega) (by omega) (by omega) (by omega)
  have hn:=C.n;have hm:=C.m;have hc:=C.c;have hq:=C.q
  have S:wHZ r:=⟨by omega,by omega,by omega,by omega⟩
  have hT:=L.t
  rw [e,nA]
  simp only
  obtain ⟨l,d2,eG,G⟩:=wMl p1
  rw [show wBt p1=some ⟨p1,0,17⟩ from rfl,nA,eG,nA]
  simp only
  have w2:w64 p2=p2:=wAb (by omega) (by omega)
  obtain ⟨a',ea,a0,a1⟩:=wJj (a:=p2) (b:=(r.Starts.length:Int)) h20 (by omega)
  obtain ⟨a,rfl⟩:∃ a:Nat,a'=(a:Int):=⟨a'.toNat,by omega⟩
  have q0:0 <= p2 / 8:=by omega
  obtain ⟨b',eb,b0,b1⟩:=wJj (a:=p2 / 8) (b:=(r.Splits.length:Int) + 1) q0 (by omega)
  obtain ⟨b,rfl⟩:∃ b:Nat,b'=(b:Int):=⟨b'.toNat,by omega⟩
  rw [w2,ea,nA,wLz h20 (by omega) (by omega),nA,wAb (x:=(r.Splits.length:Int) + 1) (by omega) (by omega),eb,nA]
  have ha:a < r.Starts.length:=by omega
  have hb:b <= r.Splits.length:=by omega
  have sp:wJq r ⟨(a:Int),(b:Int)⟩=true:=by
    simp only [wJq,inB,nE,decide_eq_true_eq]
    omega
  have c0:=wRo C
  have cE:wIy r [⟨(a:Int),(b:Int)⟩]=0:=by
    unfold wIy
    rw [if_pos c0,if_pos (by simp only [List.all_cons,List.all_nil,Bool.and_true,sp]),if_pos ⟨_,F⟩]
  have pa:=(wOr sp).1
  obtain ⟨f,hf⟩:=wQV S c0 ⟨_,F⟩ (a:=zp) (.inl rfl)
  obtain ⟨g,hg⟩:=wQV S c0 ⟨_,F⟩ pa
  rw [(wPu S ⟨(a:Int),(b:Int)⟩).2 cE f g hf hg,nA]
  simp only
  have rT:(gd T a).length=r.Splits.length + 1:=L.l a ha
  rw [wGN (by omega),nA,wGN (by omega),nA,if_pos trivial]
  have yk:yT T O ⟨(a:Int),(b:Int)⟩=gd (gd T a) b:=by
    unfold yT
    rw [if_neg (by simp only;omega)]
    simp only [nD]
  have yz:yT T O zp=0:=rfl
  have bd:∀ y,wDd r y->0 <= y ⟨(a:Int),(b:Int)⟩ - y zp/\y ⟨(a:Int),(b:Int)⟩ - y zp <= 300000:=fun y Y=>by
    have s:=wTU Y (s:=a) ha b hb
    have s0:=C.st _ (wBI ha)
    have s1:=h5 _ (wBI ha)
    have b1:=wKt (f:=fun j=>(gd r.Splits j).Lo) (b:=1190) (m:=b) fun q hq=>by
      have a:=C.sp _ (wBI (l:=r.Splits) (k:=q) (by omega))
      have b:=hsp _ (wBI (l:=r.Splits) (k:=q) (by omega))
      omega
    have b2:=wKt (f:=fun j=>(gd r.Splits j).Hi) (b:=1190) (m:=b) fun q hq=>by
      have a:=C.sp _ (wBI (l:=r.Splits) (k:=q) (by omega))
      have b:=hsp _ (wBI (l:=r.Splits) (k:=q) (by omega))
      omega
    omega
  have u1:gd (gd T a) b <= f (pt ⟨(a:Int),(b:Int)⟩):=by
    have:=hf.gr _ F _ pa
    have e1:yT T O (pt ⟨(a:Int),(b:Int)⟩)=gd (gd T a) b:=yk
    rw [e1,yz] at this
    omega
  have u2:-g zp <= gd (gd T a) b:=by
    have:=hg.gr _ F zp (.inl rfl)
    have e1:yT T O (pt ⟨(a:Int),(b:Int)⟩)=gd (gd T a) b:=yk
    rw [e1,yz] at this
    omega
  have u3:0 <= -g zp:=by
    have z:=hg.zero
    have:=(bd g hg.ok).1
    have z:g ⟨(a:Int),(b:Int)⟩=0:=z
    omega
  have u4:f (pt ⟨(a:Int),(b:Int)⟩) <= 300000:=by
    have z:=hf.zero
    have:=(bd f hf.ok).2
    have e1:f (pt ⟨(a:Int),(b:Int)⟩)=f ⟨(a:Int),(b:Int)⟩:=rfl
    omega
  generalize f (pt ⟨(a:Int),(b:Int)⟩)=hi at u1 u4
  generalize -g zp=lo at u2 u3
  generalize gd (gd T a) b=t at u1 u2
  rw [if_neg (by omega),if_neg (by omega),if_neg (by omega),if_neg (by omega)]
  have tos:∀ n:Int,0 <= n->n <= 300000->1 <= min (w64 (n / 100 + 1)) 10000/\min (w64 (n / 100 + 1)) 10000 <= 10000/\min (w64 (n / 100 + 1)) 10000=n / 100 + 1:=fun n n0 n1=>by
    have w:w64 (n / 100 + 1)=n / 100 + 1:=wAb (by omega) (by omega)
    rw [w]
    omega
  have each:∀ n:Int,0 <= n->n <= 300000->∃ hs ms e,wBZ l 0 (min (w64 (n / 100 + 1)) 10000)=some (hs,ms,e)/\hs.length=ms.length/\Run l (min (w64 (n / 100 + 1)) 10000) 0 ms e:=fun n n0 n1 =>
    wPl G (tos n n0 n1).1 (tos n n0 n1).2.1
  have gdd:∀ n:Int,0 <= n->n <= 300000->∀ hs ms e,wBZ l 0 (min (w64 (n / 100 + 1)) 10000)=some (hs,ms,e)->wBw l 0 (min (w64 (n / 100 + 1)) 10000)=some (if e < min (w64 (n / 100 + 1)) 10000 then ([],[],6) else (hs,ms,0)):=fun n n0 n1 hs ms e E=>by
    unfold wBw
    rw [wFb G (tos n n0 n1).1 (tos n n0 n1).2.1,nA,if_pos rfl,E,nA]
    simp only
    split <;> rfl
  obtain ⟨hs0,m0,e0,E0,L0,R0⟩:=each lo u3 (by omega)
  obtain ⟨hs1,m1,e1,E1,L1,R1⟩:=each t (by omega) (by omega)
  obtain ⟨hs2,m2,e2,E2,L2,R2⟩:=each hi (by omega) u4
  have hG:=G.n
  obtain ⟨y,ey,iy⟩:=wOt (S:=Arr Int 3) (B:=Bool) (n:=3) (body:=fun (k225:Nat) (a224:Arr Int 3) =>
              (chk (↑k225:Int) [lo,t,hi].length).bind fun _ =>
              (quo (gd [lo,t,hi] k225) 100).bind fun x250 =>
              (wCy l 0 (min (w64 (x250 + 1)) 10000)).bind fun (x254,x255) =>
              (wDq l 0 (min (w64 (x250 + 1)) 10000)).bind fun (x269,x270) =>
              (if x255=0 then
                if ((decide (x255=0)) == (decide (x270=6)))=true then
                  if x270=0 then
                    some (decide ((min (w64 (x250 + 1)) 10000) <= x269))
                  else
                    some false
                else
                  some true
              else
                if x255=6 then
                  if ((decide (x255=0)) == (decide (x270=6)))=true then
                    if x270=0 then
                      some (decide ((min (w64 (x250 + 1)) 10000) <= x269))
                    else
                      some false
                  else
                    some true
                else
                  some true).bind fun b280 =>
              if b280=true then
                esc (some false)
              else
                (chk (↑k225:Int) 3).bind fun _ =>
                if x255=0 then
                  some (.inl (a224.set k225 (↑x254.length:Int)))
                else
                  some (.inl ((a224.set k225 (↑x254.length:Int)).set k225 31))) (s0:=Arr.fill 3 0)
    (fun k a=>∀ j,j < k->a.get j=if j=0 then chN m0 e0 (min (w64 (lo / 100 + 1)) 10000) else if j=1 then chN m1 e1 (min (w64 (t / 100 + 1)) 10000) else chN m2 e2 (min (w64 (hi / 100 + 1)) 10000)) (fun j h=>by omega) (by omega) (by
    intro k a3 hk I
    obtain ⟨n,n0,n1,en,hs,ms,e,E,LE,R,ec⟩:∃ n:Int,0 <= n/\n <= 300000/\gd [lo,t,hi] k=n/\∃ hs ms e,wBZ l 0 (min (w64 (n / 100 + 1)) 10000)=some (hs,ms,e)/\hs.length=ms.length/\Run l (min (w64 (n / 100 + 1)) 10000) 0 ms e/\(if k=0 then chN m0 e0 (min (w64 (lo / 100 + 1)) 10000) else if k=1 then chN m1 e1 (min (w64 (t / 100 + 1)) 10000) else chN m2 e2 (min (w64 (hi / 100 + 1)) 10000))=chN ms e (min (w64 (n / 100 + 1)) 10000):=by
      match k,hk with
      | 0,_=>exact ⟨lo,u3,by omega,rfl,hs0,m0,e0,E0,L0,R0,rfl⟩
      | 1,_=>exact ⟨t,by omega,by omega,rfl,hs1,m1,e1,E1,L1,R1,rfl⟩
      | 2,_=>exact ⟨hi,by omega,u4,rfl,hs2,m2,e2,E2,L2,R2,rfl⟩
      | k + 3,h=>omega
    have le:=R.len
    have be:=R.end_le
    have tt:=tos n n0 n1
    have fin:∀ (v:Int) (A:Arr Int 3),(∀ j,A.get j=if j=k then v else a3.get j)->v=chN ms e (min (w64 (n / 100 + 1)) 10000)->∀ j,j < k + 1->A.get j=if j=0 then chN m0 e0 (min (w64 (lo / 100 + 1)) 10000) else if j=1 then chN m1 e1 (min (w64 (t / 100 + 1)) 10000) else chN m2 e2 (min (w64 (hi / 100 + 1)) 10000):=fun v A hA hv j hj=>by
      rw [hA j]
      by_cases c:j=k
      · rw [if_pos c,hv,c,ec]
      · rw [if_neg c];exact I j (by omega)
    rw [wBR (by omega) (by simp only [nB,nH];omega),nA,en,wLz n0 (by omega) (by omega),nA]
    unfold wCy wDq
    rw [gdd n n0 n1 hs ms e E,nA,wFb G tt.1 tt.2.1,nA,if_pos rfl,E,nA]
    simp only
    by_cases q:e < min (w64 (n / 100 + 1)) 10000
    · obtain ⟨z,ez,lz⟩:=wMA (x:=[]) (by simp)
      rw [if_pos q]
      simp only
      rw [ez,nA,nA]
      simp only
      rw [if_neg (by omega),nA]
      simp only
      rw [if_neg (by omega),if_pos trivial,if_pos (by simp),if_pos trivial,decide_eq_false (by omega),nA,if_neg (by simp),wBR (by omega) (by omega),nA,if_neg (by omega)]
      refine ⟨_,rfl,fin 31 _ (fun j=>?_) (by unfold chN;rw [if_pos q])⟩
      rw [arr3 _ (by omega),arr3 _ (by omega)]
      by_cases c:j=k
      · rw [if_pos c,if_pos c]
      · rw [if_neg c,if_neg c,if_neg c]
    · obtain ⟨z,ez,lz⟩:=wMA (x:=hs) (by omega)
      rw [if_neg q]
      simp only
      rw [ez,nA,nA]
      simp only
      rw [if_pos (by omega),nA]
      simp only
      rw [if_pos trivial,if_pos (by simp),if_neg (by omega),nA,if_neg (by simp),wBR (by omega) (by omega),nA,if_pos trivial]
      refine ⟨_,rfl,fin _ _ (fun j=>arr3 _ (by omega) _) (by unfold chN;rw [if_neg q,lz,LE])⟩)
  erw [ey]
  rw [wKD]
  have y0:=iy 0 (by omega)
  have y1:=iy 1 (by omega)
  have y2:=iy 2 (by omega)
  rw [if_pos rfl] at y0
  rw [if_neg (by omega),if_pos rfl] at y1
  rw [if_neg (by omega),if_neg (by omega)] at y2
  have t0:=tos lo u3 (by omega)
  have t1:=tos t (by omega) (by omega)
  have t2:=tos hi (by omega) u4
  have c01:=wMB G R0 R1 (by omega)
  have c12:=wMB G R1 R2 (by omega)
  rw [y0,y1,y2,if_neg (by omega),if_neg (by omega),wLz u3 (by omega) (by omega),nA]
  unfold wDh
  rw [gdd lo u3 (by omega) hs0 m0 e0 E0,nA]
  simp only
  rw [nA]
  simp only
  rw [wLz (by omega) (by omega) (by omega),nA]
  have mk:=R0.marks
  have ml:=R0.len
  have eb:=R0.end_le
  have show_:∀ M:List Int,M.length <= 14->((∀ i,i < M.length->0 <= gd M i/\gd M i < min (w64 (lo / 100 + 1)) 10000)/\∀ i,i + 1 < M.length->gd M i < gd M (i + 1)/\∀ h ∈ l,¬ (Cov h (gd M i)/\Cov h (gd M (i + 1))))->wBx l 0 (min (w64 (hi / 100 + 1)) 10000) M=some (true,0):=fun M hM hmk=>by
    unfold wBx
    rw [wFb G t2.1 t2.2.1,nA,if_pos rfl,wOX (by omega) fun k hk=>?_]
    · rfl
    · have m1:=hmk.1 k hk
      rw [wGN hk,nA,wEt,wAb (by omega) (by omega),nA,if_pos (decide_eq_true (by omega))]
      by_cases c:k=0
      · rw [if_pos (by omega)]
      · have m2:=hmk.2 (k - 1) (by omega)
        rw [show k - 1 + 1=k by omega] at m2
        rw [if_neg (by omega),wAb (by omega) (by omega),show (k:Int) - 1=((k - 1:Nat):Int) by omega,wGN (by omega),nA,if_neg (by omega),wJk (p:=fun _=>false) (fun h hh=>by
          unfold wBP
          rw [wHX,nA]
          by_cases c1:Cov h (gd M (k - 1))
          · rw [if_pos (decide_eq_true c1),wHX,nA,decide_eq_false fun c2=>m2.2 h hh ⟨c1,c2⟩]
          · rw [if_neg (by simpa using c1)]) (by omega),nA,if_neg (by simp)]
  by_cases q:e0 < min (w64 (lo / 100 + 1)) 10000
  · rw [if_pos q]
    simp only
    rw [show_ [] (by simp) ⟨fun i h=>by simp at h,fun i h=>by simp at h⟩,nA]
    simp only
    rw [if_neg (by omega),aw]
    rfl
  · rw [if_neg q]
    simp only
    rw [show_ m0 (by omega) mk,nA]
    simp only
    rw [if_pos trivial,if_pos trivial,if_pos trivial,if_pos (by unfold chN;rw [if_neg q]),aw]
    rfl
end Go.Proofs.YtkeeechdijfkhaaGreat
