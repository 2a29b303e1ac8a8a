import Derived.Test.YtlnfbjphfoipaaaGreatS1
set_option linter.all false
open Option renaming bind_some->hD
open List renaming length_map->hH,length_nil->hJ,set->nA,length_cons->nE
open Bool renaming not_eq_true'->hU,true_and->nI
open Int renaming toNat_of_nonneg->nB,toNat_natCast->nD,le_trans->nG,natCast_nonneg->nK
open Nat renaming mul_le_mul->nH,zero_add->nJ
namespace Go.Proofs.YtlnfbjphfoipaaaGreat
open Go.KL Go.KL.Net Go.KL.Floyd
def cv (r:wAA):wAI:=⟨r.Starts,r.Splits,r.Clocks.map fun x=>⟨x.Offset,x.Error⟩,r.Readings.map fun x=>⟨x.Skier,x.Mat,x.Clock,x.Time⟩⟩
def plc (r:wAA) (p:Pt):Nat:=if p.skier=-1 then (if p.mat=0 then 0 else r.Starts.length * (r.Splits.length + 1) + p.mat.toNat) else 1 + p.skier.toNat * (r.Splits.length + 1) + p.mat.toNat
def np (r:wAA):Nat:=1 + r.Starts.length * (r.Splits.length + 1) + r.Clocks.length
def unp (r:wAA) (v:Nat):Pt:=if v=0 then zp else if v <= r.Starts.length * (r.Splits.length + 1) then ⟨((v - 1) / (r.Splits.length + 1):Nat),((v - 1) % (r.Splits.length + 1):Nat)⟩ else ⟨-1,(v - r.Starts.length * (r.Splits.length + 1):Nat)⟩
theorem wLy {r:wAA} (C:RC r):np r <= 69:=by
 have h:r.Starts.length * (r.Splits.length + 1) <= 8 * 8:=nH C.n.2 (by have:=C.m;omega)
 have:=C.c
 unfold np
 omega
theorem wNG {r:wAA} {s k:Nat} (h1:s < r.Starts.length) (h2:k <= r.Splits.length):s * (r.Splits.length + 1) + k < r.Starts.length * (r.Splits.length + 1):=by
 have:(s + 1) * (r.Splits.length + 1) <= r.Starts.length * (r.Splits.length + 1):=Nat.mul_le_mul_right _ h1
 rw [Nat.add_mul] at this
 omega
theorem wPF (r:wAA):plc r zp=0:=rfl
theorem wIn {r:wAA} {s k:Int} (h0:0 <= s):plc r ⟨s,k⟩=1 + s.toNat * (r.Splits.length + 1) + k.toNat:=if_neg (by simp only;omega)
theorem wGn {r:wAA} {k:Int} (h0:1 <= k):plc r ⟨-1,k⟩=r.Starts.length * (r.Splits.length + 1) + k.toNat:=(if_pos rfl).trans (if_neg (by simp only;omega))
theorem wCz {r:wAA} {p:Pt} (hp:wFG r p):plc r p < np r:=by
 unfold np
 rcases hp with rfl | ⟨a,b,c,d⟩ | ⟨a,b,c⟩
 ·rw [wPF];omega
 ·have e:p=⟨p.skier,p.mat⟩:=rfl
  rw [e,wIn a]
  have:=wNG (r:=r) (s:=p.skier.toNat) (k:=p.mat.toNat) (by omega) (by omega)
  omega
 ·have e:p=⟨-1,p.mat⟩:=by rw [<- a]
  rw [e,wGn b]
  omega
theorem wHD {r:wAA} {p:Pt} (hp:wFG r p):unp r (plc r p)=p:=by
 rcases hp with rfl | ⟨a,b,c,d⟩ | ⟨a,b,c⟩
 ·rfl
 ·have e:p=⟨p.skier,p.mat⟩:=rfl
  rw [e,wIn a]
  have h:=wNG (r:=r) (s:=p.skier.toNat) (k:=p.mat.toNat) (by omega) (by omega)
  unfold unp
  rw [if_neg (by omega),if_pos (by omega)]
  have e1:1 + p.skier.toNat * (r.Splits.length + 1) + p.mat.toNat - 1=p.mat.toNat + p.skier.toNat * (r.Splits.length + 1):=by omega
  have e2:(p.mat.toNat + p.skier.toNat * (r.Splits.length + 1)) / (r.Splits.length + 1)=p.skier.toNat:=by
   rw [Nat.add_mul_div_right _ _ (by omega),Nat.div_eq_of_lt (by omega),nJ]
  have e3:(p.mat.toNat + p.skier.toNat * (r.Splits.length + 1)) % (r.Splits.length + 1)=p.mat.toNat:=by
   rw [Nat.add_mul_mod_self_right,Nat.mod_eq_of_lt (by omega)]
  rw [e1,e2,e3,nB a,nB c]
 ·have e:p=⟨-1,p.mat⟩:=by rw [<- a]
  rw [e,wGn b]
  unfold unp
  rw [if_neg (by omega),if_neg (by omega)]
  have e1:r.Starts.length * (r.Splits.length + 1) + p.mat.toNat - r.Starts.length * (r.Splits.length + 1)=p.mat.toNat:=by omega
  rw [e1,nB (by omega)]
theorem wNH {r:wAA} {v:Nat} (hv:v < np r):wFG r (unp r v):=by
 unfold np at hv
 unfold unp
 by_cases c:v=0
 ·rw [if_pos c];exact .inl rfl
 ·rw [if_neg c]
  by_cases d:v <= r.Starts.length * (r.Splits.length + 1)
  ·rw [if_pos d]
   have h1:(v - 1) / (r.Splits.length + 1) < r.Starts.length:=by
    rw [Nat.div_lt_iff_lt_mul (by omega)];omega
   have h2:(v - 1) % (r.Splits.length + 1) < r.Splits.length + 1:=Nat.mod_lt _ (by omega)
   exact .inr (.inl ⟨nK _,Int.ofNat_lt.2 h1,nK _,Int.ofNat_le.2 (Nat.lt_succ_iff.1 h2)⟩)
  ·rw [if_neg d]
   exact .inr (.inr ⟨rfl,by simp only;omega,by simp only;omega⟩)
theorem wIo {r:wAA} {p q:Pt} (hp:wFG r p) (hq:wFG r q) (h:plc r p=plc r q):p=q:=by
 rw [<- wHD hp,<- wHD hq,h]
section
variable {r:wAA} (C:RC r)
include C
theorem wPG {s k:Int} (h0:0 <= s) (h1:s <= r.Starts.length) (k0:0 <= k) (k1:k <= 100):wAV (cv r) s k=some ((1 + s.toNat * (r.Splits.length + 1) + k.toNat:Nat):Int):=by
 have hm:=C.m;have hn:=C.n
 obtain ⟨s,rfl⟩:=Int.eq_ofNat_of_zero_le h0
 have hb:s * (r.Splits.length + 1) <= 8 * 8:=nH (by omega) (by omega)
 have e:(s:Int) * ((r.Splits.length:Int) + 1)=((s * (r.Splits.length + 1):Nat):Int):=by simp
 unfold wAV
 show some (w64 ((w64 (1 + (w64 ((s:Int) * (w64 ((r.Splits.length:Int) + 1)))))) + k))=_
 rw [wAb (x:=(r.Splits.length:Int) + 1) (by omega) (by omega),e,wAb (x:=((s * (r.Splits.length + 1):Nat):Int)) (by omega) (by omega),wAb (x:=1 + _) (by omega) (by omega),wAb (by omega) (by omega),nD]
 congr 1
 omega
theorem wDy {s k:Int} (h0:0 <= s) (h1:s < r.Starts.length) (k0:0 <= k) (k1:k <= r.Splits.length):wAV (cv r) s k=some (plc r ⟨s,k⟩:Int):=by
 have:=C.m
 rw [wPG C h0 (by omega) k0 (by omega),wIn h0]
theorem wGo {i:Int} (h0:0 <= i) (h1:i <= r.Clocks.length):wAl (cv r) i=some (plc r ⟨-1,1 + i⟩:Int):=by
 have hc:=C.c
 have hb:r.Starts.length * (r.Splits.length + 1) <= 8 * 8:=nH C.n.2 (by have:=C.m;omega)
 unfold wAl
 show (wAV (cv r) (r.Starts.length:Int) 0).bind _=_
 rw [wPG C (by omega) (Int.le_refl _) (by omega) (by omega),hD,wGn (by omega),nD,wAb (by omega) (by omega)]
 congr 1
 omega
theorem wJT:wBp (cv r)=some (np r:Int):=by
 unfold wBp
 show (wAl (cv r) ((r.Clocks.map _).length:Int)).bind _=_
 rw [hH,wGo C (by omega) (Int.le_refl _),hD,wGn (by omega)]
 unfold np
 congr 1
 omega
end
theorem wNv {n:Nat} {t:List (List Int)} (M:Mx n t) {a b:Nat} (ha:a < n) (hb:b < n) (hab:a ≠ b) (u v:Int):∃ t',wAU ⟨t⟩ (a:Int) (b:Int) u v=some t'/\Mx n t'/\∀ i j,i < n->j < n->mx t' i j=if i=a/\j=b then min (mx t a b) u else if i=b/\j=a then min (mx t b a) v else mx t i j:=by
 obtain ⟨M1,g1⟩:=M.put ha hb (min (mx t a b) u)
 have e1:mx (nA t a (nA (gd t a) b (min (mx t a b) u))) b a=mx t b a:=by rw [g1 b a hb ha,if_neg (by omega)]
 obtain ⟨M2,g2⟩:=M1.put hb ha (min (mx t b a) v)
 refine ⟨_,?_,M2,fun i j hi hj=>?_⟩
 ·unfold wAU
  simp only [nD]
  have r1:=M.rows;have r2:=M1.rows
  have c1:=M.cols a ha;have c2:=M1.cols b hb
  rw [wDm (by omega) (by omega),hD,wDm (by omega) (by omega),hD,wDm (by omega) (by omega),hD]
  rw [show min (gd (gd t a) b) u=min (mx t a b) u from rfl,wDm (by omega) (by omega),hD,wDm (by omega) (by omega),hD]
  rw [show gd (gd (nA t a (nA (gd t a) b (min (mx t a b) u))) b) a=mx t b a from e1]
 ·rw [g2 i j hi hj]
  by_cases c:i=b/\j=a
  ·rw [if_pos c,if_neg (by omega),if_pos c]
  ·rw [if_neg c,g1 i j hi hj,if_neg c]
structure Gt (r:wAA) (X:wAC->Prop) (t:List (List Int)):Prop where
 m:Mx (np r) t
 b0:∀ a b,a < np r->b < np r->mx t a b=1125899906842624 \/ (-400000 <= mx t a b/\mx t a b <= 400000)
 d0:∀ a,a < np r->mx t a a=0
 fe:∀ y,wEN r y->∀ a b,a < np r->b < np r->y (unp r b) - y (unp r a) <= mx t a b
 le:∀ x,wBB r x->X x->mx t (plc r (wBy r x).1) (plc r (wBy r x).2.1) <= (wBy r x).2.2
theorem wNw {r:wAA} (C:RC r) {x:wAC} (h:wBB r x):(wBy r x).1 ≠ (wBy r x).2.1:=by
 have key:(wCk r x).1 ≠ (wCk r x).2.1:=by
  unfold wCk
  rcases h with ⟨k,a,b,c⟩ | ⟨k,a,b,c,d⟩ | ⟨k,a,c,d⟩ | ⟨k,a,c,d⟩
  ·rw [if_pos k]
   intro e
   have:=congrArg wAH.skier e
   simp only [zp] at this
   omega
  ·rw [if_neg (by omega),if_pos k]
   intro e
   have:=congrArg wAH.mat e
   simp only at this
   omega
  ·rw [if_neg (by omega),if_neg (by omega),if_pos k]
   intro e
   have:=congrArg wAH.mat e
   simp only [zp] at this
   omega
  ·have u:=C.ru _ (wCj c d)
   rw [if_neg (by omega),if_neg (by omega),if_neg (by omega)]
   intro e
   have:=congrArg wAH.skier e
   simp only at this
   omega
 unfold wBy
 split
 ·exact key
 ·exact fun e=>key e.symm
theorem wNx {r:wAA} {x:wAC} (h:x.Up=true):wBy r x=((wCk r x).1,(wCk r x).2.1,(wCk r x).2.2.1)/\wBy r (wNk x)=((wCk r x).2.1,(wCk r x).1,(wCk r x).2.2.2):=by
 obtain ⟨k,s,i,u⟩:=x
 simp only at h
 subst h
 exact ⟨rfl,rfl⟩
theorem Gt.both {r:wAA} (C:RC r) {X X':wAC->Prop} {t:List (List Int)} (G:Gt r X t) {x:wAC} (hx:wBB r x) (hu:x.Up=true) (hX:∀ z,wBB r z->X' z->X z \/ z=x \/ z=wNk x) :
  ∃ t',wAU ⟨t⟩ (plc r (wCk r x).1:Int) (plc r (wCk r x).2.1:Int) (wCk r x).2.2.1 (wCk r x).2.2.2=some t'/\Gt r X' t':=by
 obtain ⟨e1,e2⟩:=wNx (r:=r) hu
 obtain ⟨o1,o2,c1,c2⟩:=wCm C hx
 obtain ⟨tk,_,_⟩:=wLn (r:=r) hx
 obtain ⟨_,_,c3,c4⟩:=wCm C tk
 have hne:=wNw C hx
 rw [e1] at o1 o2 c1 c2 hne
 rw [e2] at c3 c4
 simp only at o1 o2 c1 c2 c3 c4 hne
 have ha:=wCz o1
 have hb:=wCz o2
 have hab:plc r (wCk r x).1 ≠ plc r (wCk r x).2.1:=fun h=>hne (wIo o1 o2 h)
 obtain ⟨t',e,M,g⟩:=wNv G.m ha hb hab (wCk r x).2.2.1 (wCk r x).2.2.2
 have up1:=wHD o1
 have up2:=wHD o2
 have hl1:∀ y,wEN r y->y (wCk r x).2.1 <= y (wCk r x).1 + (wCk r x).2.2.1:=fun y F=>by have:=F x hx;rw [e1] at this;exact this
 have hl2:∀ y,wEN r y->y (wCk r x).1 <= y (wCk r x).2.1 + (wCk r x).2.2.2:=fun y F=>by have:=F _ tk;rw [e2] at this;exact this
 generalize hA:plc r (wCk r x).1=A at *
 generalize hB:plc r (wCk r x).2.1=B at *
 refine ⟨t',e,M,fun a b ha' hb'=>?_,fun a ha'=>?_,fun y F a b ha' hb'=>?_,fun z hz hXz=>?_⟩
 ·rw [g a b ha' hb']
  have:=G.b0 A B ha hb
  have:=G.b0 B A hb ha
  split
  ·omega
  ·split
   ·omega
   ·exact G.b0 a b ha' hb'
 ·rw [g a a ha' ha',if_neg (by omega),if_neg (by omega)]
  exact G.d0 a ha'
 ·rw [g a b ha' hb']
  have f1:=G.fe y F A B ha hb
  have f2:=G.fe y F B A hb ha
  have h1:=hl1 y F
  have h2:=hl2 y F
  rw [up1,up2] at f1 f2
  split
  ·rename_i h
   rw [h.1,h.2,up1,up2];omega
  ·split
   ·rename_i h
    rw [h.1,h.2,up1,up2];omega
   ·exact G.fe y F a b ha' hb'
 ·obtain ⟨z1,z2,_,_⟩:=wCm C hz
  have p1:=wCz z1
  have p2:=wCz z2
  rcases hX z hz hXz with h | rfl | rfl
  ·have old:=G.le z hz h
   rw [g _ _ p1 p2]
   split
   ·rename_i q
    rw [q.1,q.2] at old
    omega
   ·split
    ·rename_i q
     rw [q.1,q.2] at old
     omega
    ·exact old
  ·rw [e1]
   simp only
   rw [hA,hB,g _ _ ha hb,if_pos ⟨rfl,rfl⟩]
   exact Int.min_le_right _ _
  ·rw [e2]
   simp only
   rw [hA,hB,g _ _ hb ha,if_neg (fun h=>hab h.1.symm),if_pos ⟨rfl,rfl⟩]
   exact Int.min_le_right _ _
end Go.Proofs.YtlnfbjphfoipaaaGreat
namespace Go.Proofs.YtlnfbjphfoipaaaGreat
open Go.KL Go.KL.Net Go.KL.Floyd
theorem wMi {n:Nat} (hn:n <= 100):∃ t,(wCF 0 (n:Int) (fun k38 l32 =>
  (mkz 8 (n:Int) (0:Int)).bind fun x64 =>
  (wCF 0 (n:Int) (fun k78 l77 =>
   if (↑k38:Int)=(↑k78:Int) then
    some l77
   else
    (chk (↑k78:Int) l77.length).bind fun _ =>
    some (nA l77 k78 1125899906842624)) x64).bind fun y83 =>
  (app 24 l32 [y83]).bind fun x140 =>
  some x140) ([]:List (List Int)))=some t/\Mx n t/\∀ a b,a < n->b < n->mx t a b=if a=b then 0 else 1125899906842624:=by
 have row:∀ k:Nat,∃ l:List Int,(wCF 0 (n:Int) (fun k78 l77 =>
   if (↑k:Int)=(↑k78:Int) then
    some l77
   else
    (chk (↑k78:Int) l77.length).bind fun _ =>
    some (nA l77 k78 1125899906842624)) (List.replicate (n:Int).toNat (0:Int)))=some l/\l.length=n/\∀ b,b < n->gd l b=if k=b then 0 else 1125899906842624:=by
  intro k
  rw [wCo (by omega)]
  obtain ⟨l,e,l1,l2⟩:=wDh (body:=fun (k78:Nat) (l77:List Int) =>
   if (↑k:Int)=(↑k78:Int) then
    some l77
   else
    (chk (↑k78:Int) l77.length).bind fun _ =>
    some (nA l77 k78 1125899906842624)) (fun i s=>s.length=n/\∀ b,b < n->gd s b=if b < i then (if k=b then 0 else 1125899906842624) else 0) n 0 (List.replicate (n:Int).toNat (0:Int)) ⟨by simp,fun b hb=>by rw [if_neg (by omega),wHd (by simpa using hb)];simp⟩ (by
   rintro i s _ hi ⟨s1,s2⟩
   by_cases c:k=i
   ·refine ⟨s,by rw [if_pos (by omega)],s1,fun b hb=>?_⟩
    rw [s2 b hb]
    by_cases d:b < i
    ·rw [if_pos d,if_pos (show b < i + 1 by omega)]
    ·by_cases e:b=i
     ·rw [if_neg d,if_pos (show b < i + 1 by omega),if_pos (show k=b by omega)]
     ·rw [if_neg d,if_neg (show ¬ b < i + 1 by omega)]
   ·refine ⟨_,by rw [if_neg (by omega),wDm (by omega) (by omega)];rfl,by simp [s1],fun b hb=>?_⟩
    rw [wFW (by omega) (by omega),s2 b hb]
    by_cases e:b=i
    ·rw [if_pos e,if_pos (show b < i + 1 by omega),if_neg (show ¬ k=b by omega)]
    ·by_cases d:b < i
     ·rw [if_neg e,if_pos d,if_pos (show b < i + 1 by omega)]
     ·rw [if_neg e,if_neg d,if_neg (show ¬ b < i + 1 by omega)])
  rw [nJ] at l2
  exact ⟨l,e,l1,fun b hb=>by rw [l2 b hb,if_pos hb]⟩
 rw [wCo (by omega)]
 obtain ⟨t,e,t1,t2⟩:=wDh (body:=fun (k38:Nat) (l32:List (List Int)) =>
  (mkz 8 (n:Int) (0:Int)).bind fun x64 =>
  (wCF 0 (n:Int) (fun k78 l77 =>
   if (↑k38:Int)=(↑k78:Int) then
    some l77
   else
    (chk (↑k78:Int) l77.length).bind fun _ =>
    some (nA l77 k78 1125899906842624)) x64).bind fun y83 =>
  (app 24 l32 [y83]).bind fun x140 =>
  some x140) (fun i s=>s.length=i/\∀ a,a < i->(gd s a).length=n/\∀ b,b < n->gd (gd s a) b=if a=b then 0 else 1125899906842624) n 0 [] ⟨rfl,fun a ha=>by omega⟩ (by
  rintro i s _ hi ⟨s1,s2⟩
  obtain ⟨l,e,l1,l2⟩:=row i
  rw [mkz,if_pos (by omega),hD,e,hD,wFV (by simp only [nE,hJ];omega),hD]
  refine ⟨_,rfl,by simp [s1],fun a ha=>?_⟩
  by_cases c:a=i
  ·subst c
   have e2:gd (s ++ [l]) a=l:=by rw [<- s1];exact wMZ s [] l
   rw [e2]
   exact ⟨l1,l2⟩
  ·rw [wIf (by omega)]
   exact s2 a (by omega))
 rw [nJ] at t1 t2
 exact ⟨t,e,⟨t1,fun a ha=>(t2 a ha).1⟩,fun a b ha hb=>(t2 a ha).2 b hb⟩
def done (s0 s1 j c q:Int) (x:wAC):Prop:=(x.Kind=0/\x.Skier < s0) \/ (x.Kind=1/\(x.Skier < s1 \/ (x.Skier=s1/\x.Index < j))) \/ (x.Kind=2/\x.Index < c) \/ (x.Kind=3/\x.Index < q)
theorem Gt.weak {r:wAA} {X X':wAC->Prop} {t:List (List Int)} (G:Gt r X t) (h:∀ z,wBB r z->X' z->X z):Gt r X' t:=⟨G.m,G.b0,G.d0,G.fe,fun z hz hX=>G.le z hz (h z hz hX)⟩
theorem wGp {z:wAC} {k s i:Int} (h1:z.Kind=k) (h2:z.Skier=s) (h3:z.Index=i):z=⟨k,s,i,true⟩ \/ z=wNk ⟨k,s,i,true⟩:=by
 obtain ⟨a,b,c,u⟩:=z
 simp only at h1 h2 h3
 subst h1 h2 h3
 cases u
 ·exact .inr rfl
 ·exact .inl rfl
structure Tab (r:wAA) (T:List (List Int)):Prop where
 ex:∃ t,Gt r (fun _=>True) t/\Fl (np r) t T (np r)
section
variable {r:wAA} (C:RC r)
include C
theorem wMj {t:List (List Int)} (G:Gt r (fun _=>True) t):∃ T,((wCF 0 (np r:Int) (fun k561 l560=>rB (np r) k561 l560) t).bind fun y566=>some y566)=some T/\Tab r T:=by
 obtain ⟨T,e,F⟩:=wMh (n:=np r) (by have:=wLy C;omega) G.m G.b0
 exact ⟨T,by rw [e];rfl,⟨t,G,F⟩⟩
def rdB (r:wAA):(List (List Int) × Int)->Option ((List (List Int) × Int) ⊕ List (List Int)):=fun (l449,x450) =>
            if x450 < (↑(cv r).Readings.length:Int) then
              (idx (cv r).Readings x450).bind fun x468 =>
              (idx (cv r).Clocks x468.Clock).bind fun x487 =>
              (wAl (cv r) x468.Clock).bind fun x511 =>
              (wAV (cv r) x468.Skier x468.Mat).bind fun x525 =>
              (wAU (⟨l449⟩:wAa) x511 x525 (w64 (x468.Time + x487.Error)) (w64 (x487.Error - x468.Time))).bind fun x535 =>
              some (.inl (x535,w64 (x450 + 1)))
            else
              esc ((wCF 0 (np r:Int) (fun k561 l560=>rB (np r) k561 l560) l449).bind fun y566=>some y566)
theorem rd_is {t:List (List Int)} (G:Gt r (done r.Starts.length r.Starts.length 0 r.Clocks.length 0) t):∃ T,iter (rdB r) big (t,0)=some T/\Tab r T:=by
 have hq:=C.q
 have hl:(cv r).Readings.length=r.Readings.length:=hH ..
 refine wFv (I:=fun i (s:List (List Int) × Int)=>s.2=(i:Int)/\Gt r (done r.Starts.length r.Starts.length 0 r.Clocks.length i) s.1) (Z:=Tab r) r.Readings.length ?_ ⟨rfl,G⟩ (by omega)
 rintro i ⟨t,x⟩ hi ⟨rfl,G⟩
 unfold rdB
 simp only [hl]
 by_cases c:(i:Int) < (r.Readings.length:Int)
 ·left
  have hi':i < r.Readings.length:=by omega
  have hm:=wCl hi'
  obtain ⟨u1,u2,u3,u4,u5,u6⟩:=C.ru _ hm
  have ut:=C.rt _ hm
  have uc:=C.ck _ (wCj u5 u6)
  obtain ⟨t',e,G'⟩:=G.both C (x:=⟨3,0,(i:Int),true⟩) (X':=done r.Starts.length r.Starts.length 0 r.Clocks.length ((i + 1:Nat):Int)) (.inr (.inr (.inr ⟨rfl,rfl,by simp only;omega,by simp only;omega⟩))) rfl fun z hz hX=>by
   unfold wBB at hz
   unfold done at hX ⊢
   by_cases q:z.Kind=3/\z.Index=(i:Int)
   ·exact .inr (wGp q.1 (by omega) q.2)
   ·left;omega
  have e1:idx (cv r).Readings (i:Int)=some ⟨(gd r.Readings i).Skier,(gd r.Readings i).Mat,(gd r.Readings i).Clock,(gd r.Readings i).Time⟩:=by
   rw [wCB (by rw [hl];exact hi')]
   exact congrArg some (wEu _ hi')
  have e2:idx (cv r).Clocks (gd r.Readings i).Clock=some ⟨(gd r.Clocks (gd r.Readings i).Clock.toNat).Offset,(gd r.Clocks (gd r.Readings i).Clock.toNat).Error⟩:=by
   rw [wEv u5 (by show _ < ((r.Clocks.map _).length:Int);rw [hH];exact u6)]
   exact congrArg some (wEu _ (by omega))
  have w1:w64 ((gd r.Readings i).Time + (gd r.Clocks (gd r.Readings i).Clock.toNat).Error)=(gd r.Readings i).Time + (gd r.Clocks (gd r.Readings i).Clock.toNat).Error:=wAb (by omega) (by omega)
  have w2:w64 ((gd r.Clocks (gd r.Readings i).Clock.toNat).Error - (gd r.Readings i).Time)=(gd r.Clocks (gd r.Readings i).Clock.toNat).Error - (gd r.Readings i).Time:=wAb (by omega) (by omega)
  refine ⟨hi',(t',((i + 1:Nat):Int)),?_,rfl,G'⟩
  rw [if_pos c,e1,hD]
  simp only
  rw [e2,hD,wGo C u5 (by omega),hD,wDy C u1 u2 u3 u4,hD]
  simp only
  rw [w1,w2,wAb (by omega) (by omega)]
  have e':wAU (⟨t⟩:wAa) (plc r ⟨-1,1 + (gd r.Readings i).Clock⟩:Int) (plc r ⟨(gd r.Readings i).Skier,(gd r.Readings i).Mat⟩:Int) ((gd r.Readings i).Time + (gd r.Clocks (gd r.Readings i).Clock.toNat).Error) ((gd r.Clocks (gd r.Readings i).Clock.toNat).Error - (gd r.Readings i).Time)=some t':=e
  rw [e']
  rfl
 ·right
  have hi':i=r.Readings.length:=by omega
  obtain ⟨T,e,hT⟩:=wMj C (G.weak fun z hz _=>by unfold wBB at hz;unfold done;omega)
  exact ⟨T,by rw [if_neg c,e];rfl,hT⟩
def ckB (r:wAA):(List (List Int) × Int)->Option ((List (List Int) × Int) ⊕ List (List Int)):=fun (l366,x367) =>
        if x367 < (↑(cv r).Clocks.length:Int) then
          (idx (cv r).Clocks x367).bind fun x387 =>
          (wAl (cv r) x367).bind fun x414 =>
          (wAU (⟨l366⟩:wAa) 0 x414 (w64 (-x387.Offset.Lo)) x387.Offset.Hi).bind fun x424 =>
          some (.inl (x424,w64 (x367 + 1)))
        else
          esc (iter (rdB r) big (l366,0))
theorem ck_is {t:List (List Int)} (G:Gt r (done r.Starts.length r.Starts.length 0 0 0) t):∃ T,iter (ckB r) big (t,0)=some T/\Tab r T:=by
 have hq:=C.c
 have hl:(cv r).Clocks.length=r.Clocks.length:=hH ..
 refine wFv (I:=fun i (s:List (List Int) × Int)=>s.2=(i:Int)/\Gt r (done r.Starts.length r.Starts.length 0 i 0) s.1) (Z:=Tab r) r.Clocks.length ?_ ⟨rfl,G⟩ (by omega)
 rintro i ⟨t,x⟩ hi ⟨rfl,G⟩
 unfold ckB
 simp only [hl]
 by_cases c:(i:Int) < (r.Clocks.length:Int)
 ·left
  have hi':i < r.Clocks.length:=by omega
  have uc:=C.ck _ (wCl hi')
  obtain ⟨t',e,G'⟩:=G.both C (x:=⟨2,0,(i:Int),true⟩) (X':=done r.Starts.length r.Starts.length 0 ((i + 1:Nat):Int) 0) (.inr (.inr (.inl ⟨rfl,rfl,by simp only;omega,by simp only;omega⟩))) rfl fun z hz hX=>by
   unfold wBB at hz
   unfold done at hX ⊢
   by_cases q:z.Kind=2/\z.Index=(i:Int)
   ·exact .inr (wGp q.1 (by omega) q.2)
   ·left;omega
  have e2:idx (cv r).Clocks (i:Int)=some ⟨(gd r.Clocks i).Offset,(gd r.Clocks i).Error⟩:=by
   rw [wCB (by rw [hl];exact hi')]
   exact congrArg some (wEu _ hi')
  refine ⟨hi',(t',((i + 1:Nat):Int)),?_,rfl,G'⟩
  rw [if_pos c,e2,hD,wGo C (by omega) (by omega),hD]
  simp only
  rw [wAb (x:=-(gd r.Clocks i).Offset.Lo) (by omega) (by omega),wAb (by omega) (by omega)]
  have e':wAU (⟨t⟩:wAa) 0 (plc r ⟨-1,1 + (i:Int)⟩:Int) (-(gd r.Clocks i).Offset.Lo) (gd r.Clocks i).Offset.Hi=some t':=e
  rw [e']
  rfl
 ·right
  have hi':i=r.Clocks.length:=by omega
  obtain ⟨T,e,hT⟩:=rd_is C (G.weak fun z hz hX=>by unfold wBB at hz;unfold done at hX ⊢;omega)
  exact ⟨T,by rw [if_neg c,e];rfl,hT⟩
def spB' (r:wAA) (x194:Int):(List (List Int) × Int)->Option ((List (List Int) × Int) ⊕ ((List (List Int) × Int) ⊕ List (List Int))):=fun (l266,x267) =>
        if x267 < (↑(cv r).Splits.length:Int) then
          (idx (cv r).Splits x267).bind fun x288 =>
          (wAV (cv r) x194 x267).bind fun x311 =>
          (wAV (cv r) x194 (w64 (x267 + 1))).bind fun x325 =>
          (wAU (⟨l266⟩:wAa) x311 x325 x288.Hi (w64 (-x288.Lo))).bind fun x335 =>
          some (.inl (x335,w64 (x267 + 1)))
        else
          esc (some (.inl (l266,w64 (x194 + 1))))
def stB (r:wAA):(List (List Int) × Int)->Option ((List (List Int) × Int) ⊕ List (List Int)):=fun (l193,x194) =>
  if x194 < (↑(cv r).Starts.length:Int) then
   (idx (cv r).Starts x194).bind fun x214 =>
   (wAV (cv r) x194 0).bind fun x237 =>
   (wAU (⟨l193⟩:wAa) 0 x237 x214 (w64 (-x214))).bind fun x247 =>
   iter (spB' r x194) big (x247,0)
  else
   esc (iter (ckB r) big (l193,0))
theorem sp_is {k:Nat} (hk:k < r.Starts.length) {t:List (List Int)} (G:Gt r (done ((k + 1:Nat):Int) k 0 0 0) t):∃ b,iter (spB' r (k:Int)) big (t,0)=some b/\∃ t',b=.inl (t',((k + 1:Nat):Int))/\Gt r (done ((k + 1:Nat):Int) ((k + 1:Nat):Int) 0 0 0) t':=by
 have hm:=C.m;have hn:=C.n
 refine wFv (I:=fun i (s:List (List Int) × Int)=>s.2=(i:Int)/\Gt r (done ((k + 1:Nat):Int) k i 0 0) s.1) (Z:=fun (b:(List (List Int) × Int) ⊕ List (List Int))=>∃ t',b=.inl (t',((k + 1:Nat):Int))/\Gt r (done ((k + 1:Nat):Int) ((k + 1:Nat):Int) 0 0 0) t') r.Splits.length ?_ ⟨rfl,G⟩ (by omega)
 rintro i ⟨t,x⟩ hi ⟨rfl,G⟩
 unfold spB'
 simp only [show (cv r).Splits=r.Splits from rfl]
 by_cases c:(i:Int) < (r.Splits.length:Int)
 ·left
  have hi':i < r.Splits.length:=by omega
  have uc:=C.sp _ (wCl hi')
  obtain ⟨t',e,G'⟩:=G.both C (x:=⟨1,(k:Int),(i:Int),true⟩) (X':=done ((k + 1:Nat):Int) k ((i + 1:Nat):Int) 0 0) (.inr (.inl ⟨rfl,by simp only;omega,by simp only;omega,by simp only;omega,by simp only;omega⟩)) rfl fun z hz hX=>by
   unfold wBB at hz
   unfold done at hX ⊢
   by_cases q:z.Kind=1/\z.Skier=(k:Int)/\z.Index=(i:Int)
   ·exact .inr (wGp q.1 q.2.1 q.2.2)
   ·left;omega
  refine ⟨hi',(t',((i + 1:Nat):Int)),?_,rfl,G'⟩
  rw [if_pos c,wCB hi',hD,wAb (x:=(i:Int) + 1) (by omega) (by omega),wDy C (by omega) (by omega) (by omega) (by omega),hD,wDy C (by omega) (by omega) (by omega) (by omega),hD,wAb (by omega) (by omega)]
  have e':wAU (⟨t⟩:wAa) (plc r ⟨(k:Int),(i:Int)⟩:Int) (plc r ⟨(k:Int),(i:Int) + 1⟩:Int) (gd r.Splits i).Hi (-(gd r.Splits i).Lo)=some t':=e
  rw [e']
  rfl
 ·right
  have hi':i=r.Splits.length:=by omega
  refine ⟨.inl (t,((k + 1:Nat):Int)),by rw [if_neg c,wAb (by omega) (by omega)];rfl,t,rfl,G.weak fun z hz hX=>by unfold wBB at hz;unfold done at hX ⊢;omega⟩
theorem st_is {t:List (List Int)} (G:Gt r (done 0 0 0 0 0) t):∃ T,iter (stB r) big (t,0)=some T/\Tab r T:=by
 have hn:=C.n
 refine wFv (I:=fun i (s:List (List Int) × Int)=>s.2=(i:Int)/\Gt r (done i i 0 0 0) s.1) (Z:=Tab r) r.Starts.length ?_ ⟨rfl,G⟩ (by omega)
 rintro i ⟨t,x⟩ hi ⟨rfl,G⟩
 unfold stB
 simp only [show (cv r).Starts=r.Starts from rfl]
 by_cases c:(i:Int) < (r.Starts.length:Int)
 ·left
  have hi':i < r.Starts.length:=by omega
  have uc:=C.st _ (wCl hi')
  obtain ⟨t',e,G'⟩:=G.both C (x:=⟨0,(i:Int),0,true⟩) (X':=done ((i + 1:Nat):Int) i 0 0 0) (.inl ⟨rfl,by simp only;omega,by simp only;omega,rfl⟩) rfl fun z hz hX=>by
   unfold wBB at hz
   unfold done at hX ⊢
   by_cases q:z.Kind=0/\z.Skier=(i:Int)
   ·exact .inr (wGp q.1 q.2 (by omega))
   ·left;omega
  obtain ⟨b,e2,t2,rfl,G2⟩:=sp_is C hi' G'
  refine ⟨hi',(t2,((i + 1:Nat):Int)),?_,rfl,G2⟩
  rw [if_pos c,wCB hi',hD,wDy C (by omega) (by omega) (by omega) (by omega),hD,wAb (by omega) (by omega)]
  have e':wAU (⟨t⟩:wAa) 0 (plc r ⟨(i:Int),0⟩:Int) (gd r.Starts i) (-gd r.Starts i)=some t':=e
  rw [e',hD]
  exact e2
 ·right
  have hi':i=r.Starts.length:=by omega
  obtain ⟨T,e,hT⟩:=ck_is C (G.weak fun z hz hX=>by unfold wBB at hz;unfold done at hX ⊢;omega)
  exact ⟨T,by rw [if_neg c,e];rfl,hT⟩
theorem wJU:wBd (cv r)=(wBp (cv r)).bind fun x5 =>
 (wCF 0 x5 (fun k38 l32 =>
  (mkz 8 x5 (0:Int)).bind fun x64 =>
  (wCF 0 x5 (fun k78 l77 =>
   if (↑k38:Int)=(↑k78:Int) then
    some l77
   else
    (chk (↑k78:Int) l77.length).bind fun _ =>
    some (nA l77 k78 1125899906842624)) x64).bind fun y83 =>
  (app 24 l32 [y83]).bind fun x140 =>
  some x140) []).bind fun y43=>if x5=(np r:Int) then iter (stB r) big (y43,0) else none:=by
 unfold wBd
 rw [wJT C,hD,hD]
 simp only [if_true]
 rfl
theorem wIp:∃ T,wBd (cv r)=some T/\Tab r T:=by
 rw [wJU C,wJT C,hD]
 have hnp:=wLy C
 obtain ⟨t,e,M,g⟩:=wMi (n:=np r) (by omega)
 rw [e,hD,if_pos rfl]
 refine st_is C ⟨M,fun a b ha hb=>?_,fun a ha=>by rw [g a a ha ha,if_pos rfl],fun y F a b ha hb=>?_,fun x hx hX=>?_⟩
 ·rw [g a b ha hb]
  split <;> omega
 ·have h1:=wJR C F (wNH ha)
  have h2:=wJR C F (wNH hb)
  rw [g a b ha hb]
  split
  ·rename_i h;subst h;omega
  ·omega
 ·unfold wBB at hx
  unfold done at hX
  omega
theorem Tab.clash {T:List (List Int)} (h:Tab r T):(∃ y,wEN r y) ↔ ∀ a,a < np r->0 <= mx T a a:=by
 obtain ⟨t,G,F⟩:=h
 constructor
 ·rintro ⟨y,hy⟩ a ha
  have:=F.fe (fun v=>y (unp r v)) (G.fe y hy) a a ha ha
  omega
 ·intro h0
  have hz:wFG r zp:=.inl rfl
  have p0:plc r zp < np r:=wCz hz
  have hnp:=wLy C
  have fin:∀ p,wFG r p->mx T (plc r zp) (plc r p) < 1125899906842624:=fun p hp=>by
   refine wNj (S:=fun q=>wFG r q->mx T (plc r zp) (plc r q) < 1125899906842624) (fun x hx h _=>?_) (fun _=>?_) hp hp
   ·obtain ⟨o1,o2,c1,c2⟩:=wCm C hx
    have hf:=h o1
    have b:=F.fin (by omega) (Nat.le_refl _) h0 p0 (wCz o1) hf
    have e:=nG (F.le _ _ (wCz o1) (wCz o2)) (G.le x hx trivial)
    have:=F.tri h0 _ (wCz o1) _ _ p0 (wCz o2) hf (by omega)
    omega
   ·have:=F.le _ _ p0 p0
    rw [G.d0 _ p0] at this
    omega
  refine ⟨fun p=>mx T (plc r zp) (plc r p),fun x hx=>?_⟩
  obtain ⟨o1,o2,c1,c2⟩:=wCm C hx
  have e:=nG (F.le _ _ (wCz o1) (wCz o2)) (G.le x hx trivial)
  have:=F.tri h0 _ (wCz o1) _ _ p0 (wCz o2) (fin _ o1) (by omega)
  show mx T (plc r zp) (plc r (wBy r x).2.1) <= mx T (plc r zp) (plc r (wBy r x).1) + (wBy r x).2.2
  omega
theorem Tab.isDP {T:List (List Int)} (h:Tab r T) (hy:∃ y,wEN r y) {a:Pt} (ha:wFG r a):IsDP r a fun p=>mx T (plc r a) (plc r p):=by
 have h0:=(h.clash C).1 hy
 obtain ⟨t,G,F⟩:=h
 have p0:=wCz ha
 have hnp:=wLy C
 have d:mx T (plc r a) (plc r a)=0:=by
  have h1:=F.le _ _ p0 p0
  rw [G.d0 _ p0] at h1
  have:=h0 _ p0
  omega
 have cl:∀ x,wBB r x->(wFG r (wBy r x).1->mx T (plc r a) (plc r (wBy r x).1) < 1125899906842624)->(wFG r (wBy r x).2.1->mx T (plc r a) (plc r (wBy r x).2.1) < 1125899906842624):=fun x hx h _=>by
  obtain ⟨o1,o2,c1,c2⟩:=wCm C hx
  have hf:=h o1
  have b:=F.fin (by omega) (Nat.le_refl _) h0 p0 (wCz o1) hf
  have e:=nG (F.le _ _ (wCz o1) (wCz o2)) (G.le x hx trivial)
  have:=F.tri h0 _ (wCz o1) _ _ p0 (wCz o2) hf (by omega)
  omega
 have fin:∀ p,wFG r p->mx T (plc r a) (plc r p) < 1125899906842624:=fun p hp =>
  wNj (S:=fun q=>wFG r q->mx T (plc r a) (plc r q) < 1125899906842624) cl (wPB (S:=fun q=>wFG r q->mx T (plc r a) (plc r q) < 1125899906842624) cl ha fun _=>by omega) hp hp
 refine ⟨fun x hx=>?_,d,fun y hy p hp=>?_⟩
 ·obtain ⟨o1,o2,c1,c2⟩:=wCm C hx
  have e:=nG (F.le _ _ (wCz o1) (wCz o2)) (G.le x hx trivial)
  have:=F.tri h0 _ (wCz o1) _ _ p0 (wCz o2) (fin _ o1) (by omega)
  show mx T (plc r a) (plc r (wBy r x).2.1) <= mx T (plc r a) (plc r (wBy r x).1) + (wBy r x).2.2
  omega
 ·have:=F.fe (fun v=>y (unp r v)) (G.fe y hy) _ _ p0 (wCz hp)
  simp only [wHD ha,wHD hp] at this
  exact this
end
end Go.Proofs.YtlnfbjphfoipaaaGreat
namespace Go.Proofs.YtlnfbjphfoipaaaGreat
open Go.KL Go.KL.Net
theorem wGI (n lo hi:Int):wAZ n lo hi=some (!inB n lo hi):=by
 unfold wAZ inB
 by_cases h:n < lo
 ·rw [if_pos h,decide_eq_false (by omega)];rfl
 ·rw [if_neg h]
  congr 1
  rw [Bool.eq_iff_iff]
  simp only [hU,decide_eq_true_eq,decide_eq_false_iff_not]
  omega
theorem wLz (s:wAO) (lo hi:Int):wCJ s lo hi=some (!wMM s lo hi):=by
 unfold wCJ wMM
 by_cases h:s.Hi < s.Lo
 ·rw [if_pos h,decide_eq_false (by omega)];rfl
 ·by_cases h2:s.Lo < lo
  ·rw [if_neg h,if_pos h2,decide_eq_false (by omega)];rfl
  ·rw [if_neg h,if_neg h2]
   congr 1
   rw [Bool.eq_iff_iff]
   simp only [hU,decide_eq_true_eq,decide_eq_false_iff_not]
   omega
theorem wJV {S B:Type} {q:Bool} {s:S} {c:B} {x:Option (S ⊕ B)} {y:Option (S ⊕ B)} (hx:x=some (.inr c)) (hy:y=some (.inl s)):(if (!q)=true then x else y)=some (if q=true then .inl s else .inr c):=by
 cases q
 ·rw [hx];rfl
 ·rw [hy];rfl
theorem wGq {r:wAA} (S:wCt r):wBJ (cv r)=some (code r):=by
 have hn:=S.n;have hm:=S.m;have hc:=S.c;have hq:=S.q
 have lc:(cv r).Clocks.length=r.Clocks.length:=hH ..
 have lq:(cv r).Readings.length=r.Readings.length:=hH ..
 unfold wBJ code
 rw [show (cv r).Starts=r.Starts from rfl,show (cv r).Splits=r.Splits from rfl,lc,lq,wGI,hD]
 by_cases c1:1 <= r.Starts.length/\r.Starts.length <= 8
 ·have e1:(!inB (r.Starts.length:Int) 1 8)=false:=by unfold inB;rw [decide_eq_true (by omega)];rfl
  rw [e1,if_neg (by simp),if_neg (show ¬ ¬ (1 <= r.Starts.length/\r.Starts.length <= 8) from fun h=>h c1)]
  by_cases c2:7 < r.Splits.length
  ·rw [if_pos (show (7:Int) < (r.Splits.length:Int) by omega),if_pos c2]
  ·rw [if_neg (show ¬ (7:Int) < (r.Splits.length:Int) by omega),if_neg c2]
   by_cases c3:4 < r.Clocks.length
   ·rw [if_pos (show (4:Int) < (r.Clocks.length:Int) by omega),if_pos c3]
   ·rw [if_neg (show ¬ (4:Int) < (r.Clocks.length:Int) by omega),if_neg c3]
    by_cases c4:40 < r.Readings.length
    ·rw [if_pos (show (40:Int) < (r.Readings.length:Int) by omega),if_pos c4]
    ·rw [if_neg (show ¬ (40:Int) < (r.Readings.length:Int) by omega),if_neg c4]
     rw [wFx stP,wFx spP,wFx ckP,wFx rtP,wFx (ruP r)]
     refine wGl (fun k=>stP (gd r.Starts k)) 3 (by omega) (fun i hi=>?_) ?_
     ·rw [if_pos (by omega),wCB hi,hD,wGI,hD]
      exact wJV rfl (by rw [wAb (by omega) (by omega)])
     ·rw [if_neg (by omega)]
      refine (congrArg esc (wGl (fun k=>spP (gd r.Splits k)) 3 (by omega) (fun i hi=>?_) ?_)).trans (wFr _)
      ·rw [if_pos (by omega),wCB hi,hD,wLz,hD]
       exact wJV rfl (by rw [wAb (by omega) (by omega)])
      ·rw [if_neg (by omega)]
       refine (congrArg esc (wGl (fun k=>ckP (gd r.Clocks k)) 3 (by omega) (fun i hi=>?_) ?_)).trans (wFr _)
       ·have ei:idx (cv r).Clocks (i:Int)=some ⟨(gd r.Clocks i).Offset,(gd r.Clocks i).Error⟩:=by
         rw [wCB (by rw [lc];exact hi)]
         exact congrArg some (wEu _ hi)
        rw [if_pos (by omega),ei,hD]
        simp only
        rw [wLz,hD,wGI,hD]
        unfold ckP
        cases wMM (gd r.Clocks i).Offset (-36000) 36000
        ·rfl
        ·rw [if_neg (by simp),nI]
         exact wJV rfl (by rw [wAb (by omega) (by omega)])
       ·rw [if_neg (by omega)]
        refine (congrArg esc (wGl (fun k=>rtP (gd r.Readings k)) 3 (by omega) (fun i hi=>?_) ?_)).trans (wFr _)
        ·have ei:idx (cv r).Readings (i:Int)=some ⟨(gd r.Readings i).Skier,(gd r.Readings i).Mat,(gd r.Readings i).Clock,(gd r.Readings i).Time⟩:=by
          rw [wCB (by rw [lq];exact hi)]
          exact congrArg some (wEu _ hi)
         rw [if_pos (by omega),ei,hD]
         simp only
         rw [wGI,hD]
         exact wJV rfl (by rw [wAb (by omega) (by omega)])
        ·rw [if_neg (by omega)]
         refine (congrArg esc (wGl (fun k=>ruP r (gd r.Readings k)) 1 (z:=0) (by omega) (fun i hi=>?_) ?_)).trans (wFr _)
         ·have ei:idx (cv r).Readings (i:Int)=some ⟨(gd r.Readings i).Skier,(gd r.Readings i).Mat,(gd r.Readings i).Clock,(gd r.Readings i).Time⟩:=by
           rw [wCB (by rw [lq];exact hi)]
           exact congrArg some (wEu _ hi)
          rw [if_pos (by omega),ei,hD]
          simp only
          rw [wAb (x:=(r.Starts.length:Int) - 1) (by omega) (by omega),wAb (x:=(r.Clocks.length:Int) - 1) (by omega) (by omega),wGI,hD,wGI,hD,wGI,hD]
          unfold ruP
          cases inB (gd r.Readings i).Skier 0 ((r.Starts.length:Int) - 1)
          ·rfl
          ·rw [if_neg (by simp),nI]
           cases inB (gd r.Readings i).Mat 0 (r.Splits.length:Int)
           ·rfl
           ·rw [if_neg (by simp),nI]
            exact wJV rfl (by rw [wAb (by omega) (by omega)])
         ·rw [if_neg (by omega)];rfl
 ·have e1:(!inB (r.Starts.length:Int) 1 8)=true:=by unfold inB;rw [decide_eq_false (by omega)];rfl
  rw [e1,if_pos rfl,if_pos c1]
theorem wNy {r:wAA} (S:wCt r):wCi r=some (cv r):=by
 have hn:=S.n;have hm:=S.m;have hc:=S.c;have hq:=S.q
 unfold wCi wBf wBA
 rw [wFV (by simp only [hJ];omega),hD,hD,wFV (by simp only [hJ];omega),hD,hD,hD]
 simp only
 rw [wKL (f:=fun x:wAi=>(⟨x.Offset,x.Error⟩:wBH)) (fun a _ l=>by cases app 24 l [(⟨a.Offset,a.Error⟩:wBH)] <;> rfl) (by omega) (by omega),hD]
 rw [wKL (f:=fun x:wAK=>(⟨x.Skier,x.Mat,x.Clock,x.Time⟩:wAy)) (fun a _ l=>by cases app 32 l [(⟨a.Skier,a.Mat,a.Clock,a.Time⟩:wAy)] <;> rfl) (by omega) (by omega),hD]
 rfl
end Go.Proofs.YtlnfbjphfoipaaaGreat
namespace Go.Proofs.YtlnfbjphfoipaaaGreat
open Go.KL Go.KL.Net Go.KL.Floyd
open Classical
theorem wMk {r:wAA} (C:RC r):∃ b,wCV (cv r)=some b/\(b=true ↔ ¬ ∃ y,wEN r y):=by
 obtain ⟨T,e,hT⟩:=wIp C
 have hnp:=wLy C
 obtain ⟨t,G,F⟩:=id hT
 have hr:=F.m.rows
 refine ⟨!wLh (fun k=>!decide (mx T k k < 0)) (np r) 0,?_,?_⟩
 ·unfold wCV
  rw [e,hD,hr,wKO (fun k=>!decide (mx T k k < 0)) true (by omega) fun i hi=>?_]
  ·cases wLh (fun k=>!decide (mx T k k < 0)) (np r) 0 <;> rfl
  ·rw [wCB (by omega),hD,wCB (by rw [F.m.cols i hi];exact hi),hD]
   by_cases c:mx T i i < 0
   ·rw [if_pos (show gd (gd T i) i < 0 from c),decide_eq_true c];rfl
   ·rw [if_neg (show ¬ gd (gd T i) i < 0 from c),decide_eq_false c];rfl
 ·rw [hT.clash C,hU,Bool.eq_false_iff,ne_eq,wIg]
  constructor
  ·intro h h2
   exact h fun i _ hi=>by
    have:=h2 i (by omega)
    simp only [hU,decide_eq_false_iff_not]
    omega
  ·intro h h2
   exact h fun i hi=>by
    have:=h2 i (by omega) (by omega)
    simp only [hU,decide_eq_false_iff_not] at this
    omega
theorem wJW {r:wAA} (S:wCt r):wBD (cv r)=some (wGC r []):=by
 unfold wBD wGC
 rw [wGq S,hD]
 by_cases c:code r=0
 ·obtain ⟨b,e,hb⟩:=wMk (wFk c)
  rw [if_pos c,if_pos c,e,hD,if_pos (show ([]:List wAM).all (wFO r)=true from rfl)]
  by_cases d:∃ y,wEN r y
  ·rw [if_neg (fun h=>hb.1 h d),if_pos d]
  ·rw [if_pos (hb.2 d),if_neg d]
 ·rw [if_neg c,if_neg c]
end Go.Proofs.YtlnfbjphfoipaaaGreat
namespace Go.Proofs.YtlnfbjphfoipaaaGreat
open Go.KL Go.KL.Net Go.KL.Floyd
open Classical
def sp6 (s:wAM):wAQ:=⟨s.Skier,s.Mat⟩
theorem wIq {r:wAA} (S:wCt r) (s:wAM):wBS (cv r) (sp6 s)=some (!wFO r s):=by
 have:=S.n
 unfold wBS wFO sp6
 show (wAZ s.Skier 0 (w64 ((r.Starts.length:Int) - 1))).bind _=_
 rw [wAb (by omega) (by omega),wGI,hD]
 cases inB s.Skier 0 ((r.Starts.length:Int) - 1)
 ·rfl
 ·rw [if_neg (by simp)]
  show (wAZ s.Mat 0 (r.Splits.length:Int)).bind _=_
  rw [wGI];rfl
theorem wJX {r:wAA} (S:wCt r) (a b:wAM):wCW (cv r) (sp6 a) (sp6 b)=some (wGC r [a,b]):=by
 unfold wCW
 rw [wGq S,hD]
 by_cases c:code r=0
 ·rw [if_pos c,wIq S,hD]
  cases h1:wFO r a
  ·rw [if_pos (by rfl)]
   unfold wGC
   rw [if_pos c,if_neg (by simp [h1])]
  ·rw [if_neg (by simp),wIq S,hD]
   cases h2:wFO r b
   ·rw [if_pos (by rfl)]
    unfold wGC
    rw [if_pos c,if_neg (by simp [h2])]
   ·rw [if_neg (by simp),wJW S,hD]
    unfold wGC
    rw [show [a,b].all (wFO r)=true by simp [h1,h2]]
    rfl
 ·rw [if_neg c]
  unfold wGC
  rw [if_neg c]
theorem wMA {r:wAA} {T:List (List Int)} (hT:Tab r T) {a b:Pt} (ha:wFG r a) (hb:wFG r b) {α:Type} (k:Int->Option α):((idx T (plc r a:Int)).bind fun row=>(idx row (plc r b:Int)).bind k)=k (mx T (plc r a) (plc r b)):=by
 obtain ⟨t,G,F⟩:=hT
 have h1:=wCz ha
 have h2:=wCz hb
 rw [wCB (by rw [F.m.rows];exact h1),hD,wCB (by rw [F.m.cols _ h1];exact h2),hD]
 rfl
end Go.Proofs.YtlnfbjphfoipaaaGreat
namespace Go.Proofs.YtlnfbjphfoipaaaGreat
open Go.KL Go.KL.Net Go.KL.Floyd
open Classical
def st6 (x:wAC):wAd:=⟨x.Kind,x.Skier,x.Index,x.Up⟩
theorem wMB {l:List wAC} (hl:l.length <= 1000):wAr l=some (l.map st6):=by
 unfold wAr
 rw [wLe (S:=List wAd) (n:=l.length) (fun k=>(l.take k).map st6) (s0:=[]) rfl (by omega) fun k hk=>by
  rw [wCB hk,hD,wFV (by simp only [hH,List.length_take,nE,hJ];omega),hD,wIe hk,List.map_append];rfl]
 rw [hD,List.take_length]
theorem wNI {r:wAA} (C:RC r) {x:wAC} (h:wBB r x):wBt (cv r) (st6 x)=some ((plc r (wBy r x).1:Int),(plc r (wBy r x).2.1:Int),(wBy r x).2.2):=by
 have hm:=C.m;have hc:=C.c;have hq:=C.q;have hn:=C.n
 unfold wBt
 rw [show (st6 x).Kind=x.Kind from rfl,show (st6 x).Skier=x.Skier from rfl,show (st6 x).Index=x.Index from rfl,show (st6 x).Up=x.Up from rfl,show (cv r).Starts=r.Starts from rfl,show (cv r).Splits=r.Splits from rfl]
 rcases h with ⟨k,a,b,c⟩ | ⟨k,a,b,c,d⟩ | ⟨k,a,c,d⟩ | ⟨k,a,c,d⟩
 ·have g:=C.st _ (wCj a b)
  have e4:wCk r x=(zp,⟨x.Skier,0⟩,gd r.Starts x.Skier.toNat,-gd r.Starts x.Skier.toNat):=if_pos k
  unfold wBy
  rw [e4,if_pos k,wEv a b,hD,wDy C a b (by omega) (by omega),hD,wAb (by omega) (by omega)]
  cases x.Up <;> rfl
 ·have g:=C.sp _ (wCj c d)
  have e4:wCk r x=(⟨x.Skier,x.Index⟩,⟨x.Skier,x.Index + 1⟩,(gd r.Splits x.Index.toNat).Hi,-(gd r.Splits x.Index.toNat).Lo):=(if_neg (by omega)).trans (if_pos k)
  unfold wBy
  rw [e4,if_neg (by omega),if_pos k,wDy C a b c (by omega),hD,wAb (x:=x.Index + 1) (by omega) (by omega),wDy C a b (by omega) (by omega),hD,wEv c d,hD,wAb (by omega) (by omega)]
  cases x.Up <;> rfl
 ·have g:=C.ck _ (wCj c d)
  have e4:wCk r x=(zp,⟨-1,1 + x.Index⟩,-(gd r.Clocks x.Index.toNat).Offset.Lo,(gd r.Clocks x.Index.toNat).Offset.Hi):=((if_neg (by omega)).trans (if_neg (by omega))).trans (if_pos k)
  have ei:idx (cv r).Clocks x.Index=some ⟨(gd r.Clocks x.Index.toNat).Offset,(gd r.Clocks x.Index.toNat).Error⟩:=by
   rw [wEv c (by rw [show (cv r).Clocks.length=r.Clocks.length from hH ..];exact d)]
   exact congrArg some (wEu _ (by omega))
  unfold wBy
  rw [e4,if_neg (by omega),if_neg (by omega),if_pos k,ei,hD,wGo C c (by omega),hD]
  simp only
  rw [wAb (by omega) (by omega)]
  cases x.Up <;> rfl
 ·have g1:=C.rt _ (wCj c d)
  have g2:=C.ru _ (wCj c d)
  have g3:=C.ck _ (wCj (l:=r.Clocks) (i:=(gd r.Readings x.Index.toNat).Clock) (by omega) (by omega))
  have e4:wCk r x=(⟨-1,1 + (gd r.Readings x.Index.toNat).Clock⟩,⟨(gd r.Readings x.Index.toNat).Skier,(gd r.Readings x.Index.toNat).Mat⟩,(gd r.Readings x.Index.toNat).Time + (gd r.Clocks (gd r.Readings x.Index.toNat).Clock.toNat).Error,(gd r.Clocks (gd r.Readings x.Index.toNat).Clock.toNat).Error - (gd r.Readings x.Index.toNat).Time):=((if_neg (by omega)).trans (if_neg (by omega))).trans (if_neg (by omega))
  have ei:idx (cv r).Readings x.Index=some ⟨(gd r.Readings x.Index.toNat).Skier,(gd r.Readings x.Index.toNat).Mat,(gd r.Readings x.Index.toNat).Clock,(gd r.Readings x.Index.toNat).Time⟩:=by
   rw [wEv c (by rw [show (cv r).Readings.length=r.Readings.length from hH ..];exact d)]
   exact congrArg some (wEu _ (by omega))
  have ec:idx (cv r).Clocks (gd r.Readings x.Index.toNat).Clock=some ⟨(gd r.Clocks (gd r.Readings x.Index.toNat).Clock.toNat).Offset,(gd r.Clocks (gd r.Readings x.Index.toNat).Clock.toNat).Error⟩:=by
   rw [wEv (by omega) (by rw [show (cv r).Clocks.length=r.Clocks.length from hH ..];omega)]
   exact congrArg some (wEu _ (by omega))
  unfold wBy
  rw [e4,if_neg (by omega),if_neg (by omega),if_neg (by omega),ei,hD]
  simp only
  rw [wGo C (by omega) (by omega),hD,wDy C (by omega) (by omega) (by omega) (by omega),hD,ec,hD]
  simp only
  rw [wAb (by omega) (by omega),wAb (by omega) (by omega)]
  cases x.Up <;> rfl
theorem wPH {n lo hi:Int}:wAZ n lo hi=some (!decide (lo <= n/\n <= hi)):=wGI n lo hi
theorem wIr {r:wAA} {x:wAC} (h:wBB r x):wHe r x=true:=decide_eq_true h
theorem wFT {r:wAA} {x:wAC} (h:¬ wBB r x):wHe r x=false:=decide_eq_false h
theorem wJY {r:wAA} (S:wCt r) {l:List wAC} (hl:l.length <= 1000):wBz (cv r) (l.map st6)=some (chS r l):=by
 have hn:=S.n;have hm:=S.m;have hc:=S.c;have hq:=S.q
 unfold wBz chS
 rw [hH]
 by_cases h:80 < l.length
 ·rw [if_pos (by omega),if_pos h]
 ·rw [if_neg (by omega),if_neg h,wFx (wHe r),wKO (fun k=>wHe r (gd l k)) 1 (by omega) fun k hk=>?_]
  ·cases wLh (fun k=>wHe r (gd l k)) l.length 0 <;> rfl
  ·have e:idx (l.map st6) (k:Int)=some (st6 (gd l k)):=by
    rw [wCB (by rw [hH];exact hk)]
    exact congrArg some (wEu _ hk)
   have lc:(cv r).Clocks.length=r.Clocks.length:=hH ..
   have lq:(cv r).Readings.length=r.Readings.length:=hH ..
   generalize hx:gd l k=x at e
   have fin:∀ {o:Option (Unit ⊕ (Unit ⊕ Int))} {q:Bool},o=(if q=true then some (.inl ()) else some (.inr (.inr 1)))->jn o (fun _=>some (.inl ()))=(some (if q=true then .inl () else .inr 1):Option (Unit ⊕ Int)):=fun {o q} h=>by
    rw [h];cases q <;> rfl
   refine fin ?_
   rw [e,hD,wPH,hD,show (st6 x).Kind=x.Kind from rfl,show (st6 x).Skier=x.Skier from rfl,show (st6 x).Index=x.Index from rfl,show (cv r).Starts=r.Starts from rfl,show (cv r).Splits=r.Splits from rfl,lc,lq,wPH,wPH,wPH,wPH,wAb (by omega) (by omega),wAb (by omega) (by omega),wAb (by omega) (by omega),wAb (by omega) (by omega)]
   simp only [hD]
   by_cases k0:x.Kind=0
   ·rw [if_pos k0]
    by_cases a:0 <= x.Skier/\x.Skier <= (r.Starts.length:Int) - 1
    ·rw [if_neg (by rw [decide_eq_true a];simp)]
     by_cases b:x.Index=0
     ·rw [if_pos b,if_pos (wIr (.inl ⟨k0,by omega,by omega,b⟩))]
     ·rw [if_neg b,if_neg (by rw [wFT (by unfold wBB;omega)];simp)];rfl
    ·rw [if_pos (by rw [decide_eq_false a];rfl),if_neg (by rw [wFT (by unfold wBB;omega)];simp)];rfl
   rw [if_neg k0]
   by_cases k1:x.Kind=1
   ·rw [if_pos k1]
    by_cases a:0 <= x.Skier/\x.Skier <= (r.Starts.length:Int) - 1
    ·rw [if_neg (by rw [decide_eq_true a];simp)]
     by_cases b:0 <= x.Index/\x.Index <= (r.Splits.length:Int) - 1
     ·rw [if_neg (by rw [decide_eq_true b];simp),if_pos (wIr (.inr (.inl ⟨k1,by omega,by omega,by omega,by omega⟩)))]
     ·rw [if_pos (by rw [decide_eq_false b];rfl),if_neg (by rw [wFT (by unfold wBB;omega)];simp)];rfl
    ·rw [if_pos (by rw [decide_eq_false a];rfl),if_neg (by rw [wFT (by unfold wBB;omega)];simp)];rfl
   rw [if_neg k1]
   by_cases k2:x.Kind=2
   ·rw [if_pos k2]
    by_cases a:x.Skier=0
    ·rw [if_pos a]
     by_cases b:0 <= x.Index/\x.Index <= (r.Clocks.length:Int) - 1
     ·rw [if_neg (by rw [decide_eq_true b];simp),if_pos (wIr (.inr (.inr (.inl ⟨k2,a,by omega,by omega⟩))))]
     ·rw [if_pos (by rw [decide_eq_false b];rfl),if_neg (by rw [wFT (by unfold wBB;omega)];simp)];rfl
    ·rw [if_neg a,if_neg (by rw [wFT (by unfold wBB;omega)];simp)];rfl
   rw [if_neg k2]
   by_cases k3:x.Kind=3
   ·rw [if_pos k3]
    by_cases a:x.Skier=0
    ·rw [if_pos a]
     by_cases b:0 <= x.Index/\x.Index <= (r.Readings.length:Int) - 1
     ·rw [if_neg (by rw [decide_eq_true b];simp),if_pos (wIr (.inr (.inr (.inr ⟨k3,a,by omega,by omega⟩))))]
     ·rw [if_pos (by rw [decide_eq_false b];rfl),if_neg (by rw [wFT (by unfold wBB;omega)];simp)];rfl
    ·rw [if_neg a,if_neg (by rw [wFT (by unfold wBB;omega)];simp)];rfl
   rw [if_neg k3,if_pos (by rw [decide_eq_false (by omega)];rfl),if_neg (by rw [wFT (by unfold wBB;omega)];simp)];rfl
theorem wMC {r:wAA} (C:RC r) {l:List wAC} (hl:l.length <= 100) (hs:∀ x ∈ l,wBB r x) {p:Pt} (hp:wFG r p):wCK (cv r) (plc r p:Int) (l.map st6)=some (match fw r p 0 l with | some (q,s)=>((plc r q:Int),s) | none=>(-1,0)):=by
 unfold wCK
 rw [hH,wDx (by omega)]
 have key:∀ (m k:Nat) (p:Pt) (t:Int),wFG r p->k + m=l.length->-400000 * (k:Int) <= t->t <= 400000 * (k:Int)->forN (B:=Int × Int) (fun (k15:Nat) ((x13,x14):Int × Int) =>
  (idx (l.map st6) (↑k15:Int)).bind fun x38 =>
  (wBt (cv r) x38).bind fun (x50,x51,x52) =>
  if x50=x13 then
   some (.inl (x51,w64 (x14 + x52)))
  else
   esc (some (-1,0))) m k ((plc r p:Int),t)=some (match fw r p t (l.drop k) with | some (q,s)=>.inl ((plc r q:Int),s) | none=>.inr (-1,0)):=by
  intro m
  induction m with
  | zero =>
   intro k p t _ hk _ _
   rw [List.drop_eq_nil_of_le (by omega)]
   rfl
  | succ m ih =>
   intro k p t hp hk h1 h2
   have hk':k < l.length:=by omega
   have hx:=hs _ (wCl hk')
   have c:=wCm C hx
   have e:=wNI C hx
   have ei:idx (l.map st6) (k:Int)=some (st6 (gd l k)):=by
    rw [wCB (by rw [hH];exact hk')]
    exact congrArg some (wEu _ hk')
   rw [wLf hk',fw]
   generalize wBy r (gd l k)=L at e c
   obtain ⟨L1,L2,L3⟩:=L
   simp only at c e
   rw [forN,ei]
   simp only [hD,e]
   by_cases f2:L1=p
   ·rw [if_pos (by rw [f2]),if_pos f2,wAb (by omega) (by omega)]
    exact ih (k + 1) L2 (t + L3) c.2.1 (by omega) (by omega) (by omega)
   ·rw [if_neg (fun h=>f2 (wIo c.1 hp (by omega))),if_neg f2]
    rfl
 have h:=key l.length 0 p 0 hp (by omega) (by omega) (by omega)
 erw [h]
 rw [List.drop_zero]
 cases fw r p 0 l with
 | none=>rfl
 | some v=>rfl
theorem wIT {r:wAA} (S:wCt r) (a b:wAM) {l:List wAC} (hl:l.length <= 1000):wBo (cv r) (sp6 a) (sp6 b) (l.map st6)=some (prS r a b l):=by
 unfold wBo prS
 rw [wGq S,hD]
 by_cases c:code r=0
 ·have C:=wFk c
  rw [if_pos c,if_pos c,wIq S,hD]
  by_cases ha:wFO r a=true
  ·rw [if_neg (by rw [ha];simp),if_pos ha,wIq S,hD]
   by_cases hb:wFO r b=true
   ·rw [if_neg (by rw [hb];simp),if_pos hb,wJY S hl,hD]
    by_cases hc:chS r l=0
    ·obtain ⟨h1,h2⟩:=wKX hc
     obtain ⟨pa,a0,a1,a2,a3⟩:=wGS ha
     obtain ⟨pb,b0,b1,b2,b3⟩:=wGS hb
     rw [if_pos hc,if_pos hc,show (sp6 a).Skier=a.Skier from rfl,show (sp6 a).Mat=a.Mat from rfl,show (sp6 b).Skier=b.Skier from rfl,show (sp6 b).Mat=b.Mat from rfl,wDy C a0 a1 a2 a3,hD]
     have e:=wMC C (by omega) h2 pa
     rw [show (⟨a.Skier,a.Mat⟩:Pt)=pt a from rfl,e,hD,wDy C b0 b1 b2 b3,show (⟨b.Skier,b.Mat⟩:Pt)=pt b from rfl]
     cases ef:fw r (pt a) 0 l with
     | none =>
      simp only [hD]
      rw [if_neg (by omega)]
     | some v =>
      obtain ⟨q,s⟩:=v
      simp only [hD]
      by_cases h:q=pt b
      ·rw [if_pos (by rw [h]),if_pos h]
      ·rw [if_neg (fun h3=>h (wIo (wNt C h2 pa ef) pb (by omega))),if_neg h]
    ·rw [if_neg hc,if_neg hc]
   ·rw [if_pos (by rw [Bool.not_eq_true] at hb;rw [hb];rfl),if_neg hb]
  ·rw [if_pos (by rw [Bool.not_eq_true] at ha;rw [ha];rfl),if_neg ha]
 ·rw [if_neg c,if_neg c]
theorem wHf {r:wAA} (S:wCt r) {l:List wAC} (hl:l.length <= 1000):wAz (cv r) (l.map st6)=some (rfS r l):=by
 unfold wAz rfS
 rw [wGq S,hD]
 by_cases c:code r=0
 ·have C:=wFk c
  rw [if_pos c,if_pos c,wJY S hl,hD]
  by_cases hc:chS r l=0
  ·rw [if_pos hc,if_pos hc]
   obtain ⟨h1,h2⟩:=wKX hc
   match l,h1,h2 with
   | [],_,_=>rfl
   | x :: l,h1,h2 =>
    have hx:=h2 x (.head _)
    have p1:=(wCm C hx).1
    have e:=wMC C (by omega) h2 p1
    rw [if_neg (by simp only [List.map_cons,nE];omega),show idx ((x :: l).map st6) 0=some (st6 x) from rfl,hD,wNI C hx,hD]
    simp only
    rw [e]
    cases ef:fw r (wBy r x).1 0 (x :: l) with
    | none =>
     simp only [hD]
     rw [if_neg (by omega)]
    | some v =>
     obtain ⟨q,s⟩:=v
     simp only [hD]
     by_cases h:q=(wBy r x).1
     ·rw [if_pos (by rw [h])]
      by_cases h3:0 <= s
      ·rw [if_pos h3,if_neg (by omega)]
      ·rw [if_neg h3,if_pos ⟨h,by omega⟩]
     ·rw [if_neg (fun h3=>h (wIo (wNt C h2 p1 ef) p1 (by omega))),if_neg fun h3=>h h3.1]
  ·rw [if_neg hc,if_neg hc]
 ·rw [if_neg c,if_neg c]
theorem wNz {r:wAA} (S:wCt r) {a b:wAM} (c:wGC r [a,b]=0) {f:Pt->Int} (hf:IsDP r (pt a) f):∃ z,wBu (cv r) (sp6 a) (sp6 b)=some (z,0)/\z.Hi=f (pt b):=by
 unfold wBu
 obtain ⟨C,_,hs,hy⟩:=err0 c
 simp only [List.all_cons,List.all_nil,Bool.and_true,Bool.and_eq_true] at hs
 obtain ⟨pa,a0,a1,a2,a3⟩:=wGS hs.1
 obtain ⟨pb,b0,b1,b2,b3⟩:=wGS hs.2
 obtain ⟨T,eT,hT⟩:=wIp C
 have e1:=(hT.isDP C hy pa).one hf pb
 rw [wJX S,hD,if_pos c,eT,hD,show (sp6 a).Skier=a.Skier from rfl,show (sp6 a).Mat=a.Mat from rfl,show (sp6 b).Skier=b.Skier from rfl,show (sp6 b).Mat=b.Mat from rfl,wDy C a0 a1 a2 a3,hD,wDy C b0 b1 b2 b3,hD]
 have t1:=wMA hT pb pa (α:=wAO × Int) fun x110=>(idx T (plc r (pt a):Int)).bind fun x117=>(idx x117 (plc r (pt b):Int)).bind fun x129=>some ((⟨w64 (-x110),x129⟩:wAO),0)
 have t2:=wMA hT pa pb (α:=wAO × Int) fun x129=>some ((⟨w64 (-mx T (plc r (pt b)) (plc r (pt a))),x129⟩:wAO),0)
 exact ⟨_,t1.trans t2,e1⟩
theorem wMl {r:wAA} (S:wCt r) {a b:wAM} (c:wGC r [a,b] ≠ 0):∃ z,wBu (cv r) (sp6 a) (sp6 b)=some (z,wGC r [a,b]):=by
 unfold wBu
 rw [wJX S,hD,if_neg c]
 exact ⟨_,rfl⟩
theorem wMD {r:wAA} (S:wCt r) {a b:wAM} (c:wGC r [a,b] ≠ 0):wDe r a b=some ([],wGC r [a,b]):=by
 unfold wDe
 obtain ⟨o,e,_,h0⟩:=wKW S (l:=[a,b]) (by simp)
 rw [e,h0 c,hD]
 simp only
 rw [if_neg c]
theorem wME {r:wAA} (S:wCt r) (c:code r ≠ 0):wCd r=some ([],code r):=by
 rcases wIk S with ⟨_,e⟩ | ⟨h,_⟩
 ·unfold wCd
  rw [e,hD]
  simp only
  rw [if_neg c]
 ·exact absurd h c
end Go.Proofs.YtlnfbjphfoipaaaGreat
namespace Go.Proofs.YtlnfbjphfoipaaaGreat
open Go.KL Go.KL.Net
theorem wMm {r:wAA} (S:wCt r):wCU r=some r:=by
 have hn:=S.n;have hm:=S.m;have hc:=S.c;have hq:=S.q
 unfold wCU wBf wBA wBh wBZ
 rw [wFV (by simp only [hJ];omega),hD,hD,wFV (by simp only [hJ];omega),hD,hD,wFV (by simp only [hJ];omega),hD,hD,wFV (by simp only [hJ];omega)]
 rfl
end Go.Proofs.YtlnfbjphfoipaaaGreat
namespace Go.Proofs.YtlnfbjphfoipaaaGreat
open Go.KL Go.KL.Net
open Classical
theorem wOA (r:wAA):wCH r=some true \/ (wCH r=some false/\wCt r):=by
 unfold wCH
 by_cases c1:10 < (r.Starts.length:Int)
 ·exact .inl (if_pos c1)
 rw [if_neg c1]
 by_cases c2:9 < (r.Splits.length:Int)
 ·exact .inl (if_pos c2)
 rw [if_neg c2]
 by_cases c3:6 < (r.Clocks.length:Int)
 ·exact .inl (if_pos c3)
 rw [if_neg c3]
 by_cases c4:44 < (r.Readings.length:Int)
 ·exact .inl (by rw [decide_eq_true c4])
 ·exact .inr ⟨by rw [decide_eq_false c4],⟨by omega,by omega,by omega,by omega⟩⟩
end Go.Proofs.YtlnfbjphfoipaaaGreat
namespace Go.Proofs.YtlnfbjphfoipaaaGreat
open Go.KL Go.KL.Net
theorem wOB {r:wAA} (S:wCt r):wBk r r=some true:=by
 have hn:=S.n;have hm:=S.m;have hc:=S.c;have hq:=S.q
 unfold wBk wBe wBR wBi wBa
 rw [wFL (by omega),hD,if_pos rfl,wFL (by omega),hD,if_pos rfl,wFL (by omega),hD,if_pos rfl,wFL (by omega)]
 rfl
end Go.Proofs.YtlnfbjphfoipaaaGreat
namespace Go.Proofs.YtlnfbjphfoipaaaGreat
set_option maxRecDepth 100000 in
theorem aw06:wBI=some true:=by decide +kernel
end Go.Proofs.YtlnfbjphfoipaaaGreat
namespace Go.Proofs.YtlnfbjphfoipaaaGreat
open Go.KL Go.KL.Net Go.KL.Floyd
open Classical
theorem wOC (r:wAA):code r <= 3:=by
 unfold code
 repeat' split
 all_goals omega
theorem wPI {r:wAA} (c:code r=0) {l:List wAC} {p:Pt} {s:Int} (h:Fol r p l p s) (hs:s < 0) (h1:1 <= l.length) (hl:l.length <= 80):rfS r l=(s,0):=by
 unfold rfS
 rw [if_pos c,if_pos (wNF hl h.ok)]
 match l,h1,h with
 | x :: l,_,h =>
  have e:(wBy r x).1=p:=h.2.1
  have:=wLv (t:=0) h
  simp only
  rw [e,this]
  simp only
  rw [if_pos ⟨trivial,by omega⟩,Int.zero_add]
theorem wMF {r:wAA} (S:wCt r) (K:Unit->Option Bool):((wCd r).bind fun x=>(wBD (cv r)).bind fun t=>jn (if t=7 then
      (wAr x.1).bind fun l =>
      (wAz (cv r) l).bind fun y =>
      if x.2=0 then
        if y.2=0 then
          some (.inl ())
        else
          esc (some false)
      else
        esc (some false)
    else
      if t=0 then
        if x.2=6 then
          if 0 < (↑x.1.length:Int) then
            esc (some false)
          else
            some (.inl ())
        else
          esc (some false)
      else
        if x.2=t then
          if 0 < (↑x.1.length:Int) then
            esc (some false)
          else
            some (.inl ())
        else
          esc (some false)) K)=K ():=by
  have hc3:=wOC r
  rw [wJW S]
  by_cases c:code r=0
  · obtain ⟨h1,h2⟩:=wLu S c
    by_cases hy:∃ y,wEN r y
    · have e:wGC r []=0:=by unfold wGC;rw [if_pos c,if_pos (by rfl),if_pos hy]
      rw [h1 hy,e,hD,hD,if_neg (by omega),if_pos rfl]
      rfl
    · have e:wGC r []=7:=by unfold wGC;rw [if_pos c,if_pos (by rfl),if_neg hy]
      obtain ⟨l,p,s,e1,hf,hs,n1,n2⟩:=h2 hy
      rw [e1,e,hD,hD,if_pos rfl,wMB (by simp only;omega),hD,wHf S (by simp only;omega),hD,wPI c hf hs n1 (by omega)]
      rfl
  · have e:wGC r []=code r:=by unfold wGC;rw [if_neg c]
    rw [wME S c,e,hD,hD,if_neg (by omega),if_neg c,if_pos rfl]
    rfl
theorem wOD {l:List wAC} (hl:l.length <= 1000):wBM l=some l:=by
 unfold wBM
 rw [wFV (by simp only [hJ];omega)]
 rfl
theorem eqSt {l:List wAC} (hl:l.length <= 1000):wAn l l=some true:=by
 unfold wAn
 exact wFL (by omega)
theorem wKr (p0:wAA) (p1 p2:wAM) (p3:List wAC):wCO p0 p1 p2 p3=some true:=by
  have aw:=aw06
  unfold wCO
  rcases wOA p0 with h | ⟨h,S⟩
  · rw [h,hD,if_pos rfl,aw];rfl
  rw [h,hD,if_neg (by simp)]
  by_cases hl:90 < (p3.length:Int)
  · rw [if_pos hl,aw];rfl
  rw [if_neg hl,wMm S,hD,wOD (by omega),hD,wNy S,hD,hD]
  simp only
  rw [show (⟨(cv p0).Starts,(cv p0).Splits,(cv p0).Clocks,(cv p0).Readings⟩:wAI)=cv p0 from rfl,show (⟨p0.Starts,p0.Splits,p0.Clocks,p0.Readings⟩:wAA)=p0 from rfl,show (⟨p1.Skier,p1.Mat⟩:wAQ)=sp6 p1 from rfl,show (⟨p2.Skier,p2.Mat⟩:wAQ)=sp6 p2 from rfl]
  rw [wLx S p1 p2 (by omega),hD,wMB (by omega),hD]
  rw [wIT S p1 p2 (by omega),hD]
  simp only
  rw [if_pos trivial,if_pos trivial,wKq S (by omega),hD]
  rw [hD,wHf S (by omega),hD]
  simp only
  rw [if_pos trivial,if_pos trivial]
  have fin:((wBk p0 p0).bind fun x1329 =>
                      if x1329=true then
                        (wAn p3 p3).bind fun x1370 =>
                        if x1370=true then
                          (wBI).bind fun x1382 =>
                          some x1382
                        else
                          some false
                      else
                        some false)=some true:=by
    rw [wOB S,hD,if_pos rfl,eqSt (by omega),hD,if_pos rfl,aw];rfl
  by_cases c:wGC p0 [p1,p2]=0
  · obtain ⟨C,c0,hs,hy⟩:=err0 c
    simp only [List.all_cons,List.all_nil,Bool.and_true,Bool.and_eq_true] at hs
    obtain ⟨pa,_⟩:=wGS hs.1
    obtain ⟨f,hf⟩:=(wIp C).elim fun T h=>(⟨_,h.2.isDP C hy pa⟩:∃ f,IsDP p0 (pt p1) f)
    obtain ⟨l,e1,hF,hl80⟩:=wMd S c hf
    obtain ⟨z,e2,hz⟩:=wNz S c hf
    have e3:prS p0 p1 p2 l=(f (pt p2),0):=by
      unfold prS
      rw [if_pos c0,if_pos hs.1,if_pos hs.2,if_pos (wNF hl80 hF.ok),wLv hF]
      simp only
      rw [if_pos trivial,Int.zero_add]
    rw [e1,hD]
    simp only
    rw [e2,hD]
    simp only
    rw [if_pos trivial,if_pos trivial,hD,if_neg (by simp),if_pos trivial,wMB (by omega),hD,wIT S p1 p2 (by omega),e3,hD]
    simp only
    rw [if_pos trivial,if_pos hz.symm]
    exact (wMF S fun _=>_).trans fin
  · obtain ⟨z,e2⟩:=wMl S c
    rw [wMD S c,hD]
    simp only
    rw [e2,hD]
    simp only
    rw [if_pos trivial,if_neg c,hD,if_neg (by simp),if_neg c]
    exact (wMF S fun _=>_).trans fin
end Go.Proofs.YtlnfbjphfoipaaaGreat
