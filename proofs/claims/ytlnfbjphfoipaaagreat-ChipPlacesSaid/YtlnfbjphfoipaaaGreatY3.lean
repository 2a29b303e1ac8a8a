import Derived.Test.YtlnfbjphfoipaaaGreatY2
set_option linter.all false
open Option renaming bind_some->hH
open Int renaming toNat_of_nonneg->nA,toNat_natCast->nG,le_trans->nP,natCast_nonneg->nW
open List renaming length_nil->nB,range->nD,length_map->nE,length_cons->nH,set->nJ,length_take->nK,all_cons->nN,take_length->nQ,all_nil->nR,take_of_length_le->nT,countP_congr->nX
open Bool renaming not_eq_true'->nI,and_eq_true->nL,true_and->nM,and_true->nO,eq_iff_iff->nS
open Nat renaming mul_le_mul->nU,zero_add->nV
namespace Go.Proofs.YtlnfbjphfoipaaaGreat
open Go.KL Go.KL.Net Go.KL.Floyd
def cv (r:wAA):wAK:=⟨r.Starts,r.Splits,r.Clocks.map fun x=>⟨x.Offset,x.Error⟩,r.Readings.map fun x=>⟨x.Skier,x.Mat,x.Clock,x.Time⟩⟩
def plc (r:wAA) (p:Pt):Nat:=if p.skier=-1 then (if p.mat=0 then 0 else r.Starts.length * (r.Splits.length + 1) + p.mat.toNat) else 1 + p.skier.toNat * (r.Splits.length + 1) + p.mat.toNat
def np (r:wAA):Nat:=1 + r.Starts.length * (r.Splits.length + 1) + r.Clocks.length
def unp (r:wAA) (v:Nat):Pt:=if v=0 then zp else if v <= r.Starts.length * (r.Splits.length + 1) then ⟨((v - 1) / (r.Splits.length + 1):Nat),((v - 1) % (r.Splits.length + 1):Nat)⟩ else ⟨-1,(v - r.Starts.length * (r.Splits.length + 1):Nat)⟩
theorem wPe {r:wAA} (C:RC r):np r <= 69:=by
 have h:r.Starts.length * (r.Splits.length + 1) <= 8 * 8:=nU C.n.2 (by have:=C.m;omega)
 have:=C.c
 unfold np
 omega
theorem wRO {r:wAA} {s k:Nat} (h1:s < r.Starts.length) (h2:k <= r.Splits.length):s * (r.Splits.length + 1) + k < r.Starts.length * (r.Splits.length + 1):=by
 have:(s + 1) * (r.Splits.length + 1) <= r.Starts.length * (r.Splits.length + 1):=Nat.mul_le_mul_right _ h1
 rw [Nat.add_mul] at this
 omega
theorem wUY (r:wAA):plc r zp=0:=rfl
theorem wJu {r:wAA} {s k:Int} (h0:0 <= s):plc r ⟨s,k⟩=1 + s.toNat * (r.Splits.length + 1) + k.toNat:=if_neg (by simp only;omega)
theorem wGf {r:wAA} {k:Int} (h0:1 <= k):plc r ⟨-1,k⟩=r.Starts.length * (r.Splits.length + 1) + k.toNat:=(if_pos rfl).trans (if_neg (by simp only;omega))
theorem wCN {r:wAA} {p:Pt} (hp:wEa r p):plc r p < np r:=by
 unfold np
 rcases hp with rfl | ⟨a,b,c,d⟩ | ⟨a,b,c⟩
 ·rw [wUY];omega
 ·have e:p=⟨p.skier,p.mat⟩:=rfl
  rw [e,wJu a]
  have:=wRO (r:=r) (s:=p.skier.toNat) (k:=p.mat.toNat) (by omega) (by omega)
  omega
 ·have e:p=⟨-1,p.mat⟩:=by rw [<- a]
  rw [e,wGf b]
  omega
theorem wHA {r:wAA} {p:Pt} (hp:wEa r p):unp r (plc r p)=p:=by
 rcases hp with rfl | ⟨a,b,c,d⟩ | ⟨a,b,c⟩
 ·rfl
 ·have e:p=⟨p.skier,p.mat⟩:=rfl
  rw [e,wJu a]
  have h:=wRO (r:=r) (s:=p.skier.toNat) (k:=p.mat.toNat) (by omega) (by omega)
  unfold unp
  rw [if_neg (by omega),if_pos (by omega)]
  have e1:1 + p.skier.toNat * (r.Splits.length + 1) + p.mat.toNat - 1=p.mat.toNat + p.skier.toNat * (r.Splits.length + 1):=by omega
  have e2:(p.mat.toNat + p.skier.toNat * (r.Splits.length + 1)) / (r.Splits.length + 1)=p.skier.toNat:=by
   rw [Nat.add_mul_div_right _ _ (by omega),Nat.div_eq_of_lt (by omega),nV]
  have e3:(p.mat.toNat + p.skier.toNat * (r.Splits.length + 1)) % (r.Splits.length + 1)=p.mat.toNat:=by
   rw [Nat.add_mul_mod_self_right,Nat.mod_eq_of_lt (by omega)]
  rw [e1,e2,e3,nA a,nA c]
 ·have e:p=⟨-1,p.mat⟩:=by rw [<- a]
  rw [e,wGf b]
  unfold unp
  rw [if_neg (by omega),if_neg (by omega)]
  have e1:r.Starts.length * (r.Splits.length + 1) + p.mat.toNat - r.Starts.length * (r.Splits.length + 1)=p.mat.toNat:=by omega
  rw [e1,nA (by omega)]
theorem wRP {r:wAA} {v:Nat} (hv:v < np r):wEa r (unp r v):=by
 unfold np at hv
 unfold unp
 by_cases c:v=0
 ·rw [if_pos c];exact .inl rfl
 ·rw [if_neg c]
  by_cases d:v <= r.Starts.length * (r.Splits.length + 1)
  ·rw [if_pos d]
   have h1:(v - 1) / (r.Splits.length + 1) < r.Starts.length:=by
    rw [Nat.div_lt_iff_lt_mul (by omega)];omega
   have h2:(v - 1) % (r.Splits.length + 1) < r.Splits.length + 1:=Nat.mod_lt _ (by omega)
   exact .inr (.inl ⟨nW _,Int.ofNat_lt.2 h1,nW _,Int.ofNat_le.2 (Nat.lt_succ_iff.1 h2)⟩)
  ·rw [if_neg d]
   exact .inr (.inr ⟨rfl,by simp only;omega,by simp only;omega⟩)
theorem wSm {r:wAA} {p q:Pt} (hp:wEa r p) (hq:wEa r q) (h:plc r p=plc r q):p=q:=by
 rw [<- wHA hp,<- wHA hq,h]
section
variable {r:wAA} (C:RC r)
include C
theorem wUZ {s k:Int} (h0:0 <= s) (h1:s <= r.Starts.length) (k0:0 <= k) (k1:k <= 100):wAO (cv r) s k=some ((1 + s.toNat * (r.Splits.length + 1) + k.toNat:Nat):Int):=by
 have hm:=C.m;have hn:=C.n
 obtain ⟨s,rfl⟩:=Int.eq_ofNat_of_zero_le h0
 have hb:s * (r.Splits.length + 1) <= 8 * 8:=nU (by omega) (by omega)
 have e:(s:Int) * ((r.Splits.length:Int) + 1)=((s * (r.Splits.length + 1):Nat):Int):=by simp
 unfold wAO
 show some (w64 ((w64 (1 + (w64 ((s:Int) * (w64 ((r.Splits.length:Int) + 1)))))) + k))=_
 rw [wAX (x:=(r.Splits.length:Int) + 1) (by omega) (by omega),e,wAX (x:=((s * (r.Splits.length + 1):Nat):Int)) (by omega) (by omega),wAX (x:=1 + _) (by omega) (by omega),wAX (by omega) (by omega),nG]
 congr 1
 omega
theorem wFf {s k:Int} (h0:0 <= s) (h1:s < r.Starts.length) (k0:0 <= k) (k1:k <= r.Splits.length):wAO (cv r) s k=some (plc r ⟨s,k⟩:Int):=by
 have:=C.m
 rw [wUZ C h0 (by omega) k0 (by omega),wJu h0]
theorem wJv {i:Int} (h0:0 <= i) (h1:i <= r.Clocks.length):wAh (cv r) i=some (plc r ⟨-1,1 + i⟩:Int):=by
 have hc:=C.c
 have hb:r.Starts.length * (r.Splits.length + 1) <= 8 * 8:=nU C.n.2 (by have:=C.m;omega)
 unfold wAh
 show (wAO (cv r) (r.Starts.length:Int) 0).bind _=_
 rw [wUZ C (by omega) (Int.le_refl _) (by omega) (by omega),hH,wGf (by omega),nG,wAX (by omega) (by omega)]
 congr 1
 omega
theorem wKk:wBV (cv r)=some (np r:Int):=by
 unfold wBV
 show (wAh (cv r) ((r.Clocks.map _).length:Int)).bind _=_
 rw [nE,wJv C (by omega) (Int.le_refl _),hH,wGf (by omega)]
 unfold np
 congr 1
 omega
end
theorem wSn {n:Nat} {t:List (List Int)} (M:Mx n t) {a b:Nat} (ha:a < n) (hb:b < n) (hab:a ≠ b) (u v:Int):∃ t',wAL ⟨t⟩ (a:Int) (b:Int) u v=some t'/\Mx n t'/\∀ i j,i < n->j < n->mx t' i j=if i=a/\j=b then min (mx t a b) u else if i=b/\j=a then min (mx t b a) v else mx t i j:=by
 obtain ⟨M1,g1⟩:=M.put ha hb (min (mx t a b) u)
 have e1:mx (nJ t a (nJ (gd t a) b (min (mx t a b) u))) b a=mx t b a:=by rw [g1 b a hb ha,if_neg (by omega)]
 obtain ⟨M2,g2⟩:=M1.put hb ha (min (mx t b a) v)
 refine ⟨_,?_,M2,fun i j hi hj=>?_⟩
 ·unfold wAL
  simp only [nG]
  have r1:=M.rows;have r2:=M1.rows
  have c1:=M.cols a ha;have c2:=M1.cols b hb
  rw [wCW (by omega) (by omega),hH,wCW (by omega) (by omega),hH,wCW (by omega) (by omega),hH]
  rw [show min (gd (gd t a) b) u=min (mx t a b) u from rfl,wCW (by omega) (by omega),hH,wCW (by omega) (by omega),hH]
  rw [show gd (gd (nJ t a (nJ (gd t a) b (min (mx t a b) u))) b) a=mx t b a from e1]
 ·rw [g2 i j hi hj]
  by_cases c:i=b/\j=a
  ·rw [if_pos c,if_neg (by omega),if_pos c]
  ·rw [if_neg c,g1 i j hi hj,if_neg c]
structure Gt (r:wAA) (X:wAJ->Prop) (t:List (List Int)):Prop where
 m:Mx (np r) t
 b0:∀ a b,a < np r->b < np r->mx t a b=1125899906842624 \/ (-400000 <= mx t a b/\mx t a b <= 400000)
 d0:∀ a,a < np r->mx t a a=0
 fe:∀ y,wCb r y->∀ a b,a < np r->b < np r->y (unp r b) - y (unp r a) <= mx t a b
 le:∀ x,wCO r x->X x->mx t (plc r (wCt r x).1) (plc r (wCt r x).2.1) <= (wCt r x).2.2
theorem wSo {r:wAA} (C:RC r) {x:wAJ} (h:wCO r x):(wCt r x).1 ≠ (wCt r x).2.1:=by
 have key:(wBz r x).1 ≠ (wBz r x).2.1:=by
  unfold wBz
  rcases h with ⟨k,a,b,c⟩ | ⟨k,a,b,c,d⟩ | ⟨k,a,c,d⟩ | ⟨k,a,c,d⟩
  ·rw [if_pos k]
   intro e
   have:=congrArg wAE.skier e
   simp only [zp] at this
   omega
  ·rw [if_neg (by omega),if_pos k]
   intro e
   have:=congrArg wAE.mat e
   simp only at this
   omega
  ·rw [if_neg (by omega),if_neg (by omega),if_pos k]
   intro e
   have:=congrArg wAE.mat e
   simp only [zp] at this
   omega
  ·have u:=C.ru _ (wCd c d)
   rw [if_neg (by omega),if_neg (by omega),if_neg (by omega)]
   intro e
   have:=congrArg wAE.skier e
   simp only at this
   omega
 unfold wCt
 split
 ·exact key
 ·exact fun e=>key e.symm
theorem wSp {r:wAA} {x:wAJ} (h:x.Up=true):wCt r x=((wBz r x).1,(wBz r x).2.1,(wBz r x).2.2.1)/\wCt r (wSk x)=((wBz r x).2.1,(wBz r x).1,(wBz r x).2.2.2):=by
 obtain ⟨k,s,i,u⟩:=x
 simp only at h
 subst h
 exact ⟨rfl,rfl⟩
theorem Gt.both {r:wAA} (C:RC r) {X X':wAJ->Prop} {t:List (List Int)} (G:Gt r X t) {x:wAJ} (hx:wCO r x) (hu:x.Up=true) (hX:∀ z,wCO r z->X' z->X z \/ z=x \/ z=wSk x) :
  ∃ t',wAL ⟨t⟩ (plc r (wBz r x).1:Int) (plc r (wBz r x).2.1:Int) (wBz r x).2.2.1 (wBz r x).2.2.2=some t'/\Gt r X' t':=by
 obtain ⟨e1,e2⟩:=wSp (r:=r) hu
 obtain ⟨o1,o2,c1,c2⟩:=wDS C hx
 obtain ⟨tk,_,_⟩:=wPa (r:=r) hx
 obtain ⟨_,_,c3,c4⟩:=wDS C tk
 have hne:=wSo C hx
 rw [e1] at o1 o2 c1 c2 hne
 rw [e2] at c3 c4
 simp only at o1 o2 c1 c2 c3 c4 hne
 have ha:=wCN o1
 have hb:=wCN o2
 have hab:plc r (wBz r x).1 ≠ plc r (wBz r x).2.1:=fun h=>hne (wSm o1 o2 h)
 obtain ⟨t',e,M,g⟩:=wSn G.m ha hb hab (wBz r x).2.2.1 (wBz r x).2.2.2
 have up1:=wHA o1
 have up2:=wHA o2
 have hl1:∀ y,wCb r y->y (wBz r x).2.1 <= y (wBz r x).1 + (wBz r x).2.2.1:=fun y F=>by have:=F x hx;rw [e1] at this;exact this
 have hl2:∀ y,wCb r y->y (wBz r x).1 <= y (wBz r x).2.1 + (wBz r x).2.2.2:=fun y F=>by have:=F _ tk;rw [e2] at this;exact this
 generalize hA:plc r (wBz r x).1=A at *
 generalize hB:plc r (wBz r x).2.1=B at *
 refine ⟨t',e,M,fun a b ha' hb'=>?_,fun a ha'=>?_,fun y F a b ha' hb'=>?_,fun z hz hXz=>?_⟩
 ·rw [g a b ha' hb']
  have:=G.b0 A B ha hb
  have:=G.b0 B A hb ha
  split
  ·omega
  ·split
   ·omega
   ·exact G.b0 a b ha' hb'
 ·rw [g a a ha' ha',if_neg (by omega),if_neg (by omega)]
  exact G.d0 a ha'
 ·rw [g a b ha' hb']
  have f1:=G.fe y F A B ha hb
  have f2:=G.fe y F B A hb ha
  have h1:=hl1 y F
  have h2:=hl2 y F
  rw [up1,up2] at f1 f2
  split
  ·rename_i h
   rw [h.1,h.2,up1,up2];omega
  ·split
   ·rename_i h
    rw [h.1,h.2,up1,up2];omega
   ·exact G.fe y F a b ha' hb'
 ·obtain ⟨z1,z2,_,_⟩:=wDS C hz
  have p1:=wCN z1
  have p2:=wCN z2
  rcases hX z hz hXz with h | rfl | rfl
  ·have old:=G.le z hz h
   rw [g _ _ p1 p2]
   split
   ·rename_i q
    rw [q.1,q.2] at old
    omega
   ·split
    ·rename_i q
     rw [q.1,q.2] at old
     omega
    ·exact old
  ·rw [e1]
   simp only
   rw [hA,hB,g _ _ ha hb,if_pos ⟨rfl,rfl⟩]
   exact Int.min_le_right _ _
  ·rw [e2]
   simp only
   rw [hA,hB,g _ _ hb ha,if_neg (fun h=>hab h.1.symm),if_pos ⟨rfl,rfl⟩]
   exact Int.min_le_right _ _
end Go.Proofs.YtlnfbjphfoipaaaGreat
namespace Go.Proofs.YtlnfbjphfoipaaaGreat
open Go.KL Go.KL.Net Go.KL.Floyd
theorem wQf {n:Nat} (hn:n <= 100):∃ t,(wBn 0 (n:Int) (fun k38 l32 =>
  (mkz 8 (n:Int) (0:Int)).bind fun x64 =>
  (wBn 0 (n:Int) (fun k78 l77 =>
   if (↑k38:Int)=(↑k78:Int) then
    some l77
   else
    (chk (↑k78:Int) l77.length).bind fun _ =>
    some (nJ l77 k78 1125899906842624)) x64).bind fun y83 =>
  (app 24 l32 [y83]).bind fun x140 =>
  some x140) ([]:List (List Int)))=some t/\Mx n t/\∀ a b,a < n->b < n->mx t a b=if a=b then 0 else 1125899906842624:=by
 have row:∀ k:Nat,∃ l:List Int,(wBn 0 (n:Int) (fun k78 l77 =>
   if (↑k:Int)=(↑k78:Int) then
    some l77
   else
    (chk (↑k78:Int) l77.length).bind fun _ =>
    some (nJ l77 k78 1125899906842624)) (List.replicate (n:Int).toNat (0:Int)))=some l/\l.length=n/\∀ b,b < n->gd l b=if k=b then 0 else 1125899906842624:=by
  intro k
  rw [wCo (by omega)]
  obtain ⟨l,e,l1,l2⟩:=wDh (body:=fun (k78:Nat) (l77:List Int) =>
   if (↑k:Int)=(↑k78:Int) then
    some l77
   else
    (chk (↑k78:Int) l77.length).bind fun _ =>
    some (nJ l77 k78 1125899906842624)) (fun i s=>s.length=n/\∀ b,b < n->gd s b=if b < i then (if k=b then 0 else 1125899906842624) else 0) n 0 (List.replicate (n:Int).toNat (0:Int)) ⟨by simp,fun b hb=>by rw [if_neg (by omega),wKc (by simpa using hb)];simp⟩ (by
   rintro i s _ hi ⟨s1,s2⟩
   by_cases c:k=i
   ·refine ⟨s,by rw [if_pos (by omega)],s1,fun b hb=>?_⟩
    rw [s2 b hb]
    by_cases d:b < i
    ·rw [if_pos d,if_pos (show b < i + 1 by omega)]
    ·by_cases e:b=i
     ·rw [if_neg d,if_pos (show b < i + 1 by omega),if_pos (show k=b by omega)]
     ·rw [if_neg d,if_neg (show ¬ b < i + 1 by omega)]
   ·refine ⟨_,by rw [if_neg (by omega),wCW (by omega) (by omega)];rfl,by simp [s1],fun b hb=>?_⟩
    rw [wIR (by omega) (by omega),s2 b hb]
    by_cases e:b=i
    ·rw [if_pos e,if_pos (show b < i + 1 by omega),if_neg (show ¬ k=b by omega)]
    ·by_cases d:b < i
     ·rw [if_neg e,if_pos d,if_pos (show b < i + 1 by omega)]
     ·rw [if_neg e,if_neg d,if_neg (show ¬ b < i + 1 by omega)])
  rw [nV] at l2
  exact ⟨l,e,l1,fun b hb=>by rw [l2 b hb,if_pos hb]⟩
 rw [wCo (by omega)]
 obtain ⟨t,e,t1,t2⟩:=wDh (body:=fun (k38:Nat) (l32:List (List Int)) =>
  (mkz 8 (n:Int) (0:Int)).bind fun x64 =>
  (wBn 0 (n:Int) (fun k78 l77 =>
   if (↑k38:Int)=(↑k78:Int) then
    some l77
   else
    (chk (↑k78:Int) l77.length).bind fun _ =>
    some (nJ l77 k78 1125899906842624)) x64).bind fun y83 =>
  (app 24 l32 [y83]).bind fun x140 =>
  some x140) (fun i s=>s.length=i/\∀ a,a < i->(gd s a).length=n/\∀ b,b < n->gd (gd s a) b=if a=b then 0 else 1125899906842624) n 0 [] ⟨rfl,fun a ha=>by omega⟩ (by
  rintro i s _ hi ⟨s1,s2⟩
  obtain ⟨l,e,l1,l2⟩:=row i
  rw [mkz,if_pos (by omega),hH,e,hH,wEK (by simp only [nH,nB];omega),hH]
  refine ⟨_,rfl,by simp [s1],fun a ha=>?_⟩
  by_cases c:a=i
  ·subst c
   have e2:gd (s ++ [l]) a=l:=by rw [<- s1];exact wQV s [] l
   rw [e2]
   exact ⟨l1,l2⟩
  ·rw [wJr (by omega)]
   exact s2 a (by omega))
 rw [nV] at t1 t2
 exact ⟨t,e,⟨t1,fun a ha=>(t2 a ha).1⟩,fun a b ha hb=>(t2 a ha).2 b hb⟩
def done (s0 s1 j c q:Int) (x:wAJ):Prop:=(x.Kind=0/\x.Skier < s0) \/ (x.Kind=1/\(x.Skier < s1 \/ (x.Skier=s1/\x.Index < j))) \/ (x.Kind=2/\x.Index < c) \/ (x.Kind=3/\x.Index < q)
theorem Gt.weak {r:wAA} {X X':wAJ->Prop} {t:List (List Int)} (G:Gt r X t) (h:∀ z,wCO r z->X' z->X z):Gt r X' t:=⟨G.m,G.b0,G.d0,G.fe,fun z hz hX=>G.le z hz (h z hz hX)⟩
theorem wGg {z:wAJ} {k s i:Int} (h1:z.Kind=k) (h2:z.Skier=s) (h3:z.Index=i):z=⟨k,s,i,true⟩ \/ z=wSk ⟨k,s,i,true⟩:=by
 obtain ⟨a,b,c,u⟩:=z
 simp only at h1 h2 h3
 subst h1 h2 h3
 cases u
 ·exact .inr rfl
 ·exact .inl rfl
structure Tab (r:wAA) (T:List (List Int)):Prop where
 ex:∃ t,Gt r (fun _=>True) t/\Fl (np r) t T (np r)
section
variable {r:wAA} (C:RC r)
include C
theorem wQg {t:List (List Int)} (G:Gt r (fun _=>True) t):∃ T,((wBn 0 (np r:Int) (fun k561 l560=>rB (np r) k561 l560) t).bind fun y566=>some y566)=some T/\Tab r T:=by
 obtain ⟨T,e,F⟩:=wQe (n:=np r) (by have:=wPe C;omega) G.m G.b0
 exact ⟨T,by rw [e];rfl,⟨t,G,F⟩⟩
def rdB (r:wAA):(List (List Int) × Int)->Option ((List (List Int) × Int) ⊕ List (List Int)):=fun (l449,x450) =>
            if x450 < (↑(cv r).Readings.length:Int) then
              (idx (cv r).Readings x450).bind fun x468 =>
              (idx (cv r).Clocks x468.Clock).bind fun x487 =>
              (wAh (cv r) x468.Clock).bind fun x511 =>
              (wAO (cv r) x468.Skier x468.Mat).bind fun x525 =>
              (wAL (⟨l449⟩:wAR) x511 x525 (w64 (x468.Time + x487.Error)) (w64 (x487.Error - x468.Time))).bind fun x535 =>
              some (.inl (x535,w64 (x450 + 1)))
            else
              esc ((wBn 0 (np r:Int) (fun k561 l560=>rB (np r) k561 l560) l449).bind fun y566=>some y566)
theorem rd_is {t:List (List Int)} (G:Gt r (done r.Starts.length r.Starts.length 0 r.Clocks.length 0) t):∃ T,iter (rdB r) big (t,0)=some T/\Tab r T:=by
 have hq:=C.q
 have hl:(cv r).Readings.length=r.Readings.length:=nE ..
 refine wGZ (I:=fun i (s:List (List Int) × Int)=>s.2=(i:Int)/\Gt r (done r.Starts.length r.Starts.length 0 r.Clocks.length i) s.1) (Z:=Tab r) r.Readings.length ?_ ⟨rfl,G⟩ (by omega)
 rintro i ⟨t,x⟩ hi ⟨rfl,G⟩
 unfold rdB
 simp only [hl]
 by_cases c:(i:Int) < (r.Readings.length:Int)
 ·left
  have hi':i < r.Readings.length:=by omega
  have hm:=wDH hi'
  obtain ⟨u1,u2,u3,u4,u5,u6⟩:=C.ru _ hm
  have ut:=C.rt _ hm
  have uc:=C.ck _ (wCd u5 u6)
  obtain ⟨t',e,G'⟩:=G.both C (x:=⟨3,0,(i:Int),true⟩) (X':=done r.Starts.length r.Starts.length 0 r.Clocks.length ((i + 1:Nat):Int)) (.inr (.inr (.inr ⟨rfl,rfl,by simp only;omega,by simp only;omega⟩))) rfl fun z hz hX=>by
   unfold wCO at hz
   unfold done at hX ⊢
   by_cases q:z.Kind=3/\z.Index=(i:Int)
   ·exact .inr (wGg q.1 (by omega) q.2)
   ·left;omega
  have e1:idx (cv r).Readings (i:Int)=some ⟨(gd r.Readings i).Skier,(gd r.Readings i).Mat,(gd r.Readings i).Clock,(gd r.Readings i).Time⟩:=by
   rw [wAz (by rw [hl];exact hi')]
   exact congrArg some (wEx _ hi')
  have e2:idx (cv r).Clocks (gd r.Readings i).Clock=some ⟨(gd r.Clocks (gd r.Readings i).Clock.toNat).Offset,(gd r.Clocks (gd r.Readings i).Clock.toNat).Error⟩:=by
   rw [wDR u5 (by show _ < ((r.Clocks.map _).length:Int);rw [nE];exact u6)]
   exact congrArg some (wEx _ (by omega))
  have w1:w64 ((gd r.Readings i).Time + (gd r.Clocks (gd r.Readings i).Clock.toNat).Error)=(gd r.Readings i).Time + (gd r.Clocks (gd r.Readings i).Clock.toNat).Error:=wAX (by omega) (by omega)
  have w2:w64 ((gd r.Clocks (gd r.Readings i).Clock.toNat).Error - (gd r.Readings i).Time)=(gd r.Clocks (gd r.Readings i).Clock.toNat).Error - (gd r.Readings i).Time:=wAX (by omega) (by omega)
  refine ⟨hi',(t',((i + 1:Nat):Int)),?_,rfl,G'⟩
  rw [if_pos c,e1,hH]
  simp only
  rw [e2,hH,wJv C u5 (by omega),hH,wFf C u1 u2 u3 u4,hH]
  simp only
  rw [w1,w2,wAX (by omega) (by omega)]
  have e':wAL (⟨t⟩:wAR) (plc r ⟨-1,1 + (gd r.Readings i).Clock⟩:Int) (plc r ⟨(gd r.Readings i).Skier,(gd r.Readings i).Mat⟩:Int) ((gd r.Readings i).Time + (gd r.Clocks (gd r.Readings i).Clock.toNat).Error) ((gd r.Clocks (gd r.Readings i).Clock.toNat).Error - (gd r.Readings i).Time)=some t':=e
  rw [e']
  rfl
 ·right
  have hi':i=r.Readings.length:=by omega
  obtain ⟨T,e,hT⟩:=wQg C (G.weak fun z hz _=>by unfold wCO at hz;unfold done;omega)
  exact ⟨T,by rw [if_neg c,e];rfl,hT⟩
def ckB (r:wAA):(List (List Int) × Int)->Option ((List (List Int) × Int) ⊕ List (List Int)):=fun (l366,x367) =>
        if x367 < (↑(cv r).Clocks.length:Int) then
          (idx (cv r).Clocks x367).bind fun x387 =>
          (wAh (cv r) x367).bind fun x414 =>
          (wAL (⟨l366⟩:wAR) 0 x414 (w64 (-x387.Offset.Lo)) x387.Offset.Hi).bind fun x424 =>
          some (.inl (x424,w64 (x367 + 1)))
        else
          esc (iter (rdB r) big (l366,0))
theorem ck_is {t:List (List Int)} (G:Gt r (done r.Starts.length r.Starts.length 0 0 0) t):∃ T,iter (ckB r) big (t,0)=some T/\Tab r T:=by
 have hq:=C.c
 have hl:(cv r).Clocks.length=r.Clocks.length:=nE ..
 refine wGZ (I:=fun i (s:List (List Int) × Int)=>s.2=(i:Int)/\Gt r (done r.Starts.length r.Starts.length 0 i 0) s.1) (Z:=Tab r) r.Clocks.length ?_ ⟨rfl,G⟩ (by omega)
 rintro i ⟨t,x⟩ hi ⟨rfl,G⟩
 unfold ckB
 simp only [hl]
 by_cases c:(i:Int) < (r.Clocks.length:Int)
 ·left
  have hi':i < r.Clocks.length:=by omega
  have uc:=C.ck _ (wDH hi')
  obtain ⟨t',e,G'⟩:=G.both C (x:=⟨2,0,(i:Int),true⟩) (X':=done r.Starts.length r.Starts.length 0 ((i + 1:Nat):Int) 0) (.inr (.inr (.inl ⟨rfl,rfl,by simp only;omega,by simp only;omega⟩))) rfl fun z hz hX=>by
   unfold wCO at hz
   unfold done at hX ⊢
   by_cases q:z.Kind=2/\z.Index=(i:Int)
   ·exact .inr (wGg q.1 (by omega) q.2)
   ·left;omega
  have e2:idx (cv r).Clocks (i:Int)=some ⟨(gd r.Clocks i).Offset,(gd r.Clocks i).Error⟩:=by
   rw [wAz (by rw [hl];exact hi')]
   exact congrArg some (wEx _ hi')
  refine ⟨hi',(t',((i + 1:Nat):Int)),?_,rfl,G'⟩
  rw [if_pos c,e2,hH,wJv C (by omega) (by omega),hH]
  simp only
  rw [wAX (x:=-(gd r.Clocks i).Offset.Lo) (by omega) (by omega),wAX (by omega) (by omega)]
  have e':wAL (⟨t⟩:wAR) 0 (plc r ⟨-1,1 + (i:Int)⟩:Int) (-(gd r.Clocks i).Offset.Lo) (gd r.Clocks i).Offset.Hi=some t':=e
  rw [e']
  rfl
 ·right
  have hi':i=r.Clocks.length:=by omega
  obtain ⟨T,e,hT⟩:=rd_is C (G.weak fun z hz hX=>by unfold wCO at hz;unfold done at hX ⊢;omega)
  exact ⟨T,by rw [if_neg c,e];rfl,hT⟩
def spB' (r:wAA) (x194:Int):(List (List Int) × Int)->Option ((List (List Int) × Int) ⊕ ((List (List Int) × Int) ⊕ List (List Int))):=fun (l266,x267) =>
        if x267 < (↑(cv r).Splits.length:Int) then
          (idx (cv r).Splits x267).bind fun x288 =>
          (wAO (cv r) x194 x267).bind fun x311 =>
          (wAO (cv r) x194 (w64 (x267 + 1))).bind fun x325 =>
          (wAL (⟨l266⟩:wAR) x311 x325 x288.Hi (w64 (-x288.Lo))).bind fun x335 =>
          some (.inl (x335,w64 (x267 + 1)))
        else
          esc (some (.inl (l266,w64 (x194 + 1))))
def stB (r:wAA):(List (List Int) × Int)->Option ((List (List Int) × Int) ⊕ List (List Int)):=fun (l193,x194) =>
  if x194 < (↑(cv r).Starts.length:Int) then
   (idx (cv r).Starts x194).bind fun x214 =>
   (wAO (cv r) x194 0).bind fun x237 =>
   (wAL (⟨l193⟩:wAR) 0 x237 x214 (w64 (-x214))).bind fun x247 =>
   iter (spB' r x194) big (x247,0)
  else
   esc (iter (ckB r) big (l193,0))
theorem sp_is {k:Nat} (hk:k < r.Starts.length) {t:List (List Int)} (G:Gt r (done ((k + 1:Nat):Int) k 0 0 0) t):∃ b,iter (spB' r (k:Int)) big (t,0)=some b/\∃ t',b=.inl (t',((k + 1:Nat):Int))/\Gt r (done ((k + 1:Nat):Int) ((k + 1:Nat):Int) 0 0 0) t':=by
 have hm:=C.m;have hn:=C.n
 refine wGZ (I:=fun i (s:List (List Int) × Int)=>s.2=(i:Int)/\Gt r (done ((k + 1:Nat):Int) k i 0 0) s.1) (Z:=fun (b:(List (List Int) × Int) ⊕ List (List Int))=>∃ t',b=.inl (t',((k + 1:Nat):Int))/\Gt r (done ((k + 1:Nat):Int) ((k + 1:Nat):Int) 0 0 0) t') r.Splits.length ?_ ⟨rfl,G⟩ (by omega)
 rintro i ⟨t,x⟩ hi ⟨rfl,G⟩
 unfold spB'
 simp only [show (cv r).Splits=r.Splits from rfl]
 by_cases c:(i:Int) < (r.Splits.length:Int)
 ·left
  have hi':i < r.Splits.length:=by omega
  have uc:=C.sp _ (wDH hi')
  obtain ⟨t',e,G'⟩:=G.both C (x:=⟨1,(k:Int),(i:Int),true⟩) (X':=done ((k + 1:Nat):Int) k ((i + 1:Nat):Int) 0 0) (.inr (.inl ⟨rfl,by simp only;omega,by simp only;omega,by simp only;omega,by simp only;omega⟩)) rfl fun z hz hX=>by
   unfold wCO at hz
   unfold done at hX ⊢
   by_cases q:z.Kind=1/\z.Skier=(k:Int)/\z.Index=(i:Int)
   ·exact .inr (wGg q.1 q.2.1 q.2.2)
   ·left;omega
  refine ⟨hi',(t',((i + 1:Nat):Int)),?_,rfl,G'⟩
  rw [if_pos c,wAz hi',hH,wAX (x:=(i:Int) + 1) (by omega) (by omega),wFf C (by omega) (by omega) (by omega) (by omega),hH,wFf C (by omega) (by omega) (by omega) (by omega),hH,wAX (by omega) (by omega)]
  have e':wAL (⟨t⟩:wAR) (plc r ⟨(k:Int),(i:Int)⟩:Int) (plc r ⟨(k:Int),(i:Int) + 1⟩:Int) (gd r.Splits i).Hi (-(gd r.Splits i).Lo)=some t':=e
  rw [e']
  rfl
 ·right
  have hi':i=r.Splits.length:=by omega
  refine ⟨.inl (t,((k + 1:Nat):Int)),by rw [if_neg c,wAX (by omega) (by omega)];rfl,t,rfl,G.weak fun z hz hX=>by unfold wCO at hz;unfold done at hX ⊢;omega⟩
theorem st_is {t:List (List Int)} (G:Gt r (done 0 0 0 0 0) t):∃ T,iter (stB r) big (t,0)=some T/\Tab r T:=by
 have hn:=C.n
 refine wGZ (I:=fun i (s:List (List Int) × Int)=>s.2=(i:Int)/\Gt r (done i i 0 0 0) s.1) (Z:=Tab r) r.Starts.length ?_ ⟨rfl,G⟩ (by omega)
 rintro i ⟨t,x⟩ hi ⟨rfl,G⟩
 unfold stB
 simp only [show (cv r).Starts=r.Starts from rfl]
 by_cases c:(i:Int) < (r.Starts.length:Int)
 ·left
  have hi':i < r.Starts.length:=by omega
  have uc:=C.st _ (wDH hi')
  obtain ⟨t',e,G'⟩:=G.both C (x:=⟨0,(i:Int),0,true⟩) (X':=done ((i + 1:Nat):Int) i 0 0 0) (.inl ⟨rfl,by simp only;omega,by simp only;omega,rfl⟩) rfl fun z hz hX=>by
   unfold wCO at hz
   unfold done at hX ⊢
   by_cases q:z.Kind=0/\z.Skier=(i:Int)
   ·exact .inr (wGg q.1 q.2 (by omega))
   ·left;omega
  obtain ⟨b,e2,t2,rfl,G2⟩:=sp_is C hi' G'
  refine ⟨hi',(t2,((i + 1:Nat):Int)),?_,rfl,G2⟩
  rw [if_pos c,wAz hi',hH,wFf C (by omega) (by omega) (by omega) (by omega),hH,wAX (by omega) (by omega)]
  have e':wAL (⟨t⟩:wAR) 0 (plc r ⟨(i:Int),0⟩:Int) (gd r.Starts i) (-gd r.Starts i)=some t':=e
  rw [e',hH]
  exact e2
 ·right
  have hi':i=r.Starts.length:=by omega
  obtain ⟨T,e,hT⟩:=ck_is C (G.weak fun z hz hX=>by unfold wCO at hz;unfold done at hX ⊢;omega)
  exact ⟨T,by rw [if_neg c,e];rfl,hT⟩
theorem wKl:wAi (cv r)=(wBV (cv r)).bind fun x5 =>
 (wBn 0 x5 (fun k38 l32 =>
  (mkz 8 x5 (0:Int)).bind fun x64 =>
  (wBn 0 x5 (fun k78 l77 =>
   if (↑k38:Int)=(↑k78:Int) then
    some l77
   else
    (chk (↑k78:Int) l77.length).bind fun _ =>
    some (nJ l77 k78 1125899906842624)) x64).bind fun y83 =>
  (app 24 l32 [y83]).bind fun x140 =>
  some x140) []).bind fun y43=>if x5=(np r:Int) then iter (stB r) big (y43,0) else none:=by
 unfold wAi
 rw [wKk C,hH,hH]
 simp only [if_true]
 rfl
theorem wMn:∃ T,wAi (cv r)=some T/\Tab r T:=by
 rw [wKl C,wKk C,hH]
 have hnp:=wPe C
 obtain ⟨t,e,M,g⟩:=wQf (n:=np r) (by omega)
 rw [e,hH,if_pos rfl]
 refine st_is C ⟨M,fun a b ha hb=>?_,fun a ha=>by rw [g a a ha ha,if_pos rfl],fun y F a b ha hb=>?_,fun x hx hX=>?_⟩
 ·rw [g a b ha hb]
  split <;> omega
 ·have h1:=wHP C F (wRP ha)
  have h2:=wHP C F (wRP hb)
  rw [g a b ha hb]
  split
  ·rename_i h;subst h;omega
  ·omega
 ·unfold wCO at hx
  unfold done at hX
  omega
theorem Tab.clash {T:List (List Int)} (h:Tab r T):(∃ y,wCb r y) ↔ ∀ a,a < np r->0 <= mx T a a:=by
 obtain ⟨t,G,F⟩:=h
 constructor
 ·rintro ⟨y,hy⟩ a ha
  have:=F.fe (fun v=>y (unp r v)) (G.fe y hy) a a ha ha
  omega
 ·intro h0
  have hz:wEa r zp:=.inl rfl
  have p0:plc r zp < np r:=wCN hz
  have hnp:=wPe C
  have fin:∀ p,wEa r p->mx T (plc r zp) (plc r p) < 1125899906842624:=fun p hp=>by
   refine wSj (S:=fun q=>wEa r q->mx T (plc r zp) (plc r q) < 1125899906842624) (fun x hx h _=>?_) (fun _=>?_) hp hp
   ·obtain ⟨o1,o2,c1,c2⟩:=wDS C hx
    have hf:=h o1
    have b:=F.fin (by omega) (Nat.le_refl _) h0 p0 (wCN o1) hf
    have e:=nP (F.le _ _ (wCN o1) (wCN o2)) (G.le x hx trivial)
    have:=F.tri h0 _ (wCN o1) _ _ p0 (wCN o2) hf (by omega)
    omega
   ·have:=F.le _ _ p0 p0
    rw [G.d0 _ p0] at this
    omega
  refine ⟨fun p=>mx T (plc r zp) (plc r p),fun x hx=>?_⟩
  obtain ⟨o1,o2,c1,c2⟩:=wDS C hx
  have e:=nP (F.le _ _ (wCN o1) (wCN o2)) (G.le x hx trivial)
  have:=F.tri h0 _ (wCN o1) _ _ p0 (wCN o2) (fin _ o1) (by omega)
  show mx T (plc r zp) (plc r (wCt r x).2.1) <= mx T (plc r zp) (plc r (wCt r x).1) + (wCt r x).2.2
  omega
theorem Tab.isDP {T:List (List Int)} (h:Tab r T) (hy:∃ y,wCb r y) {a:Pt} (ha:wEa r a):IsDP r a fun p=>mx T (plc r a) (plc r p):=by
 have h0:=(h.clash C).1 hy
 obtain ⟨t,G,F⟩:=h
 have p0:=wCN ha
 have hnp:=wPe C
 have d:mx T (plc r a) (plc r a)=0:=by
  have h1:=F.le _ _ p0 p0
  rw [G.d0 _ p0] at h1
  have:=h0 _ p0
  omega
 have cl:∀ x,wCO r x->(wEa r (wCt r x).1->mx T (plc r a) (plc r (wCt r x).1) < 1125899906842624)->(wEa r (wCt r x).2.1->mx T (plc r a) (plc r (wCt r x).2.1) < 1125899906842624):=fun x hx h _=>by
  obtain ⟨o1,o2,c1,c2⟩:=wDS C hx
  have hf:=h o1
  have b:=F.fin (by omega) (Nat.le_refl _) h0 p0 (wCN o1) hf
  have e:=nP (F.le _ _ (wCN o1) (wCN o2)) (G.le x hx trivial)
  have:=F.tri h0 _ (wCN o1) _ _ p0 (wCN o2) hf (by omega)
  omega
 have fin:∀ p,wEa r p->mx T (plc r a) (plc r p) < 1125899906842624:=fun p hp =>
  wSj (S:=fun q=>wEa r q->mx T (plc r a) (plc r q) < 1125899906842624) cl (wUW (S:=fun q=>wEa r q->mx T (plc r a) (plc r q) < 1125899906842624) cl ha fun _=>by omega) hp hp
 refine ⟨fun x hx=>?_,d,fun y hy p hp=>?_⟩
 ·obtain ⟨o1,o2,c1,c2⟩:=wDS C hx
  have e:=nP (F.le _ _ (wCN o1) (wCN o2)) (G.le x hx trivial)
  have:=F.tri h0 _ (wCN o1) _ _ p0 (wCN o2) (fin _ o1) (by omega)
  show mx T (plc r a) (plc r (wCt r x).2.1) <= mx T (plc r a) (plc r (wCt r x).1) + (wCt r x).2.2
  omega
 ·have:=F.fe (fun v=>y (unp r v)) (G.fe y hy) _ _ p0 (wCN hp)
  simp only [wHA ha,wHA hp] at this
  exact this
end
end Go.Proofs.YtlnfbjphfoipaaaGreat
namespace Go.Proofs.YtlnfbjphfoipaaaGreat
open Go.KL Go.KL.Net
theorem wEh (n lo hi:Int):wAV n lo hi=some (!inB n lo hi):=by
 unfold wAV inB
 by_cases h:n < lo
 ·rw [if_pos h,decide_eq_false (by omega)];rfl
 ·rw [if_neg h]
  congr 1
  rw [nS]
  simp only [nI,decide_eq_true_eq,decide_eq_false_iff_not]
  omega
theorem wPf (s:wAP) (lo hi:Int):wBi s lo hi=some (!wPz s lo hi):=by
 unfold wBi wPz
 by_cases h:s.Hi < s.Lo
 ·rw [if_pos h,decide_eq_false (by omega)];rfl
 ·by_cases h2:s.Lo < lo
  ·rw [if_neg h,if_pos h2,decide_eq_false (by omega)];rfl
  ·rw [if_neg h,if_neg h2]
   congr 1
   rw [nS]
   simp only [nI,decide_eq_true_eq,decide_eq_false_iff_not]
   omega
theorem wFk {S B:Type} {q:Bool} {s:S} {c:B} {x:Option (S ⊕ B)} {y:Option (S ⊕ B)} (hx:x=some (.inr c)) (hy:y=some (.inl s)):(if (!q)=true then x else y)=some (if q=true then .inl s else .inr c):=by
 cases q
 ·rw [hx];rfl
 ·rw [hy];rfl
theorem wIU {r:wAA} (S:wDK r):wBM (cv r)=some (code r):=by
 have hn:=S.n;have hm:=S.m;have hc:=S.c;have hq:=S.q
 have lc:(cv r).Clocks.length=r.Clocks.length:=nE ..
 have lq:(cv r).Readings.length=r.Readings.length:=nE ..
 unfold wBM code
 rw [show (cv r).Starts=r.Starts from rfl,show (cv r).Splits=r.Splits from rfl,lc,lq,wEh,hH]
 by_cases c1:1 <= r.Starts.length/\r.Starts.length <= 8
 ·have e1:(!inB (r.Starts.length:Int) 1 8)=false:=by unfold inB;rw [decide_eq_true (by omega)];rfl
  rw [e1,if_neg (by simp),if_neg (show ¬ ¬ (1 <= r.Starts.length/\r.Starts.length <= 8) from fun h=>h c1)]
  by_cases c2:7 < r.Splits.length
  ·rw [if_pos (show (7:Int) < (r.Splits.length:Int) by omega),if_pos c2]
  ·rw [if_neg (show ¬ (7:Int) < (r.Splits.length:Int) by omega),if_neg c2]
   by_cases c3:4 < r.Clocks.length
   ·rw [if_pos (show (4:Int) < (r.Clocks.length:Int) by omega),if_pos c3]
   ·rw [if_neg (show ¬ (4:Int) < (r.Clocks.length:Int) by omega),if_neg c3]
    by_cases c4:40 < r.Readings.length
    ·rw [if_pos (show (40:Int) < (r.Readings.length:Int) by omega),if_pos c4]
    ·rw [if_neg (show ¬ (40:Int) < (r.Readings.length:Int) by omega),if_neg c4]
     rw [wGb stP,wGb spP,wGb ckP,wGb rtP,wGb (ruP r)]
     refine wEg (fun k=>stP (gd r.Starts k)) 3 (by omega) (fun i hi=>?_) ?_
     ·rw [if_pos (by omega),wAz hi,hH,wEh,hH]
      exact wFk rfl (by rw [wAX (by omega) (by omega)])
     ·rw [if_neg (by omega)]
      refine (congrArg esc (wEg (fun k=>spP (gd r.Splits k)) 3 (by omega) (fun i hi=>?_) ?_)).trans (wFX _)
      ·rw [if_pos (by omega),wAz hi,hH,wPf,hH]
       exact wFk rfl (by rw [wAX (by omega) (by omega)])
      ·rw [if_neg (by omega)]
       refine (congrArg esc (wEg (fun k=>ckP (gd r.Clocks k)) 3 (by omega) (fun i hi=>?_) ?_)).trans (wFX _)
       ·have ei:idx (cv r).Clocks (i:Int)=some ⟨(gd r.Clocks i).Offset,(gd r.Clocks i).Error⟩:=by
         rw [wAz (by rw [lc];exact hi)]
         exact congrArg some (wEx _ hi)
        rw [if_pos (by omega),ei,hH]
        simp only
        rw [wPf,hH,wEh,hH]
        unfold ckP
        cases wPz (gd r.Clocks i).Offset (-36000) 36000
        ·rfl
        ·rw [if_neg (by simp),nM]
         exact wFk rfl (by rw [wAX (by omega) (by omega)])
       ·rw [if_neg (by omega)]
        refine (congrArg esc (wEg (fun k=>rtP (gd r.Readings k)) 3 (by omega) (fun i hi=>?_) ?_)).trans (wFX _)
        ·have ei:idx (cv r).Readings (i:Int)=some ⟨(gd r.Readings i).Skier,(gd r.Readings i).Mat,(gd r.Readings i).Clock,(gd r.Readings i).Time⟩:=by
          rw [wAz (by rw [lq];exact hi)]
          exact congrArg some (wEx _ hi)
         rw [if_pos (by omega),ei,hH]
         simp only
         rw [wEh,hH]
         exact wFk rfl (by rw [wAX (by omega) (by omega)])
        ·rw [if_neg (by omega)]
         refine (congrArg esc (wEg (fun k=>ruP r (gd r.Readings k)) 1 (z:=0) (by omega) (fun i hi=>?_) ?_)).trans (wFX _)
         ·have ei:idx (cv r).Readings (i:Int)=some ⟨(gd r.Readings i).Skier,(gd r.Readings i).Mat,(gd r.Readings i).Clock,(gd r.Readings i).Time⟩:=by
           rw [wAz (by rw [lq];exact hi)]
           exact congrArg some (wEx _ hi)
          rw [if_pos (by omega),ei,hH]
          simp only
          rw [wAX (x:=(r.Starts.length:Int) - 1) (by omega) (by omega),wAX (x:=(r.Clocks.length:Int) - 1) (by omega) (by omega),wEh,hH,wEh,hH,wEh,hH]
          unfold ruP
          cases inB (gd r.Readings i).Skier 0 ((r.Starts.length:Int) - 1)
          ·rfl
          ·rw [if_neg (by simp),nM]
           cases inB (gd r.Readings i).Mat 0 (r.Splits.length:Int)
           ·rfl
           ·rw [if_neg (by simp),nM]
            exact wFk rfl (by rw [wAX (by omega) (by omega)])
         ·rw [if_neg (by omega)];rfl
 ·have e1:(!inB (r.Starts.length:Int) 1 8)=true:=by unfold inB;rw [decide_eq_false (by omega)];rfl
  rw [e1,if_pos rfl,if_pos c1]
theorem wPg {r:wAA} (S:wDK r):wBh r=some (cv r):=by
 have hn:=S.n;have hm:=S.m;have hc:=S.c;have hq:=S.q
 unfold wBh wBO wAp
 rw [wEK (by simp only [nB];omega),hH,hH,wEK (by simp only [nB];omega),hH,hH,hH]
 simp only
 rw [wMZ (f:=fun x:wAb=>(⟨x.Offset,x.Error⟩:wAt)) (fun a _ l=>by cases app 24 l [(⟨a.Offset,a.Error⟩:wAt)] <;> rfl) (by omega) (by omega),hH]
 rw [wMZ (f:=fun x:wAU=>(⟨x.Skier,x.Mat,x.Clock,x.Time⟩:wAn)) (fun a _ l=>by cases app 32 l [(⟨a.Skier,a.Mat,a.Clock,a.Time⟩:wAn)] <;> rfl) (by omega) (by omega),hH]
 rfl
end Go.Proofs.YtlnfbjphfoipaaaGreat
namespace Go.Proofs.YtlnfbjphfoipaaaGreat
open Go.KL Go.KL.Net Go.KL.Floyd
open Classical
theorem wQh {r:wAA} (C:RC r):∃ b,wBv (cv r)=some b/\(b=true ↔ ¬ ∃ y,wCb r y):=by
 obtain ⟨T,e,hT⟩:=wMn C
 have hnp:=wPe C
 obtain ⟨t,G,F⟩:=id hT
 have hr:=F.m.rows
 refine ⟨!wGw (fun k=>!decide (mx T k k < 0)) (np r) 0,?_,?_⟩
 ·unfold wBv
  rw [e,hH,hr,wFe (fun k=>!decide (mx T k k < 0)) true (by omega) fun i hi=>?_]
  ·cases wGw (fun k=>!decide (mx T k k < 0)) (np r) 0 <;> rfl
  ·rw [wAz (by omega),hH,wAz (by rw [F.m.cols i hi];exact hi),hH]
   by_cases c:mx T i i < 0
   ·rw [if_pos (show gd (gd T i) i < 0 from c),decide_eq_true c];rfl
   ·rw [if_neg (show ¬ gd (gd T i) i < 0 from c),decide_eq_false c];rfl
 ·rw [hT.clash C,nI,Bool.eq_false_iff,ne_eq,wCs]
  constructor
  ·intro h h2
   exact h fun i _ hi=>by
    have:=h2 i (by omega)
    simp only [nI,decide_eq_false_iff_not]
    omega
  ·intro h h2
   exact h fun i hi=>by
    have:=h2 i (by omega) (by omega)
    simp only [nI,decide_eq_false_iff_not] at this
    omega
theorem wPh {r:wAA} (S:wDK r):wBm (cv r)=some (wEN r []):=by
 unfold wBm wEN
 rw [wIU S,hH]
 by_cases c:code r=0
 ·obtain ⟨b,e,hb⟩:=wQh (wGx c)
  rw [if_pos c,if_pos c,e,hH,if_pos (show ([]:List wAM).all (wFI r)=true from rfl)]
  by_cases d:∃ y,wCb r y
  ·rw [if_neg (fun h=>hb.1 h d),if_pos d]
  ·rw [if_pos (hb.2 d),if_neg d]
 ·rw [if_neg c,if_neg c]
end Go.Proofs.YtlnfbjphfoipaaaGreat
namespace Go.Proofs.YtlnfbjphfoipaaaGreat
open Go.KL Go.KL.Net Go.KL.Floyd
open Classical
def sp6 (s:wAM):wAW:=⟨s.Skier,s.Mat⟩
theorem wPi {r:wAA} (S:wDK r) (s:wAM):wBj (cv r) (sp6 s)=some (!wFI r s):=by
 have:=S.n
 unfold wBj wFI sp6
 show (wAV s.Skier 0 (w64 ((r.Starts.length:Int) - 1))).bind _=_
 rw [wAX (by omega) (by omega),wEh,hH]
 cases inB s.Skier 0 ((r.Starts.length:Int) - 1)
 ·rfl
 ·rw [if_neg (by simp)]
  show (wAV s.Mat 0 (r.Splits.length:Int)).bind _=_
  rw [wEh];rfl
theorem wKm {r:wAA} (S:wDK r) (a b:wAM):wAu (cv r) (sp6 a) (sp6 b)=some (wEN r [a,b]):=by
 unfold wAu
 rw [wIU S,hH]
 by_cases c:code r=0
 ·rw [if_pos c,wPi S,hH]
  cases h1:wFI r a
  ·rw [if_pos (by rfl)]
   unfold wEN
   rw [if_pos c,if_neg (by simp [h1])]
  ·rw [if_neg (by simp),wPi S,hH]
   cases h2:wFI r b
   ·rw [if_pos (by rfl)]
    unfold wEN
    rw [if_pos c,if_neg (by simp [h2])]
   ·rw [if_neg (by simp),wPh S,hH]
    unfold wEN
    rw [show [a,b].all (wFI r)=true by simp [h1,h2]]
    rfl
 ·rw [if_neg c]
  unfold wEN
  rw [if_neg c]
end Go.Proofs.YtlnfbjphfoipaaaGreat
namespace Go.Proofs.YtlnfbjphfoipaaaGreat
open Go.KL Go.KL.Net Go.KL.Floyd
open Classical
def gT (r:wAA) (T:List (List Int)) (m:Int) (i j:Nat):Int:=mx T (plc r ⟨(i:Int),m⟩) (plc r ⟨(j:Int),m⟩)
theorem wUa {r:wAA} (S:wDK r) (m:Int):wAu (cv r) (⟨0,m⟩:wAW) (⟨0,m⟩:wAW)=some (wEN r [⟨0,m⟩]) :=
 (wKm S (⟨0,m⟩:wAM) (⟨0,m⟩:wAM)).trans (congrArg some (wMj r _))
theorem wIV (n:Nat) (G:Nat->Nat->Int):(ahL n G).length=n:=by simp [ahL]
theorem wKn {r:wAA} (S:wDK r) (m:Int):(wEN r [⟨0,m⟩] ≠ 0->wAv (cv r) m=some ([],wEN r [⟨0,m⟩]))/\(wEN r [⟨0,m⟩]=0->∀ T,wAi (cv r)=some T->Tab r T->wAv (cv r) m=some (ahL r.Starts.length (gT r T m),0)):=by
 unfold wAv
 rw [wUa S,hH]
 constructor
 ·intro c
  rw [if_neg c]
 ·intro c T eT hT
  obtain ⟨C,m0,m1,hy⟩:=wKj c
  have hn:=C.n
  have ok:∀ i,i < r.Starts.length->wEa r ⟨(i:Int),m⟩:=fun i hi=>.inr (.inl ⟨by simp only;omega,by simp only;omega,m0,m1⟩)
  have pl:∀ i:Nat,i < r.Starts.length->wAO (cv r) (i:Int) m=some (plc r ⟨(i:Int),m⟩:Int):=fun i hi=>wFf C (by omega) (by omega) m0 m1
  obtain ⟨t0,G0,F0⟩:=hT.ex
  rw [if_pos c,eT,hH,show (cv r).Starts=r.Starts from rfl]
  refine wPR (m:=r.Starts.length) (fun i=>((ahL r.Starts.length (gT r T m)).take i,(i:Int))) (fun i hi=>?_) ?_ (by simp) (by omega)
  ·simp only
   rw [if_pos (by omega)]
   refine wPR (m:=r.Starts.length) (fun j=>(ahK (gT r T m) i j,(j:Int))) (fun j hj=>?_) ?_ (by simp [ahK]) (by omega)
   ·have l1:=wGz (gT r T m) i j
    simp only
    rw [if_pos (by omega),pl i hi,hH,wAz (by rw [F0.m.rows];exact wCN (ok i hi)),hH,pl j hj,hH,wAz (by rw [F0.m.cols _ (wCN (ok i hi))];exact wCN (ok j hj)),hH,wGd]
    by_cases c1:gT r T m i j < 0
    ·rw [if_pos (show gd (gd T (plc r ⟨(i:Int),m⟩)) (plc r ⟨(j:Int),m⟩) < 0 from c1),if_pos c1,wEK (by simp only [nH,nB];omega),hH,wAX (by omega) (by omega)]
     rfl
    ·rw [if_neg (show ¬ gd (gd T (plc r ⟨(i:Int),m⟩)) (plc r ⟨(j:Int),m⟩) < 0 from c1),if_neg c1,wAX (by omega) (by omega)]
     rfl
   ·simp only
    rw [if_neg (by omega),wEK (by rw [nK];simp only [nH,nB];omega),hH,wEw (by rw [wIV];exact hi),wAX (by omega) (by omega)]
    unfold ahL
    rw [wGe _ hi]
    rfl
  ·simp only
   rw [if_neg (by omega),nT (by rw [wIV];omega)]
   rfl
theorem wNP {r:wAA} (S:wDK r) (m:Int):(wEN r [⟨0,m⟩] ≠ 0->wBB (cv r) m=some ([],wEN r [⟨0,m⟩]))/\(wEN r [⟨0,m⟩]=0->∀ T,wAi (cv r)=some T->Tab r T->wBB (cv r) m=some (plL r.Starts.length (gT r T m),0)):=by
 unfold wBB
 obtain ⟨h0,h1⟩:=wKn S m
 constructor
 ·intro c
  rw [h0 c,hH]
  simp only
  rw [if_neg c]
 ·intro c T eT hT
  obtain ⟨C,m0,m1,hy⟩:=wKj c
  have hn:=C.n
  have ok:∀ i,i < r.Starts.length->wEa r ⟨(i:Int),m⟩:=fun i hi=>.inr (.inl ⟨by simp only;omega,by simp only;omega,m0,m1⟩)
  have pl:∀ i:Nat,i < r.Starts.length->wAO (cv r) (i:Int) m=some (plc r ⟨(i:Int),m⟩:Int):=fun i hi=>wFf C (by omega) (by omega) m0 m1
  obtain ⟨t0,G0,F0⟩:=hT.ex
  have plen:(plL r.Starts.length (gT r T m)).length=r.Starts.length:=by simp [plL]
  rw [h1 c T eT hT,hH]
  simp only
  rw [if_pos trivial,eT,hH,wIV,wDJ (S:=List wAP) (n:=r.Starts.length) (fun k=>(plL r.Starts.length (gT r T m)).take k) (s0:=[]) (by simp) (by omega) fun i hi=>?_]
  ·rw [hH,nT (by rw [plen];omega)]
  ·have l1:=wGz (gT r T m) i r.Starts.length
   have l2:=wMl (gT r T m) i r.Starts.length
   rw [wDJ (S:=Int) (n:=r.Starts.length) (fun j=>(beK (gT r T m) i j:Int)) (s0:=0) (by simp [beK]) (by omega) fun j hj=>?_]
   ·rw [hH,wAz (by rw [wIV];exact hi),hH,wEK (by rw [nK];simp only [nH,nB];omega),hH,wEw (by rw [plen];exact hi)]
    unfold plL ahL
    rw [wGe _ hi,wGe _ hi,wAX (by omega) (by omega),wAX (by omega) (by omega)]
   ·have l3:=wMl (gT r T m) i j
    rw [pl j hj,hH,wAz (by rw [F0.m.rows];exact wCN (ok j hj)),hH,pl i hi,hH,wAz (by rw [F0.m.cols _ (wCN (ok j hj))];exact wCN (ok i hi)),hH,wJt]
    by_cases c1:0 < gT r T m j i
    ·rw [if_pos (show 0 < gd (gd T (plc r ⟨(j:Int),m⟩)) (plc r ⟨(i:Int),m⟩) from c1),if_pos c1,wAX (by omega) (by omega)]
     congr 1
    ·rw [if_neg (show ¬ 0 < gd (gd T (plc r ⟨(j:Int),m⟩)) (plc r ⟨(i:Int),m⟩) from c1),if_neg c1]
end Go.Proofs.YtlnfbjphfoipaaaGreat
namespace Go.Proofs.YtlnfbjphfoipaaaGreat
open Go.KL Go.KL.Net
open Classical
def yT (T:List (List Int)) (O:List Int) (p:Pt):Int:=if p.skier=-1 then (if p.mat=0 then 0 else -gd O (p.mat - 1).toNat) else gd (gd T p.skier.toNat) p.mat.toNat
theorem wPj (T:List (List Int)) (O:List Int):yT T O zp=0:=rfl
theorem wEy (T:List (List Int)) (O:List Int) {s k:Int} (h:0 <= s):yT T O ⟨s,k⟩=gd (gd T s.toNat) k.toNat:=if_neg (by simp only;omega)
theorem wGh (T:List (List Int)) (O:List Int) {k:Int} (h:0 <= k):yT T O ⟨-1,1 + k⟩=-gd O k.toNat:=by
 unfold yT
 rw [if_pos rfl,if_neg (by simp only;omega),show (1 + k - 1)=k by omega]
structure wUb (r:wAA) (T:List (List Int)) (O:List Int):Prop where
 t:T.length=r.Starts.length
 l:∀ k,k < r.Starts.length->(gd T k).length=r.Splits.length + 1
 o:O.length=r.Clocks.length
def wSq (r:wAA) (T:List (List Int)) (k:Nat):Bool:=decide (gd (gd T k) 0=gd r.Starts k) && wGw (fun j=>inB (gd (gd T k) (j + 1) - gd (gd T k) j) (gd r.Splits j).Lo (gd r.Splits j).Hi) r.Splits.length 0
def wUc (r:wAA) (O:List Int) (k:Nat):Bool:=inB (gd O k) (gd r.Clocks k).Offset.Lo (gd r.Clocks k).Offset.Hi
def wUd (r:wAA) (T:List (List Int)) (O:List Int) (k:Nat):Bool :=
 inB ((gd r.Readings k).Time - gd (gd T (gd r.Readings k).Skier.toNat) (gd r.Readings k).Mat.toNat - gd O (gd r.Readings k).Clock.toNat) (-(gd r.Clocks (gd r.Readings k).Clock.toNat).Error) (gd r.Clocks (gd r.Readings k).Clock.toNat).Error
theorem wHZ {r:wAA} (C:RC r) {T:List (List Int)} {O:List Int}:wCb r (yT T O) ↔ wGw (wSq r T) r.Starts.length 0=true/\wGw (wUc r O) r.Clocks.length 0=true/\wGw (wUd r T O) r.Readings.length 0=true:=by
 simp only [wCs]
 constructor
 ·intro F
  refine ⟨fun k _ hk=>?_,fun k _ hk=>?_,fun k _ hk=>?_⟩
  ·have h0:=fp0 F (s:=(k:Int)) (by omega) (by omega)
   rw [wEy _ _ (by omega),wPj,nG,Int.zero_add] at h0
   unfold wSq
   rw [nL]
   refine ⟨decide_eq_true h0,(wCs _ _ _).2 fun j _ hj=>?_⟩
   have h1:=fp1 F (s:=(k:Int)) (k:=(j:Int)) (by omega) (by omega) (by omega) (by omega)
   rw [wEy _ _ (by omega),wEy _ _ (by omega),nG,nG,show ((j:Int) + 1).toNat=j + 1 by omega] at h1
   unfold inB
   rw [decide_eq_true_eq]
   omega
  ·have h:=fp2 F (k:=(k:Int)) (by omega) (by omega)
   rw [wGh _ _ (by omega),wPj,nG] at h
   unfold wUc inB
   rw [decide_eq_true_eq]
   omega
  ·have u:=C.ru _ (wDH (show k < r.Readings.length by omega))
   have a:yT T O ⟨(gd r.Readings k).Skier,(gd r.Readings k).Mat⟩ <= yT T O ⟨-1,1 + (gd r.Readings k).Clock⟩ + ((gd r.Readings k).Time + (gd r.Clocks (gd r.Readings k).Clock.toNat).Error):=F ⟨3,0,(k:Int),true⟩ (.inr (.inr (.inr ⟨rfl,rfl,by simp only;omega,by simp only;omega⟩)))
   have b:yT T O ⟨-1,1 + (gd r.Readings k).Clock⟩ <= yT T O ⟨(gd r.Readings k).Skier,(gd r.Readings k).Mat⟩ + ((gd r.Clocks (gd r.Readings k).Clock.toNat).Error - (gd r.Readings k).Time):=F ⟨3,0,(k:Int),false⟩ (.inr (.inr (.inr ⟨rfl,rfl,by simp only;omega,by simp only;omega⟩)))
   rw [wEy _ _ u.1,wGh _ _ u.2.2.2.2.1] at a b
   unfold wUd inB
   rw [decide_eq_true_eq]
   omega
 ·rintro ⟨h1,h2,h3⟩ x hx
  have key:yT T O (wBz r x).2.1 <= yT T O (wBz r x).1 + (wBz r x).2.2.1/\yT T O (wBz r x).1 <= yT T O (wBz r x).2.1 + (wBz r x).2.2.2:=by
   unfold wBz
   rcases hx with ⟨k,a,b,c⟩ | ⟨k,a,b,c,d⟩ | ⟨k,a,c,d⟩ | ⟨k,a,c,d⟩
   ·have h:=h1 x.Skier.toNat (by omega) (by omega)
    unfold wSq at h
    rw [nL,decide_eq_true_eq] at h
    rw [if_pos k]
    simp only
    rw [wEy _ _ a,wPj,Int.toNat_zero,h.1]
    omega
   ·have h:=h1 x.Skier.toNat (by omega) (by omega)
    unfold wSq at h
    rw [nL] at h
    have g:=(wCs _ _ _).1 h.2 x.Index.toNat (by omega) (by omega)
    unfold inB at g
    rw [decide_eq_true_eq] at g
    rw [if_neg (by omega),if_pos k]
    simp only
    rw [wEy _ _ a,wEy _ _ a,show (x.Index + 1).toNat=x.Index.toNat + 1 by omega]
    omega
   ·have h:=h2 x.Index.toNat (by omega) (by omega)
    unfold wUc inB at h
    rw [decide_eq_true_eq] at h
    rw [if_neg (by omega),if_neg (by omega),if_pos k]
    simp only
    rw [wGh _ _ c,wPj]
    omega
   ·have h:=h3 x.Index.toNat (by omega) (by omega)
    unfold wUd inB at h
    rw [decide_eq_true_eq] at h
    have u:=C.ru _ (wCd c d)
    rw [if_neg (by omega),if_neg (by omega),if_neg (by omega)]
    simp only
    rw [wEy _ _ u.1,wGh _ _ u.2.2.2.2.1]
    omega
  unfold wCt
  split
  ·exact key.1
  ·exact key.2
def wTL (T:List (List Int)) (k:Nat):Bool:=wGw (fun j=>inB (gd (gd T k) j) (-100000000) 100000000) (gd T k).length 0
def wSr (O:List Int) (k:Nat):Bool:=inB (gd O k) (-100000000) 100000000
noncomputable def wQi (r:wAA) (T:List (List Int)) (O:List Int):Int:=if code r=0 then (if wUb r T O then (if wGw (wTL T) T.length 0=true/\wGw (wSr O) O.length 0=true then 0 else 3) else 2) else code r
noncomputable def wSs (r:wAA) (T:List (List Int)) (O:List Int):Bool:=decide (wQi r T O=0/\wCb r (yT T O))
theorem wKo {R:Type} {q:Bool} {c:R} {K:Unit->Option R} {x:Option (Unit ⊕ R)} (h:x=some (if q=true then .inl () else .inr c)):jn x K=if q=true then K () else some c:=by
 rw [h];cases q <;> rfl
def tt (r:wAA) (y:Pt->Int):List (List Int):=(nD r.Starts.length).map fun (s:Nat)=>(nD (r.Splits.length + 1)).map fun (k:Nat)=>y ⟨(s:Int),(k:Int)⟩ - y zp
def oo (r:wAA) (y:Pt->Int):List Int:=(nD r.Clocks.length).map fun (i:Nat)=>y zp - y ⟨-1,1 + (i:Int)⟩
theorem wHB {α:Type} [Inhabited α] {n k:Nat} (f:Nat->α) (h:k < n):gd ((nD n).map f) k=f k:=by
 rw [wKc (by simpa using h)]
 simp
theorem wPk {r:wAA} {y:Pt->Int} {s k:Nat} (hs:s < r.Starts.length) (hk:k <= r.Splits.length):gd (gd (tt r y) s) k=y ⟨(s:Int),(k:Int)⟩ - y zp:=by
 unfold tt
 rw [wHB _ hs,wHB _ (by omega)]
theorem wJP (r:wAA) (y:Pt->Int):(tt r y).length=r.Starts.length:=by simp [tt]
theorem wJQ {r:wAA} {y:Pt->Int} {s:Nat} (hs:s < r.Starts.length):(gd (tt r y) s).length=r.Splits.length + 1:=by
 unfold tt
 rw [wHB _ hs];simp
theorem wPl {r:wAA} {d:wAf} {pts:List Pt} (D:Desk r d pts) {far:List Int} (hf:far.length=pts.length) {y:Pt->Int} (hy:∀ p,wEa r p->gd far (pos pts p)=y p) (F:wCb r y):wCP d far=some (tt r y,oo r y):=by
 have C:=D.c
 have hn:=C.n;have hm:=C.m;have hc:=C.c
 have hlen:=D.len
 have hz:wEa r zp:=.inl rfl
 have e0:gd far 0=y zp:=by rw [<- hy zp hz,D.zeroP]
 have get:∀ p,wEa r p->idx far (wBD d.number p 0)=some (y p):=fun p hp=>by
  obtain ⟨h1,_,h3⟩:=D.pos_ok hp
  rw [h3,wAz (by omega),hy p hp]
 have ez:idx far 0=some (y zp):=by rw [show (0:Int)=((0:Nat):Int) from rfl,wAz (by omega),e0]
 unfold wCP
 rw [ez,hH,D.race]
 have rows:wBn (0:Int) (↑r.Starts.length:Int) (fun k31 l26 =>
  (wBn (0:Int) (w64 ((↑r.Splits.length:Int) + 1)) (fun k74 l70 =>
   (idx far (wBD d.number (⟨(↑k31:Int),(↑k74:Int)⟩:wAE) 0)).bind fun x103 =>
   (app 8 l70 [w64 (x103 - y zp)]).bind fun x117 =>
   some x117) []).bind fun y79 =>
  (app 24 l26 [y79]).bind fun x161 =>
  some x161) []=some (tt r y):=by
  rw [wDJ (S:=List (List Int)) (n:=r.Starts.length) (fun k=>(tt r y).take k) (s0:=[]) (by simp) (by omega) fun k hk=>?_,<- wJP r y,nQ]
  have hs1:w64 ((r.Splits.length:Int) + 1)=((r.Splits.length + 1:Nat):Int):=by rw [wAX (by omega) (by omega)];omega
  rw [hs1,wDJ (S:=List Int) (n:=r.Splits.length + 1) (fun j=>(gd (tt r y) k).take j) (s0:=[]) (by simp) (by omega) fun j hj=>?_]
  ·rw [hH,wEK (by rw [nK];simp only [nH,nB];omega),hH,wEw (l:=tt r y) (by rw [wJP];exact hk),<- wJQ (y:=y) hk,nQ]
  ·have hp:wEa r ⟨(k:Int),(j:Int)⟩:=.inr (.inl ⟨by simp only;omega,by simp only;omega,by simp only;omega,by simp only;omega⟩)
   have nr:=wHP C F hp
   rw [get _ hp,hH,wAX (by omega) (by omega),wEK (by rw [nK];simp only [nH,nB];omega),hH,wEw (l:=gd (tt r y) k) (by rw [wJQ hk];exact hj),wPk hk (by omega)]
 rw [rows,hH]
 have offs:wBn (0:Int) (↑r.Clocks.length:Int) (fun k215 l211 =>
  (wCB (↑k215:Int)).bind fun x243 =>
  (idx far (wBD d.number x243 0)).bind fun x253 =>
  (app 8 l211 [w64 (y zp - x253)]).bind fun x268 =>
  some x268) []=some (oo r y):=by
  have ol:(oo r y).length=r.Clocks.length:=by simp [oo]
  rw [wDJ (S:=List Int) (n:=r.Clocks.length) (fun k=>(oo r y).take k) (s0:=[]) (by simp) (by omega) fun k hk=>?_,<- ol,nQ]
  have hp:wEa r ⟨-1,1 + (k:Int)⟩:=.inr (.inr ⟨rfl,by simp only;omega,by simp only;omega⟩)
  have nr:=wHP C F hp
  unfold wCB
  rw [wAX (by omega) (by omega),hH,get _ hp,hH,wAX (by omega) (by omega),wEK (by rw [nK];simp only [nH,nB];omega),hH,wEw (l:=oo r y) (by omega)]
  unfold oo
  rw [wHB _ hk]
 rw [offs]
 rfl
theorem wKp {r:wAA} (C:RC r) {y:Pt->Int} (F:wCb r y):wCb r (yT (tt r y) (oo r y))/\wUb r (tt r y) (oo r y)/\wGw (wTL (tt r y)) (tt r y).length 0=true/\wGw (wSr (oo r y)) (oo r y).length 0=true:=by
 have hz:wEa r zp:=.inl rfl
 have same:∀ p,wEa r p->yT (tt r y) (oo r y) p=y p - y zp:=fun p hp=>by
  rcases hp with rfl | ⟨a,b,c,d⟩ | ⟨a,b,c⟩
  ·rw [wPj];omega
  ·have e:p=⟨p.skier,p.mat⟩:=rfl
   rw [e,wEy _ _ a,wPk (by omega) (by omega),nA a,nA c]
  ·have e:p=⟨-1,1 + (p.mat - 1)⟩:=by rw [<- a,Int.add_comm,Int.sub_add_cancel]
   rw [e,wGh _ _ (by omega)]
   unfold oo
   rw [wHB _ (by omega),nA (by omega)]
   omega
 have L:wUb r (tt r y) (oo r y):=⟨wJP r y,fun k hk=>wJQ hk,by simp [oo]⟩
 refine ⟨fun x hx=>?_,L,?_,?_⟩
 ·obtain ⟨o1,o2,_,_⟩:=wDS C hx
  rw [same _ o1,same _ o2]
  have:=F x hx
  omega
 ·rw [wCs]
  intro i _ hi
  unfold wTL
  rw [wCs]
  intro j _ hj
  rw [L.t] at hi
  rw [wJQ (by omega)] at hj
  have hp:wEa r ⟨(i:Int),(j:Int)⟩:=.inr (.inl ⟨by simp only;omega,by simp only;omega,by simp only;omega,by simp only;omega⟩)
  have:=wHP C F hp
  rw [wPk (by omega) (by omega)]
  unfold inB
  rw [decide_eq_true_eq]
  omega
 ·rw [wCs]
  intro i _ hi
  rw [L.o] at hi
  have hp:wEa r ⟨-1,1 + (i:Int)⟩:=.inr (.inr ⟨rfl,by simp only;omega,by simp only;omega⟩)
  have:=wHP C F hp
  unfold wSr oo
  rw [wHB _ (by omega)]
  unfold inB
  rw [decide_eq_true_eq]
  omega
theorem wQj {r:wAA} (c:code r=0) {y:Pt->Int} (F:wCb r y):wQi r (tt r y) (oo r y)=0/\wSs r (tt r y) (oo r y)=true:=by
 obtain ⟨h1,h2,h3,h4⟩:=wKp (wGx c) F
 have e:wQi r (tt r y) (oo r y)=0:=by
  unfold wQi
  rw [if_pos c,if_pos h2,if_pos ⟨h3,h4⟩]
 refine ⟨e,?_⟩
 unfold wSs
 rw [decide_eq_true_eq]
 exact ⟨e,h1⟩
end Go.Proofs.YtlnfbjphfoipaaaGreat
namespace Go.Proofs.YtlnfbjphfoipaaaGreat
open Go.KL Go.KL.Net
open Classical
def ngL (l:List Int) (k:Nat):List Int:=(nD l.length).map fun i=>if i < k then -gd l i else gd l i
theorem wEz (l:List Int) (k:Nat):(ngL l k).length=l.length:=by simp [ngL]
theorem wUe {l:List Int} (hl:l.length <= 1000) (hb:∀ i,i < l.length->-1000000000 <= gd l i/\gd l i <= 1000000000):(wBn 0 (↑l.length:Int) (fun k302 l301 =>
          (chk (↑k302:Int) l301.length).bind fun _ =>
          some (nJ l301 k302 (w64 ((gd l301 k302) * (-1))))) l)=some (ngL l l.length):=by
  have h0:ngL l 0=l:=wKb (wEz l 0) fun i hi=>by
    rw [wEz] at hi
    unfold ngL
    rw [wGe _ hi,if_neg (by omega)]
  rw [wDJ (S:=List Int) (n:=l.length) (fun k=>ngL l k) (s0:=l) h0 (by omega) fun k hk=>?_]
  have:=hb k hk
  have gk:gd (ngL l k) k=gd l k:=by
    unfold ngL
    rw [wGe _ hk,if_neg (by omega)]
  rw [wCW (by omega) (by rw [wEz];omega),hH,gk,wAX (by omega) (by omega)]
  congr 1
  refine wKb (by rw [List.length_set,wEz,wEz]) fun i hi=>?_
  rw [List.length_set,wEz] at hi
  rw [wIR (by rw [wEz];exact hk) (by rw [wEz];exact hi)]
  unfold ngL
  rw [wGe _ hi,wGe _ hi]
  by_cases c:i=k
  · rw [if_pos c,if_pos (by omega),c];omega
  · rw [if_neg c]
    by_cases c2:i < k
    · rw [if_pos c2,if_pos (by omega)]
    · rw [if_neg c2,if_neg (by omega)]
theorem wPm {r:wAA} (S:wDK r) (s:wAM) (best:Bool):(wEN r [s] ≠ 0->wDB r s best=some ([],[],wEN r [s]))/\(wEN r [s]=0->∃ y,wCb r y/\wDB r s best=some (tt r y,oo r y,0)/\∀ F:Nat->Pt->Int,(∀ i,i < r.Starts.length->IsDP r ⟨(i:Int),s.Mat⟩ (F i))->∀ j,j < r.Starts.length->(y ⟨(j:Int),s.Mat⟩ < y (pt s) ↔ if best=true then F s.Skier.toNat ⟨(j:Int),s.Mat⟩ < 0 else 0 < F j (pt s))):=by
 unfold wDB
 obtain ⟨o,e,h0,h1⟩:=wMk S (l:=[s]) (by simp)
 rw [e,hH]
 simp only
 constructor
 ·intro c
  have ho:=h1 c
  subst ho
  simp only
  rw [if_neg c]
 ·intro c
  obtain ⟨d,pts,rfl,D⟩:=h0 c
  obtain ⟨C,_,hs,hy⟩:=err0 c
  simp only [nN,nR,nO] at hs
  obtain ⟨hp,s0,s1,m0,m1⟩:=wGy (r:=r) (s:=s) hs
  have hlen:=D.len
  have ps:pt s=⟨((s.Skier.toNat:Nat):Int),s.Mat⟩:=by rw [nA s0];rfl
  have ok:∀ i:Nat,i < r.Starts.length->wEa r ⟨(i:Int),s.Mat⟩:=fun i hi=>.inr (.inl ⟨by simp only;omega,by simp only;omega,m0,m1⟩)
  simp only
  rw [if_pos c]
  unfold wGQ
  rw [hH,show wBD d.number (⟨s.Skier,s.Mat⟩:wAE) 0=(pos pts (pt s):Int) from (D.pos_ok hp).2.2]
  cases best with
  | true =>
   obtain ⟨f,last,e1,fl,I⟩:=D.from_ hy hp
   obtain ⟨f1,f2⟩:=f
   refine ⟨_,I.ok,?_,fun F hF j hj=>?_⟩
   ·rw [show (!true)=false from rfl,e1,hH]
    simp only
    rw [hH]
    simp only
    rw [if_pos trivial,wPl D fl (y:=fun p=>gd f1 (pos pts p)) (fun _ _=>rfl) I.ok,hH]
   ·have hF':IsDP r (pt s) (F s.Skier.toNat):=ps ▸ hF s.Skier.toNat (by omega)
    have h1:=I.one hF' (ok j hj)
    have h2:=I.zero
    simp only at h1 h2 ⊢
    rw [if_pos trivial,h1,h2]
  | false =>
   obtain ⟨f,last,e1,fl,Fe,z0,gr⟩:=D.fromT hy hp
   obtain ⟨f1,f2⟩:=f
   simp only at fl Fe z0 gr
   have nb:∀ i,i < f1.length->-1000000000 <= gd f1 i/\gd f1 i <= 1000000000:=fun i hi=>by
    rw [fl] at hi
    obtain ⟨o1,o2⟩:=D.gd_ok hi
    have n1:=wHP C Fe o1
    have n2:=wHP C Fe hp
    simp only [o2] at n1
    omega
   refine ⟨_,Fe,?_,fun F hF j hj=>?_⟩
   ·rw [show (!false)=true from rfl,e1,hH]
    simp only
    rw [hH]
    simp only
    rw [if_neg (by simp),wUe (by omega) nb,hH,wPl D (by rw [wEz];exact fl) (y:=fun p=>-gd f1 (pos pts p)) (fun p hpp=>by
     have h:=(D.pos_ok hpp).1
     unfold ngL
     rw [wGe _ (by omega),if_pos (by omega)]) Fe,hH]
   ·have Q:=hF j hj
    have a1:=gr _ Q.ok _ (ok j hj)
    have a2:-gd f1 (pos pts (pt s)) - -gd f1 (pos pts ⟨(j:Int),s.Mat⟩) <= F j (pt s):=Q.gr _ Fe _ hp
    have a3:=Q.zero
    show -gd f1 (pos pts ⟨(j:Int),s.Mat⟩) < -gd f1 (pos pts (pt s)) ↔ _
    rw [if_neg (by simp)]
    omega
end Go.Proofs.YtlnfbjphfoipaaaGreat
namespace Go.Proofs.YtlnfbjphfoipaaaGreat
open Go.KL Go.KL.Net Go.KL.Floyd
open Classical
theorem wQk {r:wAA} (S:wDK r) {T:List (List Int)} (hT:T.length <= 100) (hl:∀ l ∈ T,l.length <= 100) {O:List Int} (hO:O.length <= 100):wCK (cv r) T O=some (wSs r T O,wQi r T O):=by
 have hn:=S.n;have hm:=S.m;have hc:=S.c;have hq:=S.q
 have lc:(cv r).Clocks.length=r.Clocks.length:=nE ..
 have lq:(cv r).Readings.length=r.Readings.length:=nE ..
 have bad:∀ e:Int,wQi r T O=e->e ≠ 0->some (false,e)=some (wSs r T O,wQi r T O):=fun e h h0=>by
  unfold wSs
  rw [h,decide_eq_false (fun q=>h0 q.1)]
 unfold wCK
 rw [wIU S,hH,show (cv r).Starts=r.Starts from rfl,show (cv r).Splits=r.Splits from rfl,lc,lq]
 by_cases c0:code r=0
 ·have C:=wGx c0
  have fe:wQi r T O=if wUb r T O then (if wGw (wTL T) T.length 0=true/\wGw (wSr O) O.length 0=true then 0 else 3) else 2:=if_pos c0
  rw [if_pos c0]
  by_cases c1:T.length=r.Starts.length
  ·rw [if_pos (show (T.length:Int)=(r.Starts.length:Int) by omega)]
   by_cases c2:O.length=r.Clocks.length
   ·rw [if_pos (show (O.length:Int)=(r.Clocks.length:Int) by omega)]
    rw [wKo (wFe (fun k=>decide ((gd T k).length=r.Splits.length + 1)) (false,2) (by omega) fun i hi=>by
     rw [wAz hi,hH,wAX (by omega) (by omega)]
     by_cases c:(gd T i).length=r.Splits.length + 1
     ·rw [if_pos (by omega),decide_eq_true c];rfl
     ·rw [if_neg (by omega),decide_eq_false c];rfl)]
    by_cases c3:wGw (fun k=>decide ((gd T k).length=r.Splits.length + 1)) T.length 0=true
    ·rw [if_pos c3]
     have L:wUb r T O:=⟨c1,fun k hk=>by
      have:=(wCs _ _ _).1 c3 k (by omega) (by omega)
      simpa using this,c2⟩
     rw [if_pos L] at fe
     rw [wKo (wFe (wTL T) (false,3) (by omega) fun i hi=>by
      have hi2:i < T.length:=hi
      have hli:=hl _ (wDH hi2)
      refine (wEg (B:=Unit ⊕ (Bool × Int)) (z:=.inl ()) (fun j=>inB (gd (gd T i) j) (-100000000) 100000000) (.inr (false,3)) (by omega:(gd T i).length <= 1000) (fun j hj=>?_) ?_)
      ·rw [wAz hi2,hH,if_pos (by omega),wAz hj,hH,wEh,hH]
       exact wFk rfl (by rw [wAX (by omega) (by omega)])
      ·rw [wAz hi2,hH,if_neg (by omega)];rfl)]
     by_cases c4:wGw (wTL T) T.length 0=true
     ·rw [if_pos c4]
      rw [wKo (wFe (wSr O) (false,3) (by omega) fun i hi=>by
       rw [wAz hi,hH,wEh,hH]
       exact wFk rfl rfl)]
      by_cases c5:wGw (wSr O) O.length 0=true
      ·rw [if_pos c5]
       rw [if_pos ⟨c4,c5⟩] at fe
       have sT:∀ i j,i < r.Starts.length->j < r.Splits.length + 1->-100000000 <= gd (gd T i) j/\gd (gd T i) j <= 100000000:=fun i j hi hj=>by
        have h1:=(wCs _ _ _).1 c4 i (by omega) (by omega)
        have h2:=(wCs _ _ _).1 h1 j (by omega) (by have:=L.l i hi;omega)
        simpa [inB] using h2
       have sO:∀ i,i < r.Clocks.length->-100000000 <= gd O i/\gd O i <= 100000000:=fun i hi=>by
        have h1:=(wCs _ _ _).1 c5 i (by omega) (by omega)
        simpa [wSr,inB] using h1
       have fv:∀ b:Bool,(b=true ↔ wCb r (yT T O))->some (b,(0:Int))=some (wSs r T O,wQi r T O):=fun b hb=>by
        unfold wSs
        rw [fe]
        congr 2
        rw [nS,hb,decide_eq_true_eq]
        exact ⟨fun h=>⟨rfl,h⟩,fun h=>h.2⟩
       rw [wKo (wFe (wSq r T) (false,0) (by omega) fun i hi=>by
        have hli:=L.l i (by omega)
        rw [wAz hi,hH,show (0:Int)=((0:Nat):Int) from rfl,wAz (by omega),hH,wAz (by omega),hH]
        unfold wSq
        by_cases c:gd (gd T i) 0=gd r.Starts i
        ·rw [if_pos c,decide_eq_true c,nM]
         refine (wEg (B:=Unit ⊕ (Bool × Int)) (z:=.inl ()) (fun j=>inB (gd (gd T i) (j + 1) - gd (gd T i) j) (gd r.Splits j).Lo (gd r.Splits j).Hi) (.inr (false,0)) (by omega:r.Splits.length <= 1000) (fun j hj=>?_) ?_)
         ·have a1:=sT i (j + 1) (by omega) (by omega)
          have a2:=sT i j (by omega) (by omega)
          rw [if_pos (by omega),wAX (x:=(j:Int) + 1) (by omega) (by omega),show (j:Int) + 1=((j + 1:Nat):Int) by omega,wAz (by omega),hH,wAz (by omega),hH,wAz hj,hH,wAX (by omega) (by omega),wEh,hH]
          exact wFk rfl rfl
         ·rw [if_neg (by omega)];rfl
        ·rw [if_neg c,decide_eq_false c,Bool.false_and];rfl)]
       by_cases c6:wGw (wSq r T) T.length 0=true
       ·rw [if_pos c6]
        rw [wKo (wFe (wUc r O) (false,0) (by omega) fun i hi=>by
         have ei:idx (cv r).Clocks (i:Int)=some ⟨(gd r.Clocks i).Offset,(gd r.Clocks i).Error⟩:=by
          rw [wAz (by rw [lc];omega)]
          exact congrArg some (wEx _ (by omega))
         rw [wAz hi,hH,ei,hH,wEh,hH]
         exact wFk rfl rfl)]
        by_cases c7:wGw (wUc r O) O.length 0=true
        ·rw [if_pos c7]
         have last:=wEg (B:=Bool × Int) (z:=(true,0)) (fun k=>wUd r T O k) (false,0) (n:=r.Readings.length) (body:=fun x504 =>
          if x504 < (r.Readings.length:Int) then
           (idx (cv r).Readings x504).bind fun x521 =>
           (idx (cv r).Clocks x521.Clock).bind fun x542 =>
           (idx T x521.Skier).bind fun x558 =>
           (idx x558 x521.Mat).bind fun x577 =>
           (idx O x521.Clock).bind fun x584 =>
           (wAV (w64 ((w64 (x521.Time - x577)) - x584)) (w64 (-x542.Error)) x542.Error).bind fun x598 =>
           if x598=true then
            esc (some (false,0))
           else
            some (.inl (w64 (x504 + 1)))
          else
           esc (some (true,0))) (by omega) (fun i hi=>by
          have u:=C.ru _ (wDH hi)
          have ut:=C.rt _ (wDH hi)
          have uc:=C.ck _ (wCd u.2.2.2.2.1 u.2.2.2.2.2)
          have e1:idx (cv r).Readings (i:Int)=some ⟨(gd r.Readings i).Skier,(gd r.Readings i).Mat,(gd r.Readings i).Clock,(gd r.Readings i).Time⟩:=by
           rw [wAz (by rw [lq];exact hi)]
           exact congrArg some (wEx _ hi)
          have e2:idx (cv r).Clocks (gd r.Readings i).Clock=some ⟨(gd r.Clocks (gd r.Readings i).Clock.toNat).Offset,(gd r.Clocks (gd r.Readings i).Clock.toNat).Error⟩:=by
           rw [wDR u.2.2.2.2.1 (by rw [lc];exact u.2.2.2.2.2)]
           exact congrArg some (wEx _ (by omega))
          have a1:=sT (gd r.Readings i).Skier.toNat (gd r.Readings i).Mat.toNat (by omega) (by omega)
          have a2:=sO (gd r.Readings i).Clock.toNat (by omega)
          have ll:=L.l (gd r.Readings i).Skier.toNat (by omega)
          rw [if_pos (by omega),e1,hH]
          simp only
          rw [e2,hH,wDR u.1 (by omega),hH,wDR u.2.2.1 (by omega),hH,wDR u.2.2.2.2.1 (by omega),hH]
          simp only
          rw [wAX (x:=(gd r.Readings i).Time - gd (gd T (gd r.Readings i).Skier.toNat) (gd r.Readings i).Mat.toNat) (by omega) (by omega),wAX (x:=_ - _) (by omega) (by omega),wAX (x:=-_) (by omega) (by omega),wEh,hH]
          exact wFk rfl (by rw [wAX (by omega) (by omega)])) (by rw [if_neg (by omega)];rfl)
         refine last.trans ?_
         rw [c1] at c6
         rw [c2] at c7
         by_cases c8:wGw (wUd r T O) r.Readings.length 0=true
         ·rw [if_pos c8]
          exact fv true ⟨fun _=>(wHZ C).2 ⟨c6,c7,c8⟩,fun _=>rfl⟩
         ·rw [if_neg c8]
          exact fv false ⟨(fun h=>by cases h),fun h=>absurd ((wHZ C).1 h).2.2 c8⟩
        ·rw [if_neg c7]
         rw [c2] at c7
         exact fv false ⟨(fun h=>by cases h),fun h=>absurd ((wHZ C).1 h).2.1 c7⟩
       ·rw [if_neg c6]
        rw [c1] at c6
        exact fv false ⟨(fun h=>by cases h),fun h=>absurd ((wHZ C).1 h).1 c6⟩
      ·rw [if_neg c5]
       exact bad 3 (by rw [fe,if_neg (fun h=>c5 h.2)]) (by omega)
     ·rw [if_neg c4]
      exact bad 3 (by rw [fe,if_neg (fun h=>c4 h.1)]) (by omega)
    ·rw [if_neg c3]
     refine bad 2 ?_ (by omega)
     rw [fe,if_neg]
     intro L
     apply c3
     rw [wCs]
     intro i _ hi
     exact decide_eq_true (L.l i (by omega))
   ·rw [if_neg (show ¬ (O.length:Int)=(r.Clocks.length:Int) by omega)]
    exact bad 2 (by rw [fe,if_neg (fun L=>c2 L.o)]) (by omega)
  ·rw [if_neg (show ¬ (T.length:Int)=(r.Starts.length:Int) by omega)]
   exact bad 2 (by rw [fe,if_neg (fun L=>c1 L.t)]) (by omega)
 ·rw [if_neg c0]
  exact bad _ (if_neg c0) c0
end Go.Proofs.YtlnfbjphfoipaaaGreat
namespace Go.Proofs.YtlnfbjphfoipaaaGreat
open Go.KL Go.KL.Net
theorem wQl {r:wAA} (S:wDK r):wBu r=some r:=by
 have hn:=S.n;have hm:=S.m;have hc:=S.c;have hq:=S.q
 unfold wBu wBO wAp wBQ wBF
 rw [wEK (by simp only [nB];omega),hH,hH,wEK (by simp only [nB];omega),hH,hH,wEK (by simp only [nB];omega),hH,hH,wEK (by simp only [nB];omega)]
 rfl
end Go.Proofs.YtlnfbjphfoipaaaGreat
namespace Go.Proofs.YtlnfbjphfoipaaaGreat
open Go.KL Go.KL.Net
open Classical
theorem wSt (r:wAA):wBg r=some true \/ (wBg r=some false/\wDK r):=by
 unfold wBg
 by_cases c1:10 < (r.Starts.length:Int)
 ·exact .inl (if_pos c1)
 rw [if_neg c1]
 by_cases c2:9 < (r.Splits.length:Int)
 ·exact .inl (if_pos c2)
 rw [if_neg c2]
 by_cases c3:6 < (r.Clocks.length:Int)
 ·exact .inl (if_pos c3)
 rw [if_neg c3]
 by_cases c4:44 < (r.Readings.length:Int)
 ·exact .inl (by rw [decide_eq_true c4])
 ·exact .inr ⟨by rw [decide_eq_false c4],⟨by omega,by omega,by omega,by omega⟩⟩
end Go.Proofs.YtlnfbjphfoipaaaGreat
namespace Go.Proofs.YtlnfbjphfoipaaaGreat
open Go.KL Go.KL.Net Go.KL.Floyd
open Classical
theorem wPn {r:wAA} {e:Int} (h:e ≠ 0):wBN r [] [] e e=some true:=by
 unfold wBN
 rw [if_pos rfl,if_neg h]
 rfl
theorem wQm {r:wAA} (S:wDK r) (c:code r=0) {y:Pt->Int} (F:wCb r y):wBN r (tt r y) (oo r y) 0 0=some true:=by
 have hn:=S.n;have hm:=S.m;have hc:=S.c
 have L:=(wKp (wGx c) F).2.1
 have hf:=wQj c F
 unfold wBN
 rw [if_pos rfl,if_pos rfl,wPg S,hH,wQk S (by rw [L.t];omega) (fun l hl=>by
  obtain ⟨i,hi,rfl⟩:=wPX hl
  rw [L.t] at hi
  rw [L.l i hi];omega) (by rw [L.o];omega),hH]
 simp only
 rw [if_pos hf.1,hf.2]
theorem wLn {r:wAA} (S:wDK r):wBS r r=some true:=by
 have hn:=S.n;have hm:=S.m;have hc:=S.c;have hq:=S.q
 unfold wBS wAw wAg wBR wBI
 rw [wEM (by omega),hH,if_pos rfl,wEM (by omega),hH,if_pos rfl,wEM (by omega),hH,if_pos rfl,wEM (by omega)]
 rfl
end Go.Proofs.YtlnfbjphfoipaaaGreat
namespace Go.Proofs.YtlnfbjphfoipaaaGreat
open Go.KL Go.KL.Net
open Classical
theorem at_is {r:wAA} {y:Pt->Int} {s:wAM} (h:wFI r s=true):wCE (tt r y) s=some (y (pt s) - y zp):=by
 obtain ⟨_,s0,s1,m0,m1⟩:=wGy h
 have l1:=wJP r y
 have l2:=wJQ (r:=r) (y:=y) (s:=s.Skier.toNat) (by omega)
 unfold wCE
 rw [if_neg (by omega),if_neg (by omega),if_neg (by omega),wDR s0 (by omega),hH,if_neg (by omega),wDR m0 (by omega),hH,wPk (by omega) (by omega),nA s0,nA m0]
 rfl
end Go.Proofs.YtlnfbjphfoipaaaGreat
namespace Go.Proofs.YtlnfbjphfoipaaaGreat
open Go.KL Go.KL.Net Go.KL.Floyd
open Classical
theorem wSu {l:List wAP} (h:l.length <= 1000):wAg l l=some true:=by
 unfold wAg
 exact wEM (by omega)
theorem wUf {l:List Int} (h:l.length <= 1000):wAw l l=some true:=by
 unfold wAw
 exact wEM (by omega)
theorem wUg {T:List (List Int)} (h:T.length <= 1000) (hl:∀ l ∈ T,l.length <= 1000):wBP T T=some true:=by
 unfold wBP
 rw [if_pos rfl,wPP (by omega) fun k hk=>by
  rw [wAz hk,hH,hH,wUf (hl _ (wDH hk)),hH,if_pos rfl]]
 rfl
theorem wQn (q:Nat->Bool) (k:Nat):(nD (k + 1)).countP q=if q k=true then (nD k).countP q + 1 else (nD k).countP q:=by
 rw [List.range_succ,List.countP_append]
 by_cases c:q k=true
 ·rw [if_pos c];simp [c]
 ·rw [if_neg c];simp [c]
theorem wQo {r:wAA} (C:RC r) {y:Pt->Int} (F:wCb r y) {s:wAM} (hs:wFI r s=true) {n:Int} (hn:n=r.Starts.length):(wEo 0 (↑(tt r y).length:Int) (fun k1760 x1759 =>
                  (idx (tt r y) (↑k1760:Int)).bind fun x1786 =>
                  if (↑x1786.length:Int) <= s.Mat then
                    esc (some false)
                  else
                    if n <= s.Skier then
                      esc (some false)
                    else
                      (idx x1786 s.Mat).bind fun x1814 =>
                      (wCE (tt r y) s).bind fun x1821 =>
                      if x1814 < x1821 then
                        some (.inl (w64 (x1759 + 1)))
                      else
                        some (.inl x1759)) 1)=some (.inl (1 + ((nD r.Starts.length).countP fun (j:Nat)=>decide (y ⟨(j:Int),s.Mat⟩ < y (pt s)):Nat):Int):Int ⊕ Bool):=by
  obtain ⟨hp,s0,s1,m0,m1⟩:=wGy hs
  have hnn:=C.n
  rw [wJP,wMb (S:=Int) (n:=r.Starts.length) (fun k=>(1 + ((nD k).countP fun (j:Nat)=>decide (y ⟨(j:Int),s.Mat⟩ < y (pt s)):Nat):Int)) (s0:=1) (by simp) (by omega) fun k hk=>?_]
  have hk2:wEa r ⟨(k:Int),s.Mat⟩:=.inr (.inl ⟨by simp only;omega,by simp only;omega,m0,m1⟩)
  have l1:=wJQ (y:=y) hk
  have l2:(nD k).countP (fun (j:Nat)=>decide (y ⟨(j:Int),s.Mat⟩ < y (pt s))) <= k:=by
    have:=List.countP_le_length (p:=fun (j:Nat)=>decide (y ⟨(j:Int),s.Mat⟩ < y (pt s))) (l:=nD k)
    rwa [List.length_range] at this
  rw [wAz (by rw [wJP];exact hk),hH,if_neg (by omega),if_neg (by omega),wDR m0 (by omega),hH,at_is hs,hH,wPk hk (by omega),nA m0,wQn]
  by_cases c:y ⟨(k:Int),s.Mat⟩ < y (pt s)
  · rw [if_pos (by omega),if_pos (decide_eq_true c),wAX (by omega) (by omega)]
    congr 2
  · rw [if_neg (by omega),if_neg (by simpa using c)]
theorem wNQ (p0:wAA) (p1:wAM) (p2:Bool):wBl p0 p1 p2=some true:=by
 have aw:wBZ=some true:=rfl
 unfold wBl
 rcases wSt p0 with h | ⟨h,S⟩
 ·rw [h,hH,if_pos rfl];rfl
 rw [h,hH,if_neg (by simp),wQl S,hH,wPg S,hH,hH]
 have hn:=S.n
 obtain ⟨P0,P1⟩:=wPd S p1.Mat
 obtain ⟨Q0,Q1⟩:=wNP S p1.Mat
 obtain ⟨A0,A1⟩:=wQa S p1.Mat
 obtain ⟨B0,B1⟩:=wKn S p1.Mat
 obtain ⟨L0,L1⟩:=wPm S p1 p2
 have ask:wAu (cv p0) (⟨p1.Skier,p1.Mat⟩:wAW) (⟨p1.Skier,p1.Mat⟩:wAW)=some (wEN p0 [p1]):=(wKm S p1 p1).trans (congrArg some (wMj p0 p1))
 have key:∃ (X:List wAP) (Y:List (List Int)) (e:Int),X.length <= 1000/\Y.length <= 1000/\(∀ l ∈ Y,l.length <= 1000)/\wCQ p0 p1.Mat=some (X,e)/\wBB (cv p0) p1.Mat=some (X,e)/\wCx p0 p1.Mat=some (Y,e)/\wAv (cv p0) p1.Mat=some (Y,e)/\(wEN p0 [p1]=0->∃ F:Nat->Pt->Int,X=plL p0.Starts.length (fun i j=>F i ⟨(j:Int),p1.Mat⟩)/\∀ i,i < p0.Starts.length->IsDP p0 ⟨(i:Int),p1.Mat⟩ (F i)):=by
  by_cases c:wEN p0 [⟨0,p1.Mat⟩]=0
  ·obtain ⟨C,m0,m1,hy⟩:=wKj c
   obtain ⟨T,eT,hT⟩:=wMn C
   obtain ⟨F,gE,F1⟩:∃ F:Nat->Pt->Int,gT p0 T p1.Mat=(fun (i j:Nat)=>F i ⟨(j:Int),p1.Mat⟩)/\∀ i,i < p0.Starts.length->IsDP p0 ⟨(i:Int),p1.Mat⟩ (F i):=⟨fun (i:Nat) (p:Pt)=>mx T (plc p0 ⟨(i:Int),p1.Mat⟩) (plc p0 p),rfl,fun i hi=>hT.isDP C hy (.inr (.inl ⟨by simp only;omega,by simp only;omega,m0,m1⟩))⟩
   have q1:=Q1 c T eT hT
   have b1:=B1 c T eT hT
   rw [gE] at q1 b1
   have p1':=P1 c F F1
   have a1:=A1 c F F1
   refine ⟨plL p0.Starts.length (fun i j=>F i ⟨(j:Int),p1.Mat⟩),ahL p0.Starts.length (fun i j=>F i ⟨(j:Int),p1.Mat⟩),0,?_,?_,?_,p1',q1,a1,b1,fun _=>⟨F,rfl,F1⟩⟩
   ·simp [plL];omega
   ·rw [wIV];omega
   ·intro l hl
    unfold ahL at hl
    obtain ⟨i,_,rfl⟩:=List.mem_map.1 hl
    have:=wGz (fun i j=>F i ⟨(j:Int),p1.Mat⟩) i p0.Starts.length
    omega
  ·refine ⟨[],[],_,by simp,by simp,by simp,P0 c,Q0 c,A0 c,B0 c,fun h=>?_⟩
   exfalso
   apply c
   obtain ⟨C,c0,hs,hy⟩:=err0 h
   simp only [nN,nR,nO] at hs
   obtain ⟨_,s0,s1,m0,m1⟩:=wGy hs
   have hn:=C.n
   have hb:[(⟨0,p1.Mat⟩:wAM)].all (wFI p0)=true:=by
    simp only [nN,nR,nO,wFI,inB,nL,decide_eq_true_eq]
    exact ⟨⟨by omega,by omega⟩,m0,m1⟩
   unfold wEN
   rw [if_pos c0,if_pos hb,if_pos hy]
 obtain ⟨X,Y,e,hX,hY,hY2,e1,e2,e3,e4,hF⟩:=key
 show (wCQ p0 p1.Mat).bind _=_
 rw [e1,hH]
 simp only
 rw [show (⟨(cv p0).Starts,(cv p0).Splits,(cv p0).Clocks,(cv p0).Readings⟩:wAK)=cv p0 from rfl,show (⟨p0.Starts,p0.Splits,p0.Clocks,p0.Readings⟩:wAA)=p0 from rfl,e2,hH]
 simp only
 rw [e3,hH]
 simp only
 rw [e4,hH]
 simp only
 rw [if_pos trivial,if_pos trivial,wSu hX,hH,if_pos rfl,wUg hY hY2,hH,if_pos rfl]
 by_cases c:wEN p0 [p1]=0
 ·obtain ⟨y,Fe,eP,hc⟩:=L1 c
  obtain ⟨C,c0,hs,hy⟩:=err0 c
  simp only [nN,nR,nO] at hs
  obtain ⟨hp,s0,s1,m0,m1⟩:=wGy hs
  obtain ⟨F,rfl,F1⟩:=hF c
  have pl:(plL p0.Starts.length (fun i j=>F i ⟨(j:Int),p1.Mat⟩)).length=p0.Starts.length:=by simp [plL]
  have gp:gd (plL p0.Starts.length (fun i j=>F i ⟨(j:Int),p1.Mat⟩)) p1.Skier.toNat=⟨1 + ((ahK (fun i j=>F i ⟨(j:Int),p1.Mat⟩) p1.Skier.toNat p0.Starts.length).length:Int),1 + (beK (fun i j=>F i ⟨(j:Int),p1.Mat⟩) p1.Skier.toNat p0.Starts.length:Int)⟩:=by
   unfold plL
   rw [wGe _ (by omega)]
  have ps:pt p1=⟨((p1.Skier.toNat:Nat):Int),p1.Mat⟩:=by rw [nA s0];rfl
  rw [eP,hH]
  simp only
  rw [ask,hH,c,wQm S c0 Fe,hH,if_pos rfl,if_pos trivial,wQo C Fe hs (by rw [pl]),wKy,if_neg (by rw [pl];omega)]
  cases p2 with
  | true =>
   have ec:(nD p0.Starts.length).countP (fun (j:Nat)=>decide (y ⟨(j:Int),p1.Mat⟩ < y (pt p1)))=(ahK (fun i j=>F i ⟨(j:Int),p1.Mat⟩) p1.Skier.toNat p0.Starts.length).length:=by
    unfold ahK
    rw [nE,<- List.countP_eq_length_filter]
    refine nX fun j hj=>?_
    have:=hc F F1 j (List.mem_range.1 hj)
    rw [if_pos rfl] at this
    rw [decide_eq_true_eq,decide_eq_true_eq]
    exact this
   rw [if_pos rfl,wDR s0 (by rw [pl];exact s1),hH,gp,if_pos (by rw [ec]),wLn S,hH,if_pos rfl,aw]
   rfl
  | false =>
   have ec:(nD p0.Starts.length).countP (fun (j:Nat)=>decide (y ⟨(j:Int),p1.Mat⟩ < y (pt p1)))=beK (fun i j=>F i ⟨(j:Int),p1.Mat⟩) p1.Skier.toNat p0.Starts.length:=by
    unfold beK
    refine nX fun j hj=>?_
    have:=hc F F1 j (List.mem_range.1 hj)
    rw [if_neg (by simp),ps] at this
    rw [decide_eq_true_eq,decide_eq_true_eq,ps]
    exact this
   rw [if_neg (by simp),wDR s0 (by rw [pl];exact s1),hH,gp,if_pos (by rw [ec]),wLn S,hH,if_pos rfl,aw]
   rfl
 ·rw [L0 c,hH]
  simp only
  rw [ask,hH,wPn c,hH,if_pos rfl,if_neg c,wLn S,hH,if_pos rfl,aw]
  rfl
end Go.Proofs.YtlnfbjphfoipaaaGreat
