import Derived.Test.YtlnfbjphfoipaaaGreatT2
set_option linter.all false
open Option renaming bind_some->hH
open List renaming length_nil->nA,length_map->nB,set->nE
open Bool renaming not_eq_true'->nD,true_and->nH,eq_iff_iff->nJ
open Int renaming toNat_of_nonneg->nG,toNat_natCast->nI,natCast_nonneg->nM
open Nat renaming mul_le_mul->nK,zero_add->nL
namespace Go.Proofs.YtlnfbjphfoipaaaGreat
open Go.KL Go.KL.Net Go.KL.Floyd
def cv (r:wAA):wAK:=⟨r.Starts,r.Splits,r.Clocks.map fun x=>⟨x.Offset,x.Error⟩,r.Readings.map fun x=>⟨x.Skier,x.Mat,x.Clock,x.Time⟩⟩
def plc (r:wAA) (p:Pt):Nat:=if p.skier=-1 then (if p.mat=0 then 0 else r.Starts.length * (r.Splits.length + 1) + p.mat.toNat) else 1 + p.skier.toNat * (r.Splits.length + 1) + p.mat.toNat
def np (r:wAA):Nat:=1 + r.Starts.length * (r.Splits.length + 1) + r.Clocks.length
def unp (r:wAA) (v:Nat):Pt:=if v=0 then zp else if v <= r.Starts.length * (r.Splits.length + 1) then ⟨((v - 1) / (r.Splits.length + 1):Nat),((v - 1) % (r.Splits.length + 1):Nat)⟩ else ⟨-1,(v - r.Starts.length * (r.Splits.length + 1):Nat)⟩
theorem wPt {r:wAA} (C:RC r):np r <= 69:=by
 have h:r.Starts.length * (r.Splits.length + 1) <= 8 * 8:=nK C.n.2 (by have:=C.m;omega)
 have:=C.c
 unfold np
 omega
theorem wQc {r:wAA} {s k:Nat} (h1:s < r.Starts.length) (h2:k <= r.Splits.length):s * (r.Splits.length + 1) + k < r.Starts.length * (r.Splits.length + 1):=by
 have:(s + 1) * (r.Splits.length + 1) <= r.Starts.length * (r.Splits.length + 1):=Nat.mul_le_mul_right _ h1
 rw [Nat.add_mul] at this
 omega
theorem wTq (r:wAA):plc r zp=0:=rfl
theorem wJP {r:wAA} {s k:Int} (h0:0 <= s):plc r ⟨s,k⟩=1 + s.toNat * (r.Splits.length + 1) + k.toNat:=if_neg (by simp only;omega)
theorem wGU {r:wAA} {k:Int} (h0:1 <= k):plc r ⟨-1,k⟩=r.Starts.length * (r.Splits.length + 1) + k.toNat:=(if_pos rfl).trans (if_neg (by simp only;omega))
theorem wES {r:wAA} {p:Pt} (hp:wFt r p):plc r p < np r:=by
 unfold np
 rcases hp with rfl | ⟨a,b,c,d⟩ | ⟨a,b,c⟩
 ·rw [wTq];omega
 ·have e:p=⟨p.skier,p.mat⟩:=rfl
  rw [e,wJP a]
  have:=wQc (r:=r) (s:=p.skier.toNat) (k:=p.mat.toNat) (by omega) (by omega)
  omega
 ·have e:p=⟨-1,p.mat⟩:=by rw [<- a]
  rw [e,wGU b]
  omega
theorem wJQ {r:wAA} {p:Pt} (hp:wFt r p):unp r (plc r p)=p:=by
 rcases hp with rfl | ⟨a,b,c,d⟩ | ⟨a,b,c⟩
 ·rfl
 ·have e:p=⟨p.skier,p.mat⟩:=rfl
  rw [e,wJP a]
  have h:=wQc (r:=r) (s:=p.skier.toNat) (k:=p.mat.toNat) (by omega) (by omega)
  unfold unp
  rw [if_neg (by omega),if_pos (by omega)]
  have e1:1 + p.skier.toNat * (r.Splits.length + 1) + p.mat.toNat - 1=p.mat.toNat + p.skier.toNat * (r.Splits.length + 1):=by omega
  have e2:(p.mat.toNat + p.skier.toNat * (r.Splits.length + 1)) / (r.Splits.length + 1)=p.skier.toNat:=by
   rw [Nat.add_mul_div_right _ _ (by omega),Nat.div_eq_of_lt (by omega),nL]
  have e3:(p.mat.toNat + p.skier.toNat * (r.Splits.length + 1)) % (r.Splits.length + 1)=p.mat.toNat:=by
   rw [Nat.add_mul_mod_self_right,Nat.mod_eq_of_lt (by omega)]
  rw [e1,e2,e3,nG a,nG c]
 ·have e:p=⟨-1,p.mat⟩:=by rw [<- a]
  rw [e,wGU b]
  unfold unp
  rw [if_neg (by omega),if_neg (by omega)]
  have e1:r.Starts.length * (r.Splits.length + 1) + p.mat.toNat - r.Starts.length * (r.Splits.length + 1)=p.mat.toNat:=by omega
  rw [e1,nG (by omega)]
theorem wQd {r:wAA} {v:Nat} (hv:v < np r):wFt r (unp r v):=by
 unfold np at hv
 unfold unp
 by_cases c:v=0
 ·rw [if_pos c];exact .inl rfl
 ·rw [if_neg c]
  by_cases d:v <= r.Starts.length * (r.Splits.length + 1)
  ·rw [if_pos d]
   have h1:(v - 1) / (r.Splits.length + 1) < r.Starts.length:=by
    rw [Nat.div_lt_iff_lt_mul (by omega)];omega
   have h2:(v - 1) % (r.Splits.length + 1) < r.Splits.length + 1:=Nat.mod_lt _ (by omega)
   exact .inr (.inl ⟨nM _,Int.ofNat_lt.2 h1,nM _,Int.ofNat_le.2 (Nat.lt_succ_iff.1 h2)⟩)
  ·rw [if_neg d]
   exact .inr (.inr ⟨rfl,by simp only;omega,by simp only;omega⟩)
theorem wSH {r:wAA} {p q:Pt} (hp:wFt r p) (hq:wFt r q) (h:plc r p=plc r q):p=q:=by
 rw [<- wJQ hp,<- wJQ hq,h]
section
variable {r:wAA} (C:RC r)
include C
theorem wTr {s k:Int} (h0:0 <= s) (h1:s <= r.Starts.length) (k0:0 <= k) (k1:k <= 100):wAT (cv r) s k=some ((1 + s.toNat * (r.Splits.length + 1) + k.toNat:Nat):Int):=by
 have hm:=C.m;have hn:=C.n
 obtain ⟨s,rfl⟩:=Int.eq_ofNat_of_zero_le h0
 have hb:s * (r.Splits.length + 1) <= 8 * 8:=nK (by omega) (by omega)
 have e:(s:Int) * ((r.Splits.length:Int) + 1)=((s * (r.Splits.length + 1):Nat):Int):=by simp
 unfold wAT
 show some (w64 ((w64 (1 + (w64 ((s:Int) * (w64 ((r.Splits.length:Int) + 1)))))) + k))=_
 rw [wAU (x:=(r.Splits.length:Int) + 1) (by omega) (by omega),e,wAU (x:=((s * (r.Splits.length + 1):Nat):Int)) (by omega) (by omega),wAU (x:=1 + _) (by omega) (by omega),wAU (by omega) (by omega),nI]
 congr 1
 omega
theorem wHD {s k:Int} (h0:0 <= s) (h1:s < r.Starts.length) (k0:0 <= k) (k1:k <= r.Splits.length):wAT (cv r) s k=some (plc r ⟨s,k⟩:Int):=by
 have:=C.m
 rw [wTr C h0 (by omega) k0 (by omega),wJP h0]
theorem wJR {i:Int} (h0:0 <= i) (h1:i <= r.Clocks.length):wAf (cv r) i=some (plc r ⟨-1,1 + i⟩:Int):=by
 have hc:=C.c
 have hb:r.Starts.length * (r.Splits.length + 1) <= 8 * 8:=nK C.n.2 (by have:=C.m;omega)
 unfold wAf
 show (wAT (cv r) (r.Starts.length:Int) 0).bind _=_
 rw [wTr C (by omega) (Int.le_refl _) (by omega) (by omega),hH,wGU (by omega),nI,wAU (by omega) (by omega)]
 congr 1
 omega
theorem wKF:wBM (cv r)=some (np r:Int):=by
 unfold wBM
 show (wAf (cv r) ((r.Clocks.map _).length:Int)).bind _=_
 rw [nB,wJR C (by omega) (Int.le_refl _),hH,wGU (by omega)]
 unfold np
 congr 1
 omega
end
theorem wSI {n:Nat} {t:List (List Int)} (M:Mx n t) {a b:Nat} (ha:a < n) (hb:b < n) (hab:a ≠ b) (u v:Int):∃ t',wAL ⟨t⟩ (a:Int) (b:Int) u v=some t'/\Mx n t'/\∀ i j,i < n->j < n->mx t' i j=if i=a/\j=b then min (mx t a b) u else if i=b/\j=a then min (mx t b a) v else mx t i j:=by
 obtain ⟨M1,g1⟩:=M.put ha hb (min (mx t a b) u)
 have e1:mx (nE t a (nE (gd t a) b (min (mx t a b) u))) b a=mx t b a:=by rw [g1 b a hb ha,if_neg (by omega)]
 obtain ⟨M2,g2⟩:=M1.put hb ha (min (mx t b a) v)
 refine ⟨_,?_,M2,fun i j hi hj=>?_⟩
 ·unfold wAL
  simp only [nI]
  have r1:=M.rows;have r2:=M1.rows
  have c1:=M.cols a ha;have c2:=M1.cols b hb
  rw [wDV (by omega) (by omega),hH,wDV (by omega) (by omega),hH,wDV (by omega) (by omega),hH]
  rw [show min (gd (gd t a) b) u=min (mx t a b) u from rfl,wDV (by omega) (by omega),hH,wDV (by omega) (by omega),hH]
  rw [show gd (gd (nE t a (nE (gd t a) b (min (mx t a b) u))) b) a=mx t b a from e1]
 ·rw [g2 i j hi hj]
  by_cases c:i=b/\j=a
  ·rw [if_pos c,if_neg (by omega),if_pos c]
  ·rw [if_neg c,g1 i j hi hj,if_neg c]
structure Gt (r:wAA) (X:wAH->Prop) (t:List (List Int)):Prop where
 m:Mx (np r) t
 b0:∀ a b,a < np r->b < np r->mx t a b=1125899906842624 \/ (-400000 <= mx t a b/\mx t a b <= 400000)
 d0:∀ a,a < np r->mx t a a=0
 fe:∀ y,wDS r y->∀ a b,a < np r->b < np r->y (unp r b) - y (unp r a) <= mx t a b
 le:∀ x,wCJ r x->X x->mx t (plc r (wCb r x).1) (plc r (wCb r x).2.1) <= (wCb r x).2.2
theorem wSJ {r:wAA} (C:RC r) {x:wAH} (h:wCJ r x):(wCb r x).1 ≠ (wCb r x).2.1:=by
 have key:(wBw r x).1 ≠ (wBw r x).2.1:=by
  unfold wBw
  rcases h with ⟨k,a,b,c⟩ | ⟨k,a,b,c,d⟩ | ⟨k,a,c,d⟩ | ⟨k,a,c,d⟩
  ·rw [if_pos k]
   intro e
   have:=congrArg wAE.skier e
   simp only [zp] at this
   omega
  ·rw [if_neg (by omega),if_pos k]
   intro e
   have:=congrArg wAE.mat e
   simp only at this
   omega
  ·rw [if_neg (by omega),if_neg (by omega),if_pos k]
   intro e
   have:=congrArg wAE.mat e
   simp only [zp] at this
   omega
  ·have u:=C.ru _ (wCW c d)
   rw [if_neg (by omega),if_neg (by omega),if_neg (by omega)]
   intro e
   have:=congrArg wAE.skier e
   simp only at this
   omega
 unfold wCb
 split
 ·exact key
 ·exact fun e=>key e.symm
theorem wSK {r:wAA} {x:wAH} (h:x.Up=true):wCb r x=((wBw r x).1,(wBw r x).2.1,(wBw r x).2.2.1)/\wCb r (wRz x)=((wBw r x).2.1,(wBw r x).1,(wBw r x).2.2.2):=by
 obtain ⟨k,s,i,u⟩:=x
 simp only at h
 subst h
 exact ⟨rfl,rfl⟩
theorem Gt.both {r:wAA} (C:RC r) {X X':wAH->Prop} {t:List (List Int)} (G:Gt r X t) {x:wAH} (hx:wCJ r x) (hu:x.Up=true) (hX:∀ z,wCJ r z->X' z->X z \/ z=x \/ z=wRz x) :
  ∃ t',wAL ⟨t⟩ (plc r (wBw r x).1:Int) (plc r (wBw r x).2.1:Int) (wBw r x).2.2.1 (wBw r x).2.2.2=some t'/\Gt r X' t':=by
 obtain ⟨e1,e2⟩:=wSK (r:=r) hu
 obtain ⟨o1,o2,c1,c2⟩:=wDd C hx
 obtain ⟨tk,_,_⟩:=wOr (r:=r) hx
 obtain ⟨_,_,c3,c4⟩:=wDd C tk
 have hne:=wSJ C hx
 rw [e1] at o1 o2 c1 c2 hne
 rw [e2] at c3 c4
 simp only at o1 o2 c1 c2 c3 c4 hne
 have ha:=wES o1
 have hb:=wES o2
 have hab:plc r (wBw r x).1 ≠ plc r (wBw r x).2.1:=fun h=>hne (wSH o1 o2 h)
 obtain ⟨t',e,M,g⟩:=wSI G.m ha hb hab (wBw r x).2.2.1 (wBw r x).2.2.2
 have up1:=wJQ o1
 have up2:=wJQ o2
 have hl1:∀ y,wDS r y->y (wBw r x).2.1 <= y (wBw r x).1 + (wBw r x).2.2.1:=fun y F=>by have:=F x hx;rw [e1] at this;exact this
 have hl2:∀ y,wDS r y->y (wBw r x).1 <= y (wBw r x).2.1 + (wBw r x).2.2.2:=fun y F=>by have:=F _ tk;rw [e2] at this;exact this
 generalize hA:plc r (wBw r x).1=A at *
 generalize hB:plc r (wBw r x).2.1=B at *
 refine ⟨t',e,M,fun a b ha' hb'=>?_,fun a ha'=>?_,fun y F a b ha' hb'=>?_,fun z hz hXz=>?_⟩
 ·rw [g a b ha' hb']
  have:=G.b0 A B ha hb
  have:=G.b0 B A hb ha
  split
  ·omega
  ·split
   ·omega
   ·exact G.b0 a b ha' hb'
 ·rw [g a a ha' ha',if_neg (by omega),if_neg (by omega)]
  exact G.d0 a ha'
 ·rw [g a b ha' hb']
  have f1:=G.fe y F A B ha hb
  have f2:=G.fe y F B A hb ha
  have h1:=hl1 y F
  have h2:=hl2 y F
  rw [up1,up2] at f1 f2
  split
  ·rename_i h
   rw [h.1,h.2,up1,up2];omega
  ·split
   ·rename_i h
    rw [h.1,h.2,up1,up2];omega
   ·exact G.fe y F a b ha' hb'
 ·obtain ⟨z1,z2,_,_⟩:=wDd C hz
  have p1:=wES z1
  have p2:=wES z2
  rcases hX z hz hXz with h | rfl | rfl
  ·have old:=G.le z hz h
   rw [g _ _ p1 p2]
   split
   ·rename_i q
    rw [q.1,q.2] at old
    omega
   ·split
    ·rename_i q
     rw [q.1,q.2] at old
     omega
    ·exact old
  ·rw [e1]
   simp only
   rw [hA,hB,g _ _ ha hb,if_pos ⟨rfl,rfl⟩]
   exact Int.min_le_right _ _
  ·rw [e2]
   simp only
   rw [hA,hB,g _ _ hb ha,if_neg (fun h=>hab h.1.symm),if_pos ⟨rfl,rfl⟩]
   exact Int.min_le_right _ _
end Go.Proofs.YtlnfbjphfoipaaaGreat
namespace Go.Proofs.YtlnfbjphfoipaaaGreat
open Go.KL Go.KL.Net Go.KL.Floyd
theorem wPu {n:Nat} (hn:n <= 100):∃ t,(wCN 0 (n:Int) (fun k38 l32 =>
  (mkz 8 (n:Int) (0:Int)).bind fun x64 =>
  (wCN 0 (n:Int) (fun k78 l77 =>
   if (↑k38:Int)=(↑k78:Int) then
    some l77
   else
    (chk (↑k78:Int) l77.length).bind fun _ =>
    some (nE l77 k78 1125899906842624)) x64).bind fun y83 =>
  (app 24 l32 [y83]).bind fun x140 =>
  some x140) ([]:List (List Int)))=some t/\Mx n t/\∀ a b,a < n->b < n->mx t a b=if a=b then 0 else 1125899906842624:=by
 have row:∀ k:Nat,∃ l:List Int,(wCN 0 (n:Int) (fun k78 l77 =>
   if (↑k:Int)=(↑k78:Int) then
    some l77
   else
    (chk (↑k78:Int) l77.length).bind fun _ =>
    some (nE l77 k78 1125899906842624)) (List.replicate (n:Int).toNat (0:Int)))=some l/\l.length=n/\∀ b,b < n->gd l b=if k=b then 0 else 1125899906842624:=by
  intro k
  rw [wCv (by omega)]
  obtain ⟨l,e,l1,l2⟩:=wDq (body:=fun (k78:Nat) (l77:List Int) =>
   if (↑k:Int)=(↑k78:Int) then
    some l77
   else
    (chk (↑k78:Int) l77.length).bind fun _ =>
    some (nE l77 k78 1125899906842624)) (fun i s=>s.length=n/\∀ b,b < n->gd s b=if b < i then (if k=b then 0 else 1125899906842624) else 0) n 0 (List.replicate (n:Int).toNat (0:Int)) ⟨by simp,fun b hb=>by rw [if_neg (by omega),wMe (by simpa using hb)];simp⟩ (by
   rintro i s _ hi ⟨s1,s2⟩
   by_cases c:k=i
   ·refine ⟨s,by rw [if_pos (by omega)],s1,fun b hb=>?_⟩
    rw [s2 b hb]
    by_cases d:b < i
    ·rw [if_pos d,if_pos (show b < i + 1 by omega)]
    ·by_cases e:b=i
     ·rw [if_neg d,if_pos (show b < i + 1 by omega),if_pos (show k=b by omega)]
     ·rw [if_neg d,if_neg (show ¬ b < i + 1 by omega)]
   ·refine ⟨_,by rw [if_neg (by omega),wDV (by omega) (by omega)];rfl,by simp [s1],fun b hb=>?_⟩
    rw [wJv (by omega) (by omega),s2 b hb]
    by_cases e:b=i
    ·rw [if_pos e,if_pos (show b < i + 1 by omega),if_neg (show ¬ k=b by omega)]
    ·by_cases d:b < i
     ·rw [if_neg e,if_pos d,if_pos (show b < i + 1 by omega)]
     ·rw [if_neg e,if_neg d,if_neg (show ¬ b < i + 1 by omega)])
  rw [nL] at l2
  exact ⟨l,e,l1,fun b hb=>by rw [l2 b hb,if_pos hb]⟩
 rw [wCv (by omega)]
 obtain ⟨t,e,t1,t2⟩:=wDq (body:=fun (k38:Nat) (l32:List (List Int)) =>
  (mkz 8 (n:Int) (0:Int)).bind fun x64 =>
  (wCN 0 (n:Int) (fun k78 l77 =>
   if (↑k38:Int)=(↑k78:Int) then
    some l77
   else
    (chk (↑k78:Int) l77.length).bind fun _ =>
    some (nE l77 k78 1125899906842624)) x64).bind fun y83 =>
  (app 24 l32 [y83]).bind fun x140 =>
  some x140) (fun i s=>s.length=i/\∀ a,a < i->(gd s a).length=n/\∀ b,b < n->gd (gd s a) b=if a=b then 0 else 1125899906842624) n 0 [] ⟨rfl,fun a ha=>by omega⟩ (by
  rintro i s _ hi ⟨s1,s2⟩
  obtain ⟨l,e,l1,l2⟩:=row i
  rw [mkz,if_pos (by omega),hH,e,hH,wEc (by simp only [List.length_cons,nA];omega),hH]
  refine ⟨_,rfl,by simp [s1],fun a ha=>?_⟩
  by_cases c:a=i
  ·subst c
   have e2:gd (s ++ [l]) a=l:=by rw [<- s1];exact wPk s [] l
   rw [e2]
   exact ⟨l1,l2⟩
  ·rw [wJM (by omega)]
   exact s2 a (by omega))
 rw [nL] at t1 t2
 exact ⟨t,e,⟨t1,fun a ha=>(t2 a ha).1⟩,fun a b ha hb=>(t2 a ha).2 b hb⟩
def done (s0 s1 j c q:Int) (x:wAH):Prop:=(x.Kind=0/\x.Skier < s0) \/ (x.Kind=1/\(x.Skier < s1 \/ (x.Skier=s1/\x.Index < j))) \/ (x.Kind=2/\x.Index < c) \/ (x.Kind=3/\x.Index < q)
theorem Gt.weak {r:wAA} {X X':wAH->Prop} {t:List (List Int)} (G:Gt r X t) (h:∀ z,wCJ r z->X' z->X z):Gt r X' t:=⟨G.m,G.b0,G.d0,G.fe,fun z hz hX=>G.le z hz (h z hz hX)⟩
theorem wGV {z:wAH} {k s i:Int} (h1:z.Kind=k) (h2:z.Skier=s) (h3:z.Index=i):z=⟨k,s,i,true⟩ \/ z=wRz ⟨k,s,i,true⟩:=by
 obtain ⟨a,b,c,u⟩:=z
 simp only at h1 h2 h3
 subst h1 h2 h3
 cases u
 ·exact .inr rfl
 ·exact .inl rfl
structure Tab (r:wAA) (T:List (List Int)):Prop where
 ex:∃ t,Gt r (fun _=>True) t/\Fl (np r) t T (np r)
section
variable {r:wAA} (C:RC r)
include C
theorem wPv {t:List (List Int)} (G:Gt r (fun _=>True) t):∃ T,((wCN 0 (np r:Int) (fun k561 l560=>rB (np r) k561 l560) t).bind fun y566=>some y566)=some T/\Tab r T:=by
 obtain ⟨T,e,F⟩:=wPs (n:=np r) (by have:=wPt C;omega) G.m G.b0
 exact ⟨T,by rw [e];rfl,⟨t,G,F⟩⟩
def rdB (r:wAA):(List (List Int) × Int)->Option ((List (List Int) × Int) ⊕ List (List Int)):=fun (l449,x450) =>
            if x450 < (↑(cv r).Readings.length:Int) then
              (idx (cv r).Readings x450).bind fun x468 =>
              (idx (cv r).Clocks x468.Clock).bind fun x487 =>
              (wAf (cv r) x468.Clock).bind fun x511 =>
              (wAT (cv r) x468.Skier x468.Mat).bind fun x525 =>
              (wAL (⟨l449⟩:wAN) x511 x525 (w64 (x468.Time + x487.Error)) (w64 (x487.Error - x468.Time))).bind fun x535 =>
              some (.inl (x535,w64 (x450 + 1)))
            else
              esc ((wCN 0 (np r:Int) (fun k561 l560=>rB (np r) k561 l560) l449).bind fun y566=>some y566)
theorem rd_is {t:List (List Int)} (G:Gt r (done r.Starts.length r.Starts.length 0 r.Clocks.length 0) t):∃ T,iter (rdB r) big (t,0)=some T/\Tab r T:=by
 have hq:=C.q
 have hl:(cv r).Readings.length=r.Readings.length:=nB ..
 refine wGR (I:=fun i (s:List (List Int) × Int)=>s.2=(i:Int)/\Gt r (done r.Starts.length r.Starts.length 0 r.Clocks.length i) s.1) (Z:=Tab r) r.Readings.length ?_ ⟨rfl,G⟩ (by omega)
 rintro i ⟨t,x⟩ hi ⟨rfl,G⟩
 unfold rdB
 simp only [hl]
 by_cases c:(i:Int) < (r.Readings.length:Int)
 ·left
  have hi':i < r.Readings.length:=by omega
  have hm:=wCV hi'
  obtain ⟨u1,u2,u3,u4,u5,u6⟩:=C.ru _ hm
  have ut:=C.rt _ hm
  have uc:=C.ck _ (wCW u5 u6)
  obtain ⟨t',e,G'⟩:=G.both C (x:=⟨3,0,(i:Int),true⟩) (X':=done r.Starts.length r.Starts.length 0 r.Clocks.length ((i + 1:Nat):Int)) (.inr (.inr (.inr ⟨rfl,rfl,by simp only;omega,by simp only;omega⟩))) rfl fun z hz hX=>by
   unfold wCJ at hz
   unfold done at hX ⊢
   by_cases q:z.Kind=3/\z.Index=(i:Int)
   ·exact .inr (wGV q.1 (by omega) q.2)
   ·left;omega
  have e1:idx (cv r).Readings (i:Int)=some ⟨(gd r.Readings i).Skier,(gd r.Readings i).Mat,(gd r.Readings i).Clock,(gd r.Readings i).Time⟩:=by
   rw [wBD (by rw [hl];exact hi')]
   exact congrArg some (wEn _ hi')
  have e2:idx (cv r).Clocks (gd r.Readings i).Clock=some ⟨(gd r.Clocks (gd r.Readings i).Clock.toNat).Offset,(gd r.Clocks (gd r.Readings i).Clock.toNat).Error⟩:=by
   rw [wDc u5 (by show _ < ((r.Clocks.map _).length:Int);rw [nB];exact u6)]
   exact congrArg some (wEn _ (by omega))
  have w1:w64 ((gd r.Readings i).Time + (gd r.Clocks (gd r.Readings i).Clock.toNat).Error)=(gd r.Readings i).Time + (gd r.Clocks (gd r.Readings i).Clock.toNat).Error:=wAU (by omega) (by omega)
  have w2:w64 ((gd r.Clocks (gd r.Readings i).Clock.toNat).Error - (gd r.Readings i).Time)=(gd r.Clocks (gd r.Readings i).Clock.toNat).Error - (gd r.Readings i).Time:=wAU (by omega) (by omega)
  refine ⟨hi',(t',((i + 1:Nat):Int)),?_,rfl,G'⟩
  rw [if_pos c,e1,hH]
  simp only
  rw [e2,hH,wJR C u5 (by omega),hH,wHD C u1 u2 u3 u4,hH]
  simp only
  rw [w1,w2,wAU (by omega) (by omega)]
  have e':wAL (⟨t⟩:wAN) (plc r ⟨-1,1 + (gd r.Readings i).Clock⟩:Int) (plc r ⟨(gd r.Readings i).Skier,(gd r.Readings i).Mat⟩:Int) ((gd r.Readings i).Time + (gd r.Clocks (gd r.Readings i).Clock.toNat).Error) ((gd r.Clocks (gd r.Readings i).Clock.toNat).Error - (gd r.Readings i).Time)=some t':=e
  rw [e']
  rfl
 ·right
  have hi':i=r.Readings.length:=by omega
  obtain ⟨T,e,hT⟩:=wPv C (G.weak fun z hz _=>by unfold wCJ at hz;unfold done;omega)
  exact ⟨T,by rw [if_neg c,e];rfl,hT⟩
def ckB (r:wAA):(List (List Int) × Int)->Option ((List (List Int) × Int) ⊕ List (List Int)):=fun (l366,x367) =>
        if x367 < (↑(cv r).Clocks.length:Int) then
          (idx (cv r).Clocks x367).bind fun x387 =>
          (wAf (cv r) x367).bind fun x414 =>
          (wAL (⟨l366⟩:wAN) 0 x414 (w64 (-x387.Offset.Lo)) x387.Offset.Hi).bind fun x424 =>
          some (.inl (x424,w64 (x367 + 1)))
        else
          esc (iter (rdB r) big (l366,0))
theorem ck_is {t:List (List Int)} (G:Gt r (done r.Starts.length r.Starts.length 0 0 0) t):∃ T,iter (ckB r) big (t,0)=some T/\Tab r T:=by
 have hq:=C.c
 have hl:(cv r).Clocks.length=r.Clocks.length:=nB ..
 refine wGR (I:=fun i (s:List (List Int) × Int)=>s.2=(i:Int)/\Gt r (done r.Starts.length r.Starts.length 0 i 0) s.1) (Z:=Tab r) r.Clocks.length ?_ ⟨rfl,G⟩ (by omega)
 rintro i ⟨t,x⟩ hi ⟨rfl,G⟩
 unfold ckB
 simp only [hl]
 by_cases c:(i:Int) < (r.Clocks.length:Int)
 ·left
  have hi':i < r.Clocks.length:=by omega
  have uc:=C.ck _ (wCV hi')
  obtain ⟨t',e,G'⟩:=G.both C (x:=⟨2,0,(i:Int),true⟩) (X':=done r.Starts.length r.Starts.length 0 ((i + 1:Nat):Int) 0) (.inr (.inr (.inl ⟨rfl,rfl,by simp only;omega,by simp only;omega⟩))) rfl fun z hz hX=>by
   unfold wCJ at hz
   unfold done at hX ⊢
   by_cases q:z.Kind=2/\z.Index=(i:Int)
   ·exact .inr (wGV q.1 (by omega) q.2)
   ·left;omega
  have e2:idx (cv r).Clocks (i:Int)=some ⟨(gd r.Clocks i).Offset,(gd r.Clocks i).Error⟩:=by
   rw [wBD (by rw [hl];exact hi')]
   exact congrArg some (wEn _ hi')
  refine ⟨hi',(t',((i + 1:Nat):Int)),?_,rfl,G'⟩
  rw [if_pos c,e2,hH,wJR C (by omega) (by omega),hH]
  simp only
  rw [wAU (x:=-(gd r.Clocks i).Offset.Lo) (by omega) (by omega),wAU (by omega) (by omega)]
  have e':wAL (⟨t⟩:wAN) 0 (plc r ⟨-1,1 + (i:Int)⟩:Int) (-(gd r.Clocks i).Offset.Lo) (gd r.Clocks i).Offset.Hi=some t':=e
  rw [e']
  rfl
 ·right
  have hi':i=r.Clocks.length:=by omega
  obtain ⟨T,e,hT⟩:=rd_is C (G.weak fun z hz hX=>by unfold wCJ at hz;unfold done at hX ⊢;omega)
  exact ⟨T,by rw [if_neg c,e];rfl,hT⟩
def spB' (r:wAA) (x194:Int):(List (List Int) × Int)->Option ((List (List Int) × Int) ⊕ ((List (List Int) × Int) ⊕ List (List Int))):=fun (l266,x267) =>
        if x267 < (↑(cv r).Splits.length:Int) then
          (idx (cv r).Splits x267).bind fun x288 =>
          (wAT (cv r) x194 x267).bind fun x311 =>
          (wAT (cv r) x194 (w64 (x267 + 1))).bind fun x325 =>
          (wAL (⟨l266⟩:wAN) x311 x325 x288.Hi (w64 (-x288.Lo))).bind fun x335 =>
          some (.inl (x335,w64 (x267 + 1)))
        else
          esc (some (.inl (l266,w64 (x194 + 1))))
def stB (r:wAA):(List (List Int) × Int)->Option ((List (List Int) × Int) ⊕ List (List Int)):=fun (l193,x194) =>
  if x194 < (↑(cv r).Starts.length:Int) then
   (idx (cv r).Starts x194).bind fun x214 =>
   (wAT (cv r) x194 0).bind fun x237 =>
   (wAL (⟨l193⟩:wAN) 0 x237 x214 (w64 (-x214))).bind fun x247 =>
   iter (spB' r x194) big (x247,0)
  else
   esc (iter (ckB r) big (l193,0))
theorem sp_is {k:Nat} (hk:k < r.Starts.length) {t:List (List Int)} (G:Gt r (done ((k + 1:Nat):Int) k 0 0 0) t):∃ b,iter (spB' r (k:Int)) big (t,0)=some b/\∃ t',b=.inl (t',((k + 1:Nat):Int))/\Gt r (done ((k + 1:Nat):Int) ((k + 1:Nat):Int) 0 0 0) t':=by
 have hm:=C.m;have hn:=C.n
 refine wGR (I:=fun i (s:List (List Int) × Int)=>s.2=(i:Int)/\Gt r (done ((k + 1:Nat):Int) k i 0 0) s.1) (Z:=fun (b:(List (List Int) × Int) ⊕ List (List Int))=>∃ t',b=.inl (t',((k + 1:Nat):Int))/\Gt r (done ((k + 1:Nat):Int) ((k + 1:Nat):Int) 0 0 0) t') r.Splits.length ?_ ⟨rfl,G⟩ (by omega)
 rintro i ⟨t,x⟩ hi ⟨rfl,G⟩
 unfold spB'
 simp only [show (cv r).Splits=r.Splits from rfl]
 by_cases c:(i:Int) < (r.Splits.length:Int)
 ·left
  have hi':i < r.Splits.length:=by omega
  have uc:=C.sp _ (wCV hi')
  obtain ⟨t',e,G'⟩:=G.both C (x:=⟨1,(k:Int),(i:Int),true⟩) (X':=done ((k + 1:Nat):Int) k ((i + 1:Nat):Int) 0 0) (.inr (.inl ⟨rfl,by simp only;omega,by simp only;omega,by simp only;omega,by simp only;omega⟩)) rfl fun z hz hX=>by
   unfold wCJ at hz
   unfold done at hX ⊢
   by_cases q:z.Kind=1/\z.Skier=(k:Int)/\z.Index=(i:Int)
   ·exact .inr (wGV q.1 q.2.1 q.2.2)
   ·left;omega
  refine ⟨hi',(t',((i + 1:Nat):Int)),?_,rfl,G'⟩
  rw [if_pos c,wBD hi',hH,wAU (x:=(i:Int) + 1) (by omega) (by omega),wHD C (by omega) (by omega) (by omega) (by omega),hH,wHD C (by omega) (by omega) (by omega) (by omega),hH,wAU (by omega) (by omega)]
  have e':wAL (⟨t⟩:wAN) (plc r ⟨(k:Int),(i:Int)⟩:Int) (plc r ⟨(k:Int),(i:Int) + 1⟩:Int) (gd r.Splits i).Hi (-(gd r.Splits i).Lo)=some t':=e
  rw [e']
  rfl
 ·right
  have hi':i=r.Splits.length:=by omega
  refine ⟨.inl (t,((k + 1:Nat):Int)),by rw [if_neg c,wAU (by omega) (by omega)];rfl,t,rfl,G.weak fun z hz hX=>by unfold wCJ at hz;unfold done at hX ⊢;omega⟩
theorem st_is {t:List (List Int)} (G:Gt r (done 0 0 0 0 0) t):∃ T,iter (stB r) big (t,0)=some T/\Tab r T:=by
 have hn:=C.n
 refine wGR (I:=fun i (s:List (List Int) × Int)=>s.2=(i:Int)/\Gt r (done i i 0 0 0) s.1) (Z:=Tab r) r.Starts.length ?_ ⟨rfl,G⟩ (by omega)
 rintro i ⟨t,x⟩ hi ⟨rfl,G⟩
 unfold stB
 simp only [show (cv r).Starts=r.Starts from rfl]
 by_cases c:(i:Int) < (r.Starts.length:Int)
 ·left
  have hi':i < r.Starts.length:=by omega
  have uc:=C.st _ (wCV hi')
  obtain ⟨t',e,G'⟩:=G.both C (x:=⟨0,(i:Int),0,true⟩) (X':=done ((i + 1:Nat):Int) i 0 0 0) (.inl ⟨rfl,by simp only;omega,by simp only;omega,rfl⟩) rfl fun z hz hX=>by
   unfold wCJ at hz
   unfold done at hX ⊢
   by_cases q:z.Kind=0/\z.Skier=(i:Int)
   ·exact .inr (wGV q.1 q.2 (by omega))
   ·left;omega
  obtain ⟨b,e2,t2,rfl,G2⟩:=sp_is C hi' G'
  refine ⟨hi',(t2,((i + 1:Nat):Int)),?_,rfl,G2⟩
  rw [if_pos c,wBD hi',hH,wHD C (by omega) (by omega) (by omega) (by omega),hH,wAU (by omega) (by omega)]
  have e':wAL (⟨t⟩:wAN) 0 (plc r ⟨(i:Int),0⟩:Int) (gd r.Starts i) (-gd r.Starts i)=some t':=e
  rw [e',hH]
  exact e2
 ·right
  have hi':i=r.Starts.length:=by omega
  obtain ⟨T,e,hT⟩:=ck_is C (G.weak fun z hz hX=>by unfold wCJ at hz;unfold done at hX ⊢;omega)
  exact ⟨T,by rw [if_neg c,e];rfl,hT⟩
theorem wKG:wBP (cv r)=(wBM (cv r)).bind fun x5 =>
 (wCN 0 x5 (fun k38 l32 =>
  (mkz 8 x5 (0:Int)).bind fun x64 =>
  (wCN 0 x5 (fun k78 l77 =>
   if (↑k38:Int)=(↑k78:Int) then
    some l77
   else
    (chk (↑k78:Int) l77.length).bind fun _ =>
    some (nE l77 k78 1125899906842624)) x64).bind fun y83 =>
  (app 24 l32 [y83]).bind fun x140 =>
  some x140) []).bind fun y43=>if x5=(np r:Int) then iter (stB r) big (y43,0) else none:=by
 unfold wBP
 rw [wKF C,hH,hH]
 simp only [if_true]
 rfl
theorem wPw:∃ T,wBP (cv r)=some T/\Tab r T:=by
 rw [wKG C,wKF C,hH]
 have hnp:=wPt C
 obtain ⟨t,e,M,g⟩:=wPu (n:=np r) (by omega)
 rw [e,hH,if_pos rfl]
 refine st_is C ⟨M,fun a b ha hb=>?_,fun a ha=>by rw [g a a ha ha,if_pos rfl],fun y F a b ha hb=>?_,fun x hx hX=>?_⟩
 ·rw [g a b ha hb]
  split <;> omega
 ·have h1:=wIQ C F (wQd ha)
  have h2:=wIQ C F (wQd hb)
  rw [g a b ha hb]
  split
  ·rename_i h;subst h;omega
  ·omega
 ·unfold wCJ at hx
  unfold done at hX
  omega
theorem Tab.clash {T:List (List Int)} (h:Tab r T):(∃ y,wDS r y) ↔ ∀ a,a < np r->0 <= mx T a a:=by
 obtain ⟨t,G,F⟩:=h
 constructor
 ·rintro ⟨y,hy⟩ a ha
  have:=F.fe (fun v=>y (unp r v)) (G.fe y hy) a a ha ha
  omega
 ·intro h0
  have hz:wFt r zp:=.inl rfl
  have p0:plc r zp < np r:=wES hz
  have hnp:=wPt C
  have fin:∀ p,wFt r p->mx T (plc r zp) (plc r p) < 1125899906842624:=fun p hp=>by
   refine wTn (S:=fun q=>wFt r q->mx T (plc r zp) (plc r q) < 1125899906842624) (fun x hx h _=>?_) (fun _=>?_) hp hp
   ·obtain ⟨o1,o2,c1,c2⟩:=wDd C hx
    have hf:=h o1
    have b:=F.fin (by omega) (Nat.le_refl _) h0 p0 (wES o1) hf
    have e:=Int.le_trans (F.le _ _ (wES o1) (wES o2)) (G.le x hx trivial)
    have:=F.tri h0 _ (wES o1) _ _ p0 (wES o2) hf (by omega)
    omega
   ·have:=F.le _ _ p0 p0
    rw [G.d0 _ p0] at this
    omega
  refine ⟨fun p=>mx T (plc r zp) (plc r p),fun x hx=>?_⟩
  obtain ⟨o1,o2,c1,c2⟩:=wDd C hx
  have e:=Int.le_trans (F.le _ _ (wES o1) (wES o2)) (G.le x hx trivial)
  have:=F.tri h0 _ (wES o1) _ _ p0 (wES o2) (fin _ o1) (by omega)
  show mx T (plc r zp) (plc r (wCb r x).2.1) <= mx T (plc r zp) (plc r (wCb r x).1) + (wCb r x).2.2
  omega
end
end Go.Proofs.YtlnfbjphfoipaaaGreat
namespace Go.Proofs.YtlnfbjphfoipaaaGreat
open Go.KL Go.KL.Net
theorem wEt (n lo hi:Int):wAW n lo hi=some (!inB n lo hi):=by
 unfold wAW inB
 by_cases h:n < lo
 ·rw [if_pos h,decide_eq_false (by omega)];rfl
 ·rw [if_neg h]
  congr 1
  rw [nJ]
  simp only [nD,decide_eq_true_eq,decide_eq_false_iff_not]
  omega
theorem wOu (s:wAX) (lo hi:Int):wBW s lo hi=some (!wPK s lo hi):=by
 unfold wBW wPK
 by_cases h:s.Hi < s.Lo
 ·rw [if_pos h,decide_eq_false (by omega)];rfl
 ·by_cases h2:s.Lo < lo
  ·rw [if_neg h,if_pos h2,decide_eq_false (by omega)];rfl
  ·rw [if_neg h,if_neg h2]
   congr 1
   rw [nJ]
   simp only [nD,decide_eq_true_eq,decide_eq_false_iff_not]
   omega
theorem wFY {S B:Type} {q:Bool} {s:S} {c:B} {x:Option (S ⊕ B)} {y:Option (S ⊕ B)} (hx:x=some (.inr c)) (hy:y=some (.inl s)):(if (!q)=true then x else y)=some (if q=true then .inl s else .inr c):=by
 cases q
 ·rw [hx];rfl
 ·rw [hy];rfl
theorem wHu {r:wAA} (S:wEe r):wBA (cv r)=some (code r):=by
 have hn:=S.n;have hm:=S.m;have hc:=S.c;have hq:=S.q
 have lc:(cv r).Clocks.length=r.Clocks.length:=nB ..
 have lq:(cv r).Readings.length=r.Readings.length:=nB ..
 unfold wBA code
 rw [show (cv r).Starts=r.Starts from rfl,show (cv r).Splits=r.Splits from rfl,lc,lq,wEt,hH]
 by_cases c1:1 <= r.Starts.length/\r.Starts.length <= 8
 ·have e1:(!inB (r.Starts.length:Int) 1 8)=false:=by unfold inB;rw [decide_eq_true (by omega)];rfl
  rw [e1,if_neg (by simp),if_neg (show ¬ ¬ (1 <= r.Starts.length/\r.Starts.length <= 8) from fun h=>h c1)]
  by_cases c2:7 < r.Splits.length
  ·rw [if_pos (show (7:Int) < (r.Splits.length:Int) by omega),if_pos c2]
  ·rw [if_neg (show ¬ (7:Int) < (r.Splits.length:Int) by omega),if_neg c2]
   by_cases c3:4 < r.Clocks.length
   ·rw [if_pos (show (4:Int) < (r.Clocks.length:Int) by omega),if_pos c3]
   ·rw [if_neg (show ¬ (4:Int) < (r.Clocks.length:Int) by omega),if_neg c3]
    by_cases c4:40 < r.Readings.length
    ·rw [if_pos (show (40:Int) < (r.Readings.length:Int) by omega),if_pos c4]
    ·rw [if_neg (show ¬ (40:Int) < (r.Readings.length:Int) by omega),if_neg c4]
     rw [all_allN stP,all_allN spP,all_allN ckP,all_allN rtP,all_allN (ruP r)]
     refine wER (fun k=>stP (gd r.Starts k)) 3 (by omega) (fun i hi=>?_) ?_
     ·rw [if_pos (by omega),wBD hi,hH,wEt,hH]
      exact wFY rfl (by rw [wAU (by omega) (by omega)])
     ·rw [if_neg (by omega)]
      refine (congrArg esc (wER (fun k=>spP (gd r.Splits k)) 3 (by omega) (fun i hi=>?_) ?_)).trans (wFL _)
      ·rw [if_pos (by omega),wBD hi,hH,wOu,hH]
       exact wFY rfl (by rw [wAU (by omega) (by omega)])
      ·rw [if_neg (by omega)]
       refine (congrArg esc (wER (fun k=>ckP (gd r.Clocks k)) 3 (by omega) (fun i hi=>?_) ?_)).trans (wFL _)
       ·have ei:idx (cv r).Clocks (i:Int)=some ⟨(gd r.Clocks i).Offset,(gd r.Clocks i).Error⟩:=by
         rw [wBD (by rw [lc];exact hi)]
         exact congrArg some (wEn _ hi)
        rw [if_pos (by omega),ei,hH]
        simp only
        rw [wOu,hH,wEt,hH]
        unfold ckP
        cases wPK (gd r.Clocks i).Offset (-36000) 36000
        ·rfl
        ·rw [if_neg (by simp),nH]
         exact wFY rfl (by rw [wAU (by omega) (by omega)])
       ·rw [if_neg (by omega)]
        refine (congrArg esc (wER (fun k=>rtP (gd r.Readings k)) 3 (by omega) (fun i hi=>?_) ?_)).trans (wFL _)
        ·have ei:idx (cv r).Readings (i:Int)=some ⟨(gd r.Readings i).Skier,(gd r.Readings i).Mat,(gd r.Readings i).Clock,(gd r.Readings i).Time⟩:=by
          rw [wBD (by rw [lq];exact hi)]
          exact congrArg some (wEn _ hi)
         rw [if_pos (by omega),ei,hH]
         simp only
         rw [wEt,hH]
         exact wFY rfl (by rw [wAU (by omega) (by omega)])
        ·rw [if_neg (by omega)]
         refine (congrArg esc (wER (fun k=>ruP r (gd r.Readings k)) 1 (z:=0) (by omega) (fun i hi=>?_) ?_)).trans (wFL _)
         ·have ei:idx (cv r).Readings (i:Int)=some ⟨(gd r.Readings i).Skier,(gd r.Readings i).Mat,(gd r.Readings i).Clock,(gd r.Readings i).Time⟩:=by
           rw [wBD (by rw [lq];exact hi)]
           exact congrArg some (wEn _ hi)
          rw [if_pos (by omega),ei,hH]
          simp only
          rw [wAU (x:=(r.Starts.length:Int) - 1) (by omega) (by omega),wAU (x:=(r.Clocks.length:Int) - 1) (by omega) (by omega),wEt,hH,wEt,hH,wEt,hH]
          unfold ruP
          cases inB (gd r.Readings i).Skier 0 ((r.Starts.length:Int) - 1)
          ·rfl
          ·rw [if_neg (by simp),nH]
           cases inB (gd r.Readings i).Mat 0 (r.Splits.length:Int)
           ·rfl
           ·rw [if_neg (by simp),nH]
            exact wFY rfl (by rw [wAU (by omega) (by omega)])
         ·rw [if_neg (by omega)];rfl
 ·have e1:(!inB (r.Starts.length:Int) 1 8)=true:=by unfold inB;rw [decide_eq_false (by omega)];rfl
  rw [e1,if_pos rfl,if_pos c1]
theorem wOv {r:wAA} (S:wEe r):wBV r=some (cv r):=by
 have hn:=S.n;have hm:=S.m;have hc:=S.c;have hq:=S.q
 unfold wBV wAd wAl
 rw [wEc (by simp only [nA];omega),hH,hH,wEc (by simp only [nA];omega),hH,hH,hH]
 simp only
 rw [wLq (f:=fun x:wAZ=>(⟨x.Offset,x.Error⟩:wAp)) (fun a _ l=>by cases app 24 l [(⟨a.Offset,a.Error⟩:wAp)] <;> rfl) (by omega) (by omega),hH]
 rw [wLq (f:=fun x:wAO=>(⟨x.Skier,x.Mat,x.Clock,x.Time⟩:wAi)) (fun a _ l=>by cases app 32 l [(⟨a.Skier,a.Mat,a.Clock,a.Time⟩:wAi)] <;> rfl) (by omega) (by omega),hH]
 rfl
end Go.Proofs.YtlnfbjphfoipaaaGreat
namespace Go.Proofs.YtlnfbjphfoipaaaGreat
open Go.KL Go.KL.Net Go.KL.Floyd
open Classical
theorem wPx {r:wAA} (C:RC r):∃ b,wBm (cv r)=some b/\(b=true ↔ ¬ ∃ y,wDS r y):=by
 obtain ⟨T,e,hT⟩:=wPw C
 have hnp:=wPt C
 obtain ⟨t,G,F⟩:=id hT
 have hr:=F.m.rows
 refine ⟨!wEZ (fun k=>!decide (mx T k k < 0)) (np r) 0,?_,?_⟩
 ·unfold wBm
  rw [e,hH,hr,wEo (fun k=>!decide (mx T k k < 0)) true (by omega) fun i hi=>?_]
  ·cases wEZ (fun k=>!decide (mx T k k < 0)) (np r) 0 <;> rfl
  ·rw [wBD (by omega),hH,wBD (by rw [F.m.cols i hi];exact hi),hH]
   by_cases c:mx T i i < 0
   ·rw [if_pos (show gd (gd T i) i < 0 from c),decide_eq_true c];rfl
   ·rw [if_neg (show ¬ gd (gd T i) i < 0 from c),decide_eq_false c];rfl
 ·rw [hT.clash C,nD,Bool.eq_false_iff,ne_eq,wBv]
  constructor
  ·intro h h2
   exact h fun i _ hi=>by
    have:=h2 i (by omega)
    simp only [nD,decide_eq_false_iff_not]
    omega
  ·intro h h2
   exact h fun i hi=>by
    have:=h2 i (by omega) (by omega)
    simp only [nD,decide_eq_false_iff_not] at this
    omega
theorem wOw {r:wAA} (S:wEe r):wBe (cv r)=some (wLG r []):=by
 unfold wBe wLG
 rw [wHu S,hH]
 by_cases c:code r=0
 ·obtain ⟨b,e,hb⟩:=wPx (wFs c)
  rw [if_pos c,if_pos c,e,hH,if_pos (show ([]:List wCT).all (wSB r)=true from rfl)]
  by_cases d:∃ y,wDS r y
  ·rw [if_neg (fun h=>hb.1 h d),if_pos d]
  ·rw [if_pos (hb.2 d),if_neg d]
 ·rw [if_neg c,if_neg c]
end Go.Proofs.YtlnfbjphfoipaaaGreat
namespace Go.Proofs.YtlnfbjphfoipaaaGreat
open Go.KL Go.KL.Net Go.KL.Floyd
open Classical
theorem wME {r:wAA} (S:wEe r) {T:List (List Int)} (hT:T.length <= 100) (hl:∀ l ∈ T,l.length <= 100) {O:List Int} (hO:O.length <= 100):wBZ (cv r) T O=some (wOs r T O,wMh r T O):=by
 have hn:=S.n;have hm:=S.m;have hc:=S.c;have hq:=S.q
 have lc:(cv r).Clocks.length=r.Clocks.length:=nB ..
 have lq:(cv r).Readings.length=r.Readings.length:=nB ..
 have bad:∀ e:Int,wMh r T O=e->e ≠ 0->some (false,e)=some (wOs r T O,wMh r T O):=fun e h h0=>by
  unfold wOs
  rw [h,decide_eq_false (fun q=>h0 q.1)]
 unfold wBZ
 rw [wHu S,hH,show (cv r).Starts=r.Starts from rfl,show (cv r).Splits=r.Splits from rfl,lc,lq]
 by_cases c0:code r=0
 ·have C:=wFs c0
  have fe:wMh r T O=if wQb r T O then (if wEZ (wPL T) T.length 0=true/\wEZ (wMu O) O.length 0=true then 0 else 3) else 2:=if_pos c0
  rw [if_pos c0]
  by_cases c1:T.length=r.Starts.length
  ·rw [if_pos (show (T.length:Int)=(r.Starts.length:Int) by omega)]
   by_cases c2:O.length=r.Clocks.length
   ·rw [if_pos (show (O.length:Int)=(r.Clocks.length:Int) by omega)]
    rw [wKC (wEo (fun k=>decide ((gd T k).length=r.Splits.length + 1)) (false,2) (by omega) fun i hi=>by
     rw [wBD hi,hH,wAU (by omega) (by omega)]
     by_cases c:(gd T i).length=r.Splits.length + 1
     ·rw [if_pos (by omega),decide_eq_true c];rfl
     ·rw [if_neg (by omega),decide_eq_false c];rfl)]
    by_cases c3:wEZ (fun k=>decide ((gd T k).length=r.Splits.length + 1)) T.length 0=true
    ·rw [if_pos c3]
     have L:wQb r T O:=⟨c1,fun k hk=>by
      have:=(wBv _ _ _).1 c3 k (by omega) (by omega)
      simpa using this,c2⟩
     rw [if_pos L] at fe
     rw [wKC (wEo (wPL T) (false,3) (by omega) fun i hi=>by
      have hi2:i < T.length:=hi
      have hli:=hl _ (wCV hi2)
      refine (wER (B:=Unit ⊕ (Bool × Int)) (z:=.inl ()) (fun j=>inB (gd (gd T i) j) (-100000000) 100000000) (.inr (false,3)) (by omega:(gd T i).length <= 1000) (fun j hj=>?_) ?_)
      ·rw [wBD hi2,hH,if_pos (by omega),wBD hj,hH,wEt,hH]
       exact wFY rfl (by rw [wAU (by omega) (by omega)])
      ·rw [wBD hi2,hH,if_neg (by omega)];rfl)]
     by_cases c4:wEZ (wPL T) T.length 0=true
     ·rw [if_pos c4]
      rw [wKC (wEo (wMu O) (false,3) (by omega) fun i hi=>by
       rw [wBD hi,hH,wEt,hH]
       exact wFY rfl rfl)]
      by_cases c5:wEZ (wMu O) O.length 0=true
      ·rw [if_pos c5]
       rw [if_pos ⟨c4,c5⟩] at fe
       have sT:∀ i j,i < r.Starts.length->j < r.Splits.length + 1->-100000000 <= gd (gd T i) j/\gd (gd T i) j <= 100000000:=fun i j hi hj=>by
        have h1:=(wBv _ _ _).1 c4 i (by omega) (by omega)
        have h2:=(wBv _ _ _).1 h1 j (by omega) (by have:=L.l i hi;omega)
        simpa [inB] using h2
       have sO:∀ i,i < r.Clocks.length->-100000000 <= gd O i/\gd O i <= 100000000:=fun i hi=>by
        have h1:=(wBv _ _ _).1 c5 i (by omega) (by omega)
        simpa [wMu,inB] using h1
       have fv:∀ b:Bool,(b=true ↔ wDS r (yT T O))->some (b,(0:Int))=some (wOs r T O,wMh r T O):=fun b hb=>by
        unfold wOs
        rw [fe]
        congr 2
        rw [nJ,hb,decide_eq_true_eq]
        exact ⟨fun h=>⟨rfl,h⟩,fun h=>h.2⟩
       rw [wKC (wEo (wSC r T) (false,0) (by omega) fun i hi=>by
        have hli:=L.l i (by omega)
        rw [wBD hi,hH,show (0:Int)=((0:Nat):Int) from rfl,wBD (by omega),hH,wBD (by omega),hH]
        unfold wSC
        by_cases c:gd (gd T i) 0=gd r.Starts i
        ·rw [if_pos c,decide_eq_true c,nH]
         refine (wER (B:=Unit ⊕ (Bool × Int)) (z:=.inl ()) (fun j=>inB (gd (gd T i) (j + 1) - gd (gd T i) j) (gd r.Splits j).Lo (gd r.Splits j).Hi) (.inr (false,0)) (by omega:r.Splits.length <= 1000) (fun j hj=>?_) ?_)
         ·have a1:=sT i (j + 1) (by omega) (by omega)
          have a2:=sT i j (by omega) (by omega)
          rw [if_pos (by omega),wAU (x:=(j:Int) + 1) (by omega) (by omega),show (j:Int) + 1=((j + 1:Nat):Int) by omega,wBD (by omega),hH,wBD (by omega),hH,wBD hj,hH,wAU (by omega) (by omega),wEt,hH]
          exact wFY rfl rfl
         ·rw [if_neg (by omega)];rfl
        ·rw [if_neg c,decide_eq_false c,Bool.false_and];rfl)]
       by_cases c6:wEZ (wSC r T) T.length 0=true
       ·rw [if_pos c6]
        rw [wKC (wEo (wTo r O) (false,0) (by omega) fun i hi=>by
         have ei:idx (cv r).Clocks (i:Int)=some ⟨(gd r.Clocks i).Offset,(gd r.Clocks i).Error⟩:=by
          rw [wBD (by rw [lc];omega)]
          exact congrArg some (wEn _ (by omega))
         rw [wBD hi,hH,ei,hH,wEt,hH]
         exact wFY rfl rfl)]
        by_cases c7:wEZ (wTo r O) O.length 0=true
        ·rw [if_pos c7]
         have last:=wER (B:=Bool × Int) (z:=(true,0)) (fun k=>wTp r T O k) (false,0) (n:=r.Readings.length) (body:=fun x504 =>
          if x504 < (r.Readings.length:Int) then
           (idx (cv r).Readings x504).bind fun x521 =>
           (idx (cv r).Clocks x521.Clock).bind fun x542 =>
           (idx T x521.Skier).bind fun x558 =>
           (idx x558 x521.Mat).bind fun x577 =>
           (idx O x521.Clock).bind fun x584 =>
           (wAW (w64 ((w64 (x521.Time - x577)) - x584)) (w64 (-x542.Error)) x542.Error).bind fun x598 =>
           if x598=true then
            esc (some (false,0))
           else
            some (.inl (w64 (x504 + 1)))
          else
           esc (some (true,0))) (by omega) (fun i hi=>by
          have u:=C.ru _ (wCV hi)
          have ut:=C.rt _ (wCV hi)
          have uc:=C.ck _ (wCW u.2.2.2.2.1 u.2.2.2.2.2)
          have e1:idx (cv r).Readings (i:Int)=some ⟨(gd r.Readings i).Skier,(gd r.Readings i).Mat,(gd r.Readings i).Clock,(gd r.Readings i).Time⟩:=by
           rw [wBD (by rw [lq];exact hi)]
           exact congrArg some (wEn _ hi)
          have e2:idx (cv r).Clocks (gd r.Readings i).Clock=some ⟨(gd r.Clocks (gd r.Readings i).Clock.toNat).Offset,(gd r.Clocks (gd r.Readings i).Clock.toNat).Error⟩:=by
           rw [wDc u.2.2.2.2.1 (by rw [lc];exact u.2.2.2.2.2)]
           exact congrArg some (wEn _ (by omega))
          have a1:=sT (gd r.Readings i).Skier.toNat (gd r.Readings i).Mat.toNat (by omega) (by omega)
          have a2:=sO (gd r.Readings i).Clock.toNat (by omega)
          have ll:=L.l (gd r.Readings i).Skier.toNat (by omega)
          rw [if_pos (by omega),e1,hH]
          simp only
          rw [e2,hH,wDc u.1 (by omega),hH,wDc u.2.2.1 (by omega),hH,wDc u.2.2.2.2.1 (by omega),hH]
          simp only
          rw [wAU (x:=(gd r.Readings i).Time - gd (gd T (gd r.Readings i).Skier.toNat) (gd r.Readings i).Mat.toNat) (by omega) (by omega),wAU (x:=_ - _) (by omega) (by omega),wAU (x:=-_) (by omega) (by omega),wEt,hH]
          exact wFY rfl (by rw [wAU (by omega) (by omega)])) (by rw [if_neg (by omega)];rfl)
         refine last.trans ?_
         rw [c1] at c6
         rw [c2] at c7
         by_cases c8:wEZ (wTp r T O) r.Readings.length 0=true
         ·rw [if_pos c8]
          exact fv true ⟨fun _=>(wHC C).2 ⟨c6,c7,c8⟩,fun _=>rfl⟩
         ·rw [if_neg c8]
          exact fv false ⟨(fun h=>by cases h),fun h=>absurd ((wHC C).1 h).2.2 c8⟩
        ·rw [if_neg c7]
         rw [c2] at c7
         exact fv false ⟨(fun h=>by cases h),fun h=>absurd ((wHC C).1 h).2.1 c7⟩
       ·rw [if_neg c6]
        rw [c1] at c6
        exact fv false ⟨(fun h=>by cases h),fun h=>absurd ((wHC C).1 h).1 c6⟩
      ·rw [if_neg c5]
       exact bad 3 (by rw [fe,if_neg (fun h=>c5 h.2)]) (by omega)
     ·rw [if_neg c4]
      exact bad 3 (by rw [fe,if_neg (fun h=>c4 h.1)]) (by omega)
    ·rw [if_neg c3]
     refine bad 2 ?_ (by omega)
     rw [fe,if_neg]
     intro L
     apply c3
     rw [wBv]
     intro i _ hi
     exact decide_eq_true (L.l i (by omega))
   ·rw [if_neg (show ¬ (O.length:Int)=(r.Clocks.length:Int) by omega)]
    exact bad 2 (by rw [fe,if_neg (fun L=>c2 L.o)]) (by omega)
  ·rw [if_neg (show ¬ (T.length:Int)=(r.Starts.length:Int) by omega)]
   exact bad 2 (by rw [fe,if_neg (fun L=>c1 L.t)]) (by omega)
 ·rw [if_neg c0]
  exact bad _ (if_neg c0) c0
end Go.Proofs.YtlnfbjphfoipaaaGreat
namespace Go.Proofs.YtlnfbjphfoipaaaGreat
open Go.KL Go.KL.Net
theorem wPy {r:wAA} (S:wEe r):wBl r=some r:=by
 have hn:=S.n;have hm:=S.m;have hc:=S.c;have hq:=S.q
 unfold wBl wAd wAl wBE wAw
 rw [wEc (by simp only [nA];omega),hH,hH,wEc (by simp only [nA];omega),hH,hH,wEc (by simp only [nA];omega),hH,hH,wEc (by simp only [nA];omega)]
 rfl
theorem wSL (r:wAA):wBU r=some true \/ (wBU r=some false/\wEe r):=by
 unfold wBU
 by_cases c1:10 < (r.Starts.length:Int)
 ·exact .inl (if_pos c1)
 rw [if_neg c1]
 by_cases c2:9 < (r.Splits.length:Int)
 ·exact .inl (if_pos c2)
 rw [if_neg c2]
 by_cases c3:6 < (r.Clocks.length:Int)
 ·exact .inl (if_pos c3)
 rw [if_neg c3]
 by_cases c4:44 < (r.Readings.length:Int)
 ·exact .inl (by rw [decide_eq_true c4])
 ·exact .inr ⟨by rw [decide_eq_false c4],⟨by omega,by omega,by omega,by omega⟩⟩
end Go.Proofs.YtlnfbjphfoipaaaGreat
namespace Go.Proofs.YtlnfbjphfoipaaaGreat
open Go.KL Go.KL.Net Go.KL.Floyd
open Classical
theorem wOx {r:wAA} {e:Int} (h:e ≠ 0):wAr r [] [] e e=some true:=by
 unfold wAr
 rw [if_pos rfl,if_neg h]
 rfl
theorem wPz {r:wAA} (S:wEe r) (c:code r=0) {y:Pt->Int} (F:wDS r y):wAr r (tt r y) (oo r y) 0 0=some true:=by
 have hn:=S.n;have hm:=S.m;have hc:=S.c
 have L:=(wKD (wFs c) F).2.1
 have hf:=wPn c F
 unfold wAr
 rw [if_pos rfl,if_pos rfl,wOv S,hH,wME S (by rw [L.t];omega) (fun l hl=>by
  obtain ⟨i,hi,rfl⟩:=wIk hl
  rw [L.t] at hi
  rw [L.l i hi];omega) (by rw [L.o];omega),hH]
 simp only
 rw [if_pos hf.1,hf.2]
theorem wSM {r:wAA} (S:wEe r):wCG r r=some true:=by
 have hn:=S.n;have hm:=S.m;have hc:=S.c;have hq:=S.q
 unfold wCG wAj wBN wBF wAy
 rw [wEd (by omega),hH,if_pos rfl,wEd (by omega),hH,if_pos rfl,wEd (by omega),hH,if_pos rfl,wEd (by omega)]
 rfl
end Go.Proofs.YtlnfbjphfoipaaaGreat
namespace Go.Proofs.YtlnfbjphfoipaaaGreat
open Go.KL Go.KL.Net Go.KL.Floyd
open Classical
theorem wQe {l:List Int} (h:l.length <= 1000):wAd l=some l:=by
 unfold wAd
 rw [wEc (by simp only [nA];omega)];rfl
theorem wQf {l:List Int} (h:l.length <= 1000):wAj l l=some true:=by
 unfold wAj
 exact wEd (by omega)
theorem wLH {T:List (List Int)} (h:T.length <= 1000) (hl:∀ l ∈ T,l.length <= 1000):wBB T=some T:=by
 unfold wBB
 rw [wGQ (n:=T.length) (s0:=[]) (fun k=>T.take k) (by simp) (by omega) (fun i hi=>by
  rw [wBD hi,hH,wQe (hl _ (wCV hi)),hH,wEc (by simp only [List.length_take,List.length_cons,nA];omega),hH,wFr hi]),hH,List.take_length]
theorem wLI {T:List (List Int)} (h:T.length <= 1000) (hl:∀ l ∈ T,l.length <= 1000):wBC T T=some true:=by
 unfold wBC
 rw [if_pos rfl,wOk (by omega) fun k hk=>by
  rw [wBD hk,hH,hH,wQf (hl _ (wCV hk)),hH,if_pos rfl]]
 rfl
theorem wMi (p0:wAA) (p1:List (List Int)) (p2:List Int):wBb p0 p1 p2=some true:=by
  have aw:wAq=some true:=rfl
  unfold wBb
  rcases wSL p0 with h | ⟨h,S⟩
  · rw [h,hH,if_pos rfl];rfl
  rw [h,hH,if_neg (by simp)]
  by_cases hT:10 < (p1.length:Int)
  · rw [if_pos hT];rfl
  rw [if_neg hT]
  by_cases hO:6 < (p2.length:Int)
  · rw [if_pos hO];rfl
  rw [if_neg hO]
  have loop:wEg 0 (↑p1.length:Int) (fun k55 _ =>
          (idx p1 (↑k55:Int)).bind fun x77 =>
          if 10 < (↑x77.length:Int) then
            (wAq).bind fun x93 =>
            esc (some x93)
          else
            some (.inl ())) ()=some (if wEZ (fun k=>decide ((gd p1 k).length <= 10)) p1.length 0=true then .inl () else .inr true):=wEo (fun k=>decide ((gd p1 k).length <= 10)) true (by omega) fun i hi=>by
    rw [wBD hi,hH]
    by_cases c:(gd p1 i).length <= 10
    · rw [if_neg (by omega),decide_eq_true c];rfl
    · rw [if_pos (by omega),aw,decide_eq_false c];rfl
  rw [loop]
  cases hl:wEZ (fun k=>decide ((gd p1 k).length <= 10)) p1.length 0 with
  | false=>rfl
  | true =>
    rw [if_pos rfl,wKR]
    have hr:∀ l ∈ p1,l.length <= 10:=fun l h=>by
      obtain ⟨i,hi,rfl⟩:=wIk h
      exact of_decide_eq_true ((wBv _ _ _).1 hl i (by omega) (by omega))
    rw [wPy S,hH,wLH (by omega) (fun l h=>by have:=hr l h;omega),hH,wQe (by omega),hH,wOv S,hH,hH]
    simp only
    rw [show (⟨(cv p0).Starts,(cv p0).Splits,(cv p0).Clocks,(cv p0).Readings⟩:wAK)=cv p0 from rfl,show (⟨p0.Starts,p0.Splits,p0.Clocks,p0.Readings⟩:wAA)=p0 from rfl,wIn S,hH,wHu S,hH,if_pos rfl,wSF S (by omega) (fun l h=>by have:=hr l h;omega) (by omega),hH]
    simp only
    rw [wME S (by omega) (fun l h=>by have:=hr l h;omega) (by omega),hH]
    simp only
    rw [if_pos trivial,if_pos (by simp)]
    obtain ⟨h1,h2⟩:=wPo S
    have tr:∃ a b e,wCr p0=some (a,b,e)/\wAr p0 a b e (wLG p0 [])=some true:=by
      by_cases c:wLG p0 []=0
      · obtain ⟨y,F,e⟩:=h2 c
        have c0:code p0=0:=(err0 c).2.1
        exact ⟨_,_,_,e,by rw [c];exact wPz S c0 F⟩
      · exact ⟨_,_,_,h1 c,wOx c⟩
    obtain ⟨a,b,e,e1,e2⟩:=tr
    rw [e1,hH]
    simp only
    rw [wOw S,hH,e2,hH,if_pos rfl,wSM S,hH,if_pos rfl,wLI (by omega) (fun l h=>by have:=hr l h;omega),hH,if_pos rfl,wQf (by omega),hH,if_pos rfl,aw]
    rfl
end Go.Proofs.YtlnfbjphfoipaaaGreat
