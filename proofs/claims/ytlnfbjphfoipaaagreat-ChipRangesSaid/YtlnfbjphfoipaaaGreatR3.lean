import Derived.Test.YtlnfbjphfoipaaaGreatR2
set_option linter.all false
open Option renaming bind_some->hH
open List renaming length_nil->nA,length_map->nB,length_cons->nI,take_length->nL,length_take->nM,set->nO,range->nP,all_cons->nQ,all_nil->nS
open Int renaming toNat_natCast->nD,toNat_of_nonneg->nG,le_trans->nK
open Bool renaming and_eq_true->nE,not_eq_true'->nH,true_and->nJ,eq_iff_iff->nN,and_true->nR
namespace Go.Proofs.YtlnfbjphfoipaaaGreat
open Go.KL Go.KL.Net Go.KL.Floyd
theorem wQE {n:Nat} (hn:n <= 100):∃ t,(wCa 0 (n:Int) (fun k38 l32 =>
  (mkz 8 (n:Int) (0:Int)).bind fun x64 =>
  (wCa 0 (n:Int) (fun k78 l77 =>
   if (↑k38:Int)=(↑k78:Int) then
    some l77
   else
    (chk (↑k78:Int) l77.length).bind fun _ =>
    some (nO l77 k78 1125899906842624)) x64).bind fun y83 =>
  (app 24 l32 [y83]).bind fun x140 =>
  some x140) ([]:List (List Int)))=some t/\Mx n t/\∀ a b,a < n->b < n->mx t a b=if a=b then 0 else 1125899906842624:=by
 have row:∀ k:Nat,∃ l:List Int,(wCa 0 (n:Int) (fun k78 l77 =>
   if (↑k:Int)=(↑k78:Int) then
    some l77
   else
    (chk (↑k78:Int) l77.length).bind fun _ =>
    some (nO l77 k78 1125899906842624)) (List.replicate (n:Int).toNat (0:Int)))=some l/\l.length=n/\∀ b,b < n->gd l b=if k=b then 0 else 1125899906842624:=by
  intro k
  rw [wCz (by omega)]
  obtain ⟨l,e,l1,l2⟩:=wDx (body:=fun (k78:Nat) (l77:List Int) =>
   if (↑k:Int)=(↑k78:Int) then
    some l77
   else
    (chk (↑k78:Int) l77.length).bind fun _ =>
    some (nO l77 k78 1125899906842624)) (fun i s=>s.length=n/\∀ b,b < n->gd s b=if b < i then (if k=b then 0 else 1125899906842624) else 0) n 0 (List.replicate (n:Int).toNat (0:Int)) ⟨by simp,fun b hb=>by rw [if_neg (by omega),wMq (by simpa using hb)];simp⟩ (by
   rintro i s _ hi ⟨s1,s2⟩
   by_cases c:k=i
   ·refine ⟨s,by rw [if_pos (by omega)],s1,fun b hb=>?_⟩
    rw [s2 b hb]
    by_cases d:b < i
    ·rw [if_pos d,if_pos (show b < i + 1 by omega)]
    ·by_cases e:b=i
     ·rw [if_neg d,if_pos (show b < i + 1 by omega),if_pos (show k=b by omega)]
     ·rw [if_neg d,if_neg (show ¬ b < i + 1 by omega)]
   ·refine ⟨_,by rw [if_neg (by omega),wDN (by omega) (by omega)];rfl,by simp [s1],fun b hb=>?_⟩
    rw [wKP (by omega) (by omega),s2 b hb]
    by_cases e:b=i
    ·rw [if_pos e,if_pos (show b < i + 1 by omega),if_neg (show ¬ k=b by omega)]
    ·by_cases d:b < i
     ·rw [if_neg e,if_pos d,if_pos (show b < i + 1 by omega)]
     ·rw [if_neg e,if_neg d,if_neg (show ¬ b < i + 1 by omega)])
  rw [Nat.zero_add] at l2
  exact ⟨l,e,l1,fun b hb=>by rw [l2 b hb,if_pos hb]⟩
 rw [wCz (by omega)]
 obtain ⟨t,e,t1,t2⟩:=wDx (body:=fun (k38:Nat) (l32:List (List Int)) =>
  (mkz 8 (n:Int) (0:Int)).bind fun x64 =>
  (wCa 0 (n:Int) (fun k78 l77 =>
   if (↑k38:Int)=(↑k78:Int) then
    some l77
   else
    (chk (↑k78:Int) l77.length).bind fun _ =>
    some (nO l77 k78 1125899906842624)) x64).bind fun y83 =>
  (app 24 l32 [y83]).bind fun x140 =>
  some x140) (fun i s=>s.length=i/\∀ a,a < i->(gd s a).length=n/\∀ b,b < n->gd (gd s a) b=if a=b then 0 else 1125899906842624) n 0 [] ⟨rfl,fun a ha=>by omega⟩ (by
  rintro i s _ hi ⟨s1,s2⟩
  obtain ⟨l,e,l1,l2⟩:=row i
  rw [mkz,if_pos (by omega),hH,e,hH,wFQ (by simp only [nI,nA];omega),hH]
  refine ⟨_,rfl,by simp [s1],fun a ha=>?_⟩
  by_cases c:a=i
  ·subst c
   have e2:gd (s ++ [l]) a=l:=by rw [<- s1];exact wPu s [] l
   rw [e2]
   exact ⟨l1,l2⟩
  ·rw [wJg (by omega)]
   exact s2 a (by omega))
 rw [Nat.zero_add] at t1 t2
 exact ⟨t,e,⟨t1,fun a ha=>(t2 a ha).1⟩,fun a b ha hb=>(t2 a ha).2 b hb⟩
def done (s0 s1 j c q:Int) (x:wAK):Prop:=(x.Kind=0/\x.Skier < s0) \/ (x.Kind=1/\(x.Skier < s1 \/ (x.Skier=s1/\x.Index < j))) \/ (x.Kind=2/\x.Index < c) \/ (x.Kind=3/\x.Index < q)
theorem Gt.weak {r:wAA} {X X':wAK->Prop} {t:List (List Int)} (G:Gt r X t) (h:∀ z,wCI r z->X' z->X z):Gt r X' t:=⟨G.m,G.b0,G.d0,G.fe,fun z hz hX=>G.le z hz (h z hz hX)⟩
theorem wGg {z:wAK} {k s i:Int} (h1:z.Kind=k) (h2:z.Skier=s) (h3:z.Index=i):z=⟨k,s,i,true⟩ \/ z=wSQ ⟨k,s,i,true⟩:=by
 obtain ⟨a,b,c,u⟩:=z
 simp only at h1 h2 h3
 subst h1 h2 h3
 cases u
 ·exact .inr rfl
 ·exact .inl rfl
structure Tab (r:wAA) (T:List (List Int)):Prop where
 ex:∃ t,Gt r (fun _=>True) t/\Fl (np r) t T (np r)
section
variable {r:wAA} (C:RC r)
include C
theorem wQF {t:List (List Int)} (G:Gt r (fun _=>True) t):∃ T,((wCa 0 (np r:Int) (fun k561 l560=>rB (np r) k561 l560) t).bind fun y566=>some y566)=some T/\Tab r T:=by
 obtain ⟨T,e,F⟩:=wQD (n:=np r) (by have:=wPC C;omega) G.m G.b0
 exact ⟨T,by rw [e];rfl,⟨t,G,F⟩⟩
def rdB (r:wAA):(List (List Int) × Int)->Option ((List (List Int) × Int) ⊕ List (List Int)):=fun (l449,x450) =>
            if x450 < (↑(cv r).Readings.length:Int) then
              (idx (cv r).Readings x450).bind fun x468 =>
              (idx (cv r).Clocks x468.Clock).bind fun x487 =>
              (wAe (cv r) x468.Clock).bind fun x511 =>
              (wAV (cv r) x468.Skier x468.Mat).bind fun x525 =>
              (wAN (⟨l449⟩:wAS) x511 x525 (w64 (x468.Time + x487.Error)) (w64 (x487.Error - x468.Time))).bind fun x535 =>
              some (.inl (x535,w64 (x450 + 1)))
            else
              esc ((wCa 0 (np r:Int) (fun k561 l560=>rB (np r) k561 l560) l449).bind fun y566=>some y566)
theorem rd_is {t:List (List Int)} (G:Gt r (done r.Starts.length r.Starts.length 0 r.Clocks.length 0) t):∃ T,iter (rdB r) big (t,0)=some T/\Tab r T:=by
 have hq:=C.q
 have hl:(cv r).Readings.length=r.Readings.length:=nB ..
 refine wGa (I:=fun i (s:List (List Int) × Int)=>s.2=(i:Int)/\Gt r (done r.Starts.length r.Starts.length 0 r.Clocks.length i) s.1) (Z:=Tab r) r.Readings.length ?_ ⟨rfl,G⟩ (by omega)
 rintro i ⟨t,x⟩ hi ⟨rfl,G⟩
 unfold rdB
 simp only [hl]
 by_cases c:(i:Int) < (r.Readings.length:Int)
 ·left
  have hi':i < r.Readings.length:=by omega
  have hm:=wDM hi'
  obtain ⟨u1,u2,u3,u4,u5,u6⟩:=C.ru _ hm
  have ut:=C.rt _ hm
  have uc:=C.ck _ (wCe u5 u6)
  obtain ⟨t',e,G'⟩:=G.both C (x:=⟨3,0,(i:Int),true⟩) (X':=done r.Starts.length r.Starts.length 0 r.Clocks.length ((i + 1:Nat):Int)) (.inr (.inr (.inr ⟨rfl,rfl,by simp only;omega,by simp only;omega⟩))) rfl fun z hz hX=>by
   unfold wCI at hz
   unfold done at hX ⊢
   by_cases q:z.Kind=3/\z.Index=(i:Int)
   ·exact .inr (wGg q.1 (by omega) q.2)
   ·left;omega
  have e1:idx (cv r).Readings (i:Int)=some ⟨(gd r.Readings i).Skier,(gd r.Readings i).Mat,(gd r.Readings i).Clock,(gd r.Readings i).Time⟩:=by
   rw [wBR (by rw [hl];exact hi')]
   exact congrArg some (wEr _ hi')
  have e2:idx (cv r).Clocks (gd r.Readings i).Clock=some ⟨(gd r.Clocks (gd r.Readings i).Clock.toNat).Offset,(gd r.Clocks (gd r.Readings i).Clock.toNat).Error⟩:=by
   rw [wEC u5 (by show _ < ((r.Clocks.map _).length:Int);rw [nB];exact u6)]
   exact congrArg some (wEr _ (by omega))
  have w1:w64 ((gd r.Readings i).Time + (gd r.Clocks (gd r.Readings i).Clock.toNat).Error)=(gd r.Readings i).Time + (gd r.Clocks (gd r.Readings i).Clock.toNat).Error:=wAZ (by omega) (by omega)
  have w2:w64 ((gd r.Clocks (gd r.Readings i).Clock.toNat).Error - (gd r.Readings i).Time)=(gd r.Clocks (gd r.Readings i).Clock.toNat).Error - (gd r.Readings i).Time:=wAZ (by omega) (by omega)
  refine ⟨hi',(t',((i + 1:Nat):Int)),?_,rfl,G'⟩
  rw [if_pos c,e1,hH]
  simp only
  rw [e2,hH,wHZ C u5 (by omega),hH,wEs C u1 u2 u3 u4,hH]
  simp only
  rw [w1,w2,wAZ (by omega) (by omega)]
  have e':wAN (⟨t⟩:wAS) (plc r ⟨-1,1 + (gd r.Readings i).Clock⟩:Int) (plc r ⟨(gd r.Readings i).Skier,(gd r.Readings i).Mat⟩:Int) ((gd r.Readings i).Time + (gd r.Clocks (gd r.Readings i).Clock.toNat).Error) ((gd r.Clocks (gd r.Readings i).Clock.toNat).Error - (gd r.Readings i).Time)=some t':=e
  rw [e']
  rfl
 ·right
  have hi':i=r.Readings.length:=by omega
  obtain ⟨T,e,hT⟩:=wQF C (G.weak fun z hz _=>by unfold wCI at hz;unfold done;omega)
  exact ⟨T,by rw [if_neg c,e];rfl,hT⟩
def ckB (r:wAA):(List (List Int) × Int)->Option ((List (List Int) × Int) ⊕ List (List Int)):=fun (l366,x367) =>
        if x367 < (↑(cv r).Clocks.length:Int) then
          (idx (cv r).Clocks x367).bind fun x387 =>
          (wAe (cv r) x367).bind fun x414 =>
          (wAN (⟨l366⟩:wAS) 0 x414 (w64 (-x387.Offset.Lo)) x387.Offset.Hi).bind fun x424 =>
          some (.inl (x424,w64 (x367 + 1)))
        else
          esc (iter (rdB r) big (l366,0))
theorem ck_is {t:List (List Int)} (G:Gt r (done r.Starts.length r.Starts.length 0 0 0) t):∃ T,iter (ckB r) big (t,0)=some T/\Tab r T:=by
 have hq:=C.c
 have hl:(cv r).Clocks.length=r.Clocks.length:=nB ..
 refine wGa (I:=fun i (s:List (List Int) × Int)=>s.2=(i:Int)/\Gt r (done r.Starts.length r.Starts.length 0 i 0) s.1) (Z:=Tab r) r.Clocks.length ?_ ⟨rfl,G⟩ (by omega)
 rintro i ⟨t,x⟩ hi ⟨rfl,G⟩
 unfold ckB
 simp only [hl]
 by_cases c:(i:Int) < (r.Clocks.length:Int)
 ·left
  have hi':i < r.Clocks.length:=by omega
  have uc:=C.ck _ (wDM hi')
  obtain ⟨t',e,G'⟩:=G.both C (x:=⟨2,0,(i:Int),true⟩) (X':=done r.Starts.length r.Starts.length 0 ((i + 1:Nat):Int) 0) (.inr (.inr (.inl ⟨rfl,rfl,by simp only;omega,by simp only;omega⟩))) rfl fun z hz hX=>by
   unfold wCI at hz
   unfold done at hX ⊢
   by_cases q:z.Kind=2/\z.Index=(i:Int)
   ·exact .inr (wGg q.1 (by omega) q.2)
   ·left;omega
  have e2:idx (cv r).Clocks (i:Int)=some ⟨(gd r.Clocks i).Offset,(gd r.Clocks i).Error⟩:=by
   rw [wBR (by rw [hl];exact hi')]
   exact congrArg some (wEr _ hi')
  refine ⟨hi',(t',((i + 1:Nat):Int)),?_,rfl,G'⟩
  rw [if_pos c,e2,hH,wHZ C (by omega) (by omega),hH]
  simp only
  rw [wAZ (x:=-(gd r.Clocks i).Offset.Lo) (by omega) (by omega),wAZ (by omega) (by omega)]
  have e':wAN (⟨t⟩:wAS) 0 (plc r ⟨-1,1 + (i:Int)⟩:Int) (-(gd r.Clocks i).Offset.Lo) (gd r.Clocks i).Offset.Hi=some t':=e
  rw [e']
  rfl
 ·right
  have hi':i=r.Clocks.length:=by omega
  obtain ⟨T,e,hT⟩:=rd_is C (G.weak fun z hz hX=>by unfold wCI at hz;unfold done at hX ⊢;omega)
  exact ⟨T,by rw [if_neg c,e];rfl,hT⟩
def spB' (r:wAA) (x194:Int):(List (List Int) × Int)->Option ((List (List Int) × Int) ⊕ ((List (List Int) × Int) ⊕ List (List Int))):=fun (l266,x267) =>
        if x267 < (↑(cv r).Splits.length:Int) then
          (idx (cv r).Splits x267).bind fun x288 =>
          (wAV (cv r) x194 x267).bind fun x311 =>
          (wAV (cv r) x194 (w64 (x267 + 1))).bind fun x325 =>
          (wAN (⟨l266⟩:wAS) x311 x325 x288.Hi (w64 (-x288.Lo))).bind fun x335 =>
          some (.inl (x335,w64 (x267 + 1)))
        else
          esc (some (.inl (l266,w64 (x194 + 1))))
def stB (r:wAA):(List (List Int) × Int)->Option ((List (List Int) × Int) ⊕ List (List Int)):=fun (l193,x194) =>
  if x194 < (↑(cv r).Starts.length:Int) then
   (idx (cv r).Starts x194).bind fun x214 =>
   (wAV (cv r) x194 0).bind fun x237 =>
   (wAN (⟨l193⟩:wAS) 0 x237 x214 (w64 (-x214))).bind fun x247 =>
   iter (spB' r x194) big (x247,0)
  else
   esc (iter (ckB r) big (l193,0))
theorem sp_is {k:Nat} (hk:k < r.Starts.length) {t:List (List Int)} (G:Gt r (done ((k + 1:Nat):Int) k 0 0 0) t):∃ b,iter (spB' r (k:Int)) big (t,0)=some b/\∃ t',b=.inl (t',((k + 1:Nat):Int))/\Gt r (done ((k + 1:Nat):Int) ((k + 1:Nat):Int) 0 0 0) t':=by
 have hm:=C.m;have hn:=C.n
 refine wGa (I:=fun i (s:List (List Int) × Int)=>s.2=(i:Int)/\Gt r (done ((k + 1:Nat):Int) k i 0 0) s.1) (Z:=fun (b:(List (List Int) × Int) ⊕ List (List Int))=>∃ t',b=.inl (t',((k + 1:Nat):Int))/\Gt r (done ((k + 1:Nat):Int) ((k + 1:Nat):Int) 0 0 0) t') r.Splits.length ?_ ⟨rfl,G⟩ (by omega)
 rintro i ⟨t,x⟩ hi ⟨rfl,G⟩
 unfold spB'
 simp only [show (cv r).Splits=r.Splits from rfl]
 by_cases c:(i:Int) < (r.Splits.length:Int)
 ·left
  have hi':i < r.Splits.length:=by omega
  have uc:=C.sp _ (wDM hi')
  obtain ⟨t',e,G'⟩:=G.both C (x:=⟨1,(k:Int),(i:Int),true⟩) (X':=done ((k + 1:Nat):Int) k ((i + 1:Nat):Int) 0 0) (.inr (.inl ⟨rfl,by simp only;omega,by simp only;omega,by simp only;omega,by simp only;omega⟩)) rfl fun z hz hX=>by
   unfold wCI at hz
   unfold done at hX ⊢
   by_cases q:z.Kind=1/\z.Skier=(k:Int)/\z.Index=(i:Int)
   ·exact .inr (wGg q.1 q.2.1 q.2.2)
   ·left;omega
  refine ⟨hi',(t',((i + 1:Nat):Int)),?_,rfl,G'⟩
  rw [if_pos c,wBR hi',hH,wAZ (x:=(i:Int) + 1) (by omega) (by omega),wEs C (by omega) (by omega) (by omega) (by omega),hH,wEs C (by omega) (by omega) (by omega) (by omega),hH,wAZ (by omega) (by omega)]
  have e':wAN (⟨t⟩:wAS) (plc r ⟨(k:Int),(i:Int)⟩:Int) (plc r ⟨(k:Int),(i:Int) + 1⟩:Int) (gd r.Splits i).Hi (-(gd r.Splits i).Lo)=some t':=e
  rw [e']
  rfl
 ·right
  have hi':i=r.Splits.length:=by omega
  refine ⟨.inl (t,((k + 1:Nat):Int)),by rw [if_neg c,wAZ (by omega) (by omega)];rfl,t,rfl,G.weak fun z hz hX=>by unfold wCI at hz;unfold done at hX ⊢;omega⟩
theorem st_is {t:List (List Int)} (G:Gt r (done 0 0 0 0 0) t):∃ T,iter (stB r) big (t,0)=some T/\Tab r T:=by
 have hn:=C.n
 refine wGa (I:=fun i (s:List (List Int) × Int)=>s.2=(i:Int)/\Gt r (done i i 0 0 0) s.1) (Z:=Tab r) r.Starts.length ?_ ⟨rfl,G⟩ (by omega)
 rintro i ⟨t,x⟩ hi ⟨rfl,G⟩
 unfold stB
 simp only [show (cv r).Starts=r.Starts from rfl]
 by_cases c:(i:Int) < (r.Starts.length:Int)
 ·left
  have hi':i < r.Starts.length:=by omega
  have uc:=C.st _ (wDM hi')
  obtain ⟨t',e,G'⟩:=G.both C (x:=⟨0,(i:Int),0,true⟩) (X':=done ((i + 1:Nat):Int) i 0 0 0) (.inl ⟨rfl,by simp only;omega,by simp only;omega,rfl⟩) rfl fun z hz hX=>by
   unfold wCI at hz
   unfold done at hX ⊢
   by_cases q:z.Kind=0/\z.Skier=(i:Int)
   ·exact .inr (wGg q.1 q.2 (by omega))
   ·left;omega
  obtain ⟨b,e2,t2,rfl,G2⟩:=sp_is C hi' G'
  refine ⟨hi',(t2,((i + 1:Nat):Int)),?_,rfl,G2⟩
  rw [if_pos c,wBR hi',hH,wEs C (by omega) (by omega) (by omega) (by omega),hH,wAZ (by omega) (by omega)]
  have e':wAN (⟨t⟩:wAS) 0 (plc r ⟨(i:Int),0⟩:Int) (gd r.Starts i) (-gd r.Starts i)=some t':=e
  rw [e',hH]
  exact e2
 ·right
  have hi':i=r.Starts.length:=by omega
  obtain ⟨T,e,hT⟩:=ck_is C (G.weak fun z hz hX=>by unfold wCI at hz;unfold done at hX ⊢;omega)
  exact ⟨T,by rw [if_neg c,e];rfl,hT⟩
theorem wKY:wAn (cv r)=(wBU (cv r)).bind fun x5 =>
 (wCa 0 x5 (fun k38 l32 =>
  (mkz 8 x5 (0:Int)).bind fun x64 =>
  (wCa 0 x5 (fun k78 l77 =>
   if (↑k38:Int)=(↑k78:Int) then
    some l77
   else
    (chk (↑k78:Int) l77.length).bind fun _ =>
    some (nO l77 k78 1125899906842624)) x64).bind fun y83 =>
  (app 24 l32 [y83]).bind fun x140 =>
  some x140) []).bind fun y43=>if x5=(np r:Int) then iter (stB r) big (y43,0) else none:=by
 unfold wAn
 rw [wKX C,hH,hH]
 simp only [if_true]
 rfl
theorem wGh:∃ T,wAn (cv r)=some T/\Tab r T:=by
 rw [wKY C,wKX C,hH]
 have hnp:=wPC C
 obtain ⟨t,e,M,g⟩:=wQE (n:=np r) (by omega)
 rw [e,hH,if_pos rfl]
 refine st_is C ⟨M,fun a b ha hb=>?_,fun a ha=>by rw [g a a ha ha,if_pos rfl],fun y F a b ha hb=>?_,fun x hx hX=>?_⟩
 ·rw [g a b ha hb]
  split <;> omega
 ·have h1:=wGd C F (wQs ha)
  have h2:=wGd C F (wQs hb)
  rw [g a b ha hb]
  split
  ·rename_i h;subst h;omega
  ·omega
 ·unfold wCI at hx
  unfold done at hX
  omega
theorem Tab.clash {T:List (List Int)} (h:Tab r T):(∃ y,wDA r y) ↔ ∀ a,a < np r->0 <= mx T a a:=by
 obtain ⟨t,G,F⟩:=h
 constructor
 ·rintro ⟨y,hy⟩ a ha
  have:=F.fe (fun v=>y (unp r v)) (G.fe y hy) a a ha ha
  omega
 ·intro h0
  have hz:wEH r zp:=.inl rfl
  have p0:plc r zp < np r:=wCZ hz
  have hnp:=wPC C
  have fin:∀ p,wEH r p->mx T (plc r zp) (plc r p) < 1125899906842624:=fun p hp=>by
   refine wSP (S:=fun q=>wEH r q->mx T (plc r zp) (plc r q) < 1125899906842624) (fun x hx h _=>?_) (fun _=>?_) hp hp
   ·obtain ⟨o1,o2,c1,c2⟩:=wDd C hx
    have hf:=h o1
    have b:=F.fin (by omega) (Nat.le_refl _) h0 p0 (wCZ o1) hf
    have e:=nK (F.le _ _ (wCZ o1) (wCZ o2)) (G.le x hx trivial)
    have:=F.tri h0 _ (wCZ o1) _ _ p0 (wCZ o2) hf (by omega)
    omega
   ·have:=F.le _ _ p0 p0
    rw [G.d0 _ p0] at this
    omega
  refine ⟨fun p=>mx T (plc r zp) (plc r p),fun x hx=>?_⟩
  obtain ⟨o1,o2,c1,c2⟩:=wDd C hx
  have e:=nK (F.le _ _ (wCZ o1) (wCZ o2)) (G.le x hx trivial)
  have:=F.tri h0 _ (wCZ o1) _ _ p0 (wCZ o2) (fin _ o1) (by omega)
  show mx T (plc r zp) (plc r (wCv r x).2.1) <= mx T (plc r zp) (plc r (wCv r x).1) + (wCv r x).2.2
  omega
theorem Tab.isDP {T:List (List Int)} (h:Tab r T) (hy:∃ y,wDA r y) {a:Pt} (ha:wEH r a):IsDP r a fun p=>mx T (plc r a) (plc r p):=by
 have h0:=(h.clash C).1 hy
 obtain ⟨t,G,F⟩:=h
 have p0:=wCZ ha
 have hnp:=wPC C
 have d:mx T (plc r a) (plc r a)=0:=by
  have h1:=F.le _ _ p0 p0
  rw [G.d0 _ p0] at h1
  have:=h0 _ p0
  omega
 have cl:∀ x,wCI r x->(wEH r (wCv r x).1->mx T (plc r a) (plc r (wCv r x).1) < 1125899906842624)->(wEH r (wCv r x).2.1->mx T (plc r a) (plc r (wCv r x).2.1) < 1125899906842624):=fun x hx h _=>by
  obtain ⟨o1,o2,c1,c2⟩:=wDd C hx
  have hf:=h o1
  have b:=F.fin (by omega) (Nat.le_refl _) h0 p0 (wCZ o1) hf
  have e:=nK (F.le _ _ (wCZ o1) (wCZ o2)) (G.le x hx trivial)
  have:=F.tri h0 _ (wCZ o1) _ _ p0 (wCZ o2) hf (by omega)
  omega
 have fin:∀ p,wEH r p->mx T (plc r a) (plc r p) < 1125899906842624:=fun p hp =>
  wSP (S:=fun q=>wEH r q->mx T (plc r a) (plc r q) < 1125899906842624) cl (wUB (S:=fun q=>wEH r q->mx T (plc r a) (plc r q) < 1125899906842624) cl ha fun _=>by omega) hp hp
 refine ⟨fun x hx=>?_,d,fun y hy p hp=>?_⟩
 ·obtain ⟨o1,o2,c1,c2⟩:=wDd C hx
  have e:=nK (F.le _ _ (wCZ o1) (wCZ o2)) (G.le x hx trivial)
  have:=F.tri h0 _ (wCZ o1) _ _ p0 (wCZ o2) (fin _ o1) (by omega)
  show mx T (plc r a) (plc r (wCv r x).2.1) <= mx T (plc r a) (plc r (wCv r x).1) + (wCv r x).2.2
  omega
 ·have:=F.fe (fun v=>y (unp r v)) (G.fe y hy) _ _ p0 (wCZ hp)
  simp only [wGz ha,wGz hp] at this
  exact this
end
end Go.Proofs.YtlnfbjphfoipaaaGreat
namespace Go.Proofs.YtlnfbjphfoipaaaGreat
open Go.KL Go.KL.Net
theorem wES (n lo hi:Int):wAQ n lo hi=some (!inB n lo hi):=by
 unfold wAQ inB
 by_cases h:n < lo
 ·rw [if_pos h,decide_eq_false (by omega)];rfl
 ·rw [if_neg h]
  congr 1
  rw [nN]
  simp only [nH,decide_eq_true_eq,decide_eq_false_iff_not]
  omega
theorem wPD (s:wAL) (lo hi:Int):wBg s lo hi=some (!wPV s lo hi):=by
 unfold wBg wPV
 by_cases h:s.Hi < s.Lo
 ·rw [if_pos h,decide_eq_false (by omega)];rfl
 ·by_cases h2:s.Lo < lo
  ·rw [if_neg h,if_pos h2,decide_eq_false (by omega)];rfl
  ·rw [if_neg h,if_neg h2]
   congr 1
   rw [nN]
   simp only [nH,decide_eq_true_eq,decide_eq_false_iff_not]
   omega
theorem wFj {S B:Type} {q:Bool} {s:S} {c:B} {x:Option (S ⊕ B)} {y:Option (S ⊕ B)} (hx:x=some (.inr c)) (hy:y=some (.inl s)):(if (!q)=true then x else y)=some (if q=true then .inl s else .inr c):=by
 cases q
 ·rw [hx];rfl
 ·rw [hy];rfl
theorem wGi {r:wAA} (S:wDe r):wAx (cv r)=some (code r):=by
 have hn:=S.n;have hm:=S.m;have hc:=S.c;have hq:=S.q
 have lc:(cv r).Clocks.length=r.Clocks.length:=nB ..
 have lq:(cv r).Readings.length=r.Readings.length:=nB ..
 unfold wAx code
 rw [show (cv r).Starts=r.Starts from rfl,show (cv r).Splits=r.Splits from rfl,lc,lq,wES,hH]
 by_cases c1:1 <= r.Starts.length/\r.Starts.length <= 8
 ·have e1:(!inB (r.Starts.length:Int) 1 8)=false:=by unfold inB;rw [decide_eq_true (by omega)];rfl
  rw [e1,if_neg (by simp),if_neg (show ¬ ¬ (1 <= r.Starts.length/\r.Starts.length <= 8) from fun h=>h c1)]
  by_cases c2:7 < r.Splits.length
  ·rw [if_pos (show (7:Int) < (r.Splits.length:Int) by omega),if_pos c2]
  ·rw [if_neg (show ¬ (7:Int) < (r.Splits.length:Int) by omega),if_neg c2]
   by_cases c3:4 < r.Clocks.length
   ·rw [if_pos (show (4:Int) < (r.Clocks.length:Int) by omega),if_pos c3]
   ·rw [if_neg (show ¬ (4:Int) < (r.Clocks.length:Int) by omega),if_neg c3]
    by_cases c4:40 < r.Readings.length
    ·rw [if_pos (show (40:Int) < (r.Readings.length:Int) by omega),if_pos c4]
    ·rw [if_neg (show ¬ (40:Int) < (r.Readings.length:Int) by omega),if_neg c4]
     rw [wGc stP,wGc spP,wGc ckP,wGc rtP,wGc (ruP r)]
     refine wEa (fun k=>stP (gd r.Starts k)) 3 (by omega) (fun i hi=>?_) ?_
     ·rw [if_pos (by omega),wBR hi,hH,wES,hH]
      exact wFj rfl (by rw [wAZ (by omega) (by omega)])
     ·rw [if_neg (by omega)]
      refine (congrArg esc (wEa (fun k=>spP (gd r.Splits k)) 3 (by omega) (fun i hi=>?_) ?_)).trans (wFW _)
      ·rw [if_pos (by omega),wBR hi,hH,wPD,hH]
       exact wFj rfl (by rw [wAZ (by omega) (by omega)])
      ·rw [if_neg (by omega)]
       refine (congrArg esc (wEa (fun k=>ckP (gd r.Clocks k)) 3 (by omega) (fun i hi=>?_) ?_)).trans (wFW _)
       ·have ei:idx (cv r).Clocks (i:Int)=some ⟨(gd r.Clocks i).Offset,(gd r.Clocks i).Error⟩:=by
         rw [wBR (by rw [lc];exact hi)]
         exact congrArg some (wEr _ hi)
        rw [if_pos (by omega),ei,hH]
        simp only
        rw [wPD,hH,wES,hH]
        unfold ckP
        cases wPV (gd r.Clocks i).Offset (-36000) 36000
        ·rfl
        ·rw [if_neg (by simp),nJ]
         exact wFj rfl (by rw [wAZ (by omega) (by omega)])
       ·rw [if_neg (by omega)]
        refine (congrArg esc (wEa (fun k=>rtP (gd r.Readings k)) 3 (by omega) (fun i hi=>?_) ?_)).trans (wFW _)
        ·have ei:idx (cv r).Readings (i:Int)=some ⟨(gd r.Readings i).Skier,(gd r.Readings i).Mat,(gd r.Readings i).Clock,(gd r.Readings i).Time⟩:=by
          rw [wBR (by rw [lq];exact hi)]
          exact congrArg some (wEr _ hi)
         rw [if_pos (by omega),ei,hH]
         simp only
         rw [wES,hH]
         exact wFj rfl (by rw [wAZ (by omega) (by omega)])
        ·rw [if_neg (by omega)]
         refine (congrArg esc (wEa (fun k=>ruP r (gd r.Readings k)) 1 (z:=0) (by omega) (fun i hi=>?_) ?_)).trans (wFW _)
         ·have ei:idx (cv r).Readings (i:Int)=some ⟨(gd r.Readings i).Skier,(gd r.Readings i).Mat,(gd r.Readings i).Clock,(gd r.Readings i).Time⟩:=by
           rw [wBR (by rw [lq];exact hi)]
           exact congrArg some (wEr _ hi)
          rw [if_pos (by omega),ei,hH]
          simp only
          rw [wAZ (x:=(r.Starts.length:Int) - 1) (by omega) (by omega),wAZ (x:=(r.Clocks.length:Int) - 1) (by omega) (by omega),wES,hH,wES,hH,wES,hH]
          unfold ruP
          cases inB (gd r.Readings i).Skier 0 ((r.Starts.length:Int) - 1)
          ·rfl
          ·rw [if_neg (by simp),nJ]
           cases inB (gd r.Readings i).Mat 0 (r.Splits.length:Int)
           ·rfl
           ·rw [if_neg (by simp),nJ]
            exact wFj rfl (by rw [wAZ (by omega) (by omega)])
         ·rw [if_neg (by omega)];rfl
 ·have e1:(!inB (r.Starts.length:Int) 1 8)=true:=by unfold inB;rw [decide_eq_false (by omega)];rfl
  rw [e1,if_pos rfl,if_pos c1]
theorem wPE {r:wAA} (S:wDe r):wBe r=some (cv r):=by
 have hn:=S.n;have hm:=S.m;have hc:=S.c;have hq:=S.q
 unfold wBe wBJ wAo
 rw [wFQ (by simp only [nA];omega),hH,hH,wFQ (by simp only [nA];omega),hH,hH,hH]
 simp only
 rw [wMG (f:=fun x:wAb=>(⟨x.Offset,x.Error⟩:wAw)) (fun a _ l=>by cases app 24 l [(⟨a.Offset,a.Error⟩:wAw)] <;> rfl) (by omega) (by omega),hH]
 rw [wMG (f:=fun x:wAT=>(⟨x.Skier,x.Mat,x.Clock,x.Time⟩:wAm)) (fun a _ l=>by cases app 32 l [(⟨a.Skier,a.Mat,a.Clock,a.Time⟩:wAm)] <;> rfl) (by omega) (by omega),hH]
 rfl
end Go.Proofs.YtlnfbjphfoipaaaGreat
namespace Go.Proofs.YtlnfbjphfoipaaaGreat
open Go.KL Go.KL.Net Go.KL.Floyd
open Classical
theorem wMP {r:wAA} (C:RC r):∃ b,wBZ (cv r)=some b/\(b=true ↔ ¬ ∃ y,wDA r y):=by
 obtain ⟨T,e,hT⟩:=wGh C
 have hnp:=wPC C
 obtain ⟨t,G,F⟩:=id hT
 have hr:=F.m.rows
 refine ⟨!wGy (fun k=>!decide (mx T k k < 0)) (np r) 0,?_,?_⟩
 ·unfold wBZ
  rw [e,hH,hr,wFe (fun k=>!decide (mx T k k < 0)) true (by omega) fun i hi=>?_]
  ·cases wGy (fun k=>!decide (mx T k k < 0)) (np r) 0 <;> rfl
  ·rw [wBR (by omega),hH,wBR (by rw [F.m.cols i hi];exact hi),hH]
   by_cases c:mx T i i < 0
   ·rw [if_pos (show gd (gd T i) i < 0 from c),decide_eq_true c];rfl
   ·rw [if_neg (show ¬ gd (gd T i) i < 0 from c),decide_eq_false c];rfl
 ·rw [hT.clash C,nH,Bool.eq_false_iff,ne_eq,wCu]
  constructor
  ·intro h h2
   exact h fun i _ hi=>by
    have:=h2 i (by omega)
    simp only [nH,decide_eq_false_iff_not]
    omega
  ·intro h h2
   exact h fun i hi=>by
    have:=h2 i (by omega) (by omega)
    simp only [nH,decide_eq_false_iff_not] at this
    omega
theorem wPF {r:wAA} (S:wDe r):wBk (cv r)=some (wFA r []):=by
 unfold wBk wFA
 rw [wGi S,hH]
 by_cases c:code r=0
 ·obtain ⟨b,e,hb⟩:=wMP (wGE c)
  rw [if_pos c,if_pos c,e,hH,if_pos (show ([]:List wAM).all (wGF r)=true from rfl)]
  by_cases d:∃ y,wDA r y
  ·rw [if_neg (fun h=>hb.1 h d),if_pos d]
  ·rw [if_pos (hb.2 d),if_neg d]
 ·rw [if_neg c,if_neg c]
end Go.Proofs.YtlnfbjphfoipaaaGreat
namespace Go.Proofs.YtlnfbjphfoipaaaGreat
open Go.KL Go.KL.Net Go.KL.Floyd
open Classical
def sp6 (s:wAM):wAP:=⟨s.Skier,s.Mat⟩
theorem wPG {r:wAA} (S:wDe r) (s:wAM):wBh (cv r) (sp6 s)=some (!wGF r s):=by
 have:=S.n
 unfold wBh wGF sp6
 show (wAQ s.Skier 0 (w64 ((r.Starts.length:Int) - 1))).bind _=_
 rw [wAZ (by omega) (by omega),wES,hH]
 cases inB s.Skier 0 ((r.Starts.length:Int) - 1)
 ·rfl
 ·rw [if_neg (by simp)]
  show (wAQ s.Mat 0 (r.Splits.length:Int)).bind _=_
  rw [wES];rfl
theorem wKZ {r:wAA} (S:wDe r) (a b:wAM):wBa (cv r) (sp6 a) (sp6 b)=some (wFA r [a,b]):=by
 unfold wBa
 rw [wGi S,hH]
 by_cases c:code r=0
 ·rw [if_pos c,wPG S,hH]
  cases h1:wGF r a
  ·rw [if_pos (by rfl)]
   unfold wFA
   rw [if_pos c,if_neg (by simp [h1])]
  ·rw [if_neg (by simp),wPG S,hH]
   cases h2:wGF r b
   ·rw [if_pos (by rfl)]
    unfold wFA
    rw [if_pos c,if_neg (by simp [h2])]
   ·rw [if_neg (by simp),wPF S,hH]
    unfold wFA
    rw [show [a,b].all (wGF r)=true by simp [h1,h2]]
    rfl
 ·rw [if_neg c]
  unfold wFA
  rw [if_neg c]
theorem wHA {r:wAA} {T:List (List Int)} (hT:Tab r T) {a b:Pt} (ha:wEH r a) (hb:wEH r b) {α:Type} (k:Int->Option α):((idx T (plc r a:Int)).bind fun row=>(idx row (plc r b:Int)).bind k)=k (mx T (plc r a) (plc r b)):=by
 obtain ⟨t,G,F⟩:=hT
 have h1:=wCZ ha
 have h2:=wCZ hb
 rw [wBR (by rw [F.m.rows];exact h1),hH,wBR (by rw [F.m.cols _ h1];exact h2),hH]
 rfl
end Go.Proofs.YtlnfbjphfoipaaaGreat
namespace Go.Proofs.YtlnfbjphfoipaaaGreat
open Go.KL Go.KL.Net Go.KL.Floyd
open Classical
theorem wHB {r:wAA} {d:wAk} {pts:List Pt} (D:Desk r d pts) {T:List (List Int)} (hT:Tab r T) (hy:∃ y,wDA r y) {a b:Pt} (ha:wEH r a) (hb:wEH r b):wAl d a b=some ⟨-mx T (plc r b) (plc r a),mx T (plc r a) (plc r b)⟩:=by
 obtain ⟨f,l1,e1,n1,F⟩:=D.from_ hy ha
 obtain ⟨g,l2,e2,n2,G⟩:=D.from_ hy hb
 have f1:=F.one (hT.isDP D.c hy ha) hb
 have g1:=G.one (hT.isDP D.c hy hb) ha
 have gn:=G.near D.c hb ha
 have pa:=D.pos_ok ha
 have pb:=D.pos_ok hb
 unfold wAl
 rw [pa.2.2,pb.2.2,e1,hH]
 simp only
 rw [hH,e2,hH]
 simp only
 rw [hH]
 simp only
 rw [wDN (by omega) (by omega),hH,wDN (by omega) (by omega),hH,nD,nD,f1,g1,wAZ (by omega) (by omega)]
theorem wQG {r:wAA} (S:wDe r) (s:wAM):∃ z,wDR r s=some (z,wFA r [s])/\wBs (cv r) (sp6 s)=some (z,wFA r [s]):=by
 unfold wDR wBs
 obtain ⟨o,e,h0,h1⟩:=wHY S (l:=[s]) (by simp)
 rw [e,hH,wKZ S,hH,wPy]
 simp only
 by_cases c:wFA r [s]=0
 ·obtain ⟨d,pts,rfl,D⟩:=h0 c
  obtain ⟨C,_,hs,hy⟩:=err0 c
  obtain ⟨hp,s0,s1,m0,m1⟩:=wFS (r:=r) (s:=s) (by simpa using hs)
  obtain ⟨T,eT,hT⟩:=wGh C
  have hz:wEH r zp:=.inl rfl
  have b:=wHB D hT hy hz hp
  have gn:=(hT.isDP C hy hp).near C hp hz
  simp only
  rw [if_pos c,if_pos c,eT,hH,show (sp6 s).Skier=s.Skier from rfl,show (sp6 s).Mat=s.Mat from rfl,wEs C s0 s1 m0 m1,hH]
  refine ⟨⟨-mx T (plc r (pt s)) (plc r zp),mx T (plc r zp) (plc r (pt s))⟩,?_,?_⟩
  ·unfold wBf wCL
   rw [hH,hH]
   show (wAl d zp (pt s)).bind _=_
   rw [b,c];rfl
  ·have t1:=wHA hT hp hz (α:=wAL × Int) fun x82=>(idx T (0:Int)).bind fun x89=>(idx x89 (plc r (pt s):Int)).bind fun x101=>some ((⟨w64 (-x82),x101⟩:wAL),0)
   have t2:=wHA hT hz hp (α:=wAL × Int) fun x101=>some ((⟨w64 (-mx T (plc r (pt s)) (plc r zp)),x101⟩:wAL),0)
   refine (t1.trans t2).trans ?_
   rw [wAZ (by omega) (by omega),c]
 ·have ho:=h1 c
  subst ho
  rw [if_neg c,if_neg c]
  exact ⟨_,rfl,rfl⟩
theorem wUE {r:wAA} (S:wDe r) (a b:wAM):∃ z,wEe r a b=some (z,wFA r [a,b])/\wCM (cv r) (sp6 a) (sp6 b)=some (z,wFA r [a,b])/\(wFA r [a,b]=0->∀ f g,IsDP r (pt a) f->IsDP r (pt b) g->z=⟨-g (pt a),f (pt b)⟩):=by
 unfold wEe wCM
 obtain ⟨o,e,h0,h1⟩:=wHY S (l:=[a,b]) (by simp)
 rw [e,hH,wKZ S,hH]
 simp only
 by_cases c:wFA r [a,b]=0
 ·obtain ⟨d,pts,rfl,D⟩:=h0 c
  obtain ⟨C,_,hs,hy⟩:=err0 c
  simp only [nQ,nS,nR,nE] at hs
  obtain ⟨hp,s0,s1,m0,m1⟩:=wFS (r:=r) (s:=a) hs.1
  obtain ⟨hq,u0,u1,v0,v1⟩:=wFS (r:=r) (s:=b) hs.2
  obtain ⟨T,eT,hT⟩:=wGh C
  have bt:=wHB D hT hy hp hq
  have gn:=(hT.isDP C hy hq).near C hq hp
  simp only
  rw [if_pos c,if_pos c,eT,hH,show (sp6 a).Skier=a.Skier from rfl,show (sp6 a).Mat=a.Mat from rfl,wEs C s0 s1 m0 m1,hH,show (sp6 b).Skier=b.Skier from rfl,show (sp6 b).Mat=b.Mat from rfl,wEs C u0 u1 v0 v1,hH]
  refine ⟨⟨-mx T (plc r (pt b)) (plc r (pt a)),mx T (plc r (pt a)) (plc r (pt b))⟩,?_,?_,fun _ f g hf hg=>?_⟩
  ·unfold wCL
   rw [hH,hH]
   show (wAl d (pt a) (pt b)).bind _=_
   rw [bt,c];rfl
  ·have t1:=wHA hT hq hp (α:=wAL × Int) fun x110=>(idx T (plc r (pt a):Int)).bind fun x117=>(idx x117 (plc r (pt b):Int)).bind fun x129=>some ((⟨w64 (-x110),x129⟩:wAL),0)
   have t2:=wHA hT hp hq (α:=wAL × Int) fun x129=>some ((⟨w64 (-mx T (plc r (pt b)) (plc r (pt a))),x129⟩:wAL),0)
   refine (t1.trans t2).trans ?_
   rw [wAZ (by omega) (by omega),c]
  ·have e1:=(hT.isDP C hy hp).one hf hq
   have e2:=(hT.isDP C hy hq).one hg hp
   rw [e1,e2]
 ·have ho:=h1 c
  subst ho
  rw [if_neg c,if_neg c]
  exact ⟨_,rfl,rfl,fun h=>absurd h c⟩
theorem wSW {r:wAA} (S:wDe r) (k:Int):∃ z,wEN r k=some z/\wCE (cv r) k=some z:=by
 have hc:=S.c
 unfold wEN wCE
 rw [wJH S,hH,wGi S,hH,show (cv r).Clocks.length=r.Clocks.length from nB ..]
 by_cases c:code r=0
 ·rw [if_pos c,if_pos c,wAZ (by omega) (by omega),wKW,hH,wES,hH]
  cases hk:inB k 0 ((r.Clocks.length:Int) - 1)
  ·rw [if_neg (by simp),if_pos (by rfl)];exact ⟨_,rfl,rfl⟩
  ·rw [if_pos rfl,if_neg (by simp)]
   have C:=wGE c
   simp only [inB,decide_eq_true_eq] at hk
   obtain ⟨o,e,h0,h1⟩:=wHY S (l:=[]) (by simp)
   obtain ⟨b,eb,hb⟩:=wMP C
   rw [e,hH,eb,hH]
   simp only
   by_cases hy:∃ y,wDA r y
   ·have ee:wFA r []=0:=by unfold wFA;rw [if_pos c,if_pos (by rfl),if_pos hy]
    obtain ⟨d,pts,rfl,D⟩:=h0 ee
    obtain ⟨T,eT,hT⟩:=wGh C
    have hz:wEH r zp:=.inl rfl
    have hp:wEH r ⟨-1,1 + k⟩:=.inr (.inr ⟨rfl,by simp only;omega,by simp only;omega⟩)
    have bt:=wHB D hT hy hp hz
    have gn:=(hT.isDP C hy hz).near C hz hp
    simp only
    rw [if_pos ee,if_neg (fun h=>hb.1 h hy),eT,hH]
    refine ⟨(⟨-mx T (plc r zp) (plc r ⟨-1,1 + k⟩),mx T (plc r ⟨-1,1 + k⟩) (plc r zp)⟩,0),?_,?_⟩
    ·unfold wBK wBf
     rw [wAZ (by omega) (by omega),hH,hH]
     show (wAl d ⟨-1,1 + k⟩ zp).bind _=_
     rw [bt];rfl
    ·rw [wHZ C (by omega) (by omega)]
     simp only [hH]
     have t1:=wHA hT hz hp (α:=wAL × Int) fun x117=>(idx T (plc r ⟨-1,1 + k⟩:Int)).bind fun x139=>(idx x139 (0:Int)).bind fun x153=>some ((⟨w64 (-x117),x153⟩:wAL),0)
     have t2:=wHA hT hp hz (α:=wAL × Int) fun x153=>some ((⟨w64 (-mx T (plc r zp) (plc r ⟨-1,1 + k⟩)),x153⟩:wAL),0)
     refine (t1.trans t2).trans ?_
     rw [wAZ (by omega) (by omega)]
   ·have ee:wFA r []=7:=by unfold wFA;rw [if_pos c,if_pos (by rfl),if_neg hy]
    have ho:=h1 (by omega)
    subst ho
    rw [if_neg (by omega),if_pos (hb.2 hy),ee]
    exact ⟨_,rfl,rfl⟩
 ·rw [if_neg c,if_neg c];exact ⟨_,rfl,rfl⟩
end Go.Proofs.YtlnfbjphfoipaaaGreat
namespace Go.Proofs.YtlnfbjphfoipaaaGreat
open Go.KL Go.KL.Net
open Classical
def yT (T:List (List Int)) (O:List Int) (p:Pt):Int:=if p.skier=-1 then (if p.mat=0 then 0 else -gd O (p.mat - 1).toNat) else gd (gd T p.skier.toNat) p.mat.toNat
theorem wPH (T:List (List Int)) (O:List Int):yT T O zp=0:=rfl
theorem wEt (T:List (List Int)) (O:List Int) {s k:Int} (h:0 <= s):yT T O ⟨s,k⟩=gd (gd T s.toNat) k.toNat:=if_neg (by simp only;omega)
theorem wGj (T:List (List Int)) (O:List Int) {k:Int} (h:0 <= k):yT T O ⟨-1,1 + k⟩=-gd O k.toNat:=by
 unfold yT
 rw [if_pos rfl,if_neg (by simp only;omega),show (1 + k - 1)=k by omega]
structure wUF (r:wAA) (T:List (List Int)) (O:List Int):Prop where
 t:T.length=r.Starts.length
 l:∀ k,k < r.Starts.length->(gd T k).length=r.Splits.length + 1
 o:O.length=r.Clocks.length
def wSX (r:wAA) (T:List (List Int)) (k:Nat):Bool:=decide (gd (gd T k) 0=gd r.Starts k) && wGy (fun j=>inB (gd (gd T k) (j + 1) - gd (gd T k) j) (gd r.Splits j).Lo (gd r.Splits j).Hi) r.Splits.length 0
def wUG (r:wAA) (O:List Int) (k:Nat):Bool:=inB (gd O k) (gd r.Clocks k).Offset.Lo (gd r.Clocks k).Offset.Hi
def wUH (r:wAA) (T:List (List Int)) (O:List Int) (k:Nat):Bool :=
 inB ((gd r.Readings k).Time - gd (gd T (gd r.Readings k).Skier.toNat) (gd r.Readings k).Mat.toNat - gd O (gd r.Readings k).Clock.toNat) (-(gd r.Clocks (gd r.Readings k).Clock.toNat).Error) (gd r.Clocks (gd r.Readings k).Clock.toNat).Error
theorem wHa {r:wAA} (C:RC r) {T:List (List Int)} {O:List Int}:wDA r (yT T O) ↔ wGy (wSX r T) r.Starts.length 0=true/\wGy (wUG r O) r.Clocks.length 0=true/\wGy (wUH r T O) r.Readings.length 0=true:=by
 simp only [wCu]
 constructor
 ·intro F
  refine ⟨fun k _ hk=>?_,fun k _ hk=>?_,fun k _ hk=>?_⟩
  ·have h0:=fp0 F (s:=(k:Int)) (by omega) (by omega)
   rw [wEt _ _ (by omega),wPH,nD,Int.zero_add] at h0
   unfold wSX
   rw [nE]
   refine ⟨decide_eq_true h0,(wCu _ _ _).2 fun j _ hj=>?_⟩
   have h1:=fp1 F (s:=(k:Int)) (k:=(j:Int)) (by omega) (by omega) (by omega) (by omega)
   rw [wEt _ _ (by omega),wEt _ _ (by omega),nD,nD,show ((j:Int) + 1).toNat=j + 1 by omega] at h1
   unfold inB
   rw [decide_eq_true_eq]
   omega
  ·have h:=fp2 F (k:=(k:Int)) (by omega) (by omega)
   rw [wGj _ _ (by omega),wPH,nD] at h
   unfold wUG inB
   rw [decide_eq_true_eq]
   omega
  ·have u:=C.ru _ (wDM (show k < r.Readings.length by omega))
   have a:yT T O ⟨(gd r.Readings k).Skier,(gd r.Readings k).Mat⟩ <= yT T O ⟨-1,1 + (gd r.Readings k).Clock⟩ + ((gd r.Readings k).Time + (gd r.Clocks (gd r.Readings k).Clock.toNat).Error):=F ⟨3,0,(k:Int),true⟩ (.inr (.inr (.inr ⟨rfl,rfl,by simp only;omega,by simp only;omega⟩)))
   have b:yT T O ⟨-1,1 + (gd r.Readings k).Clock⟩ <= yT T O ⟨(gd r.Readings k).Skier,(gd r.Readings k).Mat⟩ + ((gd r.Clocks (gd r.Readings k).Clock.toNat).Error - (gd r.Readings k).Time):=F ⟨3,0,(k:Int),false⟩ (.inr (.inr (.inr ⟨rfl,rfl,by simp only;omega,by simp only;omega⟩)))
   rw [wEt _ _ u.1,wGj _ _ u.2.2.2.2.1] at a b
   unfold wUH inB
   rw [decide_eq_true_eq]
   omega
 ·rintro ⟨h1,h2,h3⟩ x hx
  have key:yT T O (wBw r x).2.1 <= yT T O (wBw r x).1 + (wBw r x).2.2.1/\yT T O (wBw r x).1 <= yT T O (wBw r x).2.1 + (wBw r x).2.2.2:=by
   unfold wBw
   rcases hx with ⟨k,a,b,c⟩ | ⟨k,a,b,c,d⟩ | ⟨k,a,c,d⟩ | ⟨k,a,c,d⟩
   ·have h:=h1 x.Skier.toNat (by omega) (by omega)
    unfold wSX at h
    rw [nE,decide_eq_true_eq] at h
    rw [if_pos k]
    simp only
    rw [wEt _ _ a,wPH,Int.toNat_zero,h.1]
    omega
   ·have h:=h1 x.Skier.toNat (by omega) (by omega)
    unfold wSX at h
    rw [nE] at h
    have g:=(wCu _ _ _).1 h.2 x.Index.toNat (by omega) (by omega)
    unfold inB at g
    rw [decide_eq_true_eq] at g
    rw [if_neg (by omega),if_pos k]
    simp only
    rw [wEt _ _ a,wEt _ _ a,show (x.Index + 1).toNat=x.Index.toNat + 1 by omega]
    omega
   ·have h:=h2 x.Index.toNat (by omega) (by omega)
    unfold wUG inB at h
    rw [decide_eq_true_eq] at h
    rw [if_neg (by omega),if_neg (by omega),if_pos k]
    simp only
    rw [wGj _ _ c,wPH]
    omega
   ·have h:=h3 x.Index.toNat (by omega) (by omega)
    unfold wUH inB at h
    rw [decide_eq_true_eq] at h
    have u:=C.ru _ (wCe c d)
    rw [if_neg (by omega),if_neg (by omega),if_neg (by omega)]
    simp only
    rw [wEt _ _ u.1,wGj _ _ u.2.2.2.2.1]
    omega
  unfold wCv
  split
  ·exact key.1
  ·exact key.2
def wSq (T:List (List Int)) (k:Nat):Bool:=wGy (fun j=>inB (gd (gd T k) j) (-100000000) 100000000) (gd T k).length 0
def wSY (O:List Int) (k:Nat):Bool:=inB (gd O k) (-100000000) 100000000
noncomputable def wQH (r:wAA) (T:List (List Int)) (O:List Int):Int:=if code r=0 then (if wUF r T O then (if wGy (wSq T) T.length 0=true/\wGy (wSY O) O.length 0=true then 0 else 3) else 2) else code r
noncomputable def wSZ (r:wAA) (T:List (List Int)) (O:List Int):Bool:=decide (wQH r T O=0/\wDA r (yT T O))
theorem wKa {R:Type} {q:Bool} {c:R} {K:Unit->Option R} {x:Option (Unit ⊕ R)} (h:x=some (if q=true then .inl () else .inr c)):jn x K=if q=true then K () else some c:=by
 rw [h];cases q <;> rfl
def tt (r:wAA) (y:Pt->Int):List (List Int):=(nP r.Starts.length).map fun (s:Nat)=>(nP (r.Splits.length + 1)).map fun (k:Nat)=>y ⟨(s:Int),(k:Int)⟩ - y zp
def oo (r:wAA) (y:Pt->Int):List Int:=(nP r.Clocks.length).map fun (i:Nat)=>y zp - y ⟨-1,1 + (i:Int)⟩
theorem wHC {α:Type} [Inhabited α] {n k:Nat} (f:Nat->α) (h:k < n):gd ((nP n).map f) k=f k:=by
 rw [wMq (by simpa using h)]
 simp
theorem wQI {r:wAA} {y:Pt->Int} {s k:Nat} (hs:s < r.Starts.length) (hk:k <= r.Splits.length):gd (gd (tt r y) s) k=y ⟨(s:Int),(k:Int)⟩ - y zp:=by
 unfold tt
 rw [wHC _ hs,wHC _ (by omega)]
theorem wMQ (r:wAA) (y:Pt->Int):(tt r y).length=r.Starts.length:=by simp [tt]
theorem wKb {r:wAA} {y:Pt->Int} {s:Nat} (hs:s < r.Starts.length):(gd (tt r y) s).length=r.Splits.length + 1:=by
 unfold tt
 rw [wHC _ hs];simp
theorem wPI {r:wAA} {d:wAk} {pts:List Pt} (D:Desk r d pts) {far:List Int} (hf:far.length=pts.length) {y:Pt->Int} (hy:∀ p,wEH r p->gd far (pos pts p)=y p) (F:wDA r y):wCJ d far=some (tt r y,oo r y):=by
 have C:=D.c
 have hn:=C.n;have hm:=C.m;have hc:=C.c
 have hlen:=D.len
 have hz:wEH r zp:=.inl rfl
 have e0:gd far 0=y zp:=by rw [<- hy zp hz,D.zeroP]
 have get:∀ p,wEH r p->idx far (wAt d.number p 0)=some (y p):=fun p hp=>by
  obtain ⟨h1,_,h3⟩:=D.pos_ok hp
  rw [h3,wBR (by omega),hy p hp]
 have ez:idx far 0=some (y zp):=by rw [show (0:Int)=((0:Nat):Int) from rfl,wBR (by omega),e0]
 unfold wCJ
 rw [ez,hH,D.race]
 have rows:wCa (0:Int) (↑r.Starts.length:Int) (fun k31 l26 =>
  (wCa (0:Int) (w64 ((↑r.Splits.length:Int) + 1)) (fun k74 l70 =>
   (idx far (wAt d.number (⟨(↑k31:Int),(↑k74:Int)⟩:wAG) 0)).bind fun x103 =>
   (app 8 l70 [w64 (x103 - y zp)]).bind fun x117 =>
   some x117) []).bind fun y79 =>
  (app 24 l26 [y79]).bind fun x161 =>
  some x161) []=some (tt r y):=by
  rw [wIQ (S:=List (List Int)) (n:=r.Starts.length) (fun k=>(tt r y).take k) (s0:=[]) (by simp) (by omega) fun k hk=>?_,<- wMQ r y,nL]
  have hs1:w64 ((r.Splits.length:Int) + 1)=((r.Splits.length + 1:Nat):Int):=by rw [wAZ (by omega) (by omega)];omega
  rw [hs1,wIQ (S:=List Int) (n:=r.Splits.length + 1) (fun j=>(gd (tt r y) k).take j) (s0:=[]) (by simp) (by omega) fun j hj=>?_]
  ·rw [hH,wFQ (by rw [nM];simp only [nI,nA];omega),hH,wGx (l:=tt r y) (by rw [wMQ];exact hk),<- wKb (y:=y) hk,nL]
  ·have hp:wEH r ⟨(k:Int),(j:Int)⟩:=.inr (.inl ⟨by simp only;omega,by simp only;omega,by simp only;omega,by simp only;omega⟩)
   have nr:=wGd C F hp
   rw [get _ hp,hH,wAZ (by omega) (by omega),wFQ (by rw [nM];simp only [nI,nA];omega),hH,wGx (l:=gd (tt r y) k) (by rw [wKb hk];exact hj),wQI hk (by omega)]
 rw [rows,hH]
 have offs:wCa (0:Int) (↑r.Clocks.length:Int) (fun k215 l211 =>
  (wBK (↑k215:Int)).bind fun x243 =>
  (idx far (wAt d.number x243 0)).bind fun x253 =>
  (app 8 l211 [w64 (y zp - x253)]).bind fun x268 =>
  some x268) []=some (oo r y):=by
  have ol:(oo r y).length=r.Clocks.length:=by simp [oo]
  rw [wIQ (S:=List Int) (n:=r.Clocks.length) (fun k=>(oo r y).take k) (s0:=[]) (by simp) (by omega) fun k hk=>?_,<- ol,nL]
  have hp:wEH r ⟨-1,1 + (k:Int)⟩:=.inr (.inr ⟨rfl,by simp only;omega,by simp only;omega⟩)
  have nr:=wGd C F hp
  unfold wBK
  rw [wAZ (by omega) (by omega),hH,get _ hp,hH,wAZ (by omega) (by omega),wFQ (by rw [nM];simp only [nI,nA];omega),hH,wGx (l:=oo r y) (by omega)]
  unfold oo
  rw [wHC _ hk]
 rw [offs]
 rfl
theorem wKc {r:wAA} (C:RC r) {y:Pt->Int} (F:wDA r y):wDA r (yT (tt r y) (oo r y))/\wUF r (tt r y) (oo r y)/\wGy (wSq (tt r y)) (tt r y).length 0=true/\wGy (wSY (oo r y)) (oo r y).length 0=true:=by
 have hz:wEH r zp:=.inl rfl
 have same:∀ p,wEH r p->yT (tt r y) (oo r y) p=y p - y zp:=fun p hp=>by
  rcases hp with rfl | ⟨a,b,c,d⟩ | ⟨a,b,c⟩
  ·rw [wPH];omega
  ·have e:p=⟨p.skier,p.mat⟩:=rfl
   rw [e,wEt _ _ a,wQI (by omega) (by omega),nG a,nG c]
  ·have e:p=⟨-1,1 + (p.mat - 1)⟩:=by rw [<- a,Int.add_comm,Int.sub_add_cancel]
   rw [e,wGj _ _ (by omega)]
   unfold oo
   rw [wHC _ (by omega),nG (by omega)]
   omega
 have L:wUF r (tt r y) (oo r y):=⟨wMQ r y,fun k hk=>wKb hk,by simp [oo]⟩
 refine ⟨fun x hx=>?_,L,?_,?_⟩
 ·obtain ⟨o1,o2,_,_⟩:=wDd C hx
  rw [same _ o1,same _ o2]
  have:=F x hx
  omega
 ·rw [wCu]
  intro i _ hi
  unfold wSq
  rw [wCu]
  intro j _ hj
  rw [L.t] at hi
  rw [wKb (by omega)] at hj
  have hp:wEH r ⟨(i:Int),(j:Int)⟩:=.inr (.inl ⟨by simp only;omega,by simp only;omega,by simp only;omega,by simp only;omega⟩)
  have:=wGd C F hp
  rw [wQI (by omega) (by omega)]
  unfold inB
  rw [decide_eq_true_eq]
  omega
 ·rw [wCu]
  intro i _ hi
  rw [L.o] at hi
  have hp:wEH r ⟨-1,1 + (i:Int)⟩:=.inr (.inr ⟨rfl,by simp only;omega,by simp only;omega⟩)
  have:=wGd C F hp
  unfold wSY oo
  rw [wHC _ (by omega)]
  unfold inB
  rw [decide_eq_true_eq]
  omega
theorem wQJ {r:wAA} (c:code r=0) {y:Pt->Int} (F:wDA r y):wQH r (tt r y) (oo r y)=0/\wSZ r (tt r y) (oo r y)=true:=by
 obtain ⟨h1,h2,h3,h4⟩:=wKc (wGE c) F
 have e:wQH r (tt r y) (oo r y)=0:=by
  unfold wQH
  rw [if_pos c,if_pos h2,if_pos ⟨h3,h4⟩]
 refine ⟨e,?_⟩
 unfold wSZ
 rw [decide_eq_true_eq]
 exact ⟨e,h1⟩
end Go.Proofs.YtlnfbjphfoipaaaGreat
namespace Go.Proofs.YtlnfbjphfoipaaaGreat
open Go.KL Go.KL.Net Go.KL.Floyd
open Classical
theorem wQK {r:wAA} (S:wDe r) {T:List (List Int)} (hT:T.length <= 100) (hl:∀ l ∈ T,l.length <= 100) {O:List Int} (hO:O.length <= 100):wCF (cv r) T O=some (wSZ r T O,wQH r T O):=by
 have hn:=S.n;have hm:=S.m;have hc:=S.c;have hq:=S.q
 have lc:(cv r).Clocks.length=r.Clocks.length:=nB ..
 have lq:(cv r).Readings.length=r.Readings.length:=nB ..
 have bad:∀ e:Int,wQH r T O=e->e ≠ 0->some (false,e)=some (wSZ r T O,wQH r T O):=fun e h h0=>by
  unfold wSZ
  rw [h,decide_eq_false (fun q=>h0 q.1)]
 unfold wCF
 rw [wGi S,hH,show (cv r).Starts=r.Starts from rfl,show (cv r).Splits=r.Splits from rfl,lc,lq]
 by_cases c0:code r=0
 ·have C:=wGE c0
  have fe:wQH r T O=if wUF r T O then (if wGy (wSq T) T.length 0=true/\wGy (wSY O) O.length 0=true then 0 else 3) else 2:=if_pos c0
  rw [if_pos c0]
  by_cases c1:T.length=r.Starts.length
  ·rw [if_pos (show (T.length:Int)=(r.Starts.length:Int) by omega)]
   by_cases c2:O.length=r.Clocks.length
   ·rw [if_pos (show (O.length:Int)=(r.Clocks.length:Int) by omega)]
    rw [wKa (wFe (fun k=>decide ((gd T k).length=r.Splits.length + 1)) (false,2) (by omega) fun i hi=>by
     rw [wBR hi,hH,wAZ (by omega) (by omega)]
     by_cases c:(gd T i).length=r.Splits.length + 1
     ·rw [if_pos (by omega),decide_eq_true c];rfl
     ·rw [if_neg (by omega),decide_eq_false c];rfl)]
    by_cases c3:wGy (fun k=>decide ((gd T k).length=r.Splits.length + 1)) T.length 0=true
    ·rw [if_pos c3]
     have L:wUF r T O:=⟨c1,fun k hk=>by
      have:=(wCu _ _ _).1 c3 k (by omega) (by omega)
      simpa using this,c2⟩
     rw [if_pos L] at fe
     rw [wKa (wFe (wSq T) (false,3) (by omega) fun i hi=>by
      have hi2:i < T.length:=hi
      have hli:=hl _ (wDM hi2)
      refine (wEa (B:=Unit ⊕ (Bool × Int)) (z:=.inl ()) (fun j=>inB (gd (gd T i) j) (-100000000) 100000000) (.inr (false,3)) (by omega:(gd T i).length <= 1000) (fun j hj=>?_) ?_)
      ·rw [wBR hi2,hH,if_pos (by omega),wBR hj,hH,wES,hH]
       exact wFj rfl (by rw [wAZ (by omega) (by omega)])
      ·rw [wBR hi2,hH,if_neg (by omega)];rfl)]
     by_cases c4:wGy (wSq T) T.length 0=true
     ·rw [if_pos c4]
      rw [wKa (wFe (wSY O) (false,3) (by omega) fun i hi=>by
       rw [wBR hi,hH,wES,hH]
       exact wFj rfl rfl)]
      by_cases c5:wGy (wSY O) O.length 0=true
      ·rw [if_pos c5]
       rw [if_pos ⟨c4,c5⟩] at fe
       have sT:∀ i j,i < r.Starts.length->j < r.Splits.length + 1->-100000000 <= gd (gd T i) j/\gd (gd T i) j <= 100000000:=fun i j hi hj=>by
        have h1:=(wCu _ _ _).1 c4 i (by omega) (by omega)
        have h2:=(wCu _ _ _).1 h1 j (by omega) (by have:=L.l i hi;omega)
        simpa [inB] using h2
       have sO:∀ i,i < r.Clocks.length->-100000000 <= gd O i/\gd O i <= 100000000:=fun i hi=>by
        have h1:=(wCu _ _ _).1 c5 i (by omega) (by omega)
        simpa [wSY,inB] using h1
       have fv:∀ b:Bool,(b=true ↔ wDA r (yT T O))->some (b,(0:Int))=some (wSZ r T O,wQH r T O):=fun b hb=>by
        unfold wSZ
        rw [fe]
        congr 2
        rw [nN,hb,decide_eq_true_eq]
        exact ⟨fun h=>⟨rfl,h⟩,fun h=>h.2⟩
       rw [wKa (wFe (wSX r T) (false,0) (by omega) fun i hi=>by
        have hli:=L.l i (by omega)
        rw [wBR hi,hH,show (0:Int)=((0:Nat):Int) from rfl,wBR (by omega),hH,wBR (by omega),hH]
        unfold wSX
        by_cases c:gd (gd T i) 0=gd r.Starts i
        ·rw [if_pos c,decide_eq_true c,nJ]
         refine (wEa (B:=Unit ⊕ (Bool × Int)) (z:=.inl ()) (fun j=>inB (gd (gd T i) (j + 1) - gd (gd T i) j) (gd r.Splits j).Lo (gd r.Splits j).Hi) (.inr (false,0)) (by omega:r.Splits.length <= 1000) (fun j hj=>?_) ?_)
         ·have a1:=sT i (j + 1) (by omega) (by omega)
          have a2:=sT i j (by omega) (by omega)
          rw [if_pos (by omega),wAZ (x:=(j:Int) + 1) (by omega) (by omega),show (j:Int) + 1=((j + 1:Nat):Int) by omega,wBR (by omega),hH,wBR (by omega),hH,wBR hj,hH,wAZ (by omega) (by omega),wES,hH]
          exact wFj rfl rfl
         ·rw [if_neg (by omega)];rfl
        ·rw [if_neg c,decide_eq_false c,Bool.false_and];rfl)]
       by_cases c6:wGy (wSX r T) T.length 0=true
       ·rw [if_pos c6]
        rw [wKa (wFe (wUG r O) (false,0) (by omega) fun i hi=>by
         have ei:idx (cv r).Clocks (i:Int)=some ⟨(gd r.Clocks i).Offset,(gd r.Clocks i).Error⟩:=by
          rw [wBR (by rw [lc];omega)]
          exact congrArg some (wEr _ (by omega))
         rw [wBR hi,hH,ei,hH,wES,hH]
         exact wFj rfl rfl)]
        by_cases c7:wGy (wUG r O) O.length 0=true
        ·rw [if_pos c7]
         have last:=wEa (B:=Bool × Int) (z:=(true,0)) (fun k=>wUH r T O k) (false,0) (n:=r.Readings.length) (body:=fun x504 =>
          if x504 < (r.Readings.length:Int) then
           (idx (cv r).Readings x504).bind fun x521 =>
           (idx (cv r).Clocks x521.Clock).bind fun x542 =>
           (idx T x521.Skier).bind fun x558 =>
           (idx x558 x521.Mat).bind fun x577 =>
           (idx O x521.Clock).bind fun x584 =>
           (wAQ (w64 ((w64 (x521.Time - x577)) - x584)) (w64 (-x542.Error)) x542.Error).bind fun x598 =>
           if x598=true then
            esc (some (false,0))
           else
            some (.inl (w64 (x504 + 1)))
          else
           esc (some (true,0))) (by omega) (fun i hi=>by
          have u:=C.ru _ (wDM hi)
          have ut:=C.rt _ (wDM hi)
          have uc:=C.ck _ (wCe u.2.2.2.2.1 u.2.2.2.2.2)
          have e1:idx (cv r).Readings (i:Int)=some ⟨(gd r.Readings i).Skier,(gd r.Readings i).Mat,(gd r.Readings i).Clock,(gd r.Readings i).Time⟩:=by
           rw [wBR (by rw [lq];exact hi)]
           exact congrArg some (wEr _ hi)
          have e2:idx (cv r).Clocks (gd r.Readings i).Clock=some ⟨(gd r.Clocks (gd r.Readings i).Clock.toNat).Offset,(gd r.Clocks (gd r.Readings i).Clock.toNat).Error⟩:=by
           rw [wEC u.2.2.2.2.1 (by rw [lc];exact u.2.2.2.2.2)]
           exact congrArg some (wEr _ (by omega))
          have a1:=sT (gd r.Readings i).Skier.toNat (gd r.Readings i).Mat.toNat (by omega) (by omega)
          have a2:=sO (gd r.Readings i).Clock.toNat (by omega)
          have ll:=L.l (gd r.Readings i).Skier.toNat (by omega)
          rw [if_pos (by omega),e1,hH]
          simp only
          rw [e2,hH,wEC u.1 (by omega),hH,wEC u.2.2.1 (by omega),hH,wEC u.2.2.2.2.1 (by omega),hH]
          simp only
          rw [wAZ (x:=(gd r.Readings i).Time - gd (gd T (gd r.Readings i).Skier.toNat) (gd r.Readings i).Mat.toNat) (by omega) (by omega),wAZ (x:=_ - _) (by omega) (by omega),wAZ (x:=-_) (by omega) (by omega),wES,hH]
          exact wFj rfl (by rw [wAZ (by omega) (by omega)])) (by rw [if_neg (by omega)];rfl)
         refine last.trans ?_
         rw [c1] at c6
         rw [c2] at c7
         by_cases c8:wGy (wUH r T O) r.Readings.length 0=true
         ·rw [if_pos c8]
          exact fv true ⟨fun _=>(wHa C).2 ⟨c6,c7,c8⟩,fun _=>rfl⟩
         ·rw [if_neg c8]
          exact fv false ⟨(fun h=>by cases h),fun h=>absurd ((wHa C).1 h).2.2 c8⟩
        ·rw [if_neg c7]
         rw [c2] at c7
         exact fv false ⟨(fun h=>by cases h),fun h=>absurd ((wHa C).1 h).2.1 c7⟩
       ·rw [if_neg c6]
        rw [c1] at c6
        exact fv false ⟨(fun h=>by cases h),fun h=>absurd ((wHa C).1 h).1 c6⟩
      ·rw [if_neg c5]
       exact bad 3 (by rw [fe,if_neg (fun h=>c5 h.2)]) (by omega)
     ·rw [if_neg c4]
      exact bad 3 (by rw [fe,if_neg (fun h=>c4 h.1)]) (by omega)
    ·rw [if_neg c3]
     refine bad 2 ?_ (by omega)
     rw [fe,if_neg]
     intro L
     apply c3
     rw [wCu]
     intro i _ hi
     exact decide_eq_true (L.l i (by omega))
   ·rw [if_neg (show ¬ (O.length:Int)=(r.Clocks.length:Int) by omega)]
    exact bad 2 (by rw [fe,if_neg (fun L=>c2 L.o)]) (by omega)
  ·rw [if_neg (show ¬ (T.length:Int)=(r.Starts.length:Int) by omega)]
   exact bad 2 (by rw [fe,if_neg (fun L=>c1 L.t)]) (by omega)
 ·rw [if_neg c0]
  exact bad _ (if_neg c0) c0
end Go.Proofs.YtlnfbjphfoipaaaGreat
namespace Go.Proofs.YtlnfbjphfoipaaaGreat
open Go.KL Go.KL.Net
theorem wQL {r:wAA} (S:wDe r):wBr r=some r:=by
 have hn:=S.n;have hm:=S.m;have hc:=S.c;have hq:=S.q
 unfold wBr wBJ wAo wBM wBD
 rw [wFQ (by simp only [nA];omega),hH,hH,wFQ (by simp only [nA];omega),hH,hH,wFQ (by simp only [nA];omega),hH,hH,wFQ (by simp only [nA];omega)]
 rfl
theorem wSa (r:wAA):wBd r=some true \/ (wBd r=some false/\wDe r):=by
 unfold wBd
 by_cases c1:10 < (r.Starts.length:Int)
 ·exact .inl (if_pos c1)
 rw [if_neg c1]
 by_cases c2:9 < (r.Splits.length:Int)
 ·exact .inl (if_pos c2)
 rw [if_neg c2]
 by_cases c3:6 < (r.Clocks.length:Int)
 ·exact .inl (if_pos c3)
 rw [if_neg c3]
 by_cases c4:44 < (r.Readings.length:Int)
 ·exact .inl (by rw [decide_eq_true c4])
 ·exact .inr ⟨by rw [decide_eq_false c4],⟨by omega,by omega,by omega,by omega⟩⟩
end Go.Proofs.YtlnfbjphfoipaaaGreat
namespace Go.Proofs.YtlnfbjphfoipaaaGreat
open Go.KL Go.KL.Net Go.KL.Floyd
open Classical
theorem wPJ {r:wAA} {e:Int} (h:e ≠ 0):wBI r [] [] e e=some true:=by
 unfold wBI
 rw [if_pos rfl,if_neg h]
 rfl
theorem wQM {r:wAA} (S:wDe r) (c:code r=0) {y:Pt->Int} (F:wDA r y):wBI r (tt r y) (oo r y) 0 0=some true:=by
 have hn:=S.n;have hm:=S.m;have hc:=S.c
 have L:=(wKc (wGE c) F).2.1
 have hf:=wQJ c F
 unfold wBI
 rw [if_pos rfl,if_pos rfl,wPE S,hH,wQK S (by rw [L.t];omega) (fun l hl=>by
  obtain ⟨i,hi,rfl⟩:=wOw hl
  rw [L.t] at hi
  rw [L.l i hi];omega) (by rw [L.o];omega),hH]
 simp only
 rw [if_pos hf.1,hf.2]
theorem wLY {r:wAA} (S:wDe r):wBO r r=some true:=by
 have hn:=S.n;have hm:=S.m;have hc:=S.c;have hq:=S.q
 unfold wBO wCH wBW wBN wBG
 rw [wFc (by omega),hH,if_pos rfl,wFc (by omega),hH,if_pos rfl,wFc (by omega),hH,if_pos rfl,wFc (by omega)]
 rfl
end Go.Proofs.YtlnfbjphfoipaaaGreat
namespace Go.Proofs.YtlnfbjphfoipaaaGreat
open Go.KL Go.KL.Net
open Classical
theorem wUI {r:wAA} {y:Pt->Int} {s:wAM} (h:wGF r s=true):wCB (tt r y) s=some (y (pt s) - y zp):=by
 obtain ⟨_,s0,s1,m0,m1⟩:=wFS h
 have l1:=wMQ r y
 have l2:=wKb (r:=r) (y:=y) (s:=s.Skier.toNat) (by omega)
 unfold wCB
 rw [if_neg (by omega),if_neg (by omega),if_neg (by omega),wEC s0 (by omega),hH,if_neg (by omega),wEC m0 (by omega),hH,wQI (by omega) (by omega),nG s0,nG m0]
 rfl
end Go.Proofs.YtlnfbjphfoipaaaGreat
namespace Go.Proofs.YtlnfbjphfoipaaaGreat
open Go.KL Go.KL.Net Go.KL.Floyd
open Classical
theorem wQN {r:wAA} (S:wDe r) (a b:wAM) (most:Bool):(wFA r [a,b] ≠ 0->wDS r a b most=some ([],[],wFA r [a,b]))/\(wFA r [a,b]=0->∃ y,IsDP r (pt (if most=true then a else b)) y/\wDS r a b most=some (tt r y,oo r y,0)):=by
 unfold wDS
 obtain ⟨o,e,h0,h1⟩:=wHY S (l:=[a,b]) (by simp)
 rw [e,hH]
 simp only
 constructor
 ·intro c
  have ho:=h1 c
  subst ho
  simp only
  rw [if_neg c]
 ·intro c
  obtain ⟨d,pts,rfl,D⟩:=h0 c
  obtain ⟨C,_,hs,hy⟩:=err0 c
  simp only [nQ,nS,nR,nE] at hs
  have hp:=(wFS (r:=r) (s:=a) hs.1).1
  have hq:=(wFS (r:=r) (s:=b) hs.2).1
  simp only
  rw [if_pos c]
  cases most with
  | true =>
   obtain ⟨f,last,e1,fl,I⟩:=D.from_ hy hp
   obtain ⟨f1,f2⟩:=f
   refine ⟨_,I,?_⟩
   rw [if_pos rfl]
   unfold wCL
   rw [hH,show wAt d.number (⟨a.Skier,a.Mat⟩:wAG) 0=(pos pts (pt a):Int) from (D.pos_ok hp).2.2,e1,hH]
   simp only
   rw [hH]
   simp only
   rw [wPI D fl (y:=fun p=>gd f1 (pos pts p)) (fun _ _=>rfl) I.ok,hH]
  | false =>
   obtain ⟨f,last,e1,fl,I⟩:=D.from_ hy hq
   obtain ⟨f1,f2⟩:=f
   refine ⟨_,I,?_⟩
   rw [if_neg (by simp)]
   unfold wCL
   rw [hH,show wAt d.number (⟨b.Skier,b.Mat⟩:wAG) 0=(pos pts (pt b):Int) from (D.pos_ok hq).2.2,e1,hH]
   simp only
   rw [hH]
   simp only
   rw [wPI D fl (y:=fun p=>gd f1 (pos pts p)) (fun _ _=>rfl) I.ok,hH]
theorem wMt (p0:wAA) (p1 p2:wAM) (p3:Int) (p4:Bool) (_:-9223372036854775808 <= p3) (_:p3 <= 9223372036854775807):wBj p0 p1 p2 p3 p4=some true:=by
 unfold wBj
 rcases wSa p0 with h | ⟨h,S⟩
 ·rw [h,hH,if_pos rfl];rfl
 rw [h,hH,if_neg (by simp),wQL S,hH,wPE S,hH,hH]
 obtain ⟨z1,a1,b1⟩:=wQG S p1
 obtain ⟨z2,a2,b2⟩:=wSW S p3
 obtain ⟨z2a,z2b⟩:=z2
 obtain ⟨z3,a3,b3,g3⟩:=wUE S p1 p2
 obtain ⟨R0,R1⟩:=wQN S p1 p2 p4
 have aw:wBY=some true:=rfl
 show (wDR p0 p1).bind _=_
 rw [a1,hH]
 simp only
 rw [show (⟨(cv p0).Starts,(cv p0).Splits,(cv p0).Clocks,(cv p0).Readings⟩:wAJ)=cv p0 from rfl,show (⟨p0.Starts,p0.Splits,p0.Clocks,p0.Readings⟩:wAA)=p0 from rfl,show (⟨p1.Skier,p1.Mat⟩:wAP)=sp6 p1 from rfl,show (⟨p2.Skier,p2.Mat⟩:wAP)=sp6 p2 from rfl,b1,hH]
 simp only
 rw [if_pos trivial,if_pos trivial,a2,hH]
 simp only
 rw [b2,hH]
 simp only
 rw [if_pos trivial,if_pos trivial,a3,hH]
 simp only
 rw [b3,hH]
 simp only
 by_cases c:wFA p0 [p1,p2]=0
 ·obtain ⟨y,I,eR⟩:=R1 c
  obtain ⟨C,c0,hs,hy⟩:=err0 c
  simp only [nQ,nS,nR,nE] at hs
  have hp:=(wFS (r:=p0) (s:=p1) hs.1).1
  have hq:=(wFS (r:=p0) (s:=p2) hs.2).1
  obtain ⟨T,_,hT⟩:=wGh C
  have D1:=hT.isDP C hy hp
  have D2:=hT.isDP C hy hq
  have n1:=wGd C I.ok hp
  have n2:=wGd C I.ok hq
  rw [eR,hH]
  simp only
  rw [c,if_pos trivial,if_pos trivial,wQM S c0 I.ok,hH,if_pos rfl,if_pos rfl,wUI hs.2,hH,wUI hs.1,hH,wAZ (by omega) (by omega)]
  cases p4 with
  | true =>
   rw [if_pos rfl] at I
   rw [if_pos rfl,g3 c _ _ I D2,if_pos (by have:=I.zero;simp only;omega),wLY S,hH,if_pos rfl,aw]
   rfl
  | false =>
   rw [if_neg (by simp)] at I
   rw [if_neg (by simp),g3 c _ _ D1 I,if_pos (by have:=I.zero;simp only;omega),wLY S,hH,if_pos rfl,aw]
   rfl
 ·rw [R0 c,hH]
  simp only
  rw [if_pos trivial,if_pos trivial,wPJ c,hH,if_pos rfl,if_neg c,wLY S,hH,if_pos rfl,aw]
  rfl
end Go.Proofs.YtlnfbjphfoipaaaGreat
