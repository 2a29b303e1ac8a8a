import Derived.Test.YtabadkdjndnliaaGreatR2
set_option linter.all false
open Option renaming bind_some->hH
open List renaming replicate->nA,all_eq_true->nD,take_length->nE,length_singleton->nH
open Bool renaming false_ne_true->nB
open Int renaming mul_add->nG,le_refl->nJ
open Nat renaming le_refl->nI
namespace Go.KL
theorem wJR {S B:Type} {body:Nat->S->Option (S ⊕ B)} (q:Nat->Bool) (c:B):∀ m k (x:S),(∀ i x,k <= i->i < k + m->(q i=true/\∃ s',body i x=some (.inl s')) \/ (q i=false/\body i x=some (.inr c)))->wEC q m k=false->forN body m k x=some (.inr c)
 | 0,_,_,_,h=>by cases h
 | m + 1,k,x,h,e=>by
  rcases h k x (by omega) (by omega) with ⟨hq,s',hb⟩ | ⟨hq,hb⟩
  ·rw [wEC,hq,Bool.true_and] at e
   rw [forN,hb]
   exact wJR q c m (k + 1) s' (fun i x h1 h2=>h i x (by omega) (by omega)) e
  ·rw [forN,hb]
theorem wJS {S B:Type} {body:Nat->S->Option (S ⊕ B)} {n:Nat} {s0:S} (q:Nat->Bool) (c:B) (hn:n <= 1000) (h:∀ i x,i < n->(q i=true/\∃ s',body i x=some (.inl s')) \/ (q i=false/\body i x=some (.inr c))) (e:wEC q n 0=false):wEy 0 (n:Int) body s0=some (.inr c):=by
 rw [wDO (by omega)]
 exact wJR q c n 0 s0 (fun i x _ hi=>h i x (by omega)) e
theorem wLL (q r:Nat->Bool):∀ m k,wEC (fun i=>q i && r i) m k=(wEC q m k && wEC r m k)
 | 0,_=>rfl
 | m + 1,k=>by
  rw [wEC,wEC,wEC,wLL q r m (k + 1)]
  cases q k <;> cases r k <;> simp
theorem wHN {g:Nat->Int} {c:Int} (n:Nat) (h:∀ i,i < n->-c <= g i/\g i <= c):-c * (n:Int) <= wCN g n/\wCN g n <= c * (n:Int):=by
 induction n with
 | zero=>simp [wCN]
 | succ n ih =>
  have:=ih fun i hi=>h i (by omega)
  have:=h n (by omega)
  rw [wCN,Int.natCast_succ,nG,nG]
  omega
end Go.KL
namespace Go.Proofs.YtabadkdjndnliaaGreat
open Go.KL
open Classical
theorem mulE {E v B:Int} (h1:1 <= E) (h2:E <= 4) (h3:-B <= v) (h4:v <= B):-(4 * B) <= E * v/\E * v <= 4 * B:=by
 have:E=1 \/ E=2 \/ E=3 \/ E=4:=by omega
 rcases this with rfl | rfl | rfl | rfl <;> omega
theorem wPi {l:List Int} (hl:l.length <= 1000) (h:∀ k,k < l.length->-1000000 <= gd l k/\gd l k <= 1000000):wCG l=some (wCN (gd l) l.length):=by
 unfold wCG
 rw [wDj (S:=Int) (n:=l.length) (fun k=>wCN (gd l) k) (s0:=0) rfl (by omega) fun k hk=>?_,hH]
 have:=h k hk
 have:=wHN (g:=gd l) (c:=1000000) k fun i hi=>h i (by omega)
 rw [wAY hk,hH,wAa (by omega) (by omega)]
 rfl
noncomputable def wJX (p:wAA) (s:wAB) (u v:List Int) (i k:Nat):Bool:=decide (wGD p s i k->gd u k <= tm s i k + gd v i)
def wHT (n:Int):Bool:=inB n (-1000000) 1000000
def nnR (n:Int):Bool:=decide (0 <= n)
noncomputable def prv (p:wAA) (s:wAB) (u v:List Int):Int × Int :=
 if wEx p s=0 then
  if u.length=p.Classes.length then
   if v.length=s.Classes.length then
    if u.all wHT=true then
     if v.all wHT=true then
      if v.all nnR=true then
       if wEC (fun i=>wEC (wJX p s u v i) p.Classes.length 0) s.Classes.length 0=true then
        (wCN (gd u) p.Classes.length - p.Each * wCN (gd v) s.Classes.length,0)
       else (0,8)
      else (0,8)
     else (0,3)
    else (0,3)
   else (0,2)
  else (0,2)
 else (0,wEx p s)
section
variable {p:wAA} {s:wAB} {u v:List Int}
theorem wLM {l:List Int} (h:l.all wHT=true):∀ k,k < l.length->-1000000 <= gd l k/\gd l k <= 1000000:=fun k hk=>by
 have:=nD.1 h _ (wCh hk)
 unfold wHT inB at this
 exact of_decide_eq_true this
theorem wKQ (W:Wd p s) (hu:u.length <= 12) (hv:v.length <= 12):wCS p s u v=some (prv p s u v):=by
 unfold wCS prv
 rw [wDH W,hH]
 by_cases h0:wEx p s=0
 case neg=>rw [if_neg h0,if_neg h0]
 have S:=wFW h0
 have hE:=S.rules.each
 have hn:=S.rules.n
 have hm:=S.m
 have hT:=S.t
 rw [if_pos h0,if_pos h0]
 by_cases h1:u.length=p.Classes.length
 case neg=>rw [if_neg (by omega),if_neg h1]
 rw [if_pos (by omega),if_pos h1]
 by_cases h2:v.length=s.Classes.length
 case neg=>rw [if_neg (by omega),if_neg h2]
 rw [if_pos (by omega),if_pos h2,wFj (f:=wAZ) (p:=wHT) (fun a=>by unfold wAZ;rw [wId];rfl) (by omega),hH]
 by_cases h3:u.all wHT=true
 case neg=>rw [if_neg h3,if_neg h3]
 rw [if_pos h3,if_pos h3,wFj (f:=wAZ) (p:=wHT) (fun a=>by unfold wAZ;rw [wId];rfl) (by omega),hH]
 by_cases h4:v.all wHT=true
 case neg=>rw [if_neg h4,if_neg h4]
 rw [if_pos h4,if_pos h4,wFj (f:=wBs) (p:=nnR) (fun a=>rfl) (by omega),hH]
 by_cases h5:v.all nnR=true
 case neg=>rw [if_neg h5,if_neg h5]
 have bu:=wLM h3
 have bv:=wLM h4
 rw [if_pos h5,if_pos h5,wDt (n:=v.length) (fun i=>wEC (wJX p s u v i) p.Classes.length 0) ((0:Int),(8:Int)) (by omega) fun i hi=>?g1,h2]
 case g1 =>
  rw [wAY hi,hH,wDt (n:=u.length) (wJX p s u v i) (.inr ((0:Int),(8:Int))) (by omega) fun k hk=>?g2,h1]
  case g2 =>
   have t:=wHc S (i:=i) (k:=k) (by omega) (by omega)
   have:=bu k hk
   have:=bv i hi
   have hR:=S.row i (by omega)
   rw [wAY hk,hH,wPh S (by omega) (by omega),hH]
   by_cases m:wGD p s i k
   ·rw [if_pos (decide_eq_true m),wAY (by omega),hH,wAY (by omega),hH,wAa (by omega) (by omega)]
    have et:gd (gd s.Times i) k=tm s i k:=rfl
    rw [et]
    unfold wJX
    by_cases q:tm s i k < gd u k - gd v i
    ·rw [if_pos q,if_neg fun h=>by have:=of_decide_eq_true h m;omega]
     rfl
    ·rw [if_neg q,if_pos (decide_eq_true fun _=>by omega)]
   ·rw [if_neg (by rw [decide_eq_false m];exact nB)]
    unfold wJX
    rw [if_pos (decide_eq_true fun h=>absurd h m)]
  cases wEC (wJX p s u v i) p.Classes.length 0 <;> rfl
 by_cases h6:wEC (fun i=>wEC (wJX p s u v i) p.Classes.length 0) s.Classes.length 0=true
 case neg=>rw [if_neg h6,if_neg h6];rfl
 rw [if_pos h6,if_pos h6,wDm,wPi (by omega) bu,hH,wPi (by omega) bv,hH,h1,h2]
 have su:=wHN (g:=gd u) (c:=1000000) p.Classes.length fun i hi=>bu i (by omega)
 have sv:=wHN (g:=gd v) (c:=1000000) s.Classes.length fun i hi=>bv i (by omega)
 have me:=mulE (B:=8000000) hE.1 hE.2 (v:=wCN (gd v) s.Classes.length) (by omega) (by omega)
 rw [wAa (x:=p.Each * _) (by omega) (by omega),wAa (by omega) (by omega)]
theorem wHz (W:Wd p s) (hu:u.length <= 12) (hv:v.length <= 12):wBL (rfR p) (rfS s) u v=some (prv p s u v):=by
  have hp:(rfR p).Classes=p.Classes:=rfl
  have he:(rfR p).Each=p.Each:=rfl
  have hs:(rfS s).Classes=s.Classes:=rfl
  have ht:(rfS s).Times=s.Times:=rfl
  unfold wBL prv
  rw [wEQ W,hH,hp,hs,ht,he]
  by_cases h0:wEx p s=0
  case neg=>rw [if_neg h0,if_neg h0]
  have S:=wFW h0
  have hE:=S.rules.each
  have hn:=S.rules.n
  have hm:=S.m
  have hT:=S.t
  rw [if_pos h0,if_pos h0]
  by_cases h1:u.length=p.Classes.length
  case neg=>rw [if_neg (by omega),if_neg h1]
  rw [if_pos (by omega),if_pos h1]
  by_cases h2:v.length=s.Classes.length
  case neg=>rw [if_neg (by omega),if_neg h2]
  rw [if_pos (by omega),if_pos h2]
  have g1:∀ x c:Int,u.all wHT=false->wEy 0 (↑u.length:Int) (fun k31 (x30:Int) =>
          (idx u (↑k31:Int)).bind fun x53 =>
          (wAG x53 (-1000000) 1000000).bind fun x62 =>
          if x62=true then
            esc (some ((0:Int),c))
          else
            some (.inl (w64 (x30 + x53)))) x=some (.inr ((0:Int),c)):=fun x c h=>wJS (fun k=>wHT (gd u k)) _ (by omega) (fun k x hk=>by
      rw [wAY hk,hH,wEe,hH]
      unfold wHT
      cases inB (gd u k) (-1000000) 1000000
      · exact .inr ⟨rfl,rfl⟩
      · exact .inl ⟨rfl,_,rfl⟩) (by rw [<- wDZ wHT];exact h)
  have g2:∀ x c:Int,v.all wHT=false->wEy 0 (↑v.length:Int) (fun k105 (x104:Int) =>
          (idx v (↑k105:Int)).bind fun x127 =>
          (wAG x127 (-1000000) 1000000).bind fun x137 =>
          if x137=true then
            esc (some ((0:Int),c))
          else
            some (.inl (w64 (x104 - (w64 (p.Each * x127)))))) x=some (.inr ((0:Int),c)):=fun x c h=>wJS (fun k=>wHT (gd v k)) _ (by omega) (fun k x hk=>by
      rw [wAY hk,hH,wEe,hH]
      unfold wHT
      cases inB (gd v k) (-1000000) 1000000
      · exact .inr ⟨rfl,rfl⟩
      · exact .inl ⟨rfl,_,rfl⟩) (by rw [<- wDZ wHT];exact h)
  by_cases h3:u.all wHT=true
  case neg=>rw [if_neg h3,g1 _ _ (by cases hh:u.all wHT <;> simp_all)];rfl
  have bu:=wLM h3
  have su:∀ k,k <= u.length->-4000000 <= wCN (gd u) k/\wCN (gd u) k <= 4000000:=fun k hk=>by
    have:=wHN (g:=gd u) (c:=1000000) k fun i hi=>bu i (by omega)
    omega
  rw [if_pos h3,wGL (S:=Int) (B:=Int × Int) (n:=u.length) (fun k=>wCN (gd u) k) (s0:=0) rfl (by omega) fun k hk=>?g3,wDm]
  case g3 =>
    have:=su k (by omega)
    have b:=bu k hk
    rw [wAY hk,hH,wEe,hH,wGM b.1 b.2,if_neg (by simp),wAa (by omega) (by omega)]
    rfl
  by_cases h4:v.all wHT=true
  case neg=>rw [if_neg h4,g2 _ _ (by cases hh:v.all wHT <;> simp_all)];rfl
  have bv:=wLM h4
  have sv:∀ k,k <= v.length->-32000000 <= p.Each * wCN (gd v) k/\p.Each * wCN (gd v) k <= 32000000:=fun k hk=>by
    have:=wHN (g:=gd v) (c:=1000000) k fun i hi=>bv i (by omega)
    have:=mulE (B:=8000000) hE.1 hE.2 (v:=wCN (gd v) k) (by omega) (by omega)
    omega
  rw [if_pos h4,wGL (S:=Int) (B:=Int × Int) (n:=v.length) (fun k=>wCN (gd u) u.length - p.Each * wCN (gd v) k) (s0:=wCN (gd u) u.length) (by simp [wCN]) (by omega) fun k hk=>?g4,wDm]
  case g4 =>
    have:=su u.length (nI _)
    have a:=sv k (by omega)
    have b:=bv k hk
    have me:=mulE (B:=1000000) hE.1 hE.2 b.1 b.2
    rw [wAY hk,hH,wEe,hH,wGM b.1 b.2,if_neg (by simp),wAa (x:=p.Each * gd v k) (by omega) (by omega),wAa (by omega) (by omega)]
    simp only [wCN,nG]
    congr 2
    omega
  have e8:(if v.all nnR=true then
              if wEC (fun i=>wEC (wJX p s u v i) p.Classes.length 0) s.Classes.length 0=true then
                (wCN (gd u) p.Classes.length - p.Each * wCN (gd v) s.Classes.length,0)
              else (0,8)
            else ((0:Int),(8:Int)))=if wEC (fun i=>nnR (gd v i) && wEC (wJX p s u v i) p.Classes.length 0) v.length 0=true then (wCN (gd u) u.length - p.Each * wCN (gd v) v.length,0) else (0,8):=by
    rw [wDZ nnR,wLL,h1,h2]
    cases wEC (fun k=>nnR (gd v k)) s.Classes.length 0 <;> simp
  rw [e8,wDt (n:=v.length) (fun i=>nnR (gd v i) && wEC (wJX p s u v i) p.Classes.length 0) ((0:Int),(8:Int)) (by omega) fun i hi=>?g5]
  case g5 =>
    have b:=bv i hi
    rw [wAY hi,hH]
    unfold nnR
    by_cases q:gd v i < 0
    · rw [if_pos q,decide_eq_false (by omega)];rfl
    · rw [if_neg q,decide_eq_true (by omega),wDt (n:=u.length) (wJX p s u v i) (.inr ((0:Int),(8:Int))) (by omega) fun k hk=>?g6,h1]
      · cases wEC (wJX p s u v i) p.Classes.length 0 <;> rfl
      case g6 =>
        have t:=wHc S (i:=i) (k:=k) (by omega) (by omega)
        have:=bu k hk
        have hR:=S.row i (by omega)
        rw [wAY (by omega),hH,wAY (by omega),hH]
        by_cases m:wGD p s i k
        · have m':=m
          unfold wGD at m'
          have et:gd (gd s.Times i) k=tm s i k:=rfl
          rw [if_pos m',wAY hk,hH,wAY (by omega),hH,wAY (by omega),hH,et,wAa (by omega) (by omega)]
          unfold wJX
          by_cases q:tm s i k + gd v i < gd u k
          · rw [if_pos q,if_neg fun h=>by have:=of_decide_eq_true h m;omega]
            rfl
          · rw [if_neg q,if_pos (decide_eq_true fun _=>by omega)]
        · have m':=m
          unfold wGD at m'
          rw [if_neg m']
          unfold wJX
          rw [if_pos (decide_eq_true fun h=>absurd h m)]
  by_cases h6:wEC (fun i=>nnR (gd v i) && wEC (wJX p s u v i) p.Classes.length 0) v.length 0=true
  · rw [if_pos h6,if_pos h6];rfl
  · rw [if_neg h6,if_neg h6];rfl
end
end Go.Proofs.YtabadkdjndnliaaGreat
namespace Go.Proofs.YtabadkdjndnliaaGreat
open Go.KL
open Classical
section
variable {p:wAA} {s:wAB} {o:List Int} {x:Int} {L K:Nat->Int}
theorem wQy (k:Nat):vl s o k=wCN (fun k=>tm s (who o k) k) k:=by
 induction k with
 | zero=>rfl
 | succ k ih=>rw [vl,wCN,ih];rfl
theorem wLN {f:Nat->Int} (E:Int):∀ n,wCN (fun i=>E * f i) n=E * wCN f n
 | 0=>by simp [wCN]
 | n + 1=>by rw [wCN,wCN,wLN E n,nG]
theorem wIA (i:Nat) (v:Int):∀ j,j <= o.length->wCN (fun k=>if gd o k=(i:Int) then v else 0) j=((o.take j).count (i:Int):Int) * v
 | 0,_=>by simp [wCN]
 | j + 1,hj=>by
  rw [wCN,wIA i v j (by omega),wEw (by omega),List.count_append]
  by_cases e:gd o j=(i:Int)
  ·rw [if_pos e,e,List.count_cons_self,List.count_nil,Int.natCast_add,Int.add_mul]
   simp
  ·rw [if_neg e,List.count_cons_of_ne e,List.count_nil]
   simp
theorem wSU (A:Adm p s (-1) o) {v:Nat->Int} (hc:∀ i,i < s.Classes.length->v i=0 \/ (o.count (i:Int):Int)=p.Each):wCN (fun k=>v (who o k)) p.Classes.length=p.Each * wCN v s.Classes.length:=by
 have e1:wCN (fun k=>v (who o k)) p.Classes.length=wCN (fun k=>wCN (fun i=>if gd o k=(i:Int) then v i else 0) s.Classes.length) p.Classes.length:=wDI _ fun k hk=>by
  have w:=wFY A hk
  rw [<- wIg (k:=who o k) (v:=v (who o k)) w.1]
  refine wDI _ fun i hi=>?_
  by_cases e:i=who o k
  ·rw [if_pos e,if_pos (by rw [w.2,e]),e]
  ·rw [if_neg e,if_neg (by rw [w.2];omega)]
 rw [e1,wJQ,<- wLN]
 refine wDI _ fun i hi=>?_
 show wCN (fun k=>if gd o k=(i:Int) then v i else 0) _=_
 rw [wIA i (v i) _ (by rw [A.len];exact nI _),<- A.len,nE]
 rcases hc i hi with h | h
 ·rw [h];simp
 ·rw [h]
theorem wSV (S:wFZ p s) (A:Adm p s (-1) o) (v:Int):(o.count v:Int) <= p.Each:=by
 have:=S.rules.each
 have:=wFX (l:=o) (E:=p.Each) (by omega) (fun k hk=>(A.ok k (by rw [<- A.len];exact hk)).2) o.length (nI _) v
 rwa [nE] at this
theorem wSW (S:wFZ p s) (A:Adm p s (-1) o) (P:Pot p s o x L K) (h0:wEx p s=0) {u v:List Int} (hu:u.length=p.Classes.length) (hv:v.length=s.Classes.length) (gu:∀ k,k < p.Classes.length->gd u k=x - L k) (gv:∀ i,i < s.Classes.length->gd v i=max 0 (x - K i)):prv p s u v=(vl s o p.Classes.length,0):=by
 have xb:=P.bf
 have a1:u.all wHT=true:=nD.2 fun a ha=>by
  obtain ⟨k,hk,rfl⟩:=memQ ha
  have:=gu k (by omega)
  have:=P.bl k (by omega)
  exact wGM (by omega) (by omega)
 have a2:v.all wHT=true:=nD.2 fun a ha=>by
  obtain ⟨k,hk,rfl⟩:=memQ ha
  have:=gv k (by omega)
  have:=P.bk k (by omega)
  exact wGM (by omega) (by omega)
 have a3:v.all nnR=true:=nD.2 fun a ha=>by
  obtain ⟨k,hk,rfl⟩:=memQ ha
  have:=gv k (by omega)
  exact decide_eq_true (by omega)
 have a4:wEC (fun i=>wEC (wJX p s u v i) p.Classes.length 0) s.Classes.length 0=true:=(wFU _ _ _).2 fun i _ hi=>(wFU _ _ _).2 fun k _ hk=>decide_eq_true fun m=>by
  have:=P.may i k (by omega) (by omega) m
  have:=gu k (by omega)
  have:=gv i (by omega)
  omega
 unfold prv
 rw [if_pos h0,if_pos hu,if_pos hv,if_pos a1,if_pos a2,if_pos a3,if_pos a4,wQy]
 have d:=wSU A (v:=gd v) fun i hi=>by
  have:=gv i hi
  by_cases c:(o.count (i:Int):Int) < p.Each
  ·have:=P.spare i hi c
   left;omega
  ·have:=wSV S A (i:Int)
   right;omega
 have e:wCN (gd u) p.Classes.length=wCN (fun k=>gd v (who o k) + tm s (who o k) k) p.Classes.length:=wDI _ fun k hk=>by
  have w:=wFY A hk
  have h1:=gu k hk
  have h2:=gv (who o k) w.1
  have h3:=P.may (who o k) k w.1 hk (A.ok k hk).1
  have h4:=P.hold k hk
  have h5:=P.used (who o k) w.1 (List.count_pos_iff.2 (by rw [<- w.2];exact wCh (by rw [A.len];exact hk)))
  omega
 rw [e,wGN,d]
 congr 1
 omega
theorem wLO {n:Nat} (hn:n <= 1000) (f:Nat->Int) {body:Nat->List Int->Option (List Int)} (h:∀ k l,k < n->l.length=k->body k l=some (l ++ [f k])):∃ u,wCy 0 (n:Int) body []=some u/\u.length=n/\∀ k,k < n->gd u k=f k:=by
 obtain ⟨u,e,hl,hg⟩:=wEX (body:=body) (n:=n) (s0:=[]) (fun k u=>u.length=k/\∀ j,j < k->gd u j=f j) hn ⟨rfl,fun j hj=>by omega⟩ (fun k u hk ⟨h1,h2⟩=>by
  refine ⟨_,h k u hk h1,by rw [List.length_append,h1];rfl,fun j hj=>?_⟩
  by_cases e:j < k
  ·rw [wIc (by omega)];exact h2 j e
  ·have:j=u.length:=by omega
   rw [this,wFS,h1])
 exact ⟨u,e,hl,hg⟩
theorem wPB (W:Wd p s):∃ r,wBw p s=some r/\wBq (rfR p) (rfS s)=some r/\r.1.length <= 12/\(r.2.2 ≠ 0->wBm p s=some ([],[],r.2.2))/\(r.2.2=0->∃ u v,wBm p s=some (u,v,0)/\u.length <= 12/\v.length <= 12/\prv p s u v=(r.2.1,0)):=by
 unfold wBq
 rw [wEQ W,hH]
 by_cases h0:wEx p s=0
 case neg =>
  have eb:wBw p s=some ([],0,wEx p s):=by
   unfold wBw
   rw [wDH W,hH,if_neg h0]
  refine ⟨_,eb,by rw [if_neg h0],by simp,fun _=>?_,fun h=>absurd h h0⟩
  unfold wBm
  rw [eb,hH]
  simp only [if_neg h0]
 have S:=wFW h0
 have hm:=S.m
 have hn:=S.rules.n
 obtain ⟨a,b,ea,eb,R⟩:=wHM S (-1)
 obtain ⟨st,es,B⟩:=wKO S (-1)
 rw [eb] at es
 obtain rfl:=Option.some.inj es
 rw [if_pos h0,ea,hH]
 have eB:wBw p s=some (if b.1=[] then ([],0,6) else (b.1,b.2,0)):=by
  unfold wBw
  rw [wDH W,hH,if_pos h0,eb,hH]
  by_cases c:b.1=[]
  ·simp only [if_pos c]
  ·simp only [if_neg c]
 rcases R with ⟨y1,y2,rfl⟩ | ⟨y1,y2,rfl⟩
 ·refine ⟨([],0,6),eB,by simp only;rw [if_pos (by omega)],by simp,fun _=>?_,fun h=>by cases h⟩
  unfold wBm
  rw [eB,hH]
  rfl
 ·rw [if_neg y1] at eB
  obtain ⟨A,ev,best⟩:=B.some_ y1
  refine ⟨(b.1,b.2,0),eB,by simp only;rw [if_neg (by omega)],by show b.1.length <= 12;rw [A.len];omega,fun h=>absurd rfl h,fun _=>?_⟩
  rw [ev] at best
  obtain ⟨f,L,K,P⟩:=wSS S A best
  obtain ⟨y,ec,hy⟩:=wOI (o:=b.1) (by rw [A.len];omega) (fun k hk=>by have:=(A.rg k (by rw [<- A.len];exact hk)).1;omega)
  have em:∀ n:Nat,n <= 8->mkz 8 (n:Int) (0:Int)=some (nA n 0):=fun n hn=>by
   unfold mkz
   rw [if_pos ⟨by omega,by omega,by omega⟩,Int.toNat_natCast]
  have gz:∀ (n k:Nat),k < n->gd (nA n (0:Int)) k=0:=fun n k hk=>by
   rw [wNw (by rw [List.length_replicate];exact hk)]
   simp
  have G0:Ge p s f L K 0 (nA p.Classes.length 0) (nA s.Classes.length 0):=by
   refine ⟨by simp,by simp,⟨P.bf.2,nJ _⟩,fun j hj=>?_,fun i hi=>?_⟩
   ·rw [gz _ _ hj];exact ⟨(P.bl j hj).2,nJ _⟩
   ·rw [gz _ _ hi];exact ⟨(P.bk i hi).2,nJ _⟩
  have t0:tot p s 0 (nA p.Classes.length 0) (nA s.Classes.length 0)=0:=by
   unfold tot
   rw [wER _ fun i hi=>gz _ _ hi,wER _ fun i hi=>gz _ _ hi]
   rfl
  obtain ⟨x,l,r,ei,hl,hr,P'⟩:=rounds S A P hy G0 t0
  have xb:=P'.bf
  obtain ⟨u,eu,hu,gu⟩:=wLO (n:=l.length) (by omega) (fun k=>x - gd l k) (body:=fun k838 l834 =>
   (chk (↑k838:Int) l.length).bind fun _ =>
   (app 8 l834 [w64 (x - (gd l k838))]).bind fun x874 =>
   some x874) (fun k q hk hq=>by
    have:=P'.bl k (by omega)
    rw [wCu (by omega) (by omega),hH,wFs (by rw [nH];omega),wAa (by omega) (by omega)]
    rfl)
  obtain ⟨v,ew,hv,gv⟩:=wLO (n:=r.length) (by omega) (fun k=>max 0 (x - gd r k)) (body:=fun k921 l917 =>
   (chk (↑k921:Int) r.length).bind fun _ =>
   (app 8 l917 [max 0 (w64 (x - (gd r k921)))]).bind fun x956 =>
   some x956) (fun k q hk hq=>by
    have:=P'.bk k (by omega)
    rw [wCu (by omega) (by omega),hH,wFs (by rw [nH];omega),wAa (by omega) (by omega)]
    rfl)
  refine ⟨u,v,?_,by omega,by omega,?_⟩
  ·unfold wBm
   rw [eB,hH]
   simp only [if_true]
   rw [ec,hH,em _ (by omega),hH,em _ (by omega),hH,hH]
   simp only
   unfold wLK skB wRN at ei
   rw [ei,hH]
   simp only
   rw [eu,hH,ew,hH]
  ·simp only
   rw [ev]
   exact wSW S A P' h0 (by omega) (by omega) (fun k hk=>gu k (by omega)) (fun i hi=>gv i (by omega))
end
end Go.Proofs.YtabadkdjndnliaaGreat
namespace Go.Proofs.YtabadkdjndnliaaGreat
open Go.KL
open Classical
theorem wHO {l:List Int} (h:l.length <= 1000):wAO l=some l:=by
 unfold wAO
 rw [wFs (by simp only [List.length_nil];omega)];rfl
theorem wES {l:List Int} (h:l.length <= 1000):wAJ l l=some true:=by
 unfold wAJ
 exact wLp (by omega)
theorem wHP {T:List (List Int)} (h:T.length <= 1000) (hl:∀ l ∈ T,l.length <= 1000):wBC T=some T:=by
 unfold wBC
 rw [wDj (n:=T.length) (s0:=[]) (fun k=>T.take k) (by simp) (by omega) (fun i hi=>by
  rw [wAY hi,hH,wHO (hl _ (wCh hi)),hH,wFs (by simp only [List.length_take,List.length_cons,List.length_nil];omega),hH,wEw hi]),hH,nE]
theorem wKR {T:List (List Int)} (h:T.length <= 1000) (hl:∀ l ∈ T,l.length <= 1000):wBE T T=some true:=by
 unfold wBE
 rw [if_pos rfl,wNt (by omega) fun k hk=>by
  rw [wAY hk,hH,hH,wES (hl _ (wCh hk)),hH,if_pos rfl]]
 rfl
theorem wQz (p:wAA) (s:wAB):wBZ p s=some true \/ (wBZ p s=some false/\Wd p s):=by
 unfold wBZ
 by_cases h1:6 < (p.Classes.length:Int)
 ·exact .inl (if_pos h1)
 rw [if_neg h1]
 by_cases h2:10 < (s.Classes.length:Int)
 ·exact .inl (if_pos h2)
 rw [if_neg h2]
 by_cases h3:10 < (s.Times.length:Int)
 ·exact .inl (if_pos h3)
 rw [if_neg h3,wDt (n:=s.Times.length) (fun k=>decide (¬ 6 < ((gd s.Times k).length:Int))) true (by omega) fun k hk=>?_]
 ·by_cases h4:wEC (fun k=>decide (¬ 6 < ((gd s.Times k).length:Int))) s.Times.length 0=true
  ·rw [if_pos h4]
   refine .inr ⟨rfl,by omega,by omega,by omega,fun l hl=>?_⟩
   obtain ⟨k,hk,rfl⟩:=memQ hl
   have:=of_decide_eq_true ((wFU _ _ _).1 h4 k (by omega) (by omega))
   omega
  ·rw [if_neg h4]
   exact .inl rfl
 ·rw [wAY hk,hH]
  by_cases c:6 < ((gd s.Times k).length:Int)
  ·rw [if_pos c,if_neg (by rw [decide_eq_true_eq];exact fun h=>h c)];rfl
  ·rw [if_neg c,if_pos (decide_eq_true c)]
theorem wLt (p0:wAA) (p1:wAB) (p2 p3 p4:List Int) (p5:Int) (_:-9223372036854775808 <= p5) (_:p5 <= 9223372036854775807):wBY p0 p1 p2 p3 p4 p5=some true:=by
 have aw:wAi=some true:=rfl
 unfold wBY
 rcases wQz p0 p1 with h | ⟨h,W⟩
 ·rw [h,hH,if_pos rfl];rfl
 rw [h,hH,if_neg nB]
 by_cases h2:12 < (p2.length:Int)
 ·rw [if_pos h2];rfl
 rw [if_neg h2]
 by_cases h3:12 < (p3.length:Int)
 ·rw [if_pos h3];rfl
 rw [if_neg h3]
 by_cases h4:12 < (p4.length:Int)
 ·rw [if_pos h4];rfl
 rw [if_neg h4]
 have wa:=W.a
 have wb:=W.b
 have wc:=W.c
 have wd:∀ l ∈ p1.Times,l.length <= 1000:=fun l hl=>by have:=W.d l hl;omega
 have c0:wAf p0=some p0:=by
  unfold wAf
  rw [wHO (by omega)];rfl
 have c1:wAg p1=some p1:=by
  unfold wAg
  rw [wHO (by omega),hH,wHP (by omega) wd];rfl
 have c2:wBi p1=some (rfS p1):=by
  unfold wBi
  first
   | rfl
   | (rw [c1];rfl)
   | (rw [wHO (by omega),hH,wHP (by omega) wd];rfl)
 rw [c0,hH,c1,hH,wHO (by omega),hH,wHO (by omega),hH,wHO (by omega),hH,hH]
 simp only
 rw [hH,c2,hH,hH]
 simp only
 have e0:(⟨p0.Classes,p0.Each,p0.Laps,p0.Spare,p0.Loop,p0.Unused⟩:wAA)=p0:=rfl
 have e1:(⟨p1.Classes,p1.Times⟩:wAB)=p1:=rfl
 have e2:(⟨p0.Classes,p0.Each,p0.Laps,p0.Spare,p0.Loop,p0.Unused⟩:wAD)=rfR p0:=rfl
 have e3:(⟨(rfS p1).Classes,(rfS p1).Times⟩:wAC)=rfS p1:=rfl
 obtain ⟨r2,t1,t2⟩:=wLs W (o:=p2) (by omega)
 obtain ⟨rl,l1,l2⟩:=wOK W p5
 obtain ⟨rb,b1,b2,bl,bn,by_⟩:=wPB W
 have s1:wAn p0 p0=some true:=by
  unfold wAn
  rw [wES (by omega),hH,if_pos rfl,if_pos rfl,if_pos rfl,if_pos rfl,if_pos rfl,decide_eq_true rfl]
 have s2:wAo p1 p1=some true:=by
  unfold wAo
  rw [wES (by omega),hH,if_pos rfl,wKR (by omega) wd];rfl
 rw [e0,e1,e2,e3,wDH W,hH,wEQ W,hH,if_pos rfl,t1,hH,t2,hH,if_pos rfl,if_pos rfl,wKQ W (by omega) (by omega),hH,wHz W (by omega) (by omega),hH,if_pos rfl,if_pos rfl,l1,hH,l2,hH,if_pos rfl,if_pos rfl,b1,hH,b2,hH]
 by_cases z:rb.2.2=0
 ·obtain ⟨u,v,ep,hu,hv,pr⟩:=by_ z
  rw [ep,hH]
  dsimp only
  rw [if_pos rfl,if_pos z.symm,if_pos rfl,wES (by omega),hH,if_pos rfl,if_pos z,hH,if_neg nB,if_pos z,wHz W (by omega) (by omega),hH,pr]
  dsimp only
  rw [if_pos rfl,if_pos rfl,s1,hH,if_pos rfl,s2,hH,if_pos rfl,wES (by omega),hH,if_pos rfl,wES (by omega),hH,if_pos rfl,wES (by omega),hH,if_pos rfl]
  rfl
 ·rw [bn z,hH]
  dsimp only
  rw [if_pos rfl,if_pos rfl,if_pos rfl,wES (by omega),hH,if_pos rfl,if_neg z]
  have:decide (0 < w64 (((([]:List Int).length:Nat):Int) + ((([]:List Int).length:Nat):Int)))=false:=by decide
  rw [this,hH,if_neg nB,if_neg z,s1,hH,if_pos rfl,s2,hH,if_pos rfl,wES (by omega),hH,if_pos rfl,wES (by omega),hH,if_pos rfl,wES (by omega),hH,if_pos rfl]
  rfl
end Go.Proofs.YtabadkdjndnliaaGreat
