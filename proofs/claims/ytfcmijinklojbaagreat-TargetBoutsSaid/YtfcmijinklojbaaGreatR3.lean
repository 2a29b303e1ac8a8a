import Derived.Test.YtfcmijinklojbaaGreatR2
set_option linter.all false
open Option renaming bind_some->hH
open Classical renaming propDecidable->nA
namespace Go.Proofs.YtfcmijinklojbaaGreat
open Go.KL
theorem wHx {n:Nat} {b:wAB} (G:GoodB n b) (hc:wFy b=0) {L:List Int} (hl:L.length <= 1000):wAX (wEK b) L=some (if wDr n L=0 then (if dnL n (dnB b) (inL L) - shL n (wDb b) (shB b) (inL L) <= 0 then (0,8) else (dnL n (dnB b) (inL L) - shL n (wDb b) (shB b) (inL L),0)) else (0,wDr n L)):=by
 have hn:=G.nb;have ns:=G.ns
 obtain ⟨⟨x,c⟩,e1,rfl,h⟩:=wNc G.nd hn hl
 unfold wAX
 rw [wDs (by omega) G.al,hc,hH,if_pos rfl,e1,hH]
 simp only at h ⊢
 by_cases c:wDr n L=0
 ·have hx:=h c
  subst hx
  have lt:=wJJ (inL L) n
  have pw:2 ^ n <= 256:=Nat.pow_le_pow_right (n:=2) (by omega) hn.2
  rw [if_pos c,if_pos c,wIb G.near (by omega),hH,wGZ,wKE,wHS (T:=inL L) fun l hl=>wGA _ n l hl,wHT (T:=inL L) fun l hl=>wGA _ n l hl]
  by_cases c2:dnL n (dnB b) (inL L) - shL n (wDb b) (shB b) (inL L) <= 0
  ·rw [if_pos c2,if_pos (by omega)]
  ·rw [if_neg c2,if_neg (by omega)]
 ·rw [if_neg c,if_neg c]
theorem wKs {n:Nat} {b:wAB} (G:GoodB n b):(∀ S:Nat->Bool,dnL n (dnB b) S <= shL n (wDb b) (shB b) S) ↔ Can n (wDb b) (shB b) (dnB b):=by
 constructor
 ·intro h
  apply Classical.byContradiction
  intro nC
  rcases wGa G with ⟨C,_⟩ | ⟨_,L,_,_,lt⟩
  ·exact nC C
  ·have:=h (inL L);omega
 ·rintro ⟨x,A⟩ S
  exact A.hall S
theorem wGK {n:Nat} {b:wAB} (G:GoodB n b) (hc:wFy b=0):(Can n (wDb b) (shB b) (dnB b)/\wAY (wEK b)=some 0) \/ (¬ Can n (wDb b) (shB b) (dnB b)/\wAY (wEK b)=some 7):=by
 have hn:=G.nb;have ns:=G.ns
 have e:=wOo G.near (-1) (-1) (by
  rw [wKE]
  rcases wGa G with ⟨⟨x,A⟩,_⟩ | ⟨_,L,_,_,lt⟩
  ·exact .inl fun S=>A.hall S
  ·exact .inr ⟨_,lt⟩)
 rw [wKE] at e
 unfold wAY
 rw [wDs (by omega) G.al,hc,hH,if_pos rfl,e,hH]
 by_cases c:Can n (wDb b) (shB b) (dnB b)
 ·rw [@decide_eq_true _ (nA _) ((wKs G).2 c),if_pos rfl]
  exact .inl ⟨c,rfl⟩
 ·rw [@decide_eq_false _ (nA _) fun q=>c ((wKs G).1 q),if_neg (by decide)]
  exact .inr ⟨c,rfl⟩
theorem wOp {b:wAB} (sl:b.Shots.length <= 1000) (dl:b.Down.length <= 1000) (al:b.Across.length <= 1000) (h:wFy b ≠ 0):wBQ b=some (none,wFy b):=by
 unfold wBQ
 rw [wHv sl dl al,hH,if_neg h]
theorem wQk {n:Nat} {t:List (List Int)} (h:¬ (t.length=n/\∀ s,s < n->(gd t s).length=n)):¬ ((t.length:Int)=(n:Int)/\t.all (fun r=>decide ((r.length:Int)=(n:Int)))=true):=fun ⟨h1,h2⟩=>by
 rw [List.all_eq_true] at h2
 refine h ⟨by omega,fun s hs=>?_⟩
 have:=of_decide_eq_true (h2 _ (wCp (show s < t.length by omega)))
 omega
theorem wQl {n:Nat} {b:wAB} (G:GoodB n b) (hc:wFy b=0) {t:List (List Int)} (tl:t.length <= 1000) (h:¬ (t.length=n/\∀ s,s < n->(gd t s).length=n)):wBc b t=some (false,2)/\wAV (wEK b) t=some (false,2):=by
 have hn:=G.nb;have ns:=G.ns
 obtain ⟨may,m,e1,_,K⟩:=wFl G
 have r:=wQk h
 have hS:(wEK b).Shots=b.Shots:=rfl
 constructor
 ·unfold wBc
  rw [e1,hH]
  simp only [if_true]
  rw [ns]
  by_cases c:(t.length:Int)=(n:Int)
  ·rw [if_pos c,wKn (f:=fun x=>wBE x (n:Int)) (p:=fun r=>decide ((r.length:Int)=(n:Int))) (fun r=>rfl) (by omega),hH,if_neg fun q=>r ⟨c,q⟩]
  ·rw [if_neg c]
 ·unfold wAV
  rw [wDs (by omega) G.al,hc,hH,if_pos rfl,hS,ns]
  by_cases c:(t.length:Int)=(n:Int)
  ·rw [if_pos c]
   have c2:¬ wKD (fun k=>decide ((gd t k).length=n)) n 0=true:=by
    rw [wCU]
    intro q
    exact h ⟨by omega,fun s hs=>of_decide_eq_true (q s (Nat.zero_le _) (by omega))⟩
   rw [wGX (n:=n) (fun k=>decide ((gd t k).length=n)) (false,(2:Int)) (by omega) fun k hk=>?_,if_neg c2]
   ·rfl
   ·rw [wAo (by omega),hH]
    by_cases c3:(gd t k).length=n
    ·rw [if_pos (by omega),decide_eq_true c3,if_pos rfl]
    ·rw [if_neg (by omega),decide_eq_false c3,if_neg (by decide)];rfl
  ·rw [if_neg c]
theorem wNe {n:Nat} {b:wAB} (G:GoodB n b) (hc:wFy b=0) {t:List (List Int)} (tl:t.length <= 1000):∃ r,wBc b t=some r/\wAV (wEK b) t=some r:=by
 by_cases h:t.length=n/\∀ s,s < n->(gd t s).length=n
 ·obtain ⟨⟨r,c⟩,e1,rfl,h1⟩:=wQg G h.1 h.2
  obtain ⟨⟨r',c'⟩,e2,rfl,h2⟩:=wKp G hc h.1 h.2
  simp only at h1 h2
  have:r=r':=by rw [Bool.eq_iff_iff,h1,h2]
  subst this
  exact ⟨_,e1,e2⟩
 ·exact ⟨_,wQl G hc tl h⟩
theorem wKt {l:List Int} (h:l.length <= 1000):wAQ l l=some true:=by
 unfold wAQ
 exact wHt (by omega)
theorem wSF {T:List (List Int)} (h:T.length <= 1000) (hl:∀ l ∈ T,l.length <= 1000):wAa T T=some true:=by
 unfold wAa
 rw [if_pos rfl,wNM (by omega) fun k hk=>by
  rw [wAo hk,hH,hH,wKt (hl _ (wCp hk)),hH,if_pos rfl]]
 rfl
theorem wNf {b:wAB} (sl:b.Shots.length <= 1000) (dl:b.Down.length <= 1000) (al:b.Across.length <= 1000):wBK b b=some true:=by
 unfold wBK
 rw [wKt sl,hH,if_pos rfl,wKt dl,hH,if_pos rfl]
 have:wAg b.Across b.Across=some true:=by
  unfold wAg
  exact wHt (by omega)
 rw [this,hH]
theorem wNg {l:List (List Int)} (h:l.length <= 1000) (hb:∀ b ∈ l,b.length <= 1000):wBC l=some l:=by
 unfold wBC
 rw [wDU (fun k=>l.take k) (s0:=[]) (by simp) (by omega) fun k hk=>?_]
 ·rw [List.take_length];rfl
 ·rw [wAo hk,hH,wIc (hb _ (wCp hk)),hH,wHO (by simp;omega),hH,wFP hk]
theorem wOq {b:wAB} (h:wAv b 8=some false):b.Shots.length <= 12/\b.Down.length <= 12/\b.Across.length <= 70:=by
 unfold wAv at h
 split at h
 ·split at h
  ·cases h
  ·split at h
   ·cases h
   ·split at h
    ·cases h
    ·injection h with h
     have:=of_decide_eq_false h
     omega
 ·split at h
  ·cases h
  ·split at h
   ·cases h
   ·injection h with h
    have:=of_decide_eq_false h
    omega
theorem wLT (b:wAB):∃ r,wAv b 8=some r:=by
 unfold wAv
 split
 ·split
  ·exact ⟨_,rfl⟩
  ·split
   ·exact ⟨_,rfl⟩
   ·split
    ·exact ⟨_,rfl⟩
    ·exact ⟨_,rfl⟩
 ·split
  ·exact ⟨_,rfl⟩
  ·split
   ·exact ⟨_,rfl⟩
   ·exact ⟨_,rfl⟩
theorem wNh (p0:wAB) (p1:List (List Int)) (p2:List Int):wBX p0 p1 p2=some true:=by
  have aw:wAc=some true:=rfl
  unfold wBX
  obtain ⟨g,eg⟩:=wLT p0
  rw [eg,hH]
  cases g with
  | true=>rw [if_pos rfl,aw];rfl
  | false =>
  rw [if_neg (by decide)]
  obtain ⟨sl,dl,al⟩:=wOq eg
  by_cases t12:12 < (p1.length:Int)
  · rw [if_pos t12,aw];rfl
  rw [if_neg t12]
  by_cases l12:12 < (p2.length:Int)
  · rw [if_pos l12,aw];rfl
  rw [if_neg l12]
  rw [wGX (n:=p1.length) (fun k=>decide ((gd p1 k).length <= 12)) true (by omega) fun k hk=>?rw1]
  case rw1 =>
    rw [wAo hk,hH]
    by_cases c:(gd p1 k).length <= 12
    · rw [if_neg (by omega),decide_eq_true c,if_pos rfl]
    · rw [if_pos (by omega),aw,hH,decide_eq_false c,if_neg (by decide)];rfl
  by_cases c:wKD (fun k=>decide ((gd p1 k).length <= 12)) p1.length 0=true
  case neg=>rw [if_neg c];rfl
  rw [if_pos c]
  simp only [wEy]
  have rows:∀ r ∈ p1,r.length <= 1000:=fun r hr=>by
    obtain ⟨i,hi,rfl⟩:=wPP hr
    have:=of_decide_eq_true ((wCU _ _ _).1 c i (Nat.zero_le _) (by omega))
    omega
  have cb:wBl p0=some p0:=by
    unfold wBl
    rw [wIc (by omega),hH,wIc (by omega),hH,wQj (by omega),hH]
  rw [cb,hH,wNg (by omega) rows,hH,wIc (by omega),hH,wQe (by omega),hH,hH]
  simp only
  have rB:(⟨(wEK p0).Shots,(wEK p0).Down,(wEK p0).Across⟩:wAE)=wEK p0:=rfl
  have pB:(⟨p0.Shots,p0.Down,p0.Across⟩:wAB)=p0:=rfl
  rw [rB,pB,wDs (by omega) (by omega),hH,wHv (by omega) (by omega) (by omega),hH,if_pos rfl]
  have fin:((wBK p0 p0).bind fun x3375 =>
                      if x3375=true then
                        (wAa p1 p1).bind fun x3408 =>
                        if x3408=true then
                          (wAQ p2 p2).bind fun x3437 =>
                          if x3437=true then
                            (wAc).bind fun x3449 =>
                            some x3449
                          else
                            some false
                        else
                          some false
                      else
                        some false)=some true:=by
    rw [wNf (by omega) (by omega) (by omega),hH,if_pos rfl,wSF (by omega) rows,hH,if_pos rfl,wKt (by omega),hH,if_pos rfl,aw]
    rfl
  by_cases hc:wFy p0=0
  case neg =>
    have ea:=wOp (b:=p0) (by omega) (by omega) (by omega) hc
    have ec:=wDs (b:=p0) (by omega) (by omega)
    have i:=wQd p0
    have f1:wBc p0 p1=some (false,wFy p0):=by
      unfold wBc
      rw [ea,hH]
      simp only
      rw [if_neg hc]
    have f2:wAV (wEK p0) p1=some (false,wFy p0):=by
      unfold wAV
      rw [ec,hH,if_neg hc]
    have f3:wBv p0 p2=some (0,wFy p0):=by
      unfold wBv
      rw [ea,hH]
      simp only
      rw [if_neg hc]
    have f4:wAX (wEK p0) p2=some (0,wFy p0):=by
      unfold wAX
      rw [ec,hH,if_neg hc]
    have f5:wBx p0=some ([],wFy p0):=by
      unfold wBx wCY
      rw [ea,hH]
      simp only
      rw [if_neg hc,hH]
      simp only
      rw [if_neg hc]
    have f6:wAY (wEK p0)=some (wFy p0):=by
      unfold wAY
      rw [ec,hH,if_neg hc]
    have f7:wBd p0=some ([],wFy p0):=by
      unfold wBd
      rw [ea,hH]
      simp only
      rw [if_neg hc]
    simp only [f1,f2,f3,f4,f5,f6,f7,hH,beq_self_eq_true,if_true,if_neg hc]
    rw [show decide (0 < (([]:List (List Int)).length:Int))=false from rfl,if_neg (by decide),if_neg (by omega)]
    simp only [List.length_nil]
    rw [if_neg (by decide)]
    exact fin
  have G:=wNZ hc (by omega)
  obtain ⟨⟨r,rc⟩,e1,e2⟩:=wNe G hc (t:=p1) (by omega)
  rw [e1,hH,e2,hH]
  simp only [beq_self_eq_true,if_true]
  rw [wNY G (by omega),hH,wHx G hc (by omega),hH]
  simp only [if_true]
  have hn:=G.nb
  generalize hN:p0.Shots.length=n at G hn
  obtain ⟨tt,cc,e8,o8⟩:=wNd G
  rw [e8,hH]
  rcases o8 with ⟨C,rfl,h,u,F,rfl⟩ | ⟨nC,rfl,rfl⟩
  · rcases wGK G hc with ⟨_,e9⟩ | ⟨nC,_⟩
    case inr=>exact absurd C nC
    rw [e9,hH]
    simp only [if_true]
    rw [hH,if_neg (by decide)]
    have tl2:(tab h n).length=n:=by unfold tab wQi;simp
    have tr2:∀ s,s < n->(gd (tab h n) s).length=n:=fun s hs=>by
      unfold tab wQi
      rw [wKA _ (by simpa using hs),List.length_take,List.length_take,List.length_drop]
      have hh:=h.h
      have:gd (List.range n) s=s:=by
        unfold gd
        rw [List.getD_eq_getElem?_getD,List.getElem?_range hs]
        rfl
      rw [this]
      omega
    have A2:Asg n (wDb p0) (shB p0) (dnB p0) (fun s l=>gd (gd (tab h n) s) l):=by
      have A:=F.asg
      refine ⟨fun s l hs hl=>?_,fun s l hs hl=>?_,fun s hs=>?_,fun l hl=>?_⟩
      · rw [wKr (by omega) hs hl];exact A.nn s l hs hl
      · rw [wKr (by omega) hs hl];exact A.pos s l hs hl
      · rw [wBb n fun l hl=>wKr (by omega) hs hl];exact A.row s hs
      · rw [wBb n fun s hs=>wKr (by omega) hs hl];exact A.col l hl
    obtain ⟨⟨g1,g2⟩,e7,rfl,h7⟩:=wKp G hc tl2 tr2
    have g1t:g1=true:=h7.2 A2
    subst g1t
    rw [e7,hH]
    simp only [if_true]
    rcases wGa G with ⟨_,e10⟩ | ⟨nC,_⟩
    · rw [e10,hH]
      simp only [if_true,List.length_nil]
      rw [if_neg (by decide)]
      exact fin
    · exact absurd C nC
  · rcases wGK G hc with ⟨C,_⟩ | ⟨_,e9⟩
    · exact absurd C nC
    rw [e9,hH]
    simp only [if_true]
    rw [if_neg (by decide),hH,show decide (0 < (([]:List (List Int)).length:Int))=false from rfl,if_neg (by decide),if_neg (by decide)]
    rcases wGa G with ⟨C,_⟩ | ⟨_,L,e10,KL,lt⟩
    · exact absurd C nC
    rw [e10,hH]
    have kl:=KL.len
    simp only [if_true]
    rw [if_neg (by decide),wHx G hc (by omega),if_pos KL.code,if_neg (show ¬ dnL n (dnB p0) (inL L) - shL n (wDb p0) (shB p0) (inL L) <= 0 by omega),hH]
    simp only [if_true]
    rw [if_neg (show ¬ dnL n (dnB p0) (inL L) - shL n (wDb p0) (shB p0) (inL L) < 1 by omega)]
    exact fin
end Go.Proofs.YtfcmijinklojbaaGreat
