import Derived.Test.YtkghaiefcjgfkaaGreatQ5
set_option linter.all false
open List renaming flatMap->hD
open Go.Value renaming bool->hJ
open Option.some renaming inj->nA
open Bool renaming eq_false_iff->nB
open Prod.mk renaming injEq->nD
open Nat renaming blt->nE,le_of_ble_eq_true->nG
namespace Go.Proofs.YtkghaiefcjgfkaaGreat
open Go.KL
def gAa:Sch:=.fl 1 (.fl 2 .nil)
def gAb:Sch:=.fl 2 (.fl 3 .nil)
def gAc:Sch:=.fl 3 (.fl 4 .nil)
def gAd:Sch:=.fl 4 (.fl 5 .nil)
def gAe:Sch:=.fl 7 (.fl 8 .nil)
def gAf:Sch:=.fl 14 (.fl 15 .nil)
def gAg:Sch:=.fl 15 (.fl 16 .nil)
def gAh:Sch:=.fx 1 (.fl 2 .nil) .stop
def gAi:Sch:=.fx 2 (.fx 3 .nil .stop) .stop
def gAj:Sch:=.fx 3 (.fl 4 .nil) .stop
def gAk:Sch:=.fx 17 (.fl 18 .nil) .stop
def gAl:Sch:=.fx 0 (.fl 1 .nil) .stop
def gAm:Sch:=.fx 4 (.fx 5 .nil .stop) .stop
def gAn:Sch:=.fl 10 (.fx 12 .nil .stop)
def gAo:Sch:=.fx 6 gAe .stop
def gAp:Sch:=.fx 1 gAb .stop
def gAq:Sch:=.fx 10 (.fl 11 (.fx 12 .nil .stop)) .stop
def gAr:Sch:=.fl 0 gAh
def gAs:Sch:=.fx 15 gAk .stop
def gAt:Sch:=.fx 15 (.fl 16 (.fx 18 .nil .stop)) .stop
def gAu:Sch:=.fx 3 gAd .stop
def gAv:Sch:=.fx 0 gAh .stop
def gAw:Sch:=.fx 13 gAf .stop
def gAx:Sch:=.fx 14 gAg .stop
def gAy:Sch:=.fl 10 (.fx 11 (.fx 12 .nil .stop) .stop)
def gAz:Sch:=.fx 6 gAn .stop
def gBa:Sch:=.fx 10 (.fl 11 (.fl 12 .nil)) .stop
def gBb:Sch:=.fl 0 (.fl 1 (.fx 2 (.fl 3 .nil) .stop))
def gBc:Sch:=.fl 0 (.fl 1 gAi)
def gBd:Sch:=.fx 14 gAs .stop
def gBe:Sch:=.fx 10 gAt .stop
def gBf:Sch:=.fx 0 (.fx 1 gAi .stop) .stop
def gBg:Sch:=.fx 0 gAp .stop
def gBh:Sch:=.fx 8 (.fl 9 gAn) .stop
def gBi:Sch:=.fl 0 (.fl 1 (.fx 2 gAj .stop))
def gBj:Sch:=.fx 13 gBd .stop
def gBk:Sch:=.fl 0 (.fl 1 (.fx 2 gAc .stop))
def gBl:Sch:=.fx 12 gBj .stop
def gBm:Sch:=.fx 9 gBj .stop
def gBn:Sch:=.fx 4 (.fl 16 gBj) .stop
def gBo:Sch:=.fx 3 gBn .stop
def gBp:Sch:=.fx 4 (.fl 16 gBl) (.fx 12 gBn .stop)
def gBq:Sch:=.fx 4 (.fl 16 gBm) (.fx 9 gBn .stop)
set_option maxHeartbeats 4000000
theorem Z {α:Type} {a:α}:a=a:=rfl
section
variable {r:Option Nat} {N:Nat} {P:Program} {l:List Oper} {Q:wEU} {D:List Deferred} {ks:List Nat} {σ:Env} {w:World} {i d j e:Nat} {s:Sch} {o:Oper} {b:Bool} {x:Operand} {v:Value} {p:Prop} {inst:Decidable p} {K:List Deferred->Env->World->Prop} {c1 c2:Code}
abbrev jV (n:Int):Value:=.int .i64 n
abbrev SW (w:World) (X:List Res) (U U':PHeap) (L:List Res) (w':World):Prop:=St ⟨w,X,U⟩ U' L w'
abbrev sW (w:World) (U U':PHeap) (L:List Res) (w':World):Prop:=St ⟨w,[],U⟩ U' L w'
abbrev St0 (w:World) (U:PHeap) (L:List Res):Prop:=St ⟨w,L,U⟩ U L w
theorem ifc {α:Type} {G p:Prop} {inst:Decidable p} {a b r:α} (h:@ite α p inst a b=r) (h1:Hid p->a=r->G) (h2:Hid (¬ p)->b=r->G):G:=by
 by_cases c:p
 rw [if_pos c] at h;exact h1 ⟨c⟩ h
 rw [if_neg c] at h;exact h2 ⟨c⟩ h
theorem bnK {α β:Type} {G:Prop} {o:Option α} {f:α->Option β} {r:β} (h:o.bind f=some r) (k:∀ x,o=some x->f x=some r->G):G:=by
 obtain ⟨x,h1,h2⟩:=bnd h
 exact k x h1 h2
theorem oR (h:(l[i]?,o.dst,nE d N,wanted l σ o)=(some o,some d,true,true)) (hr:∀ {w'},Runs P σ w' o v w') (k:OKS N P l Q D ks s (upd σ d v) w):OKS N P l Q D ks (.fl i s) σ w:=by
 simp only [nD] at h;exact OKS.r h.1 h.2.1 h.2.2.1 h.2.2.2 (fun _=>hr) k
theorem oL (h:(l[i]?,o.dst,nE d N,wanted l σ o,wNa (kOf ks i))=(some o,some d,true,true,false)) (hr:wGA P σ w o v) (k:OKS N P l Q D ks s (upd σ d v) w):OKS N P l Q D ks (.fl i s) σ w:=by
 simp only [nD] at h;exact OKS.m h.1 h.2.1 h.2.2.1 h.2.2.2.1 hr h.2.2.2.2 k
theorem oM (h:(l[i]?,o.dst,nE d N,wanted l σ o,o.op)=(some o,some d,true,true,.move x)) (hx:ev σ x=v) (k:OKS N P l Q D ks s (upd σ d v) w):OKS N P l Q D ks (.fl i s) σ w:=by
 simp only [nD] at h;exact OKS.rm h.1 h.2.1 h.2.2.1 h.2.2.2.1 h.2.2.2.2 hx k
theorem oA (h:(l[i]?,o.dst,nE d N,wanted l σ o,o.op)=(some o,some d,true,true,.assign x)) (hx:ev σ x=v) (k:OKS N P l Q D ks s (upd σ d v) w):OKS N P l Q D ks (.fl i s) σ w:=by
 simp only [nD] at h;exact OKS.ra h.1 h.2.1 h.2.2.1 h.2.2.2.1 h.2.2.2.2 hx k
theorem oF (h:(l[i]?,o.dst,nE d N,o.guard,(l[j]?).bind (·.dst),σ e,false == b)=(some o,some d,true,some (j,b),some e,.bool (decide p),false)) (c:Hid (¬ p)) (k:OKS N P l Q D ks s (upd σ d undef) w):OKS N P l Q D ks (.fl i s) σ w:=by
 simp only [nD] at h;exact OKS.p h.1 h.2.1 h.2.2.1 (wGq h.2.2.2.1 h.2.2.2.2.1 (h.2.2.2.2.2.1.trans (wNY c.out)) h.2.2.2.2.2.2) k
theorem oT (h:(l[i]?,o.dst,nE d N,o.guard,(l[j]?).bind (·.dst),σ e,true == b)=(some o,some d,true,some (j,b),some e,.bool (decide p),false)) (c:Hid p) (k:OKS N P l Q D ks s (upd σ d undef) w):OKS N P l Q D ks (.fl i s) σ w:=by
 simp only [nD] at h;exact OKS.p h.1 h.2.1 h.2.2.1 (wGq h.2.2.2.1 h.2.2.2.2.1 (h.2.2.2.2.2.1.trans (wNX c.out)) h.2.2.2.2.2.2) k
theorem oN {b2:Bool} (h:(l[i]?,o.dst,nE d N,o.guard,(l[j]?).bind (·.dst),σ e,b2 == b)=(some o,some d,true,some (j,b),some e,.bool b2,false)) (k:OKS N P l Q D ks s (upd σ d undef) w):OKS N P l Q D ks (.fl i s) σ w:=by
 simp only [nD] at h;exact OKS.p h.1 h.2.1 h.2.2.1 (wGq h.2.2.2.1 h.2.2.2.2.1 h.2.2.2.2.2.1 h.2.2.2.2.2.2) k
theorem nC {a b:Bool} (h:a=b):hJ (!a)=hJ (!b):=h ▸ rfl
theorem nF {a:Bool} (h:¬ a=true):hJ (!a)=hJ (!false):=nC (nB.2 h)
theorem wT (h:(o.guard,(l[j]?).bind (·.dst),σ e)=(some (j,true),some e,.bool (decide p))) (c:Hid p):wanted l σ o=true:=by
 simp only [nD] at h;exact wHw h.1 h.2.1 (h.2.2.trans (wNX c.out))
theorem wF (h:(o.guard,(l[j]?).bind (·.dst),σ e)=(some (j,false),some e,.bool (decide p))) (c:Hid (¬ p)):wanted l σ o=true:=by
 simp only [nD] at h;exact wHw h.1 h.2.1 (h.2.2.trans (wNY c.out))
theorem rU (h:(l[i]?,o.dst,nE d N)=(some o,some d,true)) (hw:wanted l σ o=true) (hr:∀ {w'},Runs P σ w' o v w') (k:OKS N P l Q D ks s (upd σ d v) w):OKS N P l Q D ks (.fl i s) σ w:=by
 simp only [nD] at h;exact OKS.r h.1 h.2.1 h.2.2 hw (fun _=>hr) k
theorem sR {id:Nat} (s:Sch) (hs:inOrder 0 s l.length=true) (h:OKS N P l (wFv (fun D σ w=>CK r N P c2 Q D σ w) Q) D [] s σ w):CK r N P (.seq (.region id l.toArray false) c2) Q D σ w:=CK.seq (CK.reg s hs h)
theorem rR {id:Nat} (s:Sch) (hs:inOrder 0 s l.length=true) (h:OKS N P l Q D [] s σ w):CK r N P (.region id l.toArray false) Q D σ w:=CK.reg s hs h
theorem eN (h:K D σ w):OKS N P l (wFv K Q) D ks .nil σ w:=OKS.e (wHs h)
theorem cT (hz:ev σ x=.bool (decide p)) (c:Hid p) (h:CK r N P c1 Q D σ w):CK r N P (.cond x c1 c2) Q D σ w:=CK.condT (hz.trans (wNX c.out)) h
theorem cF (hz:ev σ x=.bool (decide p)) (c:Hid (¬ p)) (h:CK r N P c2 Q D σ w):CK r N P (.cond x c1 c2) Q D σ w:=CK.condF (hz.trans (wNY c.out)) h
theorem kN (h:K D σ w):CK r N P .skip (wFv K Q) D σ w:=CK.skip (wHs h)
end
def fL1:Sch:=.fl 0 .nil
def fL2:Sch:=.fl 0 (.fl 1 .nil)
def fL3:Sch:=.fl 0 gAa
def fL4:Sch:=.fl 0 (.fl 1 gAb)
def fL5:Sch:=.fl 0 (.fl 1 (.fl 2 gAc))
def fL6:Sch:=.fl 0 (.fl 1 (.fl 2 (.fl 3 gAd)))
def fL7:Sch:=.fl 0 (.fl 1 (.fl 2 (.fl 3 (.fl 4 (.fl 5 (.fl 6 .nil))))))
def fL8:Sch:=.fl 0 (.fl 1 (.fl 2 (.fl 3 (.fl 4 (.fl 5 (.fl 6 (.fl 7 .nil)))))))
def fL9:Sch:=.fl 0 (.fl 1 (.fl 2 (.fl 3 (.fl 4 (.fl 5 (.fl 6 gAe))))))
def fL10:Sch:=.fl 0 (.fl 1 (.fl 2 (.fl 3 (.fl 4 (.fl 5 (.fl 6 (.fl 7 (.fl 8 (.fl 9 .nil)))))))))
def wON:Sch:=.fl 0 (.fl 1 (.fl 2 (.fl 3 (.fl 4 (.fl 5 (.fl 6 (.fl 7 (.fl 8 (.fl 9 (.fl 10 .nil))))))))))
def fL14:Sch:=.fl 0 (.fl 1 (.fl 2 (.fl 3 (.fl 4 (.fl 5 (.fl 6 (.fl 7 (.fl 8 (.fl 9 (.fl 10 (.fl 11 (.fl 12 (.fl 13 .nil)))))))))))))
def fL15:Sch:=.fl 0 (.fl 1 (.fl 2 (.fl 3 (.fl 4 (.fl 5 (.fl 6 (.fl 7 (.fl 8 (.fl 9 (.fl 10 (.fl 11 (.fl 12 (.fl 13 (.fl 14 .nil))))))))))))))
def fL16:Sch:=.fl 0 (.fl 1 (.fl 2 (.fl 3 (.fl 4 (.fl 5 (.fl 6 (.fl 7 (.fl 8 (.fl 9 (.fl 10 (.fl 11 (.fl 12 (.fl 13 gAf)))))))))))))
def fL17:Sch:=.fl 0 (.fl 1 (.fl 2 (.fl 3 (.fl 4 (.fl 5 (.fl 6 (.fl 7 (.fl 8 (.fl 9 (.fl 10 (.fl 11 (.fl 12 (.fl 13 (.fl 14 gAg))))))))))))))
def fL18:Sch:=.fl 0 (.fl 1 (.fl 2 (.fl 3 (.fl 4 (.fl 5 (.fl 6 (.fl 7 (.fl 8 (.fl 9 (.fl 10 (.fl 11 (.fl 12 (.fl 13 (.fl 14 (.fl 15 (.fl 16 (.fl 17 .nil)))))))))))))))))
def fL19:Sch:=.fl 0 (.fl 1 (.fl 2 (.fl 3 (.fl 4 (.fl 5 (.fl 6 (.fl 7 (.fl 8 (.fl 9 (.fl 10 (.fl 11 (.fl 12 (.fl 13 (.fl 14 (.fl 15 (.fl 16 (.fl 17 (.fl 18 .nil))))))))))))))))))
def fL21:Sch:=.fl 0 (.fl 1 (.fl 2 (.fl 3 (.fl 4 (.fl 5 (.fl 6 (.fl 7 (.fl 8 (.fl 9 (.fl 10 (.fl 11 (.fl 12 (.fl 13 (.fl 14 (.fl 15 (.fl 16 (.fl 17 (.fl 18 (.fl 19 (.fl 20 .nil))))))))))))))))))))
def fL22:Sch:=.fl 0 (.fl 1 (.fl 2 (.fl 3 (.fl 4 (.fl 5 (.fl 6 (.fl 7 (.fl 8 (.fl 9 (.fl 10 (.fl 11 (.fl 12 (.fl 13 (.fl 14 (.fl 15 (.fl 16 (.fl 17 (.fl 18 (.fl 19 (.fl 20 (.fl 21 .nil)))))))))))))))))))))
def fL30:Sch:=.fl 0 (.fl 1 (.fl 2 (.fl 3 (.fl 4 (.fl 5 (.fl 6 (.fl 7 (.fl 8 (.fl 9 (.fl 10 (.fl 11 (.fl 12 (.fl 13 (.fl 14 (.fl 15 (.fl 16 (.fl 17 (.fl 18 (.fl 19 (.fl 20 (.fl 21 (.fl 22 (.fl 23 (.fl 24 (.fl 25 (.fl 26 (.fl 27 (.fl 28 (.fl 29 .nil)))))))))))))))))))))))))))))
def fL40:Sch:=.fl 0 (.fl 1 (.fl 2 (.fl 3 (.fl 4 (.fl 5 (.fl 6 (.fl 7 (.fl 8 (.fl 9 (.fl 10 (.fl 11 (.fl 12 (.fl 13 (.fl 14 (.fl 15 (.fl 16 (.fl 17 (.fl 18 (.fl 19 (.fl 20 (.fl 21 (.fl 22 (.fl 23 (.fl 24 (.fl 25 (.fl 26 (.fl 27 (.fl 28 (.fl 29 (.fl 30 (.fl 31 (.fl 32 (.fl 33 (.fl 34 (.fl 35 (.fl 36 (.fl 37 (.fl 38 (.fl 39 .nil)))))))))))))))))))))))))))))))))))))))
def fL53:Sch:=.fl 0 (.fl 1 (.fl 2 (.fl 3 (.fl 4 (.fl 5 (.fl 6 (.fl 7 (.fl 8 (.fl 9 (.fl 10 (.fl 11 (.fl 12 (.fl 13 (.fl 14 (.fl 15 (.fl 16 (.fl 17 (.fl 18 (.fl 19 (.fl 20 (.fl 21 (.fl 22 (.fl 23 (.fl 24 (.fl 25 (.fl 26 (.fl 27 (.fl 28 (.fl 29 (.fl 30 (.fl 31 (.fl 32 (.fl 33 (.fl 34 (.fl 35 (.fl 36 (.fl 37 (.fl 38 (.fl 39 (.fl 40 (.fl 41 (.fl 42 (.fl 43 (.fl 44 (.fl 45 (.fl 46 (.fl 47 (.fl 48 (.fl 49 (.fl 50 (.fl 51 (.fl 52 .nil))))))))))))))))))))))))))))))))))))))))))))))))))))
def wCv (s:Sch):Sch:=.fl 0 (.fl 1 (.fl 2 (s)))
def wET (s:Sch):Sch:=.fl 0 (.fl 1 (.fl 2 (.fl 3 (s))))
def wHC (s:Sch):Sch:=.fl 0 (.fl 1 (.fl 2 (.fl 3 (.fl 4 (s)))))
def wFd (s:Sch):Sch:=.fl 0 (.fl 1 (.fl 2 (.fl 3 (.fl 4 (.fl 5 (s))))))
def wMK (s:Sch):Sch:=.fl 0 (.fl 1 (.fl 2 (.fl 3 (.fl 4 (.fl 5 (.fl 6 (s)))))))
def fC0_7 (s:Sch):Sch:=.fl 0 (.fl 1 (.fl 2 (.fl 3 (.fl 4 (.fl 5 (.fl 6 (.fl 7 (s))))))))
def wOO (s:Sch):Sch:=.fl 0 (.fl 1 (.fl 2 (.fl 3 (.fl 4 (.fl 5 (.fl 6 (.fl 7 (.fl 8 (s)))))))))
def wNL (s:Sch):Sch:=.fl 0 (.fl 1 (.fl 2 (.fl 3 (.fl 4 (.fl 5 (.fl 6 (.fl 7 (.fl 8 (.fl 9 (s))))))))))
def wOP (s:Sch):Sch:=.fl 0 (.fl 1 (.fl 2 (.fl 3 (.fl 4 (.fl 5 (.fl 6 (.fl 7 (.fl 8 (.fl 9 (.fl 10 (.fl 11 (.fl 12 (s)))))))))))))
def wOQ (s:Sch):Sch:=.fl 0 (.fl 1 (.fl 2 (.fl 3 (.fl 4 (.fl 5 (.fl 6 (.fl 7 (.fl 8 (.fl 9 (.fl 10 (.fl 11 (.fl 12 (.fl 13 (s))))))))))))))
def wOR (s:Sch):Sch:=.fl 0 (.fl 1 (.fl 2 (.fl 3 (.fl 4 (.fl 5 (.fl 6 (.fl 7 (.fl 8 (.fl 9 (.fl 10 (.fl 11 (.fl 12 (.fl 13 (.fl 14 (s)))))))))))))))
def wOS (s:Sch):Sch:=.fl 0 (.fl 1 (.fl 2 (.fl 3 (.fl 4 (.fl 5 (.fl 6 (.fl 7 (.fl 8 (.fl 9 (.fl 10 (.fl 11 (.fl 12 (.fl 13 (.fl 14 (.fl 15 (s))))))))))))))))
def wOT (s:Sch):Sch:=.fl 0 (.fl 1 (.fl 2 (.fl 3 (.fl 4 (.fl 5 (.fl 6 (.fl 7 (.fl 8 (.fl 9 (.fl 10 (.fl 11 (.fl 12 (.fl 13 (.fl 14 (.fl 15 (.fl 16 (.fl 17 (.fl 18 (s)))))))))))))))))))
def wOU (s:Sch):Sch:=.fl 0 (.fl 1 (.fl 2 (.fl 3 (.fl 4 (.fl 5 (.fl 6 (.fl 7 (.fl 8 (.fl 9 (.fl 10 (.fl 11 (.fl 12 (.fl 13 (.fl 14 (.fl 15 (.fl 16 (.fl 17 (.fl 18 (.fl 19 (s))))))))))))))))))))
def wOV (s:Sch):Sch:=.fl 0 (.fl 1 (.fl 2 (.fl 3 (.fl 4 (.fl 5 (.fl 6 (.fl 7 (.fl 8 (.fl 9 (.fl 10 (.fl 11 (.fl 12 (.fl 13 (.fl 14 (.fl 15 (.fl 16 (.fl 17 (.fl 18 (.fl 19 (.fl 20 (.fl 21 (s))))))))))))))))))))))
def wOW (s:Sch):Sch:=.fl 0 (.fl 1 (.fl 2 (.fl 3 (.fl 4 (.fl 5 (.fl 6 (.fl 7 (.fl 8 (.fl 9 (.fl 10 (.fl 11 (.fl 12 (.fl 13 (.fl 14 (.fl 15 (.fl 16 (.fl 17 (.fl 18 (.fl 19 (.fl 20 (.fl 21 (.fl 22 (.fl 23 (.fl 24 (.fl 25 (.fl 26 (.fl 27 (.fl 28 (.fl 29 (.fl 30 (.fl 31 (s))))))))))))))))))))))))))))))))
def wOX (s:Sch):Sch:=.fl 0 (.fl 1 (.fl 2 (.fl 3 (.fl 4 (.fl 5 (.fl 6 (.fl 7 (.fl 8 (.fl 9 (.fl 10 (.fl 11 (.fl 12 (.fl 13 (.fl 14 (.fl 15 (.fl 16 (.fl 17 (.fl 18 (.fl 19 (.fl 20 (.fl 21 (.fl 22 (.fl 23 (.fl 24 (.fl 25 (.fl 26 (.fl 27 (.fl 28 (.fl 29 (.fl 30 (.fl 31 (.fl 32 (.fl 33 (.fl 34 (.fl 35 (.fl 36 (.fl 37 (.fl 38 (.fl 39 (.fl 40 (.fl 41 (.fl 42 (.fl 43 (.fl 44 (s)))))))))))))))))))))))))))))))))))))))))))))
def fC1_3 (s:Sch):Sch:=.fl 1 (.fl 2 (.fl 3 (s)))
def fC1_4 (s:Sch):Sch:=.fl 1 (.fl 2 (.fl 3 (.fl 4 (s))))
def fC1_5 (s:Sch):Sch:=.fl 1 (.fl 2 (.fl 3 (.fl 4 (.fl 5 (s)))))
def wOY (s:Sch):Sch:=.fl 1 (.fl 2 (.fl 3 (.fl 4 (.fl 5 (.fl 6 (.fl 7 (.fl 8 (.fl 9 (.fl 10 (.fl 11 (.fl 12 (.fl 13 (.fl 14 (.fl 15 (.fl 16 (.fl 17 (.fl 18 (.fl 19 (s)))))))))))))))))))
def wNM (s:Sch):Sch:=.fl 2 (.fl 3 (.fl 4 (.fl 5 (s))))
def wHD (s:Sch):Sch:=.fl 2 (.fl 3 (.fl 4 (.fl 5 (.fl 6 (s)))))
def wML (s:Sch):Sch:=.fl 3 (.fl 4 (.fl 5 (s)))
def wKZ (s:Sch):Sch:=.fl 3 (.fl 4 (.fl 5 (.fl 6 (s))))
def fC3_7 (s:Sch):Sch:=.fl 3 (.fl 4 (.fl 5 (.fl 6 (.fl 7 (s)))))
def wOZ (s:Sch):Sch:=.fl 3 (.fl 4 (.fl 5 (.fl 6 (.fl 7 (.fl 8 (.fl 9 (.fl 10 (.fl 11 (.fl 12 (.fl 13 (.fl 14 (.fl 15 (.fl 16 (.fl 17 (.fl 18 (.fl 19 (.fl 20 (.fl 21 (.fl 22 (s))))))))))))))))))))
def wOa (s:Sch):Sch:=.fl 4 (.fl 5 (.fl 6 (s)))
def fC4_7 (s:Sch):Sch:=.fl 4 (.fl 5 (.fl 6 (.fl 7 (s))))
def wMM (s:Sch):Sch:=.fl 4 (.fl 5 (.fl 6 (.fl 7 (.fl 8 (s)))))
def wOb (s:Sch):Sch:=.fl 4 (.fl 5 (.fl 6 (.fl 7 (.fl 8 (.fl 9 (.fl 10 (.fl 11 (s))))))))
def wOc (s:Sch):Sch:=.fl 4 (.fl 5 (.fl 6 (.fl 7 (.fl 8 (.fl 9 (.fl 10 (.fl 11 (.fl 12 (.fl 13 (.fl 14 (.fl 15 (.fl 16 (.fl 17 (.fl 18 (.fl 19 (.fl 20 (.fl 21 (.fl 22 (.fl 23 (s))))))))))))))))))))
def wLX (s:Sch):Sch:=.fl 5 (.fl 6 (.fl 7 (s)))
def wHE (s:Sch):Sch:=.fl 5 (.fl 6 (.fl 7 (.fl 8 (s))))
def wJX (s:Sch):Sch:=.fl 5 (.fl 6 (.fl 7 (.fl 8 (.fl 9 (s)))))
def wMb (s:Sch):Sch:=.fl 5 (.fl 6 (.fl 7 (.fl 8 (.fl 9 (.fl 10 (.fl 11 (.fl 12 (.fl 13 (.fl 14 (.fl 15 (s)))))))))))
def fC6_8 (s:Sch):Sch:=.fl 6 (.fl 7 (.fl 8 (s)))
def fC6_9 (s:Sch):Sch:=.fl 6 (.fl 7 (.fl 8 (.fl 9 (s))))
def wOd (s:Sch):Sch:=.fl 6 (.fl 7 (.fl 8 (.fl 9 (.fl 10 (s)))))
def wMc (s:Sch):Sch:=.fl 6 (.fl 7 (.fl 8 (.fl 9 (.fl 10 (.fl 11 (.fl 12 (s)))))))
def fC7_9 (s:Sch):Sch:=.fl 7 (.fl 8 (.fl 9 (s)))
def wMd (s:Sch):Sch:=.fl 7 (.fl 8 (.fl 9 (.fl 10 (.fl 11 (s)))))
def wMe (s:Sch):Sch:=.fl 7 (.fl 8 (.fl 9 (.fl 10 (.fl 11 (.fl 12 (s))))))
def wMf (s:Sch):Sch:=.fl 7 (.fl 8 (.fl 9 (.fl 10 (.fl 11 (.fl 12 (.fl 13 (s)))))))
def wHF (s:Sch):Sch:=.fl 8 (.fl 9 (.fl 10 (s)))
def wIt (s:Sch):Sch:=.fl 8 (.fl 9 (.fl 10 (.fl 11 (s))))
def wEs (s:Sch):Sch:=.fl 9 (.fl 10 (.fl 11 (.fl 12 (s))))
def wOe (s:Sch):Sch:=.fl 9 (.fl 10 (.fl 11 (.fl 12 (.fl 13 (.fl 14 (.fl 15 (s)))))))
def wNN (s:Sch):Sch:=.fl 10 (.fl 11 (.fl 12 (.fl 13 (s))))
def wNO (s:Sch):Sch:=.fl 11 (.fl 12 (.fl 13 (.fl 14 (s))))
def wNP (s:Sch):Sch:=.fl 20 (.fl 21 (.fl 22 (s)))
def wNQ (s:Sch):Sch:=.fl 22 (.fl 23 (.fl 24 (s)))
def wNR (s:Sch):Sch:=.fl 24 (.fl 25 (.fl 26 (s)))
def wNS (s:Sch):Sch:=.fl 33 (.fl 34 (.fl 35 (s)))
def wNT (s:Sch):Sch:=.fl 47 (.fl 48 (.fl 49 (.fl 50 (s))))
theorem zA:type_of% @nG:=@nG
theorem zB:type_of% @wKe:=@wKe
theorem zC:type_of% @Tryz.runUnderlying41:=@Tryz.runUnderlying41
theorem zD:type_of% @Tryz.sizeOf3:=@Tryz.sizeOf3
theorem zF:type_of% @Tryz.isAgg3:=@Tryz.isAgg3
theorem zG:type_of% @Enters.mk:=@Enters.mk
theorem zH:type_of% @OKS.callH:=@OKS.callH
theorem zI:type_of% @wHs:=@wHs
theorem zJ:type_of% @Runs.fa:=@Runs.fa
theorem zK:type_of% @Tryz.sizeOf115:=@Tryz.sizeOf115
theorem zL:type_of% @CK.seq:=@CK.seq
theorem zM:type_of% @Hid.mk:=@Hid.mk
theorem zN:type_of% @PHeap.Le.refl:=@PHeap.Le.refl
theorem zO:type_of% @wMN:=@wMN
theorem zP:type_of% @Tryz.runUnderlying45:=@Tryz.runUnderlying45
theorem zQ:type_of% @wHw:=@wHw
theorem zR:type_of% @CK.ret:=@CK.ret
theorem zS:type_of% @wKd:=@wKd
theorem zT:type_of% @Runs.pickT:=@Runs.pickT
theorem zU:type_of% @wGq:=@wGq
theorem zV:type_of% @Runs.ext:=@Runs.ext
theorem zW:type_of% @OKS.alloc:=@OKS.alloc
theorem zX:type_of% @OKS.st:=@OKS.st
theorem zY:type_of% @Runs.lss:=@Runs.lss
theorem zZ:type_of% @Tryz.sizeOf41:=@Tryz.sizeOf41
theorem za:type_of% @Runs.addw:=@Runs.addw
theorem zb:type_of% @CK.block:=@CK.block
theorem zc:type_of% @Runs.pickF:=@Runs.pickF
theorem zd:type_of% @wJa:=@wJa
theorem ze:type_of% @OKS.r:=@OKS.r
theorem zf:type_of% @Tryz.zeroValue115:=@Tryz.zeroValue115
theorem zg:type_of% @OKS.e:=@OKS.e
theorem zh:type_of% @Tryz.sizeOf45:=@Tryz.sizeOf45
theorem zj:type_of% @Tryz.isAgg41:=@Tryz.isAgg41
theorem zk:type_of% @Tryz.isAgg115:=@Tryz.isAgg115
theorem zm:type_of% @OKS.rm:=@OKS.rm
theorem zn:type_of% @wKc:=@wKc
theorem zo:type_of% @OKS.buildSlice:=@OKS.buildSlice
theorem zq:type_of% @Tryz.runUnderlying101:=@Tryz.runUnderlying101
theorem zr:type_of% @Runs.len:=@Runs.len
theorem zt:type_of% @Tryz.zeroValue3:=@Tryz.zeroValue3
theorem zu:type_of% @Runs.build:=@Runs.build
theorem zw:type_of% @OKS.both:=@OKS.both
theorem zx:type_of% @wJY:=@wJY
theorem zy:type_of% @CK.condF:=@CK.condF
theorem zz:type_of% @Tryz.isAgg45:=@Tryz.isAgg45
theorem ZA:type_of% @OKS.p:=@OKS.p
theorem ZB:type_of% @Tryz.mixed:=@Tryz.mixed
theorem ZC:type_of% @OKS.box:=@OKS.box
theorem ZD:type_of% @Tryz.sizeOf37:=@Tryz.sizeOf37
theorem ZE:type_of% @OKS.m:=@OKS.m
theorem ZF:type_of% @CK.anyOrd:=@CK.anyOrd
theorem ZG:type_of% @Runs.to:=@Runs.to
theorem ZH:type_of% @res1:=@res1
theorem ZI:type_of% @OKS.px:=@OKS.px
theorem ZJ:type_of% @CK.condT:=@CK.condT
theorem ZK:type_of% @Tryz.runUnderlying56:=@Tryz.runUnderlying56
theorem ZL:type_of% @Tryz.runUnderlying52:=@Tryz.runUnderlying52
theorem ZM:type_of% @wNY:=@wNY
theorem ZN:type_of% @Tryz.runUnderlying124:=@Tryz.runUnderlying124
theorem ZO:type_of% @Tryz.runUnderlying121:=@Tryz.runUnderlying121
theorem ZP:type_of% @Tryz.runUnderlying42:=@Tryz.runUnderlying42
theorem ZQ:type_of% @Tryz.zeroValue37:=@Tryz.zeroValue37
theorem ZR:type_of% @Runs.iaN:=@Runs.iaN
theorem ZS:type_of% @OKS.cutD:=@OKS.cutD
theorem ZT:type_of% @Runs.nilp:=@Runs.nilp
theorem ZU:type_of% @Tryz.runUnderlying37:=@Tryz.runUnderlying37
theorem ZV:type_of% @wJZ:=@wJZ
theorem ZW:type_of% @Runs.notT:=@Runs.notT
theorem ZX:type_of% @Tryz.sizeOf62:=@Tryz.sizeOf62
theorem ZY:type_of% @Tryz.runUnderlying43:=@Tryz.runUnderlying43
theorem ZZ:type_of% @Tryz.sizeOf183:=@Tryz.sizeOf183
theorem Za:type_of% @Tryz.runUnderlying40:=@Tryz.runUnderlying40
theorem Zb:type_of% @OKS.mx2:=@OKS.mx2
theorem Zc:type_of% @Tryz.runUnderlying118:=@Tryz.runUnderlying118
theorem Zd:type_of% @CK.exit:=@CK.exit
theorem Ze:type_of% @Runs.iaI:=@Runs.iaI
theorem Zf:type_of% @Tryz.zeroValue118:=@Tryz.zeroValue118
theorem Zg:type_of% @Tryz.sizeOf52:=@Tryz.sizeOf52
theorem Zh:type_of% @Tryz.sizeOf101:=@Tryz.sizeOf101
theorem Zi:type_of% @CK.skip:=@CK.skip
theorem Zj:type_of% @Tryz.runUnderlying69:=@Tryz.runUnderlying69
theorem Zk:type_of% @Runs.neq:=@Runs.neq
theorem Zl:type_of% @Tryz.runUnderlying158:=@Tryz.runUnderlying158
theorem Zm:type_of% @wNX:=@wNX
theorem Zn:type_of% @Tryz.zeroValue52:=@Tryz.zeroValue52
theorem Zo:type_of% @Tryz.sizeOf43:=@Tryz.sizeOf43
theorem Zp:type_of% @Tryz.sizeOf118:=@Tryz.sizeOf118
theorem Zq:type_of% @Tryz.isAgg62:=@Tryz.isAgg62
theorem Zr:type_of% @Tryz.sizeOf40:=@Tryz.sizeOf40
theorem Zs:type_of% @Tryz.sizeOf39:=@Tryz.sizeOf39
theorem Zt:type_of% @Tryz.runUnderlying184:=@Tryz.runUnderlying184
theorem Zu:type_of% @Tryz.runUnderlying103:=@Tryz.runUnderlying103
theorem Zv:type_of% @Tryz.runUnderlying39:=@Tryz.runUnderlying39
theorem Zw:type_of% @Tryz.isAgg101:=@Tryz.isAgg101
theorem Zx:type_of% @Tryz.zeroValue101:=@Tryz.zeroValue101
theorem Zy:type_of% @Tryz.runUnderlying183:=@Tryz.runUnderlying183
theorem Zz:type_of% @Tryz.sizeOf121:=@Tryz.sizeOf121
theorem yA:type_of% @Tryz.sizeOf42:=@Tryz.sizeOf42
theorem yB:type_of% @OKS.ra:=@OKS.ra
theorem yC:type_of% @Tryz.runUnderlying80:=@Tryz.runUnderlying80
theorem yD:type_of% @Tryz.isAgg121:=@Tryz.isAgg121
theorem yE:type_of% @Tryz.isAgg37:=@Tryz.isAgg37
theorem yF:type_of% @Tryz.zeroValue62:=@Tryz.zeroValue62
theorem yG:type_of% @CK.forN:=@CK.forN
theorem yH:type_of% @Tryz.zeroValue183:=@Tryz.zeroValue183
theorem yI:type_of% @Tryz.sizeOf69:=@Tryz.sizeOf69
theorem yJ:type_of% @Tryz.runUnderlying64:=@Tryz.runUnderlying64
theorem yK:type_of% @OKS.append:=@OKS.append
theorem yL:type_of% @Tryz.isAgg42:=@Tryz.isAgg42
theorem yM:type_of% @Tryz.isAgg40:=@Tryz.isAgg40
theorem yN:type_of% @Tryz.isAgg43:=@Tryz.isAgg43
theorem yO:type_of% @Runs.eql:=@Runs.eql
theorem yP:type_of% @Runs.subw:=@Runs.subw
theorem yQ:type_of% @Tryz.sizeOf99:=@Tryz.sizeOf99
theorem yR:type_of% @Tryz.zeroValue85:=@Tryz.zeroValue85
theorem yS:type_of% @Tryz.runUnderlying102:=@Tryz.runUnderlying102
theorem yV:type_of% @Tryz.call91:=@Tryz.call91
theorem yW:type_of% @CK.cut:=@CK.cut
theorem yX:type_of% @Tryz.isAgg99:=@Tryz.isAgg99
theorem yY:type_of% @Tryz.call106:=@Tryz.call106
theorem yZ:type_of% @Tryz.zeroValue69:=@Tryz.zeroValue69
theorem ya:type_of% @Tryz.call7:=@Tryz.call7
theorem yb:type_of% @Tryz.underlying41:=@Tryz.underlying41
theorem yc:type_of% @Tryz.zeroValue39:=@Tryz.zeroValue39
theorem yd:type_of% @Tryz.isAgg183:=@Tryz.isAgg183
theorem ye:type_of% @Tryz.call16:=@Tryz.call16
theorem yf:type_of% @CK.fresh:=@CK.fresh
theorem yg:type_of% @Tryz.call57:=@Tryz.call57
theorem yh:type_of% @Tryz.call49:=@Tryz.call49
theorem yk:type_of% @Tryz.call48:=@Tryz.call48
theorem ym:type_of% @Tryz.runUnderlying75:=@Tryz.runUnderlying75
theorem yo:type_of% @Tryz.runUnderlying3:=@Tryz.runUnderlying3
theorem yp:type_of% @Tryz.sizeOf4:=@Tryz.sizeOf4
theorem yq:type_of% @Tryz.runUnderlying151:=@Tryz.runUnderlying151
theorem yr:type_of% @Tryz.isAgg52:=@Tryz.isAgg52
theorem yt:type_of% @Runs.gtr:=@Runs.gtr
theorem yu:type_of% @Tryz.isAgg85:=@Tryz.isAgg85
theorem yw:type_of% @OKS.makeSlice:=@OKS.makeSlice
theorem yy:type_of% @Tryz.zeroValue45:=@Tryz.zeroValue45
theorem YA:type_of% @Tryz.zeroValue41:=@Tryz.zeroValue41
theorem YB:type_of% @Runs.ixA:=@Runs.ixA
theorem YC:type_of% @Tryz.sizeOf122:=@Tryz.sizeOf122
theorem YD:type_of% @Runs.mkf:=@Runs.mkf
theorem YE:type_of% @Tryz.isAgg128:=@Tryz.isAgg128
theorem YF:type_of% @OKS.callV:=@OKS.callV
theorem YG:type_of% @OKS.makeMap:=@OKS.makeMap
theorem YH:type_of% @Runs.leq:=@Runs.leq
theorem YI:type_of% @OKS.stR:=@OKS.stR
theorem YJ:type_of% @Tryz.sizeOf56:=@Tryz.sizeOf56
theorem YK:type_of% @OKS.callHT:=@OKS.callHT
end Go.Proofs.YtkghaiefcjgfkaaGreat
namespace Go.Proofs.YtkghaiefcjgfkaaGreat
open Go.KL
set_option maxHeartbeats 4000000
theorem wGv (p0:List Int) (ab:Option Addr) (ac:Nat) (w:World) (U:PHeap) (hS:St0 w U []) (ai:Sl U 1 ab ac p0.length (hD KL.encB8 p0)) {r:wAJ} (hm:wDV p0=some r):Gv Tryz.prog 5 [.slice ab p0.length ac] w (wBa w [] U (fun U_ L_ v=>∃ (b0:Nat) (A0p0:Option Addr) (c0p0:Nat),v=.pointer (some ⟨b0,0,none⟩)/\L_=[.blk b0 80 [.slice A0p0 r.bytes.length c0p0,jV r.next,.int .u32 r.state]]/\Sl U_ 1 A0p0 c0p0 r.bytes.length (hD KL.encB8 r.bytes))):=by
 unfold wDV at hm
 refine Gv.of Tryz.func5 Z Tryz.ntmps5 Tryz.results5 Z (sR fL1 Z (oA Z Z (eN (sR gBb Z (oM Z Z ?_)))))
 let B0:List Value:=[.slice ab p0.length ac,jV 0,.int .u32 17]
 refine ze rfl rfl rfl rfl (fun _=>zu (pv:=[(0,.slice ab p0.length ac),(2,.int .u32 17)]) (z:=[.slice none 0 0,jV 0,.int .u32 0]) (cs:=B0) rfl (wAD rfl (wAD rfl wAM)) Tryz.zeroValue80 wLr rfl rfl) (ZC (cs:=B0) rfl rfl rfl rfl rfl rfl (by rfl) hS ?_)
 intro W1 b2 ah
 refine oA Z Z (eN (zR ?_))
 cases hm
 exact ⟨Z,_,(ZH Z),U,_,ah,b2,ab,ac,Z,Z,ai⟩
theorem wAV (p0:wAJ) (ag:Nat) (ac:Option Addr) (ae:Nat) (p1:Int) (w:World) (U:PHeap) (hS:St0 w U [.blk ag 80 [.slice ac p0.bytes.length ae,jV p0.next,.int .u32 p0.state]]) (ai:Sl U 1 ac ae p0.bytes.length (hD KL.encB8 p0.bytes)) {r:Int × wAJ} (hm:wAQ p0 p1=some r):Gv Tryz.prog 7 [.pointer (some ⟨ag,0,none⟩),jV p1] w (wBa w [.blk ag 80 [.slice ac p0.bytes.length ae,jV p0.next,.int .u32 p0.state]] U (fun U_ L_ v=>∃ (az:Option Addr) (aV:Nat),v=jV r.1/\L_=[.blk ag 80 [.slice az r.2.bytes.length aV,jV r.2.next,.int .u32 r.2.state]]/\Sl U_ 1 az aV r.2.bytes.length (hD KL.encB8 r.2.bytes))):=by
 unfold wAQ at hm
 refine Gv.of Tryz.func7 Z Tryz.ntmps7 Tryz.results7 Z (sR fL1 Z (oA Z Z (eN (zL (sR fL10 Z (oM Z Z (oR Z (YH Z Z Z) (oM Z Z ?_))))))))
 by_cases c2:p1 <= 1
 have aY:=hm;rw [if_pos c2] at aY;replace c2:=zM c2
 refine oT Z c2 (oT Z c2 (oT Z c2 (oT Z c2 (oT Z c2 (oT Z c2 (oR Z (zT Z (Zm c2.out) Z) (eN (ZJ Z (sR fL1 Z (oA Z Z (eN (zR (zS ?_)))))))))))))
 cases aY
 exact ⟨Z,_,(ZH Z),U,_,hS,ac,ae,Z,Z,ai⟩
 have aZ:=hm;rw [if_neg c2] at aZ;replace c2:=zM c2
 refine zm Z Z Z (wF Z c2) Z Z (rU Z (wF Z c2) (ZT Z Z) (rU Z (wF Z c2) (zJ Z Z yC Z Tryz.sizeOf22) (ZE Z Z Z (wF Z c2) (hS.ldB (j:=0) Z Z Z Tryz.isAgg22 (v:=.slice ac p0.bytes.length ae) Z) Z (rU Z (wF Z c2) (zr Z Z Tryz.runUnderlying22) (rU Z (wF Z c2) (yO Z Z Z) (oR Z (zc Z (ZM c2.out) Z) (eN (ifc aZ ?_ ?_))))))))
 intro c5 bw
 refine cT Z c5 (sR fL1 Z (oA Z Z (eN (zR (zS ?_)))))
 cases bw
 exact ⟨Z,_,(ZH Z),U,_,hS,ac,ae,Z,Z,ai⟩
 intro c5 bx
 refine cF Z c5 (kN (zL (ZF ZB [3,3,3,1,3,3,3,1,3,3,3,1,3,3,3,1,3,3,3,3,1,3,3,3,1,3,3,3,3,3] fL30 (by kernel_rfl) ?_)))
 have af:=hS.drew
 generalize hw_W9:({ w with drawn:=w.drawn + 1 }:World)=W9 at af ⊢
 refine oM Z Z (oR Z (ZT Z Z) (oR Z (zJ Z Z yC Z Tryz.sizeOf22) (oL Z (af.ldB (j:=0) Z Z Z Tryz.isAgg22 (v:=.slice ac p0.bytes.length ae) Z) (oM Z Z (oR Z (ZT Z Z) (oR Z (zJ Z Z yC Z zD) (oL Z (af.ldB (j:=0) Z Z Z zF (v:=jV p0.next) Z) (oM Z Z (oR Z (ZT Z Z) (oR Z (zJ Z Z yC Z Tryz.sizeOf22) (oL Z (af.ldB (j:=0) Z Z Z Tryz.isAgg22 (v:=.slice ac p0.bytes.length ae) Z) (oR Z (zr Z Z Tryz.runUnderlying22) (bnK bx fun bD ba bk=>oR Z (Runs.rem Z Z Z ba) (bnK bk fun a6 ay bm=>?_))))))))))))))
 have q:=ai.el (fun _=>rfl) (wAX ay)
 obtain ⟨bB,bC,bg,bh⟩:=q
 refine oR Z (Ze Z Z bg Z Tryz.runUnderlying22 Tryz.sizeOf5 (wBt ay) (wBy ay)) (oL Z (af.ldC (f:=0) bh (v:=.int .u8 a6) Z Z Tryz.isAgg5 Z) (oR Z (Runs.cvu Z Z Tryz.runUnderlying5 Tryz.runUnderlying78 Z Z) (oM Z Z (oR Z (ZT Z Z) (oR Z (zJ Z Z yC Z zD) (oL Z (af.ldB (j:=0) Z Z Z zF (v:=jV p0.next) Z) (oM Z Z (oR Z (ZT Z Z) (oR Z (zJ Z Z yC Z Tryz.sizeOf22) (oL Z (af.ldB (j:=0) Z Z Z Tryz.isAgg22 (v:=.slice ac p0.bytes.length ae) Z) (oR Z (zr Z Z Tryz.runUnderlying22) (bnK bm fun bz bb bn=>oR Z (Runs.quo Z Z Z bb) (oR Z (Runs.cvu Z Z yo Tryz.runUnderlying78 Z Z) (oA Z Z (oA Z Z (eN (zL (yf fun au am=>?_))))))))))))))))))
 have aj:au 0=.pointer (some ⟨ag,0,none⟩):=(am 0).trans rfl
 have an:au 1=jV p1:=(am 1).trans rfl
 have ao:au 5=.int .u32 (wFJ a6):=(am 5).trans rfl
 have aW:au 6=.int .u32 (wFJ bz):=(am 6).trans rfl
 clear am
 refine rR (wMK (.fx 7 .nil .stop)) Z (oM Z aj (oR Z (ZT Z Z) (oR Z (zJ Z Z yC Z zD) (oL Z (af.ldB (j:=0) Z Z Z zF (v:=jV p0.next) Z) (oR Z (za Z Z Z) (oR Z (ZT Z Z) (oR Z (zJ Z Z yC Z zD) (zX (j:=0) (vs:=[jV (w64 (p0.next + 1))]) Z Z Z Z af Z Z Z Z zD (zA Z) Z Z Z ?_))))))))
 intro a7 bi
 let B0:Res:=.blk ag 80 [.slice ac p0.bytes.length ae,jV p0.next,.int .u32 p0.state]
 have aX:SW w [B0] U U [.blk ag 80 [.slice ac p0.bytes.length ae,jV (w64 (p0.next + 1)),.int .u32 p0.state]] a7:=bi
 refine eN (sR (wOR (.fx 15 .nil .stop)) Z (oM Z aj (oM Z aj (oR Z (ZT Z Z) (oR Z (zJ Z Z yC Z Tryz.sizeOf78) (oL Z (aX.ldB (j:=0) Z Z Z Tryz.isAgg78 (v:=.int .u32 p0.state) Z) (oR Z (Runs.mulu Z Z Z) (oM Z ao (oR Z (Runs.addu Z Z Z) (oM Z aW (oR Z (Runs.mulu Z Z Z) (oR Z (Runs.addu Z Z Z) (oR Z (Runs.addu Z Z Z) (bnK bn fun aq bc bo=>oR Z (Runs.rem Z Z Z bc) (oR Z (ZT Z Z) (oR Z (zJ Z Z yC Z Tryz.sizeOf78) (zX (j:=0) (vs:=[.int .u32 aq]) Z Z Z Z aX Z Z Z Z Tryz.sizeOf78 (zA Z) Z Z Z ?_)))))))))))))))))
 intro a8 bj
 have ak:SW w [B0] U U [.blk ag 80 [.slice ac p0.bytes.length ae,jV (w64 (p0.next + 1)),.int .u32 aq]] a8:=bj
 refine eN (zL (sR fL6 Z (oM Z aW (oR Z (yO Z Z Z) (oM Z Z (ifc bo ?_ ?_))))))
 intro ah bp
 refine zm Z Z Z (wT Z ah) Z an (rU Z (wT Z ah) (YH Z Z Z) (oR Z (zT Z (Zm ah.out) Z) (eN (ifc bp ?_ ?_))))
 intro av bq
 refine cT Z av (sR fL5 Z (oM Z ao (oR Z (Runs.cvw Z Z Tryz.runUnderlying78 yo Z Z) (oM Z an (bnK bq fun bE bd br=>oR Z (Runs.rem Z Z Z bd) (oA Z Z (eN (zR (zS ?_)))))))))
 cases br
 exact ⟨Z,_,(ZH Z),U,_,ak,ac,ae,Z,Z,ai⟩
 intro av bs
 refine cF Z av (kN (sR wON Z (oM Z aj (oR Z (ZT Z Z) (oR Z (zJ Z Z yC Z Tryz.sizeOf78) (oL Z (ak.ldB (j:=0) Z Z Z Tryz.isAgg78 (v:=.int .u32 aq) Z) (oR Z (Runs.mulu Z Z Z) (oM Z ao (oR Z (Runs.addu Z Z Z) (oR Z (Runs.cvw Z Z Tryz.runUnderlying78 yo Z Z) (oM Z an (bnK bs fun bF be bt=>oR Z (Runs.rem Z Z Z be) (oA Z Z (eN (zR ?_)))))))))))))))
 cases bt
 exact ⟨Z,_,(ZH Z),U,_,ak,ac,ae,Z,Z,ai⟩
 intro ah bu
 refine oF Z ah (oF Z ah (oR Z (zc Z (ZM ah.out) Z) (eN (zy Z (kN (sR wON Z (oM Z aj (oR Z (ZT Z Z) (oR Z (zJ Z Z yC Z Tryz.sizeOf78) (oL Z (ak.ldB (j:=0) Z Z Z Tryz.isAgg78 (v:=.int .u32 aq) Z) (oR Z (Runs.mulu Z Z Z) (oM Z ao (oR Z (Runs.addu Z Z Z) (oR Z (Runs.cvw Z Z Tryz.runUnderlying78 yo Z Z) (oM Z an (bnK bu fun bG bf bv=>oR Z (Runs.rem Z Z Z bf) (oA Z Z (eN (zR ?_)))))))))))))))))))
 cases bv
 exact ⟨Z,_,(ZH Z),U,_,ak,ac,ae,Z,Z,ai⟩
theorem wAl (p0:wAJ) (ab:Nat) (ac:Option Addr) (ae:Nat) (p1:Int) (p2:Int) (w:World) (U:PHeap) (hS:St0 w U [.blk ab 80 [.slice ac p0.bytes.length ae,jV p0.next,.int .u32 p0.state]]) (ay:Sl U 1 ac ae p0.bytes.length (hD KL.encB8 p0.bytes)) {r:Int × wAJ} (hm:wAS p0 p1 p2=some r):Gv Tryz.prog 6 [.pointer (some ⟨ab,0,none⟩),jV p1,jV p2] w (wBa w [.blk ab 80 [.slice ac p0.bytes.length ae,jV p0.next,.int .u32 p0.state]] U (fun U_ L_ v=>∃ (aj:Option Addr) (an:Nat),v=jV r.1/\L_=[.blk ab 80 [.slice aj r.2.bytes.length an,jV r.2.next,.int .u32 r.2.state]]/\Sl U_ 1 aj an r.2.bytes.length (hD KL.encB8 r.2.bytes))):=by
 unfold wAS at hm
 refine Gv.of Tryz.func6 Z Tryz.ntmps6 Tryz.results6 Z (sR fL1 Z (oA Z Z (eN (sR (wFd gAo) Z (oM Z Z (oM Z Z (oM Z Z (oM Z Z (oR Z (yP Z Z Z) (oR Z (za Z Z Z) ?_))))))))))
 have q:=bnd hm
 obtain ⟨⟨x2,x3⟩,h4,ao⟩:=q
 try dsimp only at ao
 refine zH 1 Z Z Z Z (zG Z Z ya (zB Z (zB Z zO)) Z) hS (fun hs=>wAV p0 ab ac ae (w64 ((w64 (p2 - p1)) + 1)) w U hs ay h4) (.inl Z) ?_
 rintro U6 L7 v8 W9 aU av ⟨ai,am,rfl,rfl,aq⟩
 have ax:SW w [.blk ab 80 [.slice ac p0.bytes.length ae,jV p0.next,.int .u32 p0.state]] U U6 [.blk ab 80 [.slice ai x3.bytes.length am,jV x3.next,.int .u32 x3.state]] W9:=av
 refine oR Z (za Z Z Z) (oA Z Z (eN (zR ?_)))
 cases ao
 exact ⟨Z,_,(ZH Z),U6,_,ax,ai,am,Z,Z,aq⟩
theorem wFn (p0:wAJ) (ab:Nat) (eW:Option Addr) (eX:Nat) (p1:Int) (p2:Int) (p3:Int) (w:World) (U:PHeap) (hS:St0 w U [.blk ab 80 [.slice eW p0.bytes.length eX,jV p0.next,.int .u32 p0.state]]) (Eb:Sl U 1 eW eX p0.bytes.length (hD KL.encB8 p0.bytes)) {r:wAE × (List (List Int)) × (List Int) × wAJ} (hm:wCI p0 p1 p2 p3=some r):Gv Tryz.prog 14 [.pointer (some ⟨ab,0,none⟩),jV p1,jV p2,jV p3] w (wBa w [.blk ab 80 [.slice eW p0.bytes.length eX,jV p0.next,.int .u32 p0.state]] U (fun U_ L_ v=>∃ (jN:Option Addr) (mD:Nat) (jO:Option Addr) (mE:Nat) (jP:Option Addr) (mF:Nat) (jQ:Option Addr) (mG:Nat) (A1:Option Addr) (c1:Nat) (A2:Option Addr) (c2:Nat) (ls:Option Addr) (oe:Nat),v=.tuple #[.agg #[.slice jN r.1.Starts.length mD,.slice jO r.1.Splits.length mE,.slice jP r.1.Clocks.length mF,.slice jQ r.1.Readings.length mG],.slice A1 r.2.1.length c1,.slice A2 r.2.2.1.length c2]/\L_=[.row jN mD 3 1 (hD KL.encI r.1.Starts),.row jO mE 37 2 (hD wAF r.1.Splits),.row jP mF 39 3 (hD wAA r.1.Clocks),.row jQ mG 52 4 (hD wAB r.1.Readings),.row A2 c2 3 1 (hD KL.encI r.2.2.1),.blk ab 80 [.slice ls r.2.2.2.bytes.length oe,jV r.2.2.2.next,.int .u32 r.2.2.2.state]]/\SlR U_ wEX A1 c1 r.2.1/\Sl U_ 1 ls oe r.2.2.2.bytes.length (hD KL.encB8 r.2.2.2.bytes))):=by
 unfold wCI at hm
 refine Gv.of Tryz.func14 Z Tryz.ntmps14 Tryz.results14 Z (sR (.fx 0 gAa .stop) Z ?_)
 let B0:List Value:=[.slice none 0 0,.slice none 0 0,.slice none 0 0,.slice none 0 0]
 refine zW (cs:=B0) Z Z Z Z Z yy Z hS ?_
 intro W2 b3 Dp
 refine oA Z Z (oA Z Z (eN (sR (.fx 0 .nil .stop) Z (zW (cs:=B0) Z Z Z Z Z yy Z Dp ?_))))
 intro W6 b7 DK
 refine eN (sR fL1 Z (oA Z Z (eN (sR fL1 Z (oA Z Z (eN (zL (sR gBb Z (oM Z Z (oM Z Z ?_))))))))))
 have q:=bnd hm
 obtain ⟨⟨gF,jx⟩,Aa,qr⟩:=q
 try dsimp only at qr
 let B1:Res:=.blk ab 80 [.slice eW p0.bytes.length eX,jV p0.next,.int .u32 p0.state]
 have BL:SW w [B1] U U [B1,.blk b7 45 B0,.blk b3 45 B0] W6:=DK.pick [2,0,1] _ (by decide) rfl
 refine zH 1 Z Z Z Z (zG Z Z Tryz.call6 (zB Z (zB Z (zB Z zO))) Z) BL (fun hs=>wAl p0 ab eW eX 1 p1 W6 U hs Eb Aa) (.inl Z) ?_
 rintro ik F1 Hq r9 Hd CL ⟨lb,m2,rfl,rfl,AM⟩
 have Dd:SW w [B1] U ik [.blk ab 80 [.slice lb jx.bytes.length m2,jV jx.next,.int .u32 jx.state],.blk b7 45 B0,.blk b3 45 B0] r9:=CL
 refine oM Z Z (eN (zb ?_))
 have q:=bnd qr
 obtain ⟨⟨FR,FS,FT,ax⟩,En,qH⟩:=q
 try dsimp only at qH
 have q:=wBM En
 obtain ⟨jq,Eo⟩:=q
 replace jq:=zM jq
 refine CK.forN' (fun eJ (eQ,jH,jI,cA) σ_ w_=>∃ (U_:PHeap) (fD:Option Addr) (ge:Nat) (cL:Option Addr) (cW:Nat),σ_ 28=jV (↑eJ:Int)/\σ_ 0=.pointer (some ⟨ab,0,none⟩)/\σ_ 2=jV p2/\σ_ 3=jV p3/\σ_ 8=.pointer (some ⟨b3,0,none⟩)/\σ_ 11=.pointer (some ⟨b7,0,none⟩)/\σ_ 12=.slice none 0 0/\σ_ 13=.slice none 0 0/\σ_ 27=jV gF/\PHeap.Le ik U_/\SW w [B1] U U_ [.blk ab 80 [.slice fD eQ.length ge,jV jH,.int .u32 jI],.row cL cW 3 1 (hD KL.encI cA),.blk b7 45 [.slice cL cA.length cW,.slice none 0 0,.slice none 0 0,.slice none 0 0],.blk b3 45 B0] w_/\Sl U_ 1 fD ge eQ.length (hD KL.encB8 eQ)) Eo ?_ ?_ ?_
 have DG:=Dd.nilrow 3 1
 exact ⟨ik,lb,m2,none,0,rfl,rfl,rfl,rfl,rfl,rfl,rfl,rfl,rfl,(zN _),(DG.pick [1,0,2,3] _ (by decide) rfl),AM⟩
 rintro eJ ⟨eQ,jH,jI,cA⟩ HQ Ik ms jj ⟨rH,fD,ge,cL,cW,pV,iW,xX,xY,xZ,iX,x8,y4,pT,FA,DO,Bm⟩ qU
 try dsimp only at qU
 have od:Hid ((↑eJ:Int) < gF):=zM (wAr jj)
 replace jj:=zM jj
 have EB:Hid (w64 ((↑eJ:Int) + 1)=(↑(eJ + 1):Int)):=zM (by have h1:=jq.out;have h2:=od.out;rw [wAW] <;> omega)
 refine sR fL1 rfl (ze rfl rfl rfl rfl (fun _=>zY rfl pV pT) (eN (zL (cT Z od (kN (zL (zb (ZF ZB [3,1004,3,1005,3,3,1005,3,2,0,3,0,ab] (wCv (.fl 5 (.fx 3 (.fl 4 (.fx 6 (.fl 7 (.fx 8 (.fx 9 (.fl 10 (.fx 11 .nil .stop)) .stop) .stop)) .stop)) .stop))) (by kernel_rfl) ?_))))))))
 have i9:=DO.drew
 generalize hw_W140:({ ms with drawn:=ms.drawn + 1 }:World)=rP at i9 ⊢
 refine oR Z (zJ Z iX zP Z zZ) ?_
 let B2:Res:=.blk b7 45 [.slice cL cA.length cW,.slice none 0 0,.slice none 0 0,.slice none 0 0]
 let B3:Res:=.row cL cW 3 1 (hD KL.encI cA)
 refine OKS.mt (T:=[ab]) [0] [1,2,3] [B3,B2,.blk b3 45 B0] rfl rfl rfl rfl i9 rfl ⟨⟨0,by decide,_,rfl,rfl⟩,trivial⟩ (by decide) rfl (by decide) (fun _ DY=>(DY.ldB (j:=1) rfl rfl rfl zj (v:=.slice cL cA.length cW) rfl)) rfl (zm rfl rfl rfl rfl rfl iW (zm rfl rfl rfl rfl rfl iW ?_))
 have q:=bnd qU
 obtain ⟨⟨eY,gG⟩,Ah,qs⟩:=q
 try dsimp only at qs
 refine YK 1 rfl rfl rfl rfl (zG rfl rfl ya (zB rfl (zB rfl zO)) rfl) i9 (fun hs=>wAV (⟨eQ,jH,jI⟩:wAJ) ab fD ge 4 rP rH hs Bm Ah) rfl (T:=[ab]) rfl ⟨fun b h=>(by cases h;exact .head _),trivial⟩ ?_
 rintro lX FZ Hn me Fe BP ⟨jX,mM,rfl,rfl,Ai⟩
 have BS:SW w [B1] U lX [.blk ab 80 [.slice jX gG.bytes.length mM,jV gG.next,.int .u32 gG.state],B3,B2,.blk b3 45 B0] me:=BP
 refine oR Z (Runs.mulw Z Z Z) ?_
 have q:=bnd qs
 obtain ⟨⟨eZ,jy⟩,Aj,qt⟩:=q
 try dsimp only at qt
 refine YK 1 rfl rfl rfl rfl (zG rfl rfl ya (zB rfl (zB rfl zO)) rfl) BS (fun hs=>wAV gG ab jX mM 3 me lX hs Ai Aj) rfl (T:=[ab]) rfl ⟨fun b h=>(by cases h;exact .head _),trivial⟩ ?_
 rintro dI F2 Ho r6 Ff Cd ⟨j4,mP,rfl,rfl,An⟩
 let B4:Res:=.blk ab 80 [.slice j4 jy.bytes.length mP,jV jy.next,.int .u32 jy.state]
 have Ch:SW w [B1] U dI [B4,B3,B2,.blk b3 45 B0] r6:=Cd
 refine oR Z (za Z Z Z) (zo (pv:=[(0,jV (w64 ((w64 (300 * eY)) + eZ)))]) (zs:=[jV 0]) (cs:=[jV (w64 ((w64 (300 * eY)) + eZ))]) Z Z Z Z Z (wAD Z wAM) zC zD zt Z Z Z Z Z Ch ?_)
 intro r8 sV Ck
 let B5:Res:=.row (some ⟨sV,0,none⟩) 1 3 1 (hD KL.encI [w64 ((w64 (300 * eY)) + eZ)])
 have qe:SW w [B1] U dI [B5,B4,B3,B2,.blk b3 45 B0] r8:=Ck
 refine bnK qt fun gH As EC=>yK (j:=2) (enc:=KL.encI) (xs:=cA) (ys:=[w64 ((w64 (300 * eY)) + eZ)]) (zs:=gH) rfl rfl rfl rfl rfl yb wFm rfl rfl rfl rfl rfl rfl qe rfl rfl rfl (qe.srcR (j:=0) rfl (by decide) (wAC (f:=KL.encI) (sz:=1) (fun _=>rfl) [w64 ((w64 (300 * eY)) + eZ)])) (fun _=>rfl) (fun _=>rfl) As rfl ?_
 intro fw f5 sc Co
 let B6:Res:=.row fw f5 3 1 (hD KL.encI gH)
 have Cp:SW w [B1] U dI [B5,B4,B6,B2,.blk b3 45 B0] sc:=Co
 refine oR Z (zJ Z iX zP Z zZ) (zX (j:=3) (vs:=[.slice fw gH.length f5]) Z Z Z Z Cp Z Z Z Z zZ (zA Z) Z Z Z ?_)
 intro sd Cq
 have Cr:SW w [B1] U dI [B5,B4,B6,.blk b7 45 [.slice fw gH.length f5,.slice none 0 0,.slice none 0 0,.slice none 0 0],.blk b3 45 B0] sd:=Cq
 refine zg (zx (zI (rR fL2 Z (oR Z (ZG (za Z pV Z) (congrArg (jV) EB.out)) (oM Z Z (zg ?_))))))
 cases EC
 exact zI ⟨rfl,⟨dI,j4,mP,fw,f5,rfl,iW,xX,xY,xZ,iX,x8,y4,pT,((FA.trans Fe).trans Ff),(Cr.pick [1,2,3,4] _ (by decide) rfl),An⟩⟩
 rintro Ia sj ⟨rE,rp,s8,a7,a8,y6,pH,wZ,w5,w6,w7,w8,w9,xa,He,CZ,AG⟩
 have s9:Hid (¬ ((↑((gF:Int) - 0).toNat:Int) < gF)):=zM (wAf)
 refine sR fL1 Z (oR Z (zY Z y6 xa) (eN (zL (cF Z s9 (Zd (zn (zn (ZV (zI (zL (sR gBb Z (oM Z pH (oM Z wZ ?_)))))))))))))
 have q:=bnd qH
 obtain ⟨⟨gK,jB⟩,AJ,qA⟩:=q
 try dsimp only at qA
 refine zH 1 Z Z Z Z (zG Z Z ya (zB Z (zB Z zO)) Z) CZ (fun hs=>wAV (⟨FR,FS,FT⟩:wAJ) ab rp s8 p2 sj rE hs AG AJ) (.inl Z) ?_
 rintro iu Gf HB sC Hf Db ⟨lf,m4,rfl,rfl,AN⟩
 let B7:Res:=.row a7 a8 3 1 (hD KL.encI ax)
 have Dc:SW w [B1] U iu [.blk ab 80 [.slice lf jB.bytes.length m4,jV jB.next,.int .u32 jB.state],B7,.blk b7 45 [.slice a7 ax.length a8,.slice none 0 0,.slice none 0 0,.slice none 0 0],.blk b3 45 B0] sC:=Db
 refine oM Z Z (eN (zb ?_))
 have q:=bnd qA
 obtain ⟨⟨HS,HT,HU,ay⟩,Eg,qB⟩:=q
 try dsimp only at qB
 have q:=wBM Eg
 obtain ⟨jm,Eh⟩:=q
 replace jm:=zM jm
 refine CK.forN' (fun eI (eK,jC,jD,cz) σ_ w_=>∃ (U_:PHeap) (fA:Option Addr) (f9:Nat) (cK:Option Addr) (cV:Nat),σ_ 45=jV (↑eI:Int)/\σ_ 0=.pointer (some ⟨ab,0,none⟩)/\σ_ 3=jV p3/\σ_ 8=.pointer (some ⟨b3,0,none⟩)/\σ_ 11=.pointer (some ⟨b7,0,none⟩)/\σ_ 12=.slice none 0 0/\σ_ 13=.slice none 0 0/\σ_ 44=jV gK/\PHeap.Le iu U_/\SW w [B1] U U_ [.blk ab 80 [.slice fA eK.length f9,jV jC,.int .u32 jD],B7,.row cK cV 37 2 (hD wAF cz),.blk b7 45 [.slice a7 ax.length a8,.slice cK cz.length cV,.slice none 0 0,.slice none 0 0],.blk b3 45 B0] w_/\Sl U_ 1 fA f9 eK.length (hD KL.encB8 eK)) Eh ?_ ?_ ?_
 have De:=Dc.nilrow 37 2
 exact ⟨iu,lf,m4,none,0,rfl,pH,w5,w6,w7,w8,w9,rfl,(zN _),(De.pick [1,2,0,3,4] _ (by decide) rfl),AN⟩
 rintro eI ⟨eK,jC,jD,cz⟩ HM Ie sD jg ⟨rF,fA,f9,cK,cV,pU,iU,xf,xg,iV,xh,xi,pK,Ft,Df,AO⟩ qR
 try dsimp only at qR
 have m5:Hid ((↑eI:Int) < gK):=zM (wAr jg)
 replace jg:=zM jg
 have Ex:Hid (w64 ((↑eI:Int) + 1)=(↑(eI + 1):Int)):=zM (by have h1:=jm.out;have h2:=m5.out;rw [wAW] <;> omega)
 refine sR fL1 Z (oR Z (zY Z pU pK) (eN (zL (cT Z m5 (kN (zL (zb (sR (.fl 0 gAp) Z (oM Z iU ?_)))))))))
 have q:=bnd qR
 obtain ⟨⟨bF,gL⟩,AP,qC⟩:=q
 try dsimp only at qC
 refine zH 1 Z Z Z Z (zG Z Z Tryz.call6 (zB Z (zB Z (zB Z zO))) Z) Df (fun hs=>wAl (⟨eK,jC,jD⟩:wAJ) ab fA f9 3 9 sD rF hs AO AP) (.inl Z) ?_
 rintro l7 Gg HC iA Fu Dg ⟨lg,m6,rfl,rfl,AQ⟩
 let B8:Res:=.blk b7 45 [.slice a7 ax.length a8,.slice cK cz.length cV,.slice none 0 0,.slice none 0 0]
 let B9:Res:=.row cK cV 37 2 (hD wAF cz)
 have Dh:SW w [B1] U l7 [.blk ab 80 [.slice lg gL.bytes.length m6,jV gL.next,.int .u32 gL.state],B7,B9,B8,.blk b3 45 B0] iA:=Dg
 refine ze rfl rfl rfl rfl (fun _=>Runs.mulw rfl rfl rfl) (yB rfl rfl rfl rfl rfl rfl (eN (ZF ZB [3,1004,3,3,3,1005,3,3,3,2,0,3,0,ab] (wHC (.fx 5 (fC6_8 (.fx 9 gAq .stop)) .stop)) (by kernel_rfl) ?_)))
 have ja:=Dh.drew
 generalize hw_W351:({ iA with drawn:=iA.drawn + 1 }:World)=sE at ja ⊢
 refine ze rfl rfl rfl rfl (fun _=>zJ rfl iV zP rfl yA) (OKS.mt (T:=[ab]) [0] [1,2,3,4] [B7,B9,B8,.blk b3 45 B0] rfl rfl rfl rfl ja rfl ⟨⟨0,by decide,_,rfl,rfl⟩,trivial⟩ (by decide) rfl (by decide) (fun _ Ea=>(Ea.ldB (j:=2) rfl rfl rfl yL (v:=.slice cK cz.length cV) rfl)) rfl (zm rfl rfl rfl rfl rfl rfl (zm rfl rfl rfl rfl rfl rfl (zm rfl rfl rfl rfl rfl iU ?_))))
 have q:=bnd qC
 obtain ⟨⟨fd,jE⟩,AS,qD⟩:=q
 try dsimp only at qD
 refine YK 1 rfl rfl rfl rfl (zG rfl rfl ya (zB rfl (zB rfl zO)) rfl) ja (fun hs=>wAV gL ab lg m6 30 sE l7 hs AQ AS) rfl (T:=[ab]) rfl ⟨fun b h=>(by cases h;exact .head _),trivial⟩ ?_
 rintro dJ Gh HD sF Fv Di ⟨lh,m7,rfl,rfl,AT⟩
 let fG:Res:=.blk ab 80 [.slice lh jE.bytes.length m7,jV jE.next,.int .u32 jE.state]
 have Dj:SW w [B1] U dJ [fG,B7,B9,B8,.blk b3 45 B0] sF:=Di
 refine oR Z (Runs.mulw Z Z Z) (oR Z (za Z Z Z) ?_)
 let gZ:List Value:=[jV (w64 (100 * bF)),jV (w64 ((w64 (100 * bF)) + (w64 (10 * fd))))]
 refine oR Z (zu (pv:=[(0,jV (w64 (100 * bF))),(1,jV (w64 ((w64 (100 * bF)) + (w64 (10 * fd)))))]) (z:=[jV 0,jV 0]) (cs:=gZ) Z (wAD Z (wAD Z wAM)) ZQ wCU Z Z) (zo (pv:=[(0,.agg gZ.toArray)]) (zs:=[jV 0,jV 0]) (cs:=gZ) Z Z Z Z Z (wAD Z wAM) ZP ZD ZQ Z Z Z Z Z Dj ?_)
 intro sG s3 Dk
 let g6:Res:=.row (some ⟨s3,0,none⟩) 1 37 2 (hD wAF [(⟨w64 (100 * bF),w64 ((w64 (100 * bF)) + (w64 (10 * fd)))⟩:wAI)])
 have qm:SW w [B1] U dJ [g6,fG,B7,B9,B8,.blk b3 45 B0] sG:=Dk
 refine bnK qD fun gM AU EM=>yK (j:=3) (enc:=wAF) (xs:=cz) (ys:=[(⟨w64 (100 * bF),w64 ((w64 (100 * bF)) + (w64 (10 * fd)))⟩:wAI)]) (zs:=gM) rfl rfl rfl rfl rfl Tryz.underlying42 wMW rfl rfl rfl rfl rfl rfl qm rfl rfl rfl (qm.srcR (j:=0) rfl (by decide) (wAC (f:=wAF) (sz:=2) (fun _=>rfl) [(⟨w64 (100 * bF),w64 ((w64 (100 * bF)) + (w64 (10 * fd)))⟩:wAI)])) (fun _=>rfl) (fun _=>rfl) AU rfl ?_
 intro fB ga sH Dl
 let lu:Res:=.row fB ga 37 2 (hD wAF gM)
 have Dm:SW w [B1] U dJ [g6,fG,B7,lu,B8,.blk b3 45 B0] sH:=Dl
 refine oR Z (zJ Z iV zP Z yA) (zX (j:=4) (vs:=[.slice fB gM.length ga]) Z Z Z Z Dm Z Z Z Z yA (zA Z) Z Z Z ?_)
 intro sI Dn
 have Do:SW w [B1] U dJ [g6,fG,B7,lu,.blk b7 45 [.slice a7 ax.length a8,.slice fB gM.length ga,.slice none 0 0,.slice none 0 0],.blk b3 45 B0] sI:=Dn
 refine zg (zx (zI (rR fL2 Z (oR Z (ZG (za Z pU Z) (congrArg (jV) Ex.out)) (oM Z Z (zg ?_))))))
 cases EM
 exact zI ⟨rfl,⟨dJ,lh,m7,fB,ga,rfl,iU,xf,xg,iV,xh,xi,pK,((Ft.trans Fu).trans Fv),(Do.pick [1,2,3,4,5] _ (by decide) rfl),AT⟩⟩
 rintro If GG ⟨l8,rq,tb,be,bf,y8,xj,xk,xl,pL,xm,xn,xo,Hg,qn,AV⟩
 have tc:Hid (¬ ((↑((gK:Int) - 0).toNat:Int) < gK)):=zM (wAf)
 refine sR fL1 Z (oR Z (zY Z y8 xo) (eN (zL (cF Z tc (Zd (zn (zn (ZV (zI (zL (sR fL4 Z (oR Z (zJ Z pL zP Z zZ) (oL Z (qn.ldB (j:=3) Z Z Z zj (v:=.slice a7 ax.length a8) Z) (oR Z (zr Z Z zC) (oM Z Z (eN (zb ?_)))))))))))))))))
 have q:=bnd qB
 obtain ⟨⟨FL,FM,FN,bj⟩,Ei,qE⟩:=q
 try dsimp only at qE
 have q:=wBM Ei
 obtain ⟨jo,Ej⟩:=q
 replace jo:=zM jo
 let bt:Res:=.blk b7 45 [.slice a7 ax.length a8,.slice be ay.length bf,.slice none 0 0,.slice none 0 0]
 refine CK.forN' (fun bQ (eM,jF,jG,eO) σ_ w_=>∃ (U_:PHeap) (dB:Option Addr) (ep:Nat) (dC:Option Addr) (eu:Nat) (gg:List Value),σ_ 66=jV (↑bQ:Int)/\σ_ 0=.pointer (some ⟨ab,0,none⟩)/\σ_ 3=jV p3/\σ_ 8=.pointer (some ⟨b3,0,none⟩)/\σ_ 11=.pointer (some ⟨b7,0,none⟩)/\σ_ 12=.slice dC eO.length eu/\σ_ 13=.slice none 0 0/\σ_ 64=.slice a7 ax.length a8/\σ_ 65=jV (↑ax.length:Int)/\PHeap.Le l8 U_/\SW w [B1] U U_ [.blk ab 80 [.slice dB eM.length ep,jV jF,.int .u32 jG],.row a7 a8 3 1 (hD KL.encI ax),.row be bf 37 2 (hD wAF ay),bt,.blk b3 45 B0,.row dC eu 41 1 gg] w_/\Sl U_ 1 dB ep eM.length (hD KL.encB8 eM)/\RlL U_ wEX eO gg) Ej ?_ ?_ ?_
 have Dq:=qn.nilrow 41 1
 exact ⟨l8,rq,tb,none,0,[],rfl,xj,xk,xl,pL,xm,xn,rfl,rfl,(zN _),(Dq.pick [1,2,3,4,5,0] _ (by decide) rfl),AV,RlL.nil⟩
 rintro bQ ⟨eM,jF,jG,eO⟩ HO Ig GH jh ⟨iv,dB,ep,dC,eu,gg,iY,xp,xq,xr,pM,xt,xu,pN,pO,Fw,jb,AW,AX⟩ qS
 try dsimp only at qS
 have m8:Hid ((↑bQ:Int) < (↑ax.length:Int)):=zM (wAr jh)
 replace jh:=zM jh
 have Ey:Hid (w64 ((↑bQ:Int) + 1)=(↑(bQ + 1):Int)):=zM (by have h1:=jo.out;have h2:=m8.out;rw [wAW] <;> omega)
 refine sR fL1 Z (oR Z (zY Z iY pO) (eN (zL (cT Z m8 (kN (zL (zb (sR fL3 Z (bnK qS fun _ i5 EN=>?_)))))))))
 obtain ⟨GQ,p8⟩:=jb.rowSome (j:=1) rfl (by rw [wAC (f:=KL.encI) (sz:=1) (fun _=>rfl) ax];have hz:=wAY i5;omega)
 refine oR Z (ZR Z pN p8 iY zC zD (wAY i5)) ?_
 have Ev:=wBb (xs:=ax) (wAY i5)
 refine ZE rfl rfl rfl rfl (jb.ldR (j:=1) rfl p8 rfl rfl zF (wAa (sz:=1) (fun _=>rfl) _ _ 0 _ Ev (by first | omega | rfl | simp) rfl)) rfl (yB rfl rfl rfl rfl rfl rfl (eN (sR gAr rfl (zm rfl rfl rfl rfl rfl rfl (zo (pv:=[(0,jV (gd ax bQ))]) (zs:=[jV 0]) (cs:=[jV (gd ax bQ)]) rfl rfl rfl rfl rfl (wAD rfl wAM) zC zD zt rfl rfl rfl rfl rfl jb ?_)))))
 intro sJ mC Dr
 let bB:Res:=.row be bf 37 2 (hD wAF ay)
 let bH:Res:=.row dC eu 41 1 gg
 have qo:SW w [B1] U iv [.row (some ⟨mC,0,none⟩) 1 3 1 (hD KL.encI [(gd ax bQ)]),.blk ab 80 [.slice dB eM.length ep,jV jF,.int .u32 jG],B7,bB,bt,.blk b3 45 B0,bH] sJ:=Dr
 refine oA Z Z (eN (zL (sR fL4 Z (oR Z (zJ Z pM zP Z yA) (oL Z (qo.ldB (j:=4) Z Z Z yL (v:=.slice be ay.length bf) Z) (oR Z (zr Z Z ZP) (oM Z Z (eN (zb ?_)))))))))
 have q:=bnd EN
 obtain ⟨⟨FO,FP,FQ,HV,cE⟩,Ek,qF⟩:=q
 try dsimp only at qF
 have q:=wBM Ek
 obtain ⟨jp,Em⟩:=q
 replace jp:=zM jp
 refine CK.forN' (fun bz (db,gN,gO,cC,eU) σ_ w_=>∃ (U_:PHeap) (dD:Option Addr) (ew:Nat) (fC:Option Addr) (gb:Nat),σ_ 75=jV (↑bz:Int)/\σ_ 0=.pointer (some ⟨ab,0,none⟩)/\σ_ 3=jV p3/\σ_ 8=.pointer (some ⟨b3,0,none⟩)/\σ_ 11=.pointer (some ⟨b7,0,none⟩)/\σ_ 12=.slice dC eO.length eu/\σ_ 13=.slice none 0 0/\σ_ 16=jV cC/\σ_ 17=.slice fC eU.length gb/\σ_ 64=.slice a7 ax.length a8/\σ_ 65=jV (↑ax.length:Int)/\σ_ 66=jV (↑bQ:Int)/\σ_ 73=.slice be ay.length bf/\σ_ 74=jV (↑ay.length:Int)/\PHeap.Le iv U_/\SW w [B1] U U_ [.blk ab 80 [.slice dD db.length ew,jV gN,.int .u32 gO],B7,bB,bt,.blk b3 45 B0,bH,.row fC gb 3 1 (hD KL.encI eU)] w_/\Sl U_ 1 dD ew db.length (hD KL.encB8 db)) Em ?_ ?_ ?_
 exact ⟨iv,dB,ep,(some ⟨mC,0,none⟩),1,rfl,xp,xq,xr,pM,xt,xu,rfl,rfl,pN,pO,iY,rfl,rfl,(zN _),(qo.pick [1,2,3,4,5,6,0] _ (by decide) rfl),AW⟩
 rintro bz ⟨db,gN,gO,cC,eU⟩ HP Ih GI ji ⟨iw,dD,ew,fC,gb,iZ,pP,xv,xw,xx,xz,xA,xB,xC,xD,xE,xF,pQ,pR,Fx,jc,AY⟩ qT
 try dsimp only at qT
 have m9:Hid ((↑bz:Int) < (↑ay.length:Int)):=zM (wAr ji)
 replace ji:=zM ji
 have Ez:Hid (w64 ((↑bz:Int) + 1)=(↑(bz + 1):Int)):=zM (by have h1:=jp.out;have h2:=m9.out;rw [wAW] <;> omega)
 refine sR fL1 Z (oR Z (zY Z iZ pR) (eN (zL (cT Z m9 (kN (zL (zb (sR gBc Z (bnK qT fun _ i6 EO=>?_)))))))))
 obtain ⟨GR,p9⟩:=jc.rowSome (j:=2) rfl (by rw [wAC (f:=wAF) (sz:=2) (fun _=>rfl) ay];have hz:=wAY i6;omega)
 refine oR Z (ZR Z pQ p9 iZ ZP ZD (wAY i6)) ?_
 have Ew:=wBb (xs:=ay) (wAY i6)
 let cm:List Value:=[jV ((gd ay bz).Lo),jV ((gd ay bz).Hi)]
 refine ZE rfl rfl rfl rfl (jc.ldRA (j:=2) rfl p9 rfl rfl yE ZD (vs:=cm) (wGt (sz:=2) (fun _=>rfl) _ _ _ Ew (by first | omega | rfl | simp) rfl) rfl) rfl (zW (cs:=[jV 0,jV 0]) rfl rfl rfl rfl rfl ZQ rfl jc ?_)
 intro GJ dN Ds
 refine zX (j:=0) (vs:=cm) Z Z Z Z Ds Z Z Z Z ZD (zA Z) Z Z Z ?_
 intro iB Dt
 let fH:Res:=.row fC gb 3 1 (hD KL.encI eU)
 let lv:Res:=.blk ab 80 [.slice dD db.length ew,jV gN,.int .u32 gO]
 have jd:SW w [B1] U iw [.blk dN 37 cm,lv,B7,bB,bt,.blk b3 45 B0,bH,fH] iB:=Dt
 refine eN (sR (wFd gAo) Z (oM Z xB (oM Z pP (oR Z (zJ Z Z ZU Z zD) (oL Z (jd.ldB (j:=0) Z Z Z zF (v:=jV ((gd ay bz).Lo)) Z) (oR Z (zJ Z Z ZU Z zD) (oL Z (jd.ldB (j:=0) Z Z Z zF (v:=jV ((gd ay bz).Hi)) Z) ?_)))))))
 have q:=bnd EO
 obtain ⟨⟨ff,jJ⟩,AZ,qG⟩:=q
 try dsimp only at qG
 have Du:SW w [B1] U iw [lv,.blk dN 37 cm,B7,bB,bt,.blk b3 45 B0,bH,fH] iB:=jd.pick [1,0,2,3,4,5,6,7] _ (by decide) rfl
 refine zH 1 Z Z Z Z (zG Z Z Tryz.call6 (zB Z (zB Z (zB Z zO))) Z) Du (fun hs=>wAl (⟨db,gN,gO⟩:wAJ) ab dD ew ((gd ay bz).Lo) ((gd ay bz).Hi) iB iw hs AY AZ) (.inl Z) ?_
 rintro fQ Gi HE sK Fy Dv ⟨li,n3,rfl,rfl,A3⟩
 let g7:Res:=.blk ab 80 [.slice li jJ.bytes.length n3,jV jJ.next,.int .u32 jJ.state]
 have Dw:SW w [B1] U fQ [g7,.blk dN 37 cm,B7,bB,bt,.blk b3 45 B0,bH,fH] sK:=Dv
 refine oR Z (za Z Z Z) (oA Z Z (eN (rR gBi Z (oM Z xC (oM Z Z (zo (pv:=[(0,jV (w64 (cC + ff)))]) (zs:=[jV 0]) (cs:=[jV (w64 (cC + ff))]) Z Z Z Z Z (wAD Z wAM) zC zD zt Z Z Z Z Z Dw ?_))))))
 intro sL s4 Dx
 let lw:Res:=.row (some ⟨s4,0,none⟩) 1 3 1 (hD KL.encI [w64 (cC + ff)])
 have qp:SW w [B1] U fQ [lw,g7,.blk dN 37 cm,B7,bB,bt,.blk b3 45 B0,bH,fH] sL:=Dx
 refine bnK qG fun rk A5 EP=>yK (j:=8) (enc:=KL.encI) (xs:=eU) (ys:=[w64 (cC + ff)]) (zs:=rk) rfl rfl rfl rfl rfl yb wFm rfl rfl rfl rfl rfl rfl qp rfl rfl rfl (qp.srcR (j:=0) rfl (by decide) (wAC (f:=KL.encI) (sz:=1) (fun _=>rfl) [w64 (cC + ff)])) (fun _=>rfl) (fun _=>rfl) A5 rfl ?_
 intro lj n4 sM Dy
 have Dz:SW w [B1] U fQ [lw,g7,.blk dN 37 cm,B7,bB,bt,.blk b3 45 B0,bH,.row lj n4 3 1 (hD KL.encI rk)] sM:=Dy
 refine oA Z Z (zg (zx (zI (rR fL2 Z (oR Z (ZG (za Z iZ Z) (congrArg (jV) Ez.out)) (oM Z Z (zg ?_)))))))
 cases EP
 exact zI ⟨rfl,⟨fQ,li,n3,lj,n4,rfl,pP,xv,xw,xx,xz,xA,rfl,rfl,xD,xE,xF,pQ,pR,(Fx.trans Fy),(Dz.pick [1,3,4,5,6,7,8] _ (by decide) rfl),A3⟩⟩
 rintro Ii sN ⟨Gn,lk,n5,gX,iK,y9,xG,xH,xI,xJ,xK,xL,Ha,xM,xN,xO,xP,Hb,xQ,rc,DA,A6⟩
 have tf:Hid (¬ ((↑(((↑ay.length:Int):Int) - 0).toNat:Int) < (↑ay.length:Int))):=zM (wAf)
 refine sR fL1 Z (oR Z (zY Z y9 xQ) (eN (zL (cF Z tf (Zd (zn (zn (ZV (zI (rR gBi Z (oM Z xK (oM Z xM ?_))))))))))))
 have q:=DA.freezeR (k:=6) (n:=cE.length) rfl (wAC (f:=KL.encI) (sz:=1) (fun _=>rfl) cE) (by decide)
 obtain ⟨dK,jv,EW,DC⟩:=q
 let g8:Res:=.blk ab 80 [.slice lk FO.length n5,jV FP,.int .u32 FQ]
 have DD:SW w [B1] U dK [g8,B7,bB,bt,.blk b3 45 B0,bH] sN:=DC
 let fI:List Value:=[.slice gX cE.length iK]
 refine zo (pv:=[(0,.slice gX cE.length iK)]) (zs:=[.slice none 0 0]) (cs:=fI) Z Z Z Z Z (wAD Z wAM) ZK zZ YA Z Z Z Z Z DD ?_
 intro sO s5 DB
 have qO:RlL dK wEX [cE] fI:=(RlL.cons (R:=wEX) (x:=cE) (vs:=fI) ⟨gX,iK,rfl,EW⟩ RlL.nil)
 let lx:Res:=.row (some ⟨s5,0,none⟩) 1 41 1 fI
 have qq:SW w [B1] U dK [lx,g8,B7,bB,bt,.blk b3 45 B0,bH] sO:=DB
 refine bnK qF fun FH A7 EQ=>?_
 have A8:=AX.le rc
 have A9:=A8.le jv
 refine OKS.appendR (R:=wEX) (j:=6) (xs:=eO) (ys:=[cE]) (zs:=FH) rfl rfl rfl rfl rfl Tryz.underlying56 wMX rfl rfl rfl rfl rfl rfl rfl qq rfl rfl rfl A9 qO (qq.srcR (j:=0) rfl (by decide) (RlL.len qO)) A7 rfl ?_
 intro lm n7 og sP DE EV
 have DF:SW w [B1] U dK [lx,g8,B7,bB,bt,.blk b3 45 B0,.row lm n7 41 1 og] sP:=DE
 refine oA Z Z (zg (zx (zI (rR fL2 Z (oR Z (ZG (za Z xP Z) (congrArg (jV) Ey.out)) (oM Z Z (zg ?_)))))))
 cases EQ
 have Ba:=A6.le jv
 exact zI ⟨rfl,⟨dK,lk,n5,lm,n7,og,rfl,xG,xH,xI,xJ,rfl,xL,xN,xO,((Fw.trans rc).trans jv),(DF.pick [1,2,3,4,5,6] _ (by decide) rfl),Ba,EV⟩⟩
 rintro Ij sQ ⟨rG,rv,tg,bc,bd,th,z6,pS,xR,xS,xT,xU,xV,Hc,xW,Hh,DH,Bb,Bc⟩
 have tj:Hid (¬ ((↑(((↑ax.length:Int):Int) - 0).toNat:Int) < (↑ax.length:Int))):=zM (wAf)
 refine sR fL1 Z (oR Z (zY Z z6 xW) (eN (zL (cF Z tj (Zd (zn (zn (ZV (zI (zL (sR gAr Z (oM Z pS ?_))))))))))))
 have q:=bnd qE
 obtain ⟨⟨bm,jK⟩,Bd,qI⟩:=q
 try dsimp only at qI
 refine zH 1 Z Z Z Z (zG Z Z Tryz.call6 (zB Z (zB Z (zB Z zO))) Z) DH (fun hs=>wAl (⟨FL,FM,FN⟩:wAJ) ab rv tg 1 3 sQ rG hs Bb Bd) (.inl Z) ?_
 rintro iy Gj HF sS Fz DI ⟨ln,n8,rfl,rfl,Be⟩
 let ai:Res:=.row be bf 37 2 (hD wAF ay)
 let ap:Res:=.row bc bd 41 1 th
 have DJ:SW w [B1] U iy [.blk ab 80 [.slice ln jK.bytes.length n8,jV jK.next,.int .u32 jK.state],B7,ai,bt,.blk b3 45 B0,ap] sS:=DI
 refine oM Z Z (eN (zb ?_))
 have q:=bnd qI
 obtain ⟨⟨FU,FV,FW,bk,bp⟩,Ep,qJ⟩:=q
 try dsimp only at qJ
 have q:=wBM Ep
 obtain ⟨jr,Er⟩:=q
 replace jr:=zM jr
 refine CK.forN' (fun bg (eV,jL,jM,bo,aY) σ_ w_=>∃ (U_:PHeap) (fE:Option Addr) (gf:Nat) (bA:Option Addr) (bC:Nat) (aZ:Option Addr) (a6:Nat),σ_ 99=jV (↑bg:Int)/\σ_ 0=.pointer (some ⟨ab,0,none⟩)/\σ_ 3=jV p3/\σ_ 8=.pointer (some ⟨b3,0,none⟩)/\σ_ 11=.pointer (some ⟨b7,0,none⟩)/\σ_ 12=.slice bc bj.length bd/\σ_ 13=.slice aZ aY.length a6/\σ_ 98=jV bm/\PHeap.Le iy U_/\SW w [B1] U U_ [.blk ab 80 [.slice fE eV.length gf,jV jL,.int .u32 jM],B7,ai,.row bA bC 39 3 (hD wAA bo),.blk b7 45 [.slice a7 ax.length a8,.slice be ay.length bf,.slice bA bo.length bC,.slice none 0 0],.blk b3 45 B0,ap,.row aZ a6 3 1 (hD KL.encI aY)] w_/\Sl U_ 1 fE gf eV.length (hD KL.encB8 eV)) Er ?_ ?_ ?_
 have DL:=DJ.nilrow 39 3
 have DM:=DL.nilrow 3 1
 exact ⟨iy,ln,n8,none,0,none,0,rfl,pS,xR,xS,xT,xU,xV,rfl,(zN _),(DM.pick [2,3,4,1,5,6,7,0] _ (by decide) rfl),Be⟩
 rintro bg ⟨eV,jL,jM,bo,aY⟩ HR Il sT jk ⟨rI,fE,gf,bA,bC,aZ,a6,bN,bv,bY,bZ,bD,ca,bL,bM,FB,DN,Bf⟩ qV
 try dsimp only at qV
 have n9:Hid ((↑bg:Int) < bm):=zM (wAr jk)
 replace jk:=zM jk
 have EA:Hid (w64 ((↑bg:Int) + 1)=(↑(bg + 1):Int)):=zM (by have h1:=jr.out;have h2:=n9.out;rw [wAW] <;> omega)
 refine sR fL1 Z (oR Z (zY Z bN bM) (eN (zL (cT Z n9 (kN (zL (zb (sR gAr Z (oM Z bv ?_)))))))))
 have q:=bnd qV
 obtain ⟨⟨aa,gP⟩,Bg,qK⟩:=q
 try dsimp only at qK
 refine zH 1 Z Z Z Z (zG Z Z Tryz.call6 (zB Z (zB Z (zB Z zO))) Z) DN (fun hs=>wAl (⟨eV,jL,jM⟩:wAJ) ab fE gf (-60) 20 sT rI hs Bf Bg) (.inl Z) ?_
 rintro ma Gk HG mu FC DP ⟨lp,oa,rfl,rfl,Bh⟩
 let az:Res:=.blk b7 45 [.slice a7 ax.length a8,.slice be ay.length bf,.slice bA bo.length bC,.slice none 0 0]
 let aW:Res:=.row aZ a6 3 1 (hD KL.encI aY)
 let bu:Res:=.row bA bC 39 3 (hD wAA bo)
 have DQ:SW w [B1] U ma [.blk ab 80 [.slice lp gP.bytes.length oa,jV gP.next,.int .u32 gP.state],B7,ai,bu,az,.blk b3 45 B0,ap,aW] mu:=DP
 refine oA Z Z (eN (sR (wCv (.fx 3 (wOa (.fx 7 (.fl 8 (.fx 9 (.fx 10 .nil .stop) .stop)) .stop)) .stop)) Z (oM Z Z (oM Z Z (oM Z bv ?_)))))
 have q:=bnd qK
 obtain ⟨⟨aj,gQ⟩,Bi,qL⟩:=q
 try dsimp only at qL
 refine zH 1 Z Z Z Z (zG Z Z ya (zB Z (zB Z zO)) Z) DQ (fun hs=>wAV gP ab lp oa 50 mu ma hs Bh Bi) (.inl Z) ?_
 rintro mb Gl HH mw FD DR ⟨lq,oc,rfl,rfl,Bj⟩
 have DS:SW w [B1] U mb [.blk ab 80 [.slice lq gQ.bytes.length oc,jV gQ.next,.int .u32 gQ.state],B7,ai,bu,az,.blk b3 45 B0,ap,aW] mw:=DR
 refine oR Z (za Z Z Z) ?_
 let ly:List Value:=[jV aa,jV (w64 (aa + aj))]
 refine oR Z (zu (pv:=[(0,jV aa),(1,jV (w64 (aa + aj)))]) (z:=[jV 0,jV 0]) (cs:=ly) Z (wAD Z (wAD Z wAM)) ZQ wCU Z Z) (oM Z bv ?_)
 have q:=bnd qL
 obtain ⟨⟨an,fg⟩,Bk,qM⟩:=q
 try dsimp only at qM
 refine zH 1 Z Z Z Z (zG Z Z ya (zB Z (zB Z zO)) Z) DS (fun hs=>wAV gQ ab lq oc 6 mw mb hs Bj Bk) (.inl Z) ?_
 rintro aX Gm HI sU FE DT ⟨gY,iL,rfl,rfl,p5⟩
 let ba:Res:=.blk ab 80 [.slice gY fg.bytes.length iL,jV fg.next,.int .u32 fg.state]
 have DU:SW w [B1] U aX [ba,B7,ai,bu,az,.blk b3 45 B0,ap,aW] sU:=DT
 let am:List Value:=[jV aa,jV (w64 (aa + aj)),jV an]
 let cM:List Value:=[jV 0,jV 0,jV 0]
 refine oR Z (zu (pv:=[(0,.agg ly.toArray),(1,jV an)]) (z:=cM) (cs:=am) Z (wAD Z (wAD Z wAM)) yc wJf Z Z) (zW (cs:=cM) Z Z Z Z Z yc Z DU ?_)
 intro GK af DV
 refine zX (j:=0) (vs:=am) Z Z Z Z DV Z Z Z Z Zs (zA Z) Z Z Z ?_
 intro iC DW
 have DX:SW w [B1] U aX [.blk af 39 am,ba,B7,ai,bu,az,.blk b3 45 B0,ap,aW] iC:=DW
 refine eN (bnK qM fun av gv ER=>?_)
 have q:=bnd ER
 obtain ⟨⟨bi,ao⟩,p6,qN⟩:=q
 try dsimp only at qN
 refine bnK qN fun cD Bl ES=>ZF ZB [3,1,1,2,0,3,3,3,3,2,3,3,2,0,2,0,3,0,3] (wCv (wHE (.fl 10 (.fl 11 (.fx 3 (.fx 4 (.fl 16 (.fx 9 gBl (.fx 12 gBm .stop))) (.fx 9 gBp (.fx 12 gBq .stop))) (.fx 9 (.fx 3 gBp (.fx 12 gBo .stop)) (.fx 12 (.fx 3 gBq (.fx 9 gBo .stop)) .stop))))))) (by kernel_rfl) ?_
 have bw:=DX.drew
 generalize hw_W923:({ iC with drawn:=iC.drawn + 1 }:World)=GL at bw ⊢
 refine ZS (s:=.fl 18 .nil) (M:=fun σ_ w_=>∃ (U_:PHeap) (fh:Option Addr) (fS:Nat) (df:Option Addr) (dO:Nat) (gR:Option Addr) (iD:Nat) (gS:Option Addr) (iE:Nat) (fj:Option Addr) (fT:Nat),σ_ 0=.pointer (some ⟨ab,0,none⟩)/\σ_ 3=jV p3/\σ_ 8=.pointer (some ⟨b3,0,none⟩)/\σ_ 11=.pointer (some ⟨b7,0,none⟩)/\σ_ 12=.slice bc bj.length bd/\σ_ 21=.pointer (some ⟨af,0,none⟩)/\σ_ 98=jV bm/\σ_ 99=jV (↑bg:Int)/\σ_ 112=.pointer (some ⟨b7,2,none⟩)/\σ_ 114=.agg am.toArray/\σ_ 115=.slice gR ([(⟨(⟨aa,w64 (aa + aj)⟩:wAI),an⟩:wAL)].length) iD/\σ_ 116=.slice df av.length dO/\σ_ 118=.pointer (some ⟨ab,0,none⟩)/\σ_ 119=.pointer (some ⟨af,0,none⟩)/\σ_ 120=.pointer (some ⟨af,0,none⟩)/\σ_ 121=jV aa/\σ_ 122=.pointer (some ⟨af,0,none⟩)/\σ_ 123=.pointer (some ⟨af,1,none⟩)/\σ_ 124=jV (w64 (aa + aj))/\σ_ 125=jV bi/\σ_ 126=.slice gS ([bi].length) iE/\σ_ 127=.slice fj cD.length fT/\σ_ 128=.pointer (some ⟨b7,2,none⟩)/\PHeap.Le aX U_/\SW w [B1] U U_ [.blk ab 80 [.slice fh ao.bytes.length fS,jV ao.next,.int .u32 ao.state],.blk af 39 am,B7,ai,.row df dO 39 3 (hD wAA av),.blk b7 45 [.slice a7 ax.length a8,.slice be ay.length bf,.slice df av.length dO,.slice none 0 0],.blk b3 45 B0,ap,.row gR iD 39 3 (hD wAA [(⟨(⟨aa,w64 (aa + aj)⟩:wAI),an⟩:wAL)]),.row gS iE 3 1 (hD KL.encI [bi]),.row fj fT 3 1 (hD KL.encI cD)] w_/\Sl U_ 1 fh fS ao.bytes.length (hD KL.encB8 ao.bytes)) ?_ fun EY=>?_
 rintro HW Gq ⟨rx,fh,fS,df,dO,gR,iD,gS,iE,fj,fT,tm,tp,tq,tr,tu,GS,tv,tw,GT,GU,GV,GX,GY,GZ,G0,G1,G2,G3,G4,G5,G6,tz,G7,E4,Bt,z7⟩
 refine oA Z tz (zg (zx (zI (rR fL2 Z (oR Z (ZG (za Z tw Z) (congrArg (jV) EA.out)) (oM Z Z (zg ?_)))))))
 cases ES
 exact zI ⟨rfl,⟨rx,fh,fS,df,dO,fj,fT,rfl,tm,tp,tq,tr,tu,rfl,tv,((((FB.trans FC).trans FD).trans FE).trans E4),(Bt.pick [0,2,3,4,5,6,7,10] _ (by decide) rfl),z7⟩⟩
 refine ZS (s:=gAk) (M:=fun σ_ w_=>∃ (U_:PHeap) (dg:Option Addr) (dP:Nat) (dh:Option Addr) (dQ:Nat) (cj:Option Addr) (cp:Nat) (di:Option Addr) (dR:Nat) (dm:Option Addr) (dS:Nat),σ_ 0=.pointer (some ⟨ab,0,none⟩)/\σ_ 3=jV p3/\σ_ 8=.pointer (some ⟨b3,0,none⟩)/\σ_ 11=.pointer (some ⟨b7,0,none⟩)/\σ_ 12=.slice bc bj.length bd/\σ_ 21=.pointer (some ⟨af,0,none⟩)/\σ_ 98=jV bm/\σ_ 99=jV (↑bg:Int)/\σ_ 112=.pointer (some ⟨b7,2,none⟩)/\σ_ 114=.agg am.toArray/\σ_ 115=.slice dh ([(⟨(⟨aa,w64 (aa + aj)⟩:wAI),an⟩:wAL)].length) dQ/\σ_ 116=.slice cj av.length cp/\σ_ 118=.pointer (some ⟨ab,0,none⟩)/\σ_ 119=.pointer (some ⟨af,0,none⟩)/\σ_ 120=.pointer (some ⟨af,0,none⟩)/\σ_ 121=jV aa/\σ_ 122=.pointer (some ⟨af,0,none⟩)/\σ_ 123=.pointer (some ⟨af,1,none⟩)/\σ_ 124=jV (w64 (aa + aj))/\σ_ 125=jV bi/\σ_ 126=.slice di ([bi].length) dR/\σ_ 127=.slice dm cD.length dS/\σ_ 128=.pointer (some ⟨b7,2,none⟩)/\PHeap.Le aX U_/\SW w [B1] U U_ [.blk ab 80 [.slice dg ao.bytes.length dP,jV ao.next,.int .u32 ao.state],.blk af 39 am,B7,ai,az,.blk b3 45 B0,ap,.row dh dQ 39 3 (hD wAA [(⟨(⟨aa,w64 (aa + aj)⟩:wAI),an⟩:wAL)]),.row cj cp 39 3 (hD wAA av),.row di dR 3 1 (hD KL.encI [bi]),.row dm dS 3 1 (hD KL.encI cD)] w_/\Sl U_ 1 dg dP ao.bytes.length (hD KL.encB8 ao.bytes)) ?_ fun EZ=>?_
 rintro HX Gr ⟨lP,dg,dP,dh,dQ,cj,cp,di,dR,dm,dS,tA,tB,tC,tD,tE,tF,tG,tH,tI,tJ,tK,oh,tL,tM,tN,tO,tP,tQ,tR,tS,tT,tU,oj,E5,Bu,z8⟩
 refine zX (j:=4) (vs:=[.slice cj av.length cp]) Z Z Z Z Bu Z oj oh Z Zr (zA Z) Z Z Z ?_
 intro rJ Bv
 have Bw:SW w [B1] U lP [.blk ab 80 [.slice dg ao.bytes.length dP,jV ao.next,.int .u32 ao.state],.blk af 39 am,B7,ai,.blk b7 45 [.slice a7 ax.length a8,.slice be ay.length bf,.slice cj av.length cp,.slice none 0 0],.blk b3 45 B0,ap,.row dh dQ 39 3 (hD wAA [(⟨(⟨aa,w64 (aa + aj)⟩:wAI),an⟩:wAL)]),.row cj cp 39 3 (hD wAA av),.row di dR 3 1 (hD KL.encI [bi]),.row dm dS 3 1 (hD KL.encI cD)] rJ:=Bv
 exact EY _ _ ⟨lP,dg,dP,cj,cp,dh,dQ,di,dR,dm,dS,tA,tB,tC,tD,tE,tF,tG,tH,tI,tJ,tK,oh,tL,tM,tN,tO,tP,tQ,tR,tS,tT,tU,oj,E5,(Bw.pick [0,1,2,3,8,4,5,6,7,9,10] _ (by decide) rfl),z8⟩
 refine ZS (s:=gAs) (M:=fun σ_ w_=>∃ (U_:PHeap) (dn:Option Addr) (dT:Nat) (dp:Option Addr) (dU:Nat) (dq:Option Addr) (dV:Nat) (dr:Option Addr) (dW:Nat),σ_ 0=.pointer (some ⟨ab,0,none⟩)/\σ_ 3=jV p3/\σ_ 8=.pointer (some ⟨b3,0,none⟩)/\σ_ 11=.pointer (some ⟨b7,0,none⟩)/\σ_ 12=.slice bc bj.length bd/\σ_ 13=.slice aZ aY.length a6/\σ_ 21=.pointer (some ⟨af,0,none⟩)/\σ_ 98=jV bm/\σ_ 99=jV (↑bg:Int)/\σ_ 112=.pointer (some ⟨b7,2,none⟩)/\σ_ 114=.agg am.toArray/\σ_ 115=.slice dp ([(⟨(⟨aa,w64 (aa + aj)⟩:wAI),an⟩:wAL)].length) dU/\σ_ 116=.slice dq av.length dV/\σ_ 117=.slice aZ aY.length a6/\σ_ 118=.pointer (some ⟨ab,0,none⟩)/\σ_ 119=.pointer (some ⟨af,0,none⟩)/\σ_ 120=.pointer (some ⟨af,0,none⟩)/\σ_ 121=jV aa/\σ_ 122=.pointer (some ⟨af,0,none⟩)/\σ_ 123=.pointer (some ⟨af,1,none⟩)/\σ_ 124=jV (w64 (aa + aj))/\σ_ 125=jV bi/\σ_ 126=.slice dr ([bi].length) dW/\σ_ 128=.pointer (some ⟨b7,2,none⟩)/\PHeap.Le aX U_/\SW w [B1] U U_ [.blk ab 80 [.slice dn ao.bytes.length dT,jV ao.next,.int .u32 ao.state],.blk af 39 am,B7,ai,az,.blk b3 45 B0,ap,aW,.row dp dU 39 3 (hD wAA [(⟨(⟨aa,w64 (aa + aj)⟩:wAI),an⟩:wAL)]),.row dq dV 39 3 (hD wAA av),.row dr dW 3 1 (hD KL.encI [bi])] w_/\Sl U_ 1 dn dT ao.bytes.length (hD KL.encB8 ao.bytes)) ?_ fun E0=>?_
 rintro HY Gs ⟨lQ,dn,dT,dp,dU,dq,dV,dr,dW,tV,tW,tX,tY,tZ,G8,t6,t7,t8,ua,ub,ud,ue,uf,ug,uh,ui,uj,uk,ul,um,un,om,uo,E6,qa,Ab⟩
 refine yK (j:=7) (enc:=KL.encI) (xs:=aY) (ys:=[bi]) (zs:=cD) rfl rfl rfl rfl rfl yb wFm rfl rfl rfl rfl rfl rfl qa rfl uf om (qa.srcR (j:=10) rfl (by decide) (wAC (f:=KL.encI) (sz:=1) (fun _=>rfl) [bi])) (fun _=>rfl) (fun _=>rfl) Bl rfl ?_
 intro jS mI rK Bx
 have Bz:SW w [B1] U lQ [.blk ab 80 [.slice dn ao.bytes.length dT,jV ao.next,.int .u32 ao.state],.blk af 39 am,B7,ai,az,.blk b3 45 B0,ap,.row jS mI 3 1 (hD KL.encI cD),.row dp dU 39 3 (hD wAA [(⟨(⟨aa,w64 (aa + aj)⟩:wAI),an⟩:wAL)]),.row dq dV 39 3 (hD wAA av),.row dr dW 3 1 (hD KL.encI [bi])] rK:=Bx
 exact EZ _ _ ⟨lQ,dn,dT,dp,dU,dq,dV,dr,dW,jS,mI,tV,tW,tX,tY,tZ,t6,t7,t8,ua,ub,ud,ue,ug,uh,ui,uj,uk,ul,um,un,om,rfl,uo,E6,(Bz.pick [0,1,2,3,4,5,6,8,9,10,7] _ (by decide) rfl),Ab⟩
 refine ZS (s:=gBd) (M:=fun σ_ w_=>∃ (U_:PHeap) (dt:Option Addr) (dX:Nat) (du:Option Addr) (dY:Nat) (dv:Option Addr) (dZ:Nat),σ_ 0=.pointer (some ⟨ab,0,none⟩)/\σ_ 3=jV p3/\σ_ 8=.pointer (some ⟨b3,0,none⟩)/\σ_ 11=.pointer (some ⟨b7,0,none⟩)/\σ_ 12=.slice bc bj.length bd/\σ_ 13=.slice aZ aY.length a6/\σ_ 21=.pointer (some ⟨af,0,none⟩)/\σ_ 98=jV bm/\σ_ 99=jV (↑bg:Int)/\σ_ 112=.pointer (some ⟨b7,2,none⟩)/\σ_ 114=.agg am.toArray/\σ_ 115=.slice du ([(⟨(⟨aa,w64 (aa + aj)⟩:wAI),an⟩:wAL)].length) dY/\σ_ 116=.slice dv av.length dZ/\σ_ 117=.slice aZ aY.length a6/\σ_ 118=.pointer (some ⟨ab,0,none⟩)/\σ_ 119=.pointer (some ⟨af,0,none⟩)/\σ_ 120=.pointer (some ⟨af,0,none⟩)/\σ_ 121=jV aa/\σ_ 122=.pointer (some ⟨af,0,none⟩)/\σ_ 123=.pointer (some ⟨af,1,none⟩)/\σ_ 124=jV (w64 (aa + aj))/\σ_ 125=jV bi/\σ_ 128=.pointer (some ⟨b7,2,none⟩)/\PHeap.Le aX U_/\SW w [B1] U U_ [.blk ab 80 [.slice dt ao.bytes.length dX,jV ao.next,.int .u32 ao.state],.blk af 39 am,B7,ai,az,.blk b3 45 B0,ap,aW,.row du dY 39 3 (hD wAA [(⟨(⟨aa,w64 (aa + aj)⟩:wAI),an⟩:wAL)]),.row dv dZ 39 3 (hD wAA av)] w_/\Sl U_ 1 dt dX ao.bytes.length (hD KL.encB8 ao.bytes)) ?_ fun qW=>?_
 rintro HZ Gt ⟨lR,dt,dX,du,dY,dv,dZ,up,uq,ur,uu,uv,uw,ux,uy,uz,uA,uB,uC,uD,uE,uF,uG,uH,uI,uJ,uK,uL,oq,uM,E7,BA,Ac⟩
 refine zo (pv:=[(0,jV bi)]) (zs:=[jV 0]) (cs:=[jV bi]) Z Z Z Z Z (wAD oq wAM) zC zD zt Z Z Z Z Z BA ?_
 intro rL mx BB
 have BC:SW w [B1] U lR [.row (some ⟨mx,0,none⟩) 1 3 1 (hD KL.encI [bi]),.blk ab 80 [.slice dt ao.bytes.length dX,jV ao.next,.int .u32 ao.state],.blk af 39 am,B7,ai,az,.blk b3 45 B0,ap,aW,.row du dY 39 3 (hD wAA [(⟨(⟨aa,w64 (aa + aj)⟩:wAI),an⟩:wAL)]),.row dv dZ 39 3 (hD wAA av)] rL:=BB
 exact E0 _ _ ⟨lR,dt,dX,du,dY,dv,dZ,(some ⟨mx,0,none⟩),1,up,uq,ur,uu,uv,uw,ux,uy,uz,uA,uB,uC,uD,uE,uF,uG,uH,uI,uJ,uK,uL,oq,rfl,uM,E7,(BC.pick [1,2,3,4,5,6,7,8,9,10,0] _ (by decide) rfl),Ac⟩
 refine ZS (s:=gBj) (M:=fun σ_ w_=>∃ (U_:PHeap) (dw:Option Addr) (d5:Nat) (dx:Option Addr) (d7:Nat),σ_ 0=.pointer (some ⟨ab,0,none⟩)/\σ_ 3=jV p3/\σ_ 8=.pointer (some ⟨b3,0,none⟩)/\σ_ 11=.pointer (some ⟨b7,0,none⟩)/\σ_ 12=.slice bc bj.length bd/\σ_ 13=.slice aZ aY.length a6/\σ_ 21=.pointer (some ⟨af,0,none⟩)/\σ_ 98=jV bm/\σ_ 99=jV (↑bg:Int)/\σ_ 112=.pointer (some ⟨b7,2,none⟩)/\σ_ 114=.agg am.toArray/\σ_ 115=.slice dw ([(⟨(⟨aa,w64 (aa + aj)⟩:wAI),an⟩:wAL)].length) d5/\σ_ 116=.slice dx av.length d7/\σ_ 117=.slice aZ aY.length a6/\σ_ 118=.pointer (some ⟨ab,0,none⟩)/\σ_ 119=.pointer (some ⟨af,0,none⟩)/\σ_ 120=.pointer (some ⟨af,0,none⟩)/\σ_ 121=jV aa/\σ_ 122=.pointer (some ⟨af,0,none⟩)/\σ_ 123=.pointer (some ⟨af,1,none⟩)/\σ_ 124=jV (w64 (aa + aj))/\σ_ 128=.pointer (some ⟨b7,2,none⟩)/\PHeap.Le aX U_/\SW w [B1] U U_ [.blk af 39 am,ba,B7,ai,az,.blk b3 45 B0,ap,aW,.row dw d5 39 3 (hD wAA [(⟨(⟨aa,w64 (aa + aj)⟩:wAI),an⟩:wAL)]),.row dx d7 39 3 (hD wAA av)] w_) ?_ fun gz=>?_
 rintro H0 mc ⟨lS,dw,d5,dx,d7,uN,uO,uP,uQ,uR,uS,uT,uU,uV,uW,uX,uY,uZ,u0,ot,u3,u4,ou,u5,u6,ov,u7,q5,BD⟩
 have Ad:=p5.le q5
 let lz:Res:=.row dw d5 39 3 (hD wAA [(⟨(⟨aa,w64 (aa + aj)⟩:wAI),an⟩:wAL)])
 let lA:Res:=.row dx d7 39 3 (hD wAA av)
 have BE:SW w [B1] U lS [ba,.blk af 39 am,B7,ai,az,.blk b3 45 B0,ap,aW,lz,lA] mc:=BD.pick [1,0,2,3,4,5,6,7,8,9] _ (by decide) rfl
 refine zH 1 Z Z Z Z (zG Z Z Tryz.call6 (zB ot (zB ou (zB ov zO))) Z) BE (fun hs=>wAl fg ab gY iL aa (w64 (aa + aj)) mc lS hs Ad p6) (.inl Z) ?_
 rintro lT FX Hl rM E8 BF ⟨jT,mJ,rfl,rfl,Ae⟩
 have BG:SW w [B1] U lT [.blk ab 80 [.slice jT ao.bytes.length mJ,jV ao.next,.int .u32 ao.state],.blk af 39 am,B7,ai,az,.blk b3 45 B0,ap,aW,lz,lA] rM:=BF
 exact qW _ _ ⟨lT,jT,mJ,dw,d5,dx,d7,uN,uO,uP,uQ,uR,uS,uT,uU,uV,uW,uX,uY,uZ,u0,ot,u3,u4,ou,u5,u6,ov,Z,u7,(q5.trans E8),BG,Ae⟩
 refine ZS (s:=.fl 16 gBj) (M:=fun σ_ w_=>∃ (U_:PHeap) (dy:Option Addr) (d9:Nat) (dz:Option Addr) (ef:Nat),σ_ 0=.pointer (some ⟨ab,0,none⟩)/\σ_ 3=jV p3/\σ_ 8=.pointer (some ⟨b3,0,none⟩)/\σ_ 11=.pointer (some ⟨b7,0,none⟩)/\σ_ 12=.slice bc bj.length bd/\σ_ 13=.slice aZ aY.length a6/\σ_ 21=.pointer (some ⟨af,0,none⟩)/\σ_ 98=jV bm/\σ_ 99=jV (↑bg:Int)/\σ_ 112=.pointer (some ⟨b7,2,none⟩)/\σ_ 114=.agg am.toArray/\σ_ 115=.slice dy ([(⟨(⟨aa,w64 (aa + aj)⟩:wAI),an⟩:wAL)].length) d9/\σ_ 116=.slice dz av.length ef/\σ_ 117=.slice aZ aY.length a6/\σ_ 118=.pointer (some ⟨ab,0,none⟩)/\σ_ 119=.pointer (some ⟨af,0,none⟩)/\σ_ 120=.pointer (some ⟨af,0,none⟩)/\σ_ 121=jV aa/\σ_ 122=.pointer (some ⟨af,0,none⟩)/\σ_ 123=.pointer (some ⟨af,1,none⟩)/\σ_ 124=jV (w64 (aa + aj))/\PHeap.Le aX U_/\SW w [B1] U U_ [.blk af 39 am,ba,B7,ai,az,.blk b3 45 B0,ap,aW,.row dy d9 39 3 (hD wAA [(⟨(⟨aa,w64 (aa + aj)⟩:wAI),an⟩:wAL)]),.row dz ef 39 3 (hD wAA av)] w_) ?_ fun E1=>?_
 rintro H1 md ⟨lU,dy,d9,dz,ef,u9,va,vb,ow,vc,vd,ve,vf,vg,vh,vi,vj,vk,vl,ox,vm,vn,oy,vo,vp,oz,q6,BH⟩
 refine oR Z (zJ Z ow zP Z Zr) ?_
 have Af:=p5.le q6
 let lB:Res:=.row dy d9 39 3 (hD wAA [(⟨(⟨aa,w64 (aa + aj)⟩:wAI),an⟩:wAL)])
 let lC:Res:=.row dz ef 39 3 (hD wAA av)
 have BI:SW w [B1] U lU [ba,.blk af 39 am,B7,ai,az,.blk b3 45 B0,ap,aW,lB,lC] md:=BH.pick [1,0,2,3,4,5,6,7,8,9] _ (by decide) rfl
 refine zH 1 Z Z Z Z (zG Z Z Tryz.call6 (zB ox (zB oy (zB oz zO))) Z) BI (fun hs=>wAl fg ab gY iL aa (w64 (aa + aj)) md lU hs Af p6) (.inl Z) ?_
 rintro lV FY Hm rN E9 BJ ⟨jU,mK,rfl,rfl,Ag⟩
 have BK:SW w [B1] U lV [.blk ab 80 [.slice jU ao.bytes.length mK,jV ao.next,.int .u32 ao.state],.blk af 39 am,B7,ai,az,.blk b3 45 B0,ap,aW,lB,lC] rN:=BJ
 exact qW _ _ ⟨lV,jU,mK,dy,d9,dz,ef,u9,va,vb,ow,vc,vd,ve,vf,vg,vh,vi,vj,vk,vl,ox,vm,vn,oy,vo,vp,oz,Z,Z,(q6.trans E9),BK,Ag⟩
 refine ZS (s:=.fl 16 gBm) (M:=fun σ_ w_=>∃ (U_:PHeap) (fk:Option Addr) (fU:Nat) (fm:Option Addr) (fV:Nat),σ_ 0=.pointer (some ⟨ab,0,none⟩)/\σ_ 3=jV p3/\σ_ 8=.pointer (some ⟨b3,0,none⟩)/\σ_ 11=.pointer (some ⟨b7,0,none⟩)/\σ_ 12=.slice bc bj.length bd/\σ_ 13=.slice aZ aY.length a6/\σ_ 21=.pointer (some ⟨af,0,none⟩)/\σ_ 98=jV bm/\σ_ 99=jV (↑bg:Int)/\σ_ 112=.pointer (some ⟨b7,2,none⟩)/\σ_ 114=.agg am.toArray/\σ_ 115=.slice fk ([(⟨(⟨aa,w64 (aa + aj)⟩:wAI),an⟩:wAL)].length) fU/\σ_ 116=.slice fm av.length fV/\σ_ 117=.slice aZ aY.length a6/\σ_ 118=.pointer (some ⟨ab,0,none⟩)/\σ_ 119=.pointer (some ⟨af,0,none⟩)/\σ_ 120=.pointer (some ⟨af,0,none⟩)/\σ_ 122=.pointer (some ⟨af,0,none⟩)/\σ_ 123=.pointer (some ⟨af,1,none⟩)/\σ_ 124=jV (w64 (aa + aj))/\PHeap.Le aX U_/\SW w [B1] U U_ [.blk af 39 am,ba,B7,ai,az,.blk b3 45 B0,ap,aW,.row fk fU 39 3 (hD wAA [(⟨(⟨aa,w64 (aa + aj)⟩:wAI),an⟩:wAL)]),.row fm fV 39 3 (hD wAA av)] w_) ?_ fun E2=>?_
 rintro H2 Gu ⟨ry,fk,fU,fm,fV,vq,vr,vt,oB,vu,vv,vw,vx,vy,vz,vA,vB,vC,vD,vE,vF,oC,vG,vH,vI,Fa,qb⟩
 exact oR Z (zJ Z oB zP Z Zr) (Zb Z Z Z Z (qb.ldB (j:=0) Z Z oC zF (v:=jV aa) Z) (gz _ _ ⟨ry,fk,fU,fm,fV,vq,vr,vt,oB,vu,vv,vw,vx,vy,vz,vA,vB,vC,vD,vE,vF,oC,Z,vG,vH,vI,Z,Fa,qb⟩))
 refine ZS (s:=gBn) (M:=fun σ_ w_=>∃ (U_:PHeap) (dA:Option Addr) (eh:Nat),σ_ 0=.pointer (some ⟨ab,0,none⟩)/\σ_ 3=jV p3/\σ_ 8=.pointer (some ⟨b3,0,none⟩)/\σ_ 11=.pointer (some ⟨b7,0,none⟩)/\σ_ 12=.slice bc bj.length bd/\σ_ 13=.slice aZ aY.length a6/\σ_ 21=.pointer (some ⟨af,0,none⟩)/\σ_ 98=jV bm/\σ_ 99=jV (↑bg:Int)/\σ_ 112=.pointer (some ⟨b7,2,none⟩)/\σ_ 113=.slice bA bo.length bC/\σ_ 114=.agg am.toArray/\σ_ 115=.slice dA ([(⟨(⟨aa,w64 (aa + aj)⟩:wAI),an⟩:wAL)].length) eh/\σ_ 117=.slice aZ aY.length a6/\σ_ 118=.pointer (some ⟨ab,0,none⟩)/\σ_ 119=.pointer (some ⟨af,0,none⟩)/\σ_ 120=.pointer (some ⟨af,0,none⟩)/\σ_ 121=jV aa/\σ_ 122=.pointer (some ⟨af,0,none⟩)/\σ_ 123=.pointer (some ⟨af,1,none⟩)/\σ_ 124=jV (w64 (aa + aj))/\PHeap.Le aX U_/\SW w [B1] U U_ [.blk af 39 am,ba,B7,ai,bu,az,.blk b3 45 B0,ap,aW,.row dA eh 39 3 (hD wAA [(⟨(⟨aa,w64 (aa + aj)⟩:wAI),an⟩:wAL)])] w_) ?_ fun jt=>?_
 rintro H3 Gw ⟨lW,dA,eh,vJ,vK,vL,vM,vN,vO,vP,vQ,vR,vS,vT,vU,oD,vV,vW,vX,vY,vZ,v2,wa,wb,Fb,qc⟩
 refine yK (j:=4) (enc:=wAA) (xs:=bo) (ys:=[(⟨(⟨aa,w64 (aa + aj)⟩:wAI),an⟩:wAL)]) (zs:=av) rfl rfl rfl rfl rfl Tryz.underlying40 wJg rfl rfl rfl rfl rfl rfl qc rfl vT oD (qc.srcR (j:=9) rfl (by decide) (wAC (f:=wAA) (sz:=3) (fun _=>rfl) [(⟨(⟨aa,w64 (aa + aj)⟩:wAI),an⟩:wAL)])) (fun _=>rfl) (fun _=>rfl) gv rfl ?_
 intro jW mL rQ BM
 have BN:SW w [B1] U lW [.blk af 39 am,ba,B7,ai,.row jW mL 39 3 (hD wAA av),az,.blk b3 45 B0,ap,aW,.row dA eh 39 3 (hD wAA [(⟨(⟨aa,w64 (aa + aj)⟩:wAI),an⟩:wAL)])] rQ:=BM
 exact E1 _ _ ⟨lW,dA,eh,jW,mL,vJ,vK,vL,vM,vN,vO,vP,vQ,vR,vS,vU,oD,rfl,vV,vW,vX,vY,vZ,v2,wa,wb,Fb,(BN.pick [0,1,2,3,5,6,7,8,9,4] _ (by decide) rfl)⟩
 refine ZS (s:=.fl 16 gBl) (M:=fun σ_ w_=>∃ (U_:PHeap) (fq:Option Addr) (fW:Nat) (ft:Option Addr) (fY:Nat),σ_ 0=.pointer (some ⟨ab,0,none⟩)/\σ_ 3=jV p3/\σ_ 8=.pointer (some ⟨b3,0,none⟩)/\σ_ 11=.pointer (some ⟨b7,0,none⟩)/\σ_ 12=.slice bc bj.length bd/\σ_ 13=.slice aZ aY.length a6/\σ_ 21=.pointer (some ⟨af,0,none⟩)/\σ_ 98=jV bm/\σ_ 99=jV (↑bg:Int)/\σ_ 112=.pointer (some ⟨b7,2,none⟩)/\σ_ 114=.agg am.toArray/\σ_ 115=.slice fq ([(⟨(⟨aa,w64 (aa + aj)⟩:wAI),an⟩:wAL)].length) fW/\σ_ 116=.slice ft av.length fY/\σ_ 117=.slice aZ aY.length a6/\σ_ 118=.pointer (some ⟨ab,0,none⟩)/\σ_ 119=.pointer (some ⟨af,0,none⟩)/\σ_ 120=.pointer (some ⟨af,0,none⟩)/\σ_ 121=jV aa/\σ_ 122=.pointer (some ⟨af,0,none⟩)/\σ_ 123=.pointer (some ⟨af,1,none⟩)/\PHeap.Le aX U_/\SW w [B1] U U_ [.blk af 39 am,ba,B7,ai,az,.blk b3 45 B0,ap,aW,.row fq fW 39 3 (hD wAA [(⟨(⟨aa,w64 (aa + aj)⟩:wAI),an⟩:wAL)]),.row ft fY 39 3 (hD wAA av)] w_) ?_ fun E3=>?_
 rintro H4 Gx ⟨rz,fq,fW,ft,fY,wc,wd,we,oE,wg,wh,wi,wj,wk,wl,wm,wn,wo,wp,wq,wr,ws,wt,wu,oG,Fc,qd⟩
 exact oR Z (zJ Z oE zP Z Zr) (Zb Z Z Z Z (qd.ldB (j:=0) Z Z oG zF (v:=jV (w64 (aa + aj))) Z) (gz _ _ ⟨rz,fq,fW,ft,fY,wc,wd,we,oE,wg,wh,wi,wj,wk,wl,wm,wn,wo,wp,wq,wr,ws,wt,wu,oG,Z,Z,Fc,qd⟩))
 refine ZS (s:=gBo) (M:=fun σ_ w_=>∃ (U_:PHeap),σ_ 0=.pointer (some ⟨ab,0,none⟩)/\σ_ 3=jV p3/\σ_ 8=.pointer (some ⟨b3,0,none⟩)/\σ_ 11=.pointer (some ⟨b7,0,none⟩)/\σ_ 12=.slice bc bj.length bd/\σ_ 13=.slice aZ aY.length a6/\σ_ 21=.pointer (some ⟨af,0,none⟩)/\σ_ 98=jV bm/\σ_ 99=jV (↑bg:Int)/\σ_ 112=.pointer (some ⟨b7,2,none⟩)/\σ_ 113=.slice bA bo.length bC/\σ_ 114=.agg am.toArray/\σ_ 117=.slice aZ aY.length a6/\σ_ 118=.pointer (some ⟨ab,0,none⟩)/\σ_ 119=.pointer (some ⟨af,0,none⟩)/\σ_ 120=.pointer (some ⟨af,0,none⟩)/\σ_ 121=jV aa/\σ_ 122=.pointer (some ⟨af,0,none⟩)/\σ_ 123=.pointer (some ⟨af,1,none⟩)/\σ_ 124=jV (w64 (aa + aj))/\PHeap.Le aX U_/\SW w [B1] U U_ [.blk af 39 am,ba,B7,ai,bu,az,.blk b3 45 B0,ap,aW] w_) ?_ fun qX=>?_
 rintro H5 Gz ⟨lY,wv,ww,wx,wy,wz,wA,wB,wC,wD,wE,wG,oH,wH,wI,wJ,wK,wL,wM,wN,wO,Fd,BO⟩
 refine zo (pv:=[(0,.agg am.toArray)]) (zs:=cM) (cs:=am) Z Z Z Z Z (wAD oH wAM) Za Zs yc Z Z Z Z Z BO ?_
 intro rS my BQ
 have BR:SW w [B1] U lY [.row (some ⟨my,0,none⟩) 1 39 3 (hD wAA [(⟨(⟨aa,w64 (aa + aj)⟩:wAI),an⟩:wAL)]),.blk af 39 am,ba,B7,ai,bu,az,.blk b3 45 B0,ap,aW] rS:=BQ
 exact jt _ _ ⟨lY,(some ⟨my,0,none⟩),1,wv,ww,wx,wy,wz,wA,wB,wC,wD,wE,wG,oH,rfl,wH,wI,wJ,wK,wL,wM,wN,wO,Fd,(BR.pick [1,2,3,4,5,6,7,8,9,0] _ (by decide) rfl)⟩
 refine ZS (s:=gBq) (M:=fun σ_ w_=>∃ (U_:PHeap) (cG:Option Addr) (cQ:Nat),σ_ 0=.pointer (some ⟨ab,0,none⟩)/\σ_ 3=jV p3/\σ_ 8=.pointer (some ⟨b3,0,none⟩)/\σ_ 11=.pointer (some ⟨b7,0,none⟩)/\σ_ 12=.slice bc bj.length bd/\σ_ 13=.slice aZ aY.length a6/\σ_ 21=.pointer (some ⟨af,0,none⟩)/\σ_ 98=jV bm/\σ_ 99=jV (↑bg:Int)/\σ_ 112=.pointer (some ⟨b7,2,none⟩)/\σ_ 113=.slice bA bo.length bC/\σ_ 114=.agg am.toArray/\σ_ 115=.slice cG ([(⟨(⟨aa,w64 (aa + aj)⟩:wAI),an⟩:wAL)].length) cQ/\σ_ 117=.slice aZ aY.length a6/\σ_ 118=.pointer (some ⟨ab,0,none⟩)/\σ_ 119=.pointer (some ⟨af,0,none⟩)/\σ_ 120=.pointer (some ⟨af,0,none⟩)/\σ_ 122=.pointer (some ⟨af,0,none⟩)/\σ_ 123=.pointer (some ⟨af,1,none⟩)/\σ_ 124=jV (w64 (aa + aj))/\PHeap.Le aX U_/\SW w [B1] U U_ [.blk af 39 am,ba,B7,ai,bu,az,.blk b3 45 B0,ap,aW,.row cG cQ 39 3 (hD wAA [(⟨(⟨aa,w64 (aa + aj)⟩:wAI),an⟩:wAL)])] w_) ?_ fun qY=>?_
 rintro H6 GA ⟨il,cG,cQ,oI,oJ,oK,oO,oP,oQ,oS,oU,oV,oW,oX,oY,iM,oZ,o0,o3,iN,o5,o6,o7,q7,gx⟩
 refine zw ?_ ?_
 refine yK (j:=4) (enc:=wAA) (xs:=bo) (ys:=[(⟨(⟨aa,w64 (aa + aj)⟩:wAI),an⟩:wAL)]) (zs:=av) rfl rfl rfl rfl rfl Tryz.underlying40 wJg rfl rfl rfl rfl rfl rfl gx rfl oX iM (gx.srcR (j:=9) rfl (by decide) (wAC (f:=wAA) (sz:=3) (fun _=>rfl) [(⟨(⟨aa,w64 (aa + aj)⟩:wAI),an⟩:wAL)])) (fun _=>rfl) (fun _=>rfl) gv rfl ?_
 intro jY mN rT BT
 have BU:SW w [B1] U il [.blk af 39 am,ba,B7,ai,.row jY mN 39 3 (hD wAA av),az,.blk b3 45 B0,ap,aW,.row cG cQ 39 3 (hD wAA [(⟨(⟨aa,w64 (aa + aj)⟩:wAI),an⟩:wAL)])] rT:=BT
 exact E2 _ _ ⟨il,cG,cQ,jY,mN,oI,oJ,oK,oO,oP,oQ,oS,oU,oV,oW,oY,iM,rfl,oZ,o0,o3,iN,o5,o6,o7,q7,(BU.pick [0,1,2,3,5,6,7,8,9,4] _ (by decide) rfl)⟩
 exact Zb Z Z Z Z (gx.ldB (j:=0) Z Z iN zF (v:=jV aa) Z) (jt _ _ ⟨il,cG,cQ,oI,oJ,oK,oO,oP,oQ,oS,oU,oV,oW,oX,oY,iM,oZ,o0,o3,iN,Z,o5,o6,o7,q7,gx⟩)
 refine ZS (s:=gBp) (M:=fun σ_ w_=>∃ (U_:PHeap) (cH:Option Addr) (cR:Nat),σ_ 0=.pointer (some ⟨ab,0,none⟩)/\σ_ 3=jV p3/\σ_ 8=.pointer (some ⟨b3,0,none⟩)/\σ_ 11=.pointer (some ⟨b7,0,none⟩)/\σ_ 12=.slice bc bj.length bd/\σ_ 13=.slice aZ aY.length a6/\σ_ 21=.pointer (some ⟨af,0,none⟩)/\σ_ 98=jV bm/\σ_ 99=jV (↑bg:Int)/\σ_ 112=.pointer (some ⟨b7,2,none⟩)/\σ_ 113=.slice bA bo.length bC/\σ_ 114=.agg am.toArray/\σ_ 115=.slice cH ([(⟨(⟨aa,w64 (aa + aj)⟩:wAI),an⟩:wAL)].length) cR/\σ_ 117=.slice aZ aY.length a6/\σ_ 118=.pointer (some ⟨ab,0,none⟩)/\σ_ 119=.pointer (some ⟨af,0,none⟩)/\σ_ 120=.pointer (some ⟨af,0,none⟩)/\σ_ 121=jV aa/\σ_ 122=.pointer (some ⟨af,0,none⟩)/\σ_ 123=.pointer (some ⟨af,1,none⟩)/\PHeap.Le aX U_/\SW w [B1] U U_ [.blk af 39 am,ba,B7,ai,bu,az,.blk b3 45 B0,ap,aW,.row cH cR 39 3 (hD wAA [(⟨(⟨aa,w64 (aa + aj)⟩:wAI),an⟩:wAL)])] w_) ?_ fun qZ=>?_
 rintro H7 GB ⟨im,cH,cR,o8,o9,pd,pe,pf,pg,ph,pj,pk,pm,pn,po,iO,pp,pq,pu,py,pz,pB,iP,q8,gy⟩
 refine zw ?_ ?_
 refine yK (j:=4) (enc:=wAA) (xs:=bo) (ys:=[(⟨(⟨aa,w64 (aa + aj)⟩:wAI),an⟩:wAL)]) (zs:=av) rfl rfl rfl rfl rfl Tryz.underlying40 wJg rfl rfl rfl rfl rfl rfl gy rfl pn iO (gy.srcR (j:=9) rfl (by decide) (wAC (f:=wAA) (sz:=3) (fun _=>rfl) [(⟨(⟨aa,w64 (aa + aj)⟩:wAI),an⟩:wAL)])) (fun _=>rfl) (fun _=>rfl) gv rfl ?_
 intro jZ mO rV BV
 have BW:SW w [B1] U im [.blk af 39 am,ba,B7,ai,.row jZ mO 39 3 (hD wAA av),az,.blk b3 45 B0,ap,aW,.row cH cR 39 3 (hD wAA [(⟨(⟨aa,w64 (aa + aj)⟩:wAI),an⟩:wAL)])] rV:=BV
 exact E3 _ _ ⟨im,cH,cR,jZ,mO,o8,o9,pd,pe,pf,pg,ph,pj,pk,pm,po,iO,rfl,pp,pq,pu,py,pz,pB,iP,q8,(BW.pick [0,1,2,3,5,6,7,8,9,4] _ (by decide) rfl)⟩
 exact Zb Z Z Z Z (gy.ldB (j:=0) Z Z iP zF (v:=jV (w64 (aa + aj))) Z) (jt _ _ ⟨im,cH,cR,o8,o9,pd,pe,pf,pg,ph,pj,pk,pm,pn,po,iO,pp,pq,pu,py,pz,pB,iP,Z,q8,gy⟩)
 refine oR Z (zJ Z bD zP Z Zr) (oL Z (bw.ldB (j:=5) Z Z Z yM (v:=.slice bA bo.length bC) Z) (oL Z (bw.ldBA (j:=0) Z Z Z Tryz.isAgg39 Zs (vs:=am) Z Z) (oM Z bL (oM Z bv (oR Z (zJ Z Z Zv Z ZD) (oR Z (zJ Z Z ZU Z zD) (oR Z (zJ Z Z Zv Z ZD) (oR Z (zJ Z Z ZU Z zD) (zw ?_ ?_)))))))))
 refine zo (pv:=[(0,.agg am.toArray)]) (zs:=cM) (cs:=am) Z Z Z Z Z (wAD Z wAM) Za Zs yc Z Z Z Z Z bw ?_
 intro rW dL BX
 let lD:Res:=.row (some ⟨dL,0,none⟩) 1 39 3 (hD wAA [(⟨(⟨aa,w64 (aa + aj)⟩:wAI),an⟩:wAL)])
 have c6:SW w [B1] U aX [lD,.blk af 39 am,ba,B7,ai,bu,az,.blk b3 45 B0,ap,aW] rW:=BX
 refine zw ?_ ?_
 refine yK (j:=5) (enc:=wAA) (xs:=bo) (ys:=[(⟨(⟨aa,w64 (aa + aj)⟩:wAI),an⟩:wAL)]) (zs:=av) rfl rfl rfl rfl rfl Tryz.underlying40 wJg rfl rfl rfl rfl rfl rfl c6 rfl rfl rfl (c6.srcR (j:=0) rfl (by decide) (wAC (f:=wAA) (sz:=3) (fun _=>rfl) [(⟨(⟨aa,w64 (aa + aj)⟩:wAI),an⟩:wAL)])) (fun _=>rfl) (fun _=>rfl) gv rfl ?_
 intro gT iF rX BY
 have c8:SW w [B1] U aX [lD,.blk af 39 am,ba,B7,ai,.row gT iF 39 3 (hD wAA av),az,.blk b3 45 B0,ap,aW] rX:=BY
 refine oR Z (zJ Z bD zP Z Zr) (zw ?_ ?_)
 exact Zb rfl rfl rfl rfl (c8.ldB (j:=1) rfl rfl rfl zF (v:=jV aa) rfl) (Zb rfl rfl rfl rfl (c8.ldB (j:=1) rfl rfl rfl zF (v:=jV (w64 (aa + aj))) rfl) (gz _ _ ⟨aX,(some ⟨dL,0,none⟩),1,gT,iF,bv,bY,bZ,bD,ca,bL,rfl,bM,bN,rfl,rfl,rfl,rfl,rfl,rfl,rfl,rfl,rfl,rfl,rfl,rfl,rfl,(zN _),(c8.pick [1,2,3,4,6,7,8,9,0,5] _ (by decide) rfl)⟩))
 exact Zb rfl rfl rfl rfl (c8.ldB (j:=1) rfl rfl rfl zF (v:=jV (w64 (aa + aj))) rfl) (Zb rfl rfl rfl rfl (c8.ldB (j:=1) rfl rfl rfl zF (v:=jV aa) rfl) (gz _ _ ⟨aX,(some ⟨dL,0,none⟩),1,gT,iF,bv,bY,bZ,bD,ca,bL,rfl,bM,bN,rfl,rfl,rfl,rfl,rfl,rfl,rfl,rfl,rfl,rfl,rfl,rfl,rfl,(zN _),(c8.pick [1,2,3,4,6,7,8,9,0,5] _ (by decide) rfl)⟩))
 refine zw ?_ ?_
 exact Zb rfl rfl rfl rfl (c6.ldB (j:=1) rfl rfl rfl zF (v:=jV aa) rfl) (qZ _ _ ⟨aX,(some ⟨dL,0,none⟩),1,bv,bY,bZ,bD,ca,bL,rfl,bM,bN,rfl,rfl,rfl,rfl,rfl,rfl,rfl,rfl,rfl,rfl,rfl,(zN _),(c6.pick [1,2,3,4,5,6,7,8,9,0] _ (by decide) rfl)⟩)
 exact Zb rfl rfl rfl rfl (c6.ldB (j:=1) rfl rfl rfl zF (v:=jV (w64 (aa + aj))) rfl) (qY _ _ ⟨aX,(some ⟨dL,0,none⟩),1,bv,bY,bZ,bD,ca,bL,rfl,bM,bN,rfl,rfl,rfl,rfl,rfl,rfl,rfl,rfl,rfl,rfl,rfl,(zN _),(c6.pick [1,2,3,4,5,6,7,8,9,0] _ (by decide) rfl)⟩)
 refine zw ?_ ?_
 refine Zb Z Z Z Z (bw.ldB (j:=0) Z Z Z zF (v:=jV aa) Z) (zw ?_ ?_)
 refine zo (pv:=[(0,.agg am.toArray)]) (zs:=cM) (cs:=am) Z Z Z Z Z (wAD Z wAM) Za Zs yc Z Z Z Z Z bw ?_
 intro rY mz BZ
 have Ca:SW w [B1] U aX [.row (some ⟨mz,0,none⟩) 1 39 3 (hD wAA [(⟨(⟨aa,w64 (aa + aj)⟩:wAI),an⟩:wAL)]),.blk af 39 am,ba,B7,ai,bu,az,.blk b3 45 B0,ap,aW] rY:=BZ
 exact qZ _ _ ⟨aX,(some ⟨mz,0,none⟩),1,bv,bY,bZ,bD,ca,bL,rfl,bM,bN,rfl,rfl,rfl,rfl,rfl,rfl,rfl,rfl,rfl,rfl,rfl,(zN _),(Ca.pick [1,2,3,4,5,6,7,8,9,0] _ (by decide) rfl)⟩
 exact Zb Z Z Z Z (bw.ldB (j:=0) Z Z Z zF (v:=jV (w64 (aa + aj))) Z) (qX _ _ ⟨aX,bv,bY,bZ,bD,ca,bL,Z,bM,bN,Z,Z,Z,Z,Z,Z,Z,Z,Z,Z,Z,(zN _),bw⟩)
 refine Zb Z Z Z Z (bw.ldB (j:=0) Z Z Z zF (v:=jV (w64 (aa + aj))) Z) (zw ?_ ?_)
 refine zo (pv:=[(0,.agg am.toArray)]) (zs:=cM) (cs:=am) Z Z Z Z Z (wAD Z wAM) Za Zs yc Z Z Z Z Z bw ?_
 intro rZ mA Cb
 have Cc:SW w [B1] U aX [.row (some ⟨mA,0,none⟩) 1 39 3 (hD wAA [(⟨(⟨aa,w64 (aa + aj)⟩:wAI),an⟩:wAL)]),.blk af 39 am,ba,B7,ai,bu,az,.blk b3 45 B0,ap,aW] rZ:=Cb
 exact qY _ _ ⟨aX,(some ⟨mA,0,none⟩),1,bv,bY,bZ,bD,ca,bL,rfl,bM,bN,rfl,rfl,rfl,rfl,rfl,rfl,rfl,rfl,rfl,rfl,rfl,(zN _),(Cc.pick [1,2,3,4,5,6,7,8,9,0] _ (by decide) rfl)⟩
 exact Zb Z Z Z Z (bw.ldB (j:=0) Z Z Z zF (v:=jV aa) Z) (qX _ _ ⟨aX,bv,bY,bZ,bD,ca,bL,Z,bM,bN,Z,Z,Z,Z,Z,Z,Z,Z,Z,Z,Z,(zN _),bw⟩)
 rintro H8 r7 ⟨rC,ro,s6,bG,bJ,cI,cS,y5,pC,wP,wQ,wR,wS,wU,wV,Fg,Ce,Ak⟩
 have s7:Hid (¬ ((↑((bm:Int) - 0).toNat:Int) < bm)):=zM (wAf)
 refine sR fL1 Z (oR Z (zY Z y5 wV) (eN (zL (cF Z s7 (Zd (zn (zn (ZV (zI (zL (sR (wCv gAj) Z (oM Z pC (oM Z wP (oR Z (za Z Z Z) ?_))))))))))))))
 have q:=bnd qJ
 obtain ⟨⟨dd,jz⟩,Al,qu⟩:=q
 try dsimp only at qu
 refine zH 1 Z Z Z Z (zG Z Z ya (zB Z (zB Z zO)) Z) Ce (fun hs=>wAV (⟨FU,FV,FW⟩:wAJ) ab ro s6 (w64 (p3 + 1)) r7 rC hs Ak Al) (.inl Z) ?_
 rintro rD F3 Hp mf Fh Cf ⟨j5,mQ,rfl,rfl,Am⟩
 let aq:Res:=.row bG bJ 39 3 (hD wAA bk)
 let au:Res:=.row cI cS 3 1 (hD KL.encI bp)
 let lE:Res:=.blk b7 45 [.slice a7 ax.length a8,.slice be ay.length bf,.slice bG bk.length bJ,.slice none 0 0]
 let lF:Res:=.blk ab 80 [.slice j5 jz.bytes.length mQ,jV jz.next,.int .u32 jz.state]
 have Cg:SW w [B1] U rD [lF,B7,ai,aq,lE,.blk b3 45 B0,ap,au] mf:=Cf
 refine oM Z Z (eN (zb ?_))
 have Ao:=Bc.le Fz
 have Ap:=Ao.le Fg
 have Aq:=Ap.le Fh
 have q:=Cg.freezeRR (R:=wEX) (k:=6) rfl Aq rfl (by decide)
 obtain ⟨io,Fi,qP,Ci⟩:=q
 have Cj:SW w [B1] U io [lF,B7,ai,aq,lE,.blk b3 45 B0,au] mf:=Ci
 have q:=bnd qu
 obtain ⟨⟨FI,FJ,FK,rn⟩,Ec,qv⟩:=q
 try dsimp only at qv
 have q:=wBM Ec
 obtain ⟨jl,Ef⟩:=q
 replace jl:=zM jl
 refine CK.forN' (fun cw (cx,fb,fc,cy) σ_ w_=>∃ (U_:PHeap) (cJ:Option Addr) (cU:Nat) (bV:Option Addr) (bX:Nat),σ_ 134=jV (↑cw:Int)/\σ_ 0=.pointer (some ⟨ab,0,none⟩)/\σ_ 8=.pointer (some ⟨b3,0,none⟩)/\σ_ 11=.pointer (some ⟨b7,0,none⟩)/\σ_ 12=.slice bc bj.length bd/\σ_ 13=.slice cI bp.length cS/\σ_ 133=jV dd/\PHeap.Le io U_/\SW w [B1] U U_ [.blk ab 80 [.slice cJ cx.length cU,jV fb,.int .u32 fc],B7,ai,aq,.row bV bX 52 4 (hD wAB cy),.blk b7 45 [.slice a7 ax.length a8,.slice be ay.length bf,.slice bG bk.length bJ,.slice bV cy.length bX],.blk b3 45 B0,au] w_/\Sl U_ 1 cJ cU cx.length (hD KL.encB8 cx)) Ef ?_ ?_ ?_
 have Cm:=Cj.nilrow 52 4
 have Ar:=Am.le Fi
 exact ⟨io,j5,mQ,none,0,rfl,pC,wQ,wR,wS,wU,rfl,(zN _),(Cm.pick [1,2,3,4,0,5,6,7] _ (by decide) rfl),Ar⟩
 rintro cw ⟨cx,fb,fc,cy⟩ HL H9 mg jf ⟨fN,cJ,cU,bV,bX,eF,cq,gh,cr,gi,gj,eA,gB,Cn,pW⟩ qQ
 try dsimp only at qQ
 have mR:Hid ((↑cw:Int) < dd):=zM (wAr jf)
 replace jf:=zM jf
 have je:Hid (w64 ((↑cw:Int) + 1)=(↑(cw + 1):Int)):=zM (by have h1:=jl.out;have h2:=mR.out;rw [wAW] <;> omega)
 refine sR fL1 Z (oR Z (zY Z eF eA) (eN (zL (cT Z mR (kN (zL (zb ?_)))))))
 have q:=bnd qQ
 obtain ⟨⟨gA,ri,rj,bR,cB,bh⟩,EX,qw⟩:=q
 try dsimp only at qw
 let aU:Res:=.blk b7 45 [.slice a7 ax.length a8,.slice be ay.length bf,.slice bG bk.length bJ,.slice bV cy.length bX]
 let aV:Res:=.row bV bX 52 4 (hD wAB cy)
 let bW:List Value:=[jV bR,jV cB,jV bh,jV 0]
 refine yW (fun σ_ w_=>∃ (U_:PHeap) (fu:Option Addr) (fZ:Nat) (bn:Nat),σ_ 0=.pointer (some ⟨ab,0,none⟩)/\σ_ 8=.pointer (some ⟨b3,0,none⟩)/\σ_ 11=.pointer (some ⟨b7,0,none⟩)/\σ_ 12=.slice bc bj.length bd/\σ_ 13=.slice cI bp.length cS/\σ_ 22=.pointer (some ⟨bn,0,none⟩)/\σ_ 133=jV dd/\σ_ 134=jV (↑cw:Int)/\PHeap.Le fN U_/\SW w [B1] U U_ [.blk ab 80 [.slice fu gA.length fZ,jV ri,.int .u32 rj],B7,ai,aq,aV,aU,.blk b3 45 B0,au,.blk bn 52 bW] w_/\Sl U_ 1 fu fZ gA.length (hD KL.encB8 gA)) ?_ ?_
 have q:=bnd EX
 obtain ⟨⟨cc,bS⟩,pX,qx⟩:=q
 try dsimp only at qx
 have q:=bnd qx
 obtain ⟨⟨cd,bs⟩,i2,qy⟩:=q
 try dsimp only at qy
 have q:=bnd qy
 obtain ⟨⟨cg,bx⟩,gt,eH⟩:=q
 try dsimp only at eH
 refine ZF ZB [3,3,1,3,1005,3,3,1004,3,3,1005,3,3,1004,3,0,3,2,0,ab] (wET (wJX (wNO (.fx 4 (.fx 10 (.fx 15 (.fl 16 (.fx 17 (.fx 18 .nil .stop) .stop)) (.fx 17 gAt .stop)) (.fx 17 gBe .stop)) (.fx 17 (.fx 4 gBe .stop) .stop))))) (by kernel_rfl) ?_
 have da:=Cn.drew
 generalize hw_W1886:({ mg with drawn:=mg.drawn + 1 }:World)=sf at da ⊢
 refine zm rfl rfl rfl rfl rfl cq (ze rfl rfl rfl rfl (fun _=>zJ rfl cr zP rfl zZ) (ZE rfl rfl rfl rfl (da.ldB (j:=5) rfl rfl rfl zj (v:=.slice a7 ax.length a8) rfl) rfl (ze rfl rfl rfl rfl (fun _=>zr rfl rfl zC) (zm rfl rfl rfl rfl rfl cq (ze rfl rfl rfl rfl (fun _=>zJ rfl cr zP rfl yA) (OKS.mt (T:=[ab]) [0] [1,2,3,4,5,6,7] [B7,ai,aq,aV,aU,.blk b3 45 B0,au] rfl rfl rfl rfl da rfl ⟨⟨0,by decide,_,rfl,rfl⟩,trivial⟩ (by decide) rfl (by decide) (fun _ DZ=>(DZ.ldB (j:=4) rfl rfl rfl yL (v:=.slice be ay.length bf) rfl)) rfl (ze rfl rfl rfl rfl (fun _=>zr rfl rfl ZP) (ze rfl rfl rfl rfl (fun _=>za rfl rfl rfl) (zm rfl rfl rfl rfl rfl cq (ze rfl rfl rfl rfl (fun _=>zJ rfl cr zP rfl Zr) (OKS.mt (T:=[ab]) [0] [1,2,3,4,5,6,7] [B7,ai,aq,aV,aU,.blk b3 45 B0,au] rfl rfl rfl rfl da rfl ⟨⟨0,by decide,_,rfl,rfl⟩,trivial⟩ (by decide) rfl (by decide) (fun _ D0=>(D0.ldB (j:=4) rfl rfl rfl yM (v:=.slice bG bk.length bJ) rfl)) rfl (ze rfl rfl rfl rfl (fun _=>zr rfl rfl Za) (zw ?_ ?_)))))))))))))
 refine YK 1 rfl rfl rfl rfl (zG rfl rfl ya (zB rfl (zB rfl zO)) rfl) da (fun hs=>wAV (⟨cx,fb,fc⟩:wAJ) ab cJ cU (↑ax.length:Int) sf fN hs pW pX) rfl (T:=[ab]) rfl ⟨fun b h=>(by cases h;exact .head _),trivial⟩ ?_
 rintro fO F5 Hr mh ju Cs ⟨gU,iG,rfl,rfl,pY⟩
 let lG:Res:=.blk ab 80 [.slice gU bS.bytes.length iG,jV bS.next,.int .u32 bS.state]
 have qf:SW w [B1] U fO [lG,B7,ai,aq,aV,aU,.blk b3 45 B0,au] mh:=Cs
 refine zw ?_ ?_
 refine YK 1 rfl rfl rfl rfl (zG rfl rfl ya (zB rfl (zB rfl zO)) rfl) qf (fun hs=>wAV bS ab gU iG (w64 ((↑ay.length:Int) + 1)) mh fO hs pY i2) rfl (T:=[ab]) rfl ⟨fun b h=>(by cases h;exact .head _),trivial⟩ ?_
 rintro fP F6 Hs mi q9 Ct ⟨gV,iH,rfl,rfl,pZ⟩
 let lH:Res:=.blk ab 80 [.slice gV bs.bytes.length iH,jV bs.next,.int .u32 bs.state]
 have qh:SW w [B1] U fP [lH,B7,ai,aq,aV,aU,.blk b3 45 B0,au] mi:=Ct
 refine zw ?_ ?_
 refine zH 1 Z Z Z Z (zG Z Z ya (zB Z (zB Z zO)) Z) qh (fun hs=>wAV bs ab gV iH (↑bk.length:Int) mi fP hs pZ gt) (.inl Z) ?_
 rintro ip F7 Ht sg Fj Cu ⟨j6,mS,rfl,rfl,Au⟩
 let lI:Res:=.blk ab 80 [.slice j6 bx.bytes.length mS,jV bx.next,.int .u32 bx.state]
 have Cv:SW w [B1] U ip [lI,B7,ai,aq,aV,aU,.blk b3 45 B0,au] sg:=Cu
 let g9:List Value:=[jV cc,jV cd,jV cg,jV 0]
 let lJ:List Value:=[jV 0,jV 0,jV 0,jV 0]
 refine oR Z (zu (pv:=[(0,jV cc),(1,jV cd),(2,jV cg)]) (z:=lJ) (cs:=g9) Z (wAD Z (wAD Z (wAD Z wAM))) Zn wFA Z Z) (zW (cs:=lJ) Z Z Z Z Z Zn Z Cv ?_)
 intro GC mB Cw
 refine zX (j:=0) (vs:=g9) Z Z Z Z Cw Z Z Z Z Zg (zA Z) Z Z Z ?_
 intro sh Cx
 have Cy:SW w [B1] U ip [.blk mB 52 g9,lI,B7,ai,aq,aV,aU,.blk b3 45 B0,au] sh:=Cx
 refine zg ?_
 cases eH
 exact zI ⟨rfl,⟨ip,j6,mS,mB,cq,gh,cr,gi,gj,rfl,eA,eF,((ju.trans q9).trans Fj),(Cy.pick [1,2,3,4,5,6,7,8,0] _ (by decide) rfl),Au⟩⟩
 let fL:List Value:=[jV 0,jV 0,jV 0,jV 0]
 refine zW (cs:=fL) Z Z Z Z Z Zn Z qh ?_
 intro mj fR Cz
 have CA:SW w [B1] U fP [lH,.blk fR 52 fL,B7,ai,aq,aV,aU,.blk b3 45 B0,au] mj:=Cz.pick [1,0,2,3,4,5,6,7,8] _ (by decide) rfl
 refine zH 1 Z Z Z Z (zG Z Z ya (zB Z (zB Z zO)) Z) CA (fun hs=>wAV bs ab gV iH (↑bk.length:Int) mj fP hs pZ gt) (.inl Z) ?_
 rintro iq F8 Hu sk Fk CB ⟨j7,mT,rfl,rfl,Av⟩
 let lK:Res:=.blk ab 80 [.slice j7 bx.bytes.length mT,jV bx.next,.int .u32 bx.state]
 have CC:SW w [B1] U iq [lK,.blk fR 52 fL,B7,ai,aq,aV,aU,.blk b3 45 B0,au] sk:=CB
 let ie:List Value:=[jV cc,jV cd,jV cg,jV 0]
 refine oR Z (zu (pv:=[(0,jV cc),(1,jV cd),(2,jV cg)]) (z:=fL) (cs:=ie) Z (wAD Z (wAD Z (wAD Z wAM))) Zn wFA Z Z) (zX (j:=1) (vs:=ie) Z Z Z Z CC Z Z Z Z Zg (zA Z) Z Z Z ?_)
 intro sl CD
 have CE:SW w [B1] U iq [lK,.blk fR 52 ie,B7,ai,aq,aV,aU,.blk b3 45 B0,au] sl:=CD
 refine zg ?_
 cases eH
 exact zI ⟨rfl,⟨iq,j7,mT,fR,cq,gh,cr,gi,gj,rfl,eA,eF,((ju.trans q9).trans Fk),(CE.pick [0,2,3,4,5,6,7,8,1] _ (by decide) rfl),Av⟩⟩
 let dF:List Value:=[jV 0,jV 0,jV 0,jV 0]
 refine zW (cs:=dF) Z Z Z Z Z Zn Z qf ?_
 intro ml dM CF
 have CG:SW w [B1] U fO [lG,.blk dM 52 dF,B7,ai,aq,aV,aU,.blk b3 45 B0,au] ml:=CF.pick [1,0,2,3,4,5,6,7,8] _ (by decide) rfl
 refine YK 1 rfl rfl rfl rfl (zG rfl rfl ya (zB rfl (zB rfl zO)) rfl) CG (fun hs=>wAV bS ab gU iG (w64 ((↑ay.length:Int) + 1)) ml fO hs pY i2) rfl (T:=[ab]) rfl ⟨fun b h=>(by cases h;exact .head _),trivial⟩ ?_
 rintro lZ F9 Hv mm Fm CH ⟨j8,mU,rfl,rfl,Aw⟩
 have CI:SW w [B1] U lZ [.blk ab 80 [.slice j8 bs.bytes.length mU,jV bs.next,.int .u32 bs.state],.blk dM 52 dF,B7,ai,aq,aV,aU,.blk b3 45 B0,au] mm:=CH
 refine zH 1 Z Z Z Z (zG Z Z ya (zB Z (zB Z zO)) Z) CI (fun hs=>wAV bs ab j8 mU (↑bk.length:Int) mm lZ hs Aw gt) (.inl Z) ?_
 rintro ir Ga Hw sm Fo CJ ⟨j9,mV,rfl,rfl,Ax⟩
 let lL:Res:=.blk ab 80 [.slice j9 bx.bytes.length mV,jV bx.next,.int .u32 bx.state]
 have CM:SW w [B1] U ir [lL,.blk dM 52 dF,B7,ai,aq,aV,aU,.blk b3 45 B0,au] sm:=CJ
 let ig:List Value:=[jV cc,jV cd,jV cg,jV 0]
 refine oR Z (zu (pv:=[(0,jV cc),(1,jV cd),(2,jV cg)]) (z:=dF) (cs:=ig) Z (wAD Z (wAD Z (wAD Z wAM))) Zn wFA Z Z) (zX (j:=1) (vs:=ig) Z Z Z Z CM Z Z Z Z Zg (zA Z) Z Z Z ?_)
 intro sn CN
 have CO:SW w [B1] U ir [lL,.blk dM 52 ig,B7,ai,aq,aV,aU,.blk b3 45 B0,au] sn:=CN
 refine zg ?_
 cases eH
 exact zI ⟨rfl,⟨ir,j9,mV,dM,cq,gh,cr,gi,gj,rfl,eA,eF,((ju.trans Fm).trans Fo),(CO.pick [0,2,3,4,5,6,7,8,1] _ (by decide) rfl),Ax⟩⟩
 let cN:List Value:=[jV 0,jV 0,jV 0,jV 0]
 refine zW (cs:=cN) Z Z Z Z Z Zn Z da ?_
 intro mn cP CP
 have CQ:SW w [B1] U fN [.blk ab 80 [.slice cJ cx.length cU,jV fb,.int .u32 fc],.blk cP 52 cN,B7,ai,aq,aV,aU,.blk b3 45 B0,au] mn:=CP.pick [1,0,2,3,4,5,6,7,8] _ (by decide) rfl
 refine YK 1 rfl rfl rfl rfl (zG rfl rfl ya (zB rfl (zB rfl zO)) rfl) CQ (fun hs=>wAV (⟨cx,fb,fc⟩:wAJ) ab cJ cU (↑ax.length:Int) mn fN hs pW pX) rfl (T:=[ab]) rfl ⟨fun b h=>(by cases h;exact .head _),trivial⟩ ?_
 rintro l3 Gb Hx mo Fp CR ⟨k6,mX,rfl,rfl,Ay⟩
 have CS:SW w [B1] U l3 [.blk ab 80 [.slice k6 bS.bytes.length mX,jV bS.next,.int .u32 bS.state],.blk cP 52 cN,B7,ai,aq,aV,aU,.blk b3 45 B0,au] mo:=CR
 refine YK 1 rfl rfl rfl rfl (zG rfl rfl ya (zB rfl (zB rfl zO)) rfl) CS (fun hs=>wAV bS ab k6 mX (w64 ((↑ay.length:Int) + 1)) mo l3 hs Ay i2) rfl (T:=[ab]) rfl ⟨fun b h=>(by cases h;exact .head _),trivial⟩ ?_
 rintro l4 Gc Hy mp Fq CT ⟨k8,mY,rfl,rfl,Az⟩
 have CU:SW w [B1] U l4 [.blk ab 80 [.slice k8 bs.bytes.length mY,jV bs.next,.int .u32 bs.state],.blk cP 52 cN,B7,ai,aq,aV,aU,.blk b3 45 B0,au] mp:=CT
 refine zH 1 Z Z Z Z (zG Z Z ya (zB Z (zB Z zO)) Z) CU (fun hs=>wAV bs ab k8 mY (↑bk.length:Int) mp l4 hs Az gt) (.inl Z) ?_
 rintro it Gd Hz sq Fr CV ⟨k9,mZ,rfl,rfl,AA⟩
 let lM:Res:=.blk ab 80 [.slice k9 bx.bytes.length mZ,jV bx.next,.int .u32 bx.state]
 have CW:SW w [B1] U it [lM,.blk cP 52 cN,B7,ai,aq,aV,aU,.blk b3 45 B0,au] sq:=CV
 let ii:List Value:=[jV cc,jV cd,jV cg,jV 0]
 refine oR Z (zu (pv:=[(0,jV cc),(1,jV cd),(2,jV cg)]) (z:=cN) (cs:=ii) Z (wAD Z (wAD Z (wAD Z wAM))) Zn wFA Z Z) (zX (j:=1) (vs:=ii) Z Z Z Z CW Z Z Z Z Zg (zA Z) Z Z Z ?_)
 intro sr CX
 have CY:SW w [B1] U it [lM,.blk cP 52 ii,B7,ai,aq,aV,aU,.blk b3 45 B0,au] sr:=CX
 refine zg ?_
 cases eH
 exact zI ⟨rfl,⟨it,k9,mZ,cP,cq,gh,cr,gi,gj,rfl,eA,eF,((Fp.trans Fq).trans Fr),(CY.pick [0,2,3,4,5,6,7,8,1] _ (by decide) rfl),AA⟩⟩
 rintro Ib mq ⟨l5,fu,fZ,bn,pD,wW,pE,pF,pG,cX,wX,wY,gC,eG,AB⟩
 refine sR fL8 Z (oR Z (zJ Z pE zP Z Zr) (oL Z (eG.ldB (j:=5) Z Z Z yM (v:=.slice bG bk.length bJ) Z) (oR Z (zJ Z cX ZL Z zD) (oL Z (eG.ldB (j:=8) Z Z Z zF (v:=jV bh) Z) (bnK qw fun _ gu ED=>?_)))))
 obtain ⟨GM,p7⟩:=eG.rowSome (j:=3) rfl (by rw [wAC (f:=wAA) (sz:=3) (fun _=>rfl) bk];have hz:=wAY gu;omega)
 refine oR Z (Ze Z Z p7 Z Za Zs (wCC gu) (wCD gu)) (oR Z (zJ Z Z Zv Z zD) ?_)
 have Es:=wBb (xs:=bk) (wAY gu)
 refine ZE rfl rfl rfl rfl (eG.ldR (j:=3) rfl p7 rfl rfl zF (wAa (sz:=3) (fun _=>rfl) _ _ 2 _ Es (by first | omega | rfl | simp) rfl)) rfl (yB rfl rfl rfl rfl rfl rfl (eN (zL (ZF ZB [3,3,1004,3,1004,3,1004,3,1004,3,3,1004,3,1004,3,3,3,3,3,1005,3,3,3,0,ab] (wOT (.fx 19 (wNP (.fx 23 .nil .stop)) .stop)) (by kernel_rfl) ?_))))
 have bP:=eG.drew
 generalize hw_W2138:({ mq with drawn:=mq.drawn + 1 }:World)=ss at bP ⊢
 refine zm rfl rfl rfl rfl rfl pF (ze rfl rfl rfl rfl (fun _=>zJ rfl cX ZL rfl zD) (OKS.mt (T:=[ab]) [0] [1,2,3,4,5,6,7,8] [B7,ai,aq,aV,aU,.blk b3 45 B0,au,.blk bn 52 bW] rfl rfl rfl rfl bP rfl ⟨⟨0,by decide,_,rfl,rfl⟩,trivial⟩ (by decide) rfl (by decide) (fun _ D1=>(D1.ldB (j:=7) rfl rfl rfl zF (v:=jV bR) rfl)) rfl (bnK ED fun gI cY EE=>?_)))
 have AC:=qP.le gB
 have p4:=AC.le gC
 have q:=p4.el (wAX cY)
 obtain ⟨sX,FF,HJ,Bn,i7,ET⟩:=q
 obtain ⟨rd,rf,rfl,AD⟩:=ET
 replace i7:Cl l5 sX (FF + bR.toNat * 1) [.slice rd gI.length rf]:=i7
 refine ze rfl rfl rfl rfl (fun _=>Ze rfl rfl Bn rfl ZK zZ (wBt cY) (wBy cY)) (OKS.mt (T:=[ab]) [0] [1,2,3,4,5,6,7,8] [B7,ai,aq,aV,aU,.blk b3 45 B0,au,.blk bn 52 bW] rfl rfl rfl rfl bP rfl ⟨⟨0,by decide,_,rfl,rfl⟩,trivial⟩ (by decide) rfl (by decide) (fun _ D5=>(D5.ldC (f:=0) i7 (v:=.slice rd gI.length rf) rfl rfl zj rfl)) rfl (ze rfl rfl rfl rfl (fun _=>zJ rfl cX ZL rfl zD) (OKS.mt (T:=[ab]) [0] [1,2,3,4,5,6,7,8] [B7,ai,aq,aV,aU,.blk b3 45 B0,au,.blk bn 52 bW] rfl rfl rfl rfl bP rfl ⟨⟨0,by decide,_,rfl,rfl⟩,trivial⟩ (by decide) rfl (by decide) (fun _ D6=>(D6.ldB (j:=7) rfl rfl rfl zF (v:=jV cB) rfl)) rfl (bnK EE fun ci cZ EF=>?_))))
 have q:=AD.el (fun _=>rfl) (wAX cZ)
 obtain ⟨GN,Hj,Bo,Br⟩:=q
 refine ze rfl rfl rfl rfl (fun _=>Ze rfl rfl Bo rfl zC zD (wBt cZ) (wBy cZ)) (OKS.mt (T:=[ab]) [0] [1,2,3,4,5,6,7,8] [B7,ai,aq,aV,aU,.blk b3 45 B0,au,.blk bn 52 bW] rfl rfl rfl rfl bP rfl ⟨⟨0,by decide,_,rfl,rfl⟩,trivial⟩ (by decide) rfl (by decide) (fun _ D7=>(D7.ldC (f:=0) Br (v:=jV ci) rfl rfl zF rfl)) rfl (zm rfl rfl rfl rfl rfl pG (ze rfl rfl rfl rfl (fun _=>zJ rfl cX ZL rfl zD) (OKS.mt (T:=[ab]) [0] [1,2,3,4,5,6,7,8] [B7,ai,aq,aV,aU,.blk b3 45 B0,au,.blk bn 52 bW] rfl rfl rfl rfl bP rfl ⟨⟨0,by decide,_,rfl,rfl⟩,trivial⟩ (by decide) rfl (by decide) (fun _ D8=>(D8.ldB (j:=7) rfl rfl rfl zF (v:=jV bh) rfl)) rfl (bnK EF fun _ cu EG=>?_)))))
 obtain ⟨GO,gw⟩:=bP.rowSome (j:=7) rfl (by rw [wAC (f:=KL.encI) (sz:=1) (fun _=>rfl) bp];have hz:=wAY cu;omega)
 refine oR Z (Ze Z Z gw Z zC zD (wCC cu) (wCD cu)) ?_
 have Et:=wBb (xs:=bp) (wAY cu)
 refine OKS.mt (T:=[ab]) [0] [1,2,3,4,5,6,7,8] [B7,ai,aq,aV,aU,.blk b3 45 B0,au,.blk bn 52 bW] rfl rfl rfl rfl bP rfl ⟨⟨0,by decide,_,rfl,rfl⟩,trivial⟩ (by decide) rfl (by decide) (fun _ D9=>(D9.ldR (j:=6) rfl gw rfl rfl zF (wAa (sz:=1) (fun _=>rfl) _ _ 0 _ Et (by first | omega | rfl | simp) rfl))) rfl (ze rfl rfl rfl rfl (fun _=>za rfl rfl rfl) (zm rfl rfl rfl rfl rfl pD (zm rfl rfl rfl rfl rfl rfl (ze rfl rfl rfl rfl (fun _=>Runs.negw rfl rfl) (zm rfl rfl rfl rfl rfl rfl ?_)))))
 have q:=bnd EG
 obtain ⟨⟨de,jA⟩,AE,qz⟩:=q
 try dsimp only at qz
 refine YK 1 rfl rfl rfl rfl (zG rfl rfl Tryz.call6 (zB rfl (zB rfl (zB rfl zO))) rfl) bP (fun hs=>wAl (⟨gA,ri,rj⟩:wAJ) ab fu fZ (w64 (-((gd bk bh.toNat).Error))) ((gd bk bh.toNat).Error) ss l5 hs AB AE) rfl (T:=[ab]) rfl ⟨fun b h=>(by cases h;exact .head _),trivial⟩ ?_
 rintro bI Ge HA su gD C1 ⟨fy,f7,rfl,rfl,i4⟩
 let dG:Res:=.blk ab 80 [.slice fy jA.bytes.length f7,jV jA.next,.int .u32 jA.state]
 have C2:SW w [B1] U bI [dG,B7,ai,aq,aV,aU,.blk b3 45 B0,au,.blk bn 52 bW] su:=C1
 refine oR Z (za Z Z Z) (oR Z (Runs.max Z Z Z) (oR Z (zJ Z cX ZL Z zD) (zX (j:=8) (vs:=[jV (max 0 (w64 ((w64 (ci + (gd bp bh.toNat))) + de)))]) Z Z Z Z C2 Z Z Z Z zD (zA Z) Z Z Z ?_)))
 intro iz C3
 let co:List Value:=[jV bR,jV cB,jV bh,jV (max 0 (w64 ((w64 (ci + (gd bp bh.toNat))) + de)))]
 have C4:SW w [B1] U bI [dG,B7,ai,aq,aV,aU,.blk b3 45 B0,au,.blk bn 52 co] iz:=C3
 refine eN (zL (yf fun bU bE=>?_))
 have iQ:bU 0=.pointer (some ⟨ab,0,none⟩):=(bE 0).trans pD
 have iR:bU 8=.pointer (some ⟨b3,0,none⟩):=(bE 8).trans wW
 have eB:bU 11=.pointer (some ⟨b7,0,none⟩):=(bE 11).trans pE
 have gm:bU 12=.slice bc bj.length bd:=(bE 12).trans pF
 have gq:bU 13=.slice cI bp.length cS:=(bE 13).trans pG
 have eD:bU 22=.pointer (some ⟨bn,0,none⟩):=(bE 22).trans cX
 have pI:bU 23=jV ((gd bk bh.toNat).Error):=(bE 23).trans rfl
 have iS:bU 133=jV dd:=(bE 133).trans wX
 have iT:bU 134=jV (↑cw:Int):=(bE 134).trans wY
 clear bE
 refine ZF ZB [3,1,3,3,1,3,1,3,1,3,1,3,3,3,1,3,1,3,3] fL19 (by kernel_rfl) ?_
 have bq:=C4.drew
 generalize hw_W2200:({ iz with drawn:=iz.drawn + 1 }:World)=GE at bq ⊢
 refine oR Z (zJ Z eD ZL Z zD) (oL Z (bq.ldB (j:=8) Z Z Z zF (v:=jV (max 0 (w64 ((w64 (ci + (gd bp bh.toNat))) + de)))) Z) (oM Z gm (oR Z (zJ Z eD ZL Z zD) (oL Z (bq.ldB (j:=8) Z Z Z zF (v:=jV bR) Z) ?_))))
 have AF:=p4.le gD
 have q:=AF.el (wAX cY)
 obtain ⟨sY,FG,HK,Bp,i8,EU⟩:=q
 obtain ⟨re,rh,rfl,AH⟩:=EU
 replace i8:Cl bI sY (FG + bR.toNat * 1) [.slice re gI.length rh]:=i8
 refine oR Z (Ze Z Z Bp Z ZK zZ (wBt cY) (wBy cY)) (oL Z (bq.ldC (f:=0) i8 (v:=.slice re gI.length rh) Z Z zj Z) (oR Z (zJ Z eD ZL Z zD) (oL Z (bq.ldB (j:=8) Z Z Z zF (v:=jV cB) Z) ?_)))
 have q:=AH.el (fun _=>rfl) (wAX cZ)
 obtain ⟨GP,Hk,Bq,Bs⟩:=q
 refine oR Z (Ze Z Z Bq Z zC zD (wBt cZ) (wBy cZ)) (oL Z (bq.ldC (f:=0) Bs (v:=jV ci) Z Z zF Z) (oR Z (yP Z Z Z) (oM Z gq (oR Z (zJ Z eD ZL Z zD) (oL Z (bq.ldB (j:=8) Z Z Z zF (v:=jV bh) Z) (oR Z (Ze Z Z gw Z zC zD (wCC cu) (wCD cu)) ?_))))))
 have Eu:=wBb (xs:=bp) (wAY cu)
 refine ZE rfl rfl rfl rfl (bq.ldR (j:=7) rfl gw rfl rfl zF (wAa (sz:=1) (fun _=>rfl) _ _ 0 _ Eu (by first | omega | rfl | simp) rfl)) rfl (ze rfl rfl rfl rfl (fun _=>yP rfl rfl rfl) (yB rfl rfl rfl rfl rfl rfl (eN (sR fL9 rfl (zm rfl rfl rfl rfl rfl rfl (zm rfl rfl rfl rfl rfl pI (ze rfl rfl rfl rfl (fun _=>Runs.negw rfl rfl) (ze rfl rfl rfl rfl (fun _=>Runs.geq rfl rfl rfl) (zm rfl rfl rfl rfl rfl rfl (ifc qz ?_ ?_))))))))))
 intro bK EH
 refine zm Z Z Z (wT Z bK) Z Z (zm Z Z Z (wT Z bK) Z pI (rU Z (wT Z bK) (YH Z Z Z) (oR Z (zT Z (Zm bK.out) Z) (eN (ifc EH ?_ ?_)))))
 intro iI EI
 refine cT Z iI (rR (wCv (.fx 3 (.fx 4 (.fl 5 (.fx 6 .nil .stop)) .stop) .stop)) Z (oR Z (zJ Z eB zP Z Zo) (oL Z (bq.ldB (j:=5) Z Z Z yN (v:=.slice bV cy.length bX) Z) (oL Z (bq.ldBA (j:=8) Z Z eD yr Zg (vs:=co) Z Z) (zo (pv:=[(0,.agg co.toArray)]) (zs:=[jV 0,jV 0,jV 0,jV 0]) (cs:=co) Z Z Z Z Z (wAD Z wAM) ZY Zg Zn Z Z Z Z Z bq ?_)))))
 intro sv sZ C5
 let ij:Res:=.row (some ⟨sZ,0,none⟩) 1 52 4 (hD wAB [(⟨bR,cB,bh,max 0 (w64 ((w64 (ci + (gd bp bh.toNat))) + de))⟩:wAK)])
 have qi:SW w [B1] U bI [ij,dG,B7,ai,aq,aV,aU,.blk b3 45 B0,au,.blk bn 52 co] sv:=C5
 refine bnK EI fun gJ AI EJ=>yK (j:=5) (enc:=wAB) (xs:=cy) (ys:=[(⟨bR,cB,bh,max 0 (w64 ((w64 (ci + (gd bp bh.toNat))) + de))⟩:wAK)]) (zs:=gJ) rfl rfl rfl rfl rfl Tryz.underlying43 wLA rfl rfl rfl rfl rfl rfl qi rfl rfl rfl (qi.srcR (j:=0) rfl (by decide) (wAC (f:=wAB) (sz:=4) (fun _=>rfl) [(⟨bR,cB,bh,max 0 (w64 ((w64 (ci + (gd bp bh.toNat))) + de))⟩:wAK)])) (fun _=>rfl) (fun _=>rfl) AI rfl ?_
 intro fz f8 sw C6
 let lO:Res:=.row fz f8 52 4 (hD wAB gJ)
 have C7:SW w [B1] U bI [ij,dG,B7,ai,aq,lO,aU,.blk b3 45 B0,au,.blk bn 52 co] sw:=C6
 refine oR Z (zJ Z eB zP Z Zo) (zX (j:=6) (vs:=[.slice fz gJ.length f8]) Z Z Z Z C7 Z Z Z Z Zo (zA Z) Z Z Z ?_)
 intro sA C8
 have C9:SW w [B1] U bI [ij,dG,B7,ai,aq,lO,.blk b7 45 [.slice a7 ax.length a8,.slice be ay.length bf,.slice bG bk.length bJ,.slice fz gJ.length f8],.blk b3 45 B0,au,.blk bn 52 co] sA:=C8
 refine zg (zx (zI (rR fL2 Z (oR Z (ZG (za Z iT Z) (congrArg (jV) je.out)) (oM Z Z (zg ?_))))))
 cases EJ
 exact zI ⟨rfl,⟨bI,fy,f7,fz,f8,rfl,iQ,iR,eB,gm,gq,iS,((gB.trans gC).trans gD),(C9.pick [1,2,3,4,5,6,7,8] _ (by decide) rfl),i4⟩⟩
 intro iI EK
 refine cF Z iI (Zi (zx (zI (rR fL2 Z (oR Z (ZG (za Z iT Z) (congrArg (jV) je.out)) (oM Z Z (zg ?_)))))))
 cases EK
 exact zI ⟨rfl,⟨bI,fy,f7,bV,bX,rfl,iQ,iR,eB,gm,gq,iS,((gB.trans gC).trans gD),(bq.pick [0,1,2,3,4,5,6,7] _ (by decide) rfl),i4⟩⟩
 intro bK EL
 refine oF Z bK (oF Z bK (oF Z bK (oR Z (zc Z (ZM bK.out) Z) (eN (zy Z (Zi (zx (zI (rR fL2 Z (oR Z (ZG (za Z iT Z) (congrArg (jV) je.out)) (oM Z Z (zg ?_))))))))))))
 cases EL
 exact zI ⟨rfl,⟨bI,fy,f7,bV,bX,rfl,iQ,iR,eB,gm,gq,iS,((gB.trans gC).trans gD),(bq.pick [0,1,2,3,4,5,6,7] _ (by decide) rfl),i4⟩⟩
 rintro Ic GF ⟨l6,lc,m3,gW,iJ,y7,G9,pJ,xb,xc,xd,xe,Fs,qj,AK⟩
 have ta:Hid (¬ ((↑((dd:Int) - 0).toNat:Int) < dd)):=zM (wAf)
 refine sR fL1 Z (oR Z (zY Z y7 xe) (eN (zL (cF Z ta (Zd (zn (zn (ZV (zI (sR (wCv gAu) Z ?_))))))))))
 let cO:List Value:=[.slice a7 ax.length a8,.slice be ay.length bf,.slice bG bk.length bJ,.slice gW rn.length iJ]
 refine oL Z (qj.ldBA (j:=5) Z Z xb zz zh (vs:=cO) Z Z) (oM Z xc (oM Z xd (zX (j:=6) (vs:=cO) Z Z Z Z qj Z pJ Z Z zh (zA Z) Z Z Z ?_)))
 intro sB Da
 have qk:SW w [B1] U l6 [.blk ab 80 [.slice lc FI.length m3,jV FJ,.int .u32 FK],B7,ai,aq,.row gW iJ 52 4 (hD wAB rn),.blk b7 45 cO,.blk b3 45 cO,au] sB:=Da
 refine oA Z Z (oA Z Z (eN (zR ?_)))
 have AL:=qP.le Fs
 cases qv
 exact ⟨rfl,_,(wEH (rs:=[.cell 8 45,.tmp 9,.tmp 10]) (vs:=[.agg cO.toArray,.slice bc bj.length bd,.slice cI bp.length cS]) ⟨⟨_,pJ,(wBN zz zh (qk.blkAt (k:=6) rfl) (vs:=cO) rfl rfl)⟩,⟨rfl,⟨rfl,trivial⟩⟩⟩ rfl),l6,_,(qk.pick [1,2,3,4,7,0] _ (by decide) rfl),a7,a8,be,bf,bG,bJ,gW,iJ,bc,bd,cI,cS,lc,m3,rfl,rfl,AL,AK⟩
end Go.Proofs.YtkghaiefcjgfkaaGreat
namespace Go.Proofs.YtkghaiefcjgfkaaGreat
open Go.KL
set_option maxHeartbeats 4000000
theorem wBZ  (w:World) (U:PHeap) (hS:St0 w U [])  {r:wAE} (hm:wBC =some r):Gv Tryz.prog 35 [] w (wBa w [] U (fun U_ L_ v=>∃ (ap:Option Addr) (aW:Nat) (aq:Option Addr) (aX:Nat) (au:Option Addr) (aY:Nat) (av:Option Addr) (aZ:Nat),v=.agg #[.slice ap r.Starts.length aW,.slice aq r.Splits.length aX,.slice au r.Clocks.length aY,.slice av r.Readings.length aZ]/\L_=[.row ap aW 3 1 (hD KL.encI r.Starts),.row aq aX 37 2 (hD wAF r.Splits),.row au aY 39 3 (hD wAA r.Clocks),.row av aZ 52 4 (hD wAB r.Readings)])):=by
 unfold wBC at hm
 refine Gv.of Tryz.func35 Z Tryz.ntmps35 Tryz.results35 Z (sR (.fx 0 .nil .stop) Z ?_)
 let B0:List Value:=[.slice none 0 0,.slice none 0 0,.slice none 0 0,.slice none 0 0]
 refine zW (cs:=B0) Z Z Z Z Z yy Z hS ?_
 intro W1 b2 bk
 refine eN (sR (.fx 0 (.fl 1 (.fl 2 (.fx 3 (.fl 4 (.fl 5 (.fx 6 (fC7_9 gAq) .stop))) .stop))) .stop) Z (zo (pv:=[(0,jV 0),(1,jV 300)]) (zs:=[jV 0,jV 0]) (cs:=[jV 0,jV 300]) Z Z Z Z Z (wAD Z (wAD Z wAM)) zC zD zt Z Z Z Z Z bk ?_))
 intro W5 b6 bm
 let B1:Res:=.row (some ⟨b6,0,none⟩) 2 3 1 (hD KL.encI [0,300])
 have bn:sW w U U [B1,.blk b2 45 B0] W5:=bm
 let B2:List Value:=[jV 0,jV 0]
 refine oR Z (zu (pv:=[(0,jV 1000),(1,jV 1200)]) (z:=B2) (cs:=[jV 1000,jV 1200]) Z (wAD Z (wAD Z wAM)) ZQ wCU Z Z) (oR Z (zu (pv:=[(0,jV 900),(1,jV 1500)]) (z:=B2) (cs:=[jV 900,jV 1500]) Z (wAD Z (wAD Z wAM)) ZQ wCU Z Z) (zo (pv:=[(0,.agg #[jV 1000,jV 1200]),(1,.agg #[jV 900,jV 1500])]) (zs:=[jV 0,jV 0,jV 0,jV 0]) (cs:=[jV 1000,jV 1200,jV 900,jV 1500]) Z Z Z Z Z (wAD Z (wAD Z wAM)) ZP ZD ZQ Z Z Z Z Z bn ?_))
 intro a7 ag bd
 let B3:Res:=.row (some ⟨ag,0,none⟩) 2 37 2 (hD wAF [(⟨1000,1200⟩:wAI),(⟨900,1500⟩:wAI)])
 have be:sW w U U [B3,B1,.blk b2 45 B0] a7:=bd
 refine oR Z (zu (pv:=[(0,jV (-5)),(1,jV 5)]) (z:=B2) (cs:=[jV (-5),jV 5]) Z (wAD Z (wAD Z wAM)) ZQ wCU Z Z) ?_
 let B4:List Value:=[jV (-5),jV 5,jV 1]
 let B5:List Value:=[jV 0,jV 0,jV 0]
 refine oR Z (zu (pv:=[(0,.agg #[jV (-5),jV 5]),(1,jV 1)]) (z:=B5) (cs:=B4) Z (wAD Z (wAD Z wAM)) yc wJf Z Z) (zo (pv:=[(0,.agg B4.toArray)]) (zs:=B5) (cs:=B4) Z Z Z Z Z (wAD Z wAM) Za Zs yc Z Z Z Z Z be ?_)
 intro a8 ah bf
 let B6:Res:=.row (some ⟨ah,0,none⟩) 1 39 3 (hD wAA [(⟨(⟨-5,5⟩:wAI),1⟩:wAL)])
 have bg:sW w U U [B6,B3,B1,.blk b2 45 B0] a8:=bf
 let B7:List Value:=[jV 0,jV 0,jV 0,jV 0]
 let B8:List Value:=[jV 0,jV 2,jV 0,jV 2250]
 refine oR Z (zu (pv:=[(1,jV 2),(3,jV 2250)]) (z:=B7) (cs:=B8) Z (wAD Z (wAD Z wAM)) Zn wFA Z Z) ?_
 let B9:List Value:=[jV 1,jV 1,jV 0,jV 1400]
 refine oR Z (zu (pv:=[(0,jV 1),(1,jV 1),(3,jV 1400)]) (z:=B7) (cs:=B9) Z (wAD Z (wAD Z (wAD Z wAM))) Zn wFA Z Z) ?_
 let ax:List Value:=[jV 1,jV 2,jV 0,jV 2499]
 refine oR Z (zu (pv:=[(0,jV 1),(1,jV 2),(3,jV 2499)]) (z:=B7) (cs:=ax) Z (wAD Z (wAD Z (wAD Z wAM))) Zn wFA Z Z) (zo (pv:=[(0,.agg B8.toArray),(1,.agg B9.toArray),(2,.agg ax.toArray)]) (zs:=[jV 0,jV 0,jV 0,jV 0,jV 0,jV 0,jV 0,jV 0,jV 0,jV 0,jV 0,jV 0]) (cs:=[jV 0,jV 2,jV 0,jV 2250,jV 1,jV 1,jV 0,jV 1400,jV 1,jV 2,jV 0,jV 2499]) Z Z Z Z Z (wAD Z (wAD Z (wAD Z wAM))) ZY Zg Zn Z Z Z Z Z bg ?_)
 intro ba ai bh
 let ay:Res:=.row (some ⟨ai,0,none⟩) 3 52 4 (hD wAB [(⟨0,2,0,2250⟩:wAK),(⟨1,1,0,1400⟩:wAK),(⟨1,2,0,2499⟩:wAK)])
 have bi:sW w U U [ay,B6,B3,B1,.blk b2 45 B0] ba:=bh
 let ac:List Value:=[.slice (some ⟨b6,0,none⟩) 2 2,.slice (some ⟨ag,0,none⟩) 2 2,.slice (some ⟨ah,0,none⟩) 1 1,.slice (some ⟨ai,0,none⟩) 3 3]
 refine oR Z (zu (pv:=[(0,.slice (some ⟨b6,0,none⟩) 2 2),(1,.slice (some ⟨ag,0,none⟩) 2 2),(2,.slice (some ⟨ah,0,none⟩) 1 1),(3,.slice (some ⟨ai,0,none⟩) 3 3)]) (z:=B0) (cs:=ac) Z (wAD Z (wAD Z (wAD Z (wAD Z wAM)))) yy wLp Z Z) (zX (j:=4) (vs:=ac) Z Z Z Z bi Z Z Z Z zh (zA Z) Z Z Z ?_)
 intro bb bj
 have a6:sW w U U [ay,B6,B3,B1,.blk b2 45 ac] bb:=bj
 refine eN (zR ?_)
 cases hm
 exact ⟨rfl,_,(wHx (v:=.agg ac.toArray) ⟨⟨_,rfl,(wBN zz zh (a6.blkAt (k:=4) rfl) (vs:=ac) rfl rfl)⟩,trivial⟩),U,_,(a6.pick [3,2,1,0] _ (by decide) rfl),(some ⟨b6,0,none⟩),2,(some ⟨ag,0,none⟩),2,(some ⟨ah,0,none⟩),1,(some ⟨ai,0,none⟩),3,rfl,rfl⟩
theorem wAe (p0:Int) (p1:Int) (w:World) (U:PHeap) (hS:St0 w U [])  {r:wAP} (hm:wAd p0 p1=some r):Gv Tryz.prog 16 [jV p0,jV p1] w (wBa w [] U (fun U_ L_ v=>v=.agg #[jV r.Skier,jV r.Mat]/\L_=[])):=by
 unfold wAd at hm
 refine Gv.of Tryz.func16 Z Tryz.ntmps16 Tryz.results16 Z (sR (.fx 0 .nil .stop) Z (zW (cs:=[jV 0,jV 0]) Z Z Z Z Z yF Z hS ?_))
 intro W1 b2 ah
 refine eN (sR (wCv (.fx 3 .nil .stop)) Z (oM Z Z (oM Z Z ?_)))
 let B0:List Value:=[jV p0,jV p1]
 refine oR Z (zu (pv:=[(0,jV p0),(1,jV p1)]) (z:=[jV 0,jV 0]) (cs:=B0) Z (wAD Z (wAD Z wAM)) yF wFZ Z Z) (zX (j:=0) (vs:=B0) Z Z Z Z ah Z Z Z Z ZX (zA Z) Z Z Z ?_)
 intro W5 ai
 have ae:sW w U U [.blk b2 62 B0] W5:=ai
 refine eN (zR ?_)
 cases hm
 exact ⟨rfl,_,(wHx (v:=.agg B0.toArray) ⟨⟨_,rfl,(wBN Zq ZX (ae.blkAt (k:=0) rfl) (vs:=B0) rfl rfl)⟩,trivial⟩),U,_,(ae.pick [] _ (by decide) rfl),rfl,rfl⟩
theorem wBs (p0:Int) (p1:Int) (p2:Int) (w:World) (U:PHeap) (hS:St0 w U [])  {r:Bool} (hm:wBR p0 p1 p2=some r):Gv Tryz.prog 91 [jV p0,jV p1,jV p2] w (wBa w [] U (fun U_ L_ v=>v=.bool r/\L_=[])):=by
 unfold wBR at hm
 refine Gv.of Tryz.func91 Z Tryz.ntmps91 Tryz.results91 Z (sR fL1 Z (oA Z Z (eN (sR fL9 Z (oM Z Z (oM Z Z (oR Z (Runs.geq Z Z Z) (oM Z Z ?_))))))))
 by_cases c1:p1 <= p0
 have ab:=hm;rw [if_pos c1] at ab;replace c1:=zM c1
 refine zm Z Z Z (wT Z c1) Z Z (zm Z Z Z (wT Z c1) Z Z (rU Z (wT Z c1) (YH Z Z Z) (oR Z (zT Z (Zm c1.out) Z) (oA Z Z (eN (zR ?_))))))
 first | (obtain rfl:=nA ab) | cases ab
 exact ⟨Z,_,(ZH Z),U,_,hS,Z,Z⟩
 have af:=hm;rw [if_neg c1] at af;replace c1:=zM c1
 refine oF Z c1 (oF Z c1 (oF Z c1 (oR Z (zc Z (ZM c1.out) Z) (oA Z Z (eN (zR ?_))))))
 have hE:=nA af;first | subst r | cases hE
 exact ⟨Z,_,(ZH Z),U,_,hS,Z,Z⟩
theorem wGW (p0:List Int) (ak:Option Addr) (am:Nat) (p1:(Int->Option Bool)) (an:Value) (w:World) (U:PHeap) (hS:St0 w U []) (bh:Sl U 1 ak am p0.length (hD KL.encI p0)) (bi:FnOK Tryz.prog U an wJG wKx p1) {r:Bool} (hm:wCW p0 p1=some r):Gv Tryz.prog 92 [.slice ak p0.length am,an] w (wBa w [] U (fun U_ L_ v=>v=.bool r/\L_=[])):=by
 unfold wCW at hm
 refine Gv.of Tryz.func92 Z Tryz.ntmps92 Tryz.results92 Z (sR fL1 Z (oA Z Z (eN (zL (sR fL3 Z (oM Z Z (oR Z (zr Z Z zC) (oM Z Z (eN (zb ?_))))))))))
 have q:=wBQ hm
 obtain ⟨r3,ag⟩:=q
 have q:=wBP ag
 obtain ⟨ai,bm⟩:=q
 replace ai:=zM ai
 refine yG (fun k2 _ σ_ w_=>∃ (U_:PHeap),σ_ 9=jV (↑k2:Int)/\σ_ 1=an/\σ_ 7=.slice ak p0.length am/\σ_ 8=jV (↑p0.length:Int)/\PHeap.Le U U_/\sW w U U_ [] w_) bm ?_ ?_ ?_
 exact ⟨U,Z,Z,Z,Z,(zN _),hS⟩
 rintro k2 ⟨⟩ bI bK W8 ah ⟨bw,af,ap,aq,au,aj,ax⟩ aU bj
 try dsimp only at aU
 have ao:Hid ((↑k2:Int) < (↑p0.length:Int)):=zM (wAr ah)
 replace ah:=zM ah
 have bn:Hid (w64 ((↑k2:Int) + 1)=(↑(k2 + 1):Int)):=zM (by have h1:=ai.out;have h2:=ao.out;rw [wAW] <;> omega)
 refine sR fL1 Z (oR Z (zY Z af au) (eN (zL (cT Z ao (kN (zL (zb (sR fL3 Z (bnK aU fun aW av bo=>?_)))))))))
 have ba:=bh.le aj
 have q:=ba.el (fun _=>rfl) (wAX av)
 obtain ⟨bA,bE,bd,be⟩:=q
 refine oR Z (ZR Z aq bd af zC zD (wBA av)) (oL Z (ax.ldC (f:=0) be (v:=jV aW) Z Z zF Z) (oA Z Z (eN (sR gBb Z (oM Z ap (oM Z Z (bnK bo fun bH bb bp=>?_)))))))
 have bc:=bi.le aj
 refine YF (a:=aW) Z Z Z Z Z Z (zB Z zO) ax bc Z bb ?_
 rintro ac bv bG aY bt bf ⟨rfl,rfl⟩
 have ay:sW w U ac [] aY:=bf
 refine oR Z (ZW Z Z) (eN (ifc bp ?_ ?_))
 intro ae bq
 refine zy (nC ae.out) (Zi (zx (zI (rR fL2 Z (oR Z (ZG (za Z af Z) (congrArg (jV) bn.out)) (oM Z Z (zg ?_)))))))
 have q:=nA bq
 obtain rfl:=q
 exact zI ⟨Z,_,Z,⟨ac,Z,ap,aq,au,(aj.trans bt),ay⟩⟩
 intro ae br
 refine ZJ (nF (ae.out)) (sR fL1 Z (oA Z Z (eN (zR (zd (zS ?_))))))
 have q:=wAZ br
 obtain ⟨bu,bs,a6⟩:=q
 have q:=wBB hm ag (bj bu a6)
 obtain rfl:=q
 refine zS (zd (zS ?_))
 have hE:=nA bs;first | subst r | cases hE
 exact ⟨Z,_,(ZH Z),ac,_,ay,Z,Z⟩
 rintro ⟨⟩ bJ bx ⟨aX,a8,bB,bC,a7,bD,bg⟩ bk
 have az:=wCE hm ag bk
 try dsimp only at az
 have aZ:Hid (¬ ((↑(((↑p0.length:Int):Int) - 0).toNat:Int) < (↑p0.length:Int))):=zM (wAf)
 refine sR fL1 Z (oR Z (zY Z a8 a7) (eN (zL (cF Z aZ (Zd (zn (zn (ZV (zI (sR fL1 Z (oA Z Z (eN (zR ?_)))))))))))))
 have hE:=nA az;first | subst r | cases hE
 exact ⟨Z,_,(ZH Z),aX,_,bg,Z,Z⟩
theorem wHK (p0:Int) (w:World) (U:PHeap) (hS:St0 w U [])  {r:Bool} (hm:wCk p0=some r):Gv Tryz.prog 93 [jV p0] w (wBa w [] U (fun U_ L_ v=>v=.bool r/\L_=[])):=by
 unfold wCk at hm
 refine Gv.of Tryz.func93 Z Tryz.ntmps93 Tryz.results93 Z (sR fL1 Z (oA Z Z (eN (sR gAr Z (oM Z Z (bnK hm fun x1 h2 ah=>zH 0 Z Z Z Z (zG Z Z yV (zB Z (zB Z (zB Z zO))) Z) hS (fun hs=>wBs p0 0 360000 w U hs h2) (.inr Z) ?_))))))
 rintro U4 L5 v6 W7 aj ag ⟨rfl,rfl⟩
 have af:sW w U U4 [] W7:=ag
 refine oA Z Z (eN (zR ?_))
 have hE:=nA ah;first | subst r | cases hE
 exact ⟨Z,_,(ZH Z),U4,_,af,Z,Z⟩
theorem wFI (p0:List wAI) (an:Option Addr) (ao:Nat) (p1:(wAI->Option Bool)) (ap:Value) (w:World) (U:PHeap) (hS:St0 w U []) (bp:Sl U 2 an ao p0.length (hD wAF p0)) (bq:FnOK Tryz.prog U ap wNk wNl p1) {r:Bool} (hm:wBc p0 p1=some r):Gv Tryz.prog 94 [.slice an p0.length ao,ap] w (wBa w [] U (fun U_ L_ v=>v=.bool r/\L_=[])):=by
 unfold wBc at hm
 refine Gv.of Tryz.func94 Z Tryz.ntmps94 Tryz.results94 Z (sR fL1 Z (oA Z Z (eN (zL (sR fL3 Z (oM Z Z (oR Z (zr Z Z ZP) (oM Z Z (eN (zb ?_))))))))))
 have q:=wBQ hm
 obtain ⟨r3,ai⟩:=q
 have q:=wBP ai
 obtain ⟨ak,bt⟩:=q
 replace ak:=zM ak
 refine yG (fun k2 _ σ_ w_=>∃ (U_:PHeap),σ_ 9=jV (↑k2:Int)/\σ_ 1=ap/\σ_ 7=.slice an p0.length ao/\σ_ 8=jV (↑p0.length:Int)/\PHeap.Le U U_/\sW w U U_ [] w_) bt ?_ ?_ ?_
 exact ⟨U,Z,Z,Z,Z,(zN _),hS⟩
 rintro k2 ⟨⟩ bQ bS W8 aj ⟨a6,ah,av,ax,ay,am,aU⟩ aY br
 try dsimp only at aY
 have au:Hid ((↑k2:Int) < (↑p0.length:Int)):=zM (wAr aj)
 replace aj:=zM aj
 have bu:Hid (w64 ((↑k2:Int) + 1)=(↑(k2 + 1):Int)):=zM (by have h1:=ak.out;have h2:=au.out;rw [wAW] <;> omega)
 refine sR fL1 Z (oR Z (zY Z ah ay) (eN (zL (cT Z au (kN (zL (zb (sR gBc Z (bnK aY fun ac az bv=>?_)))))))))
 have bf:=bp.le am
 have q:=bf.el (fun _=>rfl) (wAX az)
 obtain ⟨bH,bL,bi,bj⟩:=q
 refine oR Z (ZR Z ax bi ah ZP ZD (wBA az)) (oL Z (aU.ldCA (f:=0) bj Z Z yE ZD (us:=[jV ac.Lo,jV ac.Hi]) Z Z) (zW (cs:=[jV 0,jV 0]) Z Z Z Z Z ZQ Z aU ?_))
 intro bE aq bk
 let B0:List Value:=[jV ac.Lo,jV ac.Hi]
 refine zX (j:=0) (vs:=B0) Z Z Z Z bk Z Z Z Z ZD (zA Z) Z Z Z ?_
 intro a8 bm
 have aV:sW w U a6 [.blk aq 37 B0] a8:=bm
 refine eN (sR gBb Z (oM Z av (oL Z (aV.ldBA (j:=0) Z Z Z yE ZD (vs:=B0) Z Z) (bnK bv fun bP bg bw=>?_))))
 have bh:=bq.le am
 refine YF (a:=ac) Z Z Z Z Z Z (zB Z zO) aV bh Z bg ?_
 rintro af bD bN ba bB bn ⟨rfl,rfl⟩
 have aW:sW w U af [.blk aq 37 B0] ba:=bn
 refine oR Z (ZW Z Z) (eN (ifc bw ?_ ?_))
 intro ag bx
 refine zy (nC ag.out) (Zi (zx (zI (rR fL2 Z (oR Z (ZG (za Z ah Z) (congrArg (jV) bu.out)) (oM Z Z (zg ?_)))))))
 have q:=nA bx
 obtain rfl:=q
 exact zI ⟨rfl,_,rfl,⟨af,rfl,av,ax,ay,(am.trans bB),(aW.pick [] _ (by decide) rfl)⟩⟩
 intro ag bz
 refine ZJ (nF (ag.out)) (sR fL1 Z (oA Z Z (eN (zR (zd (zS ?_))))))
 have q:=wAZ bz
 obtain ⟨bC,bA,bc⟩:=q
 have q:=wBB hm ai (br bC bc)
 obtain rfl:=q
 refine zS (zd (zS ?_))
 have hE:=nA bA;first | subst r | cases hE
 exact ⟨rfl,_,(ZH rfl),af,_,(aW.pick [] _ (by decide) rfl),rfl,rfl⟩
 rintro ⟨⟩ bR bF ⟨a7,be,bI,bJ,bd,bK,bo⟩ bs
 have aX:=wCE hm ai bs
 try dsimp only at aX
 have bb:Hid (¬ ((↑(((↑p0.length:Int):Int) - 0).toNat:Int) < (↑p0.length:Int))):=zM (wAf)
 refine sR fL1 Z (oR Z (zY Z be bd) (eN (zL (cF Z bb (Zd (zn (zn (ZV (zI (sR fL1 Z (oA Z Z (eN (zR ?_)))))))))))))
 have hE:=nA aX;first | subst r | cases hE
 exact ⟨Z,_,(ZH Z),a7,_,bo,Z,Z⟩
theorem wFg (p0:wAI) (p1:Int) (p2:Int) (w:World) (U:PHeap) (hS:St0 w U [])  {r:Bool} (hm:wCl p0 p1 p2=some r):Gv Tryz.prog 96 [.agg #[jV p0.Lo,jV p0.Hi],jV p1,jV p2] w (wBa w [] U (fun U_ L_ v=>v=.bool r/\L_=[])):=by
 unfold wCl at hm
 refine Gv.of Tryz.func96 rfl Tryz.ntmps96 Tryz.results96 rfl (sR gAl rfl (ZC (cs:=[jV p0.Lo,jV p0.Hi]) rfl rfl rfl rfl rfl rfl (by rfl) hS ?_))
 intro W1 b2 ae
 refine oA Z Z (eN (sR fL18 Z (oR Z (zJ Z Z ZU Z zD) (oL Z (ae.ldB (j:=0) Z Z Z zF (v:=jV p0.Lo) Z) (oR Z (zJ Z Z ZU Z zD) (oL Z (ae.ldB (j:=0) Z Z Z zF (v:=jV p0.Hi) Z) (oR Z (YH Z Z Z) (oM Z Z ?_))))))))
 by_cases c5:p0.Lo <= p0.Hi
 have ag:=hm;rw [if_pos c5] at ag;replace c5:=zM c5
 refine rU Z (wT Z c5) (zJ Z Z ZU Z zD) (ZE Z Z Z (wT Z c5) (ae.ldB (j:=0) Z Z Z zF (v:=jV p0.Lo) Z) Z (zm Z Z Z (wT Z c5) Z Z (rU Z (wT Z c5) (Runs.geq Z Z Z) (oR Z (zT Z (Zm c5.out) Z) (oM Z Z (ifc ag ?_ ?_))))))
 intro c7 ah
 refine rU Z (wT Z c7) (zJ Z Z ZU Z zD) (ZE Z Z Z (wT Z c7) (ae.ldB (j:=0) Z Z Z zF (v:=jV p0.Hi) Z) Z (zm Z Z Z (wT Z c7) Z Z (rU Z (wT Z c7) (YH Z Z Z) (oR Z (zT Z (Zm c7.out) Z) (oA Z Z (eN (zR ?_)))))))
 first | (obtain rfl:=nA ah) | cases ah
 exact ⟨rfl,_,(ZH rfl),U,_,(ae.pick [] _ (by decide) rfl),rfl,rfl⟩
 intro c7 ak
 refine oF Z c7 (oF Z c7 (oF Z c7 (oF Z c7 (oR Z (zc Z (ZM c7.out) Z) (oA Z Z (eN (zR ?_)))))))
 have hE:=nA ak;first | subst r | cases hE
 exact ⟨rfl,_,(ZH rfl),U,_,(ae.pick [] _ (by decide) rfl),rfl,rfl⟩
 have af:=hm;rw [if_neg c5] at af;replace c5:=zM c5
 refine oF Z c5 (oF Z c5 (oF Z c5 (oF Z c5 (oR Z (zc Z (ZM c5.out) Z) (oM Z Z (oN Z (oN Z (oN Z (oN Z (oR Z (zc Z Z Z) (oA Z Z (eN (zR ?_)))))))))))))
 have hE:=nA af;first | subst r | cases hE
 exact ⟨rfl,_,(ZH rfl),U,_,(ae.pick [] _ (by decide) rfl),rfl,rfl⟩
theorem wHL (p0:wAI) (w:World) (U:PHeap) (hS:St0 w U [])  {r:Bool} (hm:wCm p0=some r):Gv Tryz.prog 95 [.agg #[jV p0.Lo,jV p0.Hi]] w (wBa w [] U (fun U_ L_ v=>v=.bool r/\L_=[])):=by
 unfold wCm at hm
 refine Gv.of Tryz.func95 Z Tryz.ntmps95 Tryz.results95 Z (sR gAl Z ?_)
 let B0:List Value:=[jV p0.Lo,jV p0.Hi]
 refine ZC (cs:=B0) rfl rfl rfl rfl rfl rfl (by rfl) hS ?_
 intro W1 b2 ae
 refine oA Z Z (eN (sR gAr Z (oL Z (ae.ldBA (j:=0) Z Z Z yE ZD (vs:=B0) Z Z) (bnK hm fun x5 h6 am=>zH 0 Z Z Z Z (zG Z Z Tryz.call96 (zB Z (zB Z (zB Z zO))) Z) ae (fun hs=>wFg p0 0 360000 W1 U hs h6) (.inr Z) ?_))))
 rintro U8 L9 ap ag ao aj ⟨rfl,rfl⟩
 have ak:sW w U U8 [.blk b2 37 B0] ag:=aj
 refine oA Z Z (eN (zR ?_))
 have hE:=nA am;first | subst r | cases hE
 exact ⟨rfl,_,(ZH rfl),U8,_,(ak.pick [] _ (by decide) rfl),rfl,rfl⟩
theorem wEn (p0:List wAL) (an:Option Addr) (ao:Nat) (p1:(wAL->Option Bool)) (ap:Value) (w:World) (U:PHeap) (hS:St0 w U []) (bp:Sl U 3 an ao p0.length (hD wAA p0)) (bq:FnOK Tryz.prog U ap wNm wNn p1) {r:Bool} (hm:wBS p0 p1=some r):Gv Tryz.prog 97 [.slice an p0.length ao,ap] w (wBa w [] U (fun U_ L_ v=>v=.bool r/\L_=[])):=by
 unfold wBS at hm
 refine Gv.of Tryz.func97 Z Tryz.ntmps97 Tryz.results97 Z (sR fL1 Z (oA Z Z (eN (zL (sR fL3 Z (oM Z Z (oR Z (zr Z Z Za) (oM Z Z (eN (zb ?_))))))))))
 have q:=wBQ hm
 obtain ⟨r3,ai⟩:=q
 have q:=wBP ai
 obtain ⟨ak,bt⟩:=q
 replace ak:=zM ak
 refine yG (fun k2 _ σ_ w_=>∃ (U_:PHeap),σ_ 9=jV (↑k2:Int)/\σ_ 1=ap/\σ_ 7=.slice an p0.length ao/\σ_ 8=jV (↑p0.length:Int)/\PHeap.Le U U_/\sW w U U_ [] w_) bt ?_ ?_ ?_
 exact ⟨U,Z,Z,Z,Z,(zN _),hS⟩
 rintro k2 ⟨⟩ bQ bS W8 aj ⟨a6,ah,av,ax,ay,am,aU⟩ aY br
 try dsimp only at aY
 have au:Hid ((↑k2:Int) < (↑p0.length:Int)):=zM (wAr aj)
 replace aj:=zM aj
 have bu:Hid (w64 ((↑k2:Int) + 1)=(↑(k2 + 1):Int)):=zM (by have h1:=ak.out;have h2:=au.out;rw [wAW] <;> omega)
 refine sR fL1 Z (oR Z (zY Z ah ay) (eN (zL (cT Z au (kN (zL (zb (sR gBc Z (bnK aY fun ab az bv=>?_)))))))))
 have bf:=bp.le am
 have q:=bf.el (fun _=>rfl) (wAX az)
 obtain ⟨bH,bL,bi,bj⟩:=q
 refine oR Z (ZR Z ax bi ah Za Zs (wBA az)) (oL Z (aU.ldCA (f:=0) bj Z Z Tryz.isAgg39 Zs (us:=[jV ab.Offset.Lo,jV ab.Offset.Hi,jV ab.Error]) Z Z) (zW (cs:=[jV 0,jV 0,jV 0]) Z Z Z Z Z yc Z aU ?_))
 intro bE aq bk
 let B0:List Value:=[jV ab.Offset.Lo,jV ab.Offset.Hi,jV ab.Error]
 refine zX (j:=0) (vs:=B0) Z Z Z Z bk Z Z Z Z Zs (zA Z) Z Z Z ?_
 intro a8 bm
 have aV:sW w U a6 [.blk aq 39 B0] a8:=bm
 refine eN (sR gBb Z (oM Z av (oL Z (aV.ldBA (j:=0) Z Z Z Tryz.isAgg39 Zs (vs:=B0) Z Z) (bnK bv fun bP bg bw=>?_))))
 have bh:=bq.le am
 refine YF (a:=ab) Z Z Z Z Z Z (zB Z zO) aV bh Z bg ?_
 rintro af bD bN ba bB bn ⟨rfl,rfl⟩
 have aW:sW w U af [.blk aq 39 B0] ba:=bn
 refine oR Z (ZW Z Z) (eN (ifc bw ?_ ?_))
 intro ag bx
 refine zy (nC ag.out) (Zi (zx (zI (rR fL2 Z (oR Z (ZG (za Z ah Z) (congrArg (jV) bu.out)) (oM Z Z (zg ?_)))))))
 have q:=nA bx
 obtain rfl:=q
 exact zI ⟨rfl,_,rfl,⟨af,rfl,av,ax,ay,(am.trans bB),(aW.pick [] _ (by decide) rfl)⟩⟩
 intro ag bz
 refine ZJ (nF (ag.out)) (sR fL1 Z (oA Z Z (eN (zR (zd (zS ?_))))))
 have q:=wAZ bz
 obtain ⟨bC,bA,bc⟩:=q
 have q:=wBB hm ai (br bC bc)
 obtain rfl:=q
 refine zS (zd (zS ?_))
 have hE:=nA bA;first | subst r | cases hE
 exact ⟨rfl,_,(ZH rfl),af,_,(aW.pick [] _ (by decide) rfl),rfl,rfl⟩
 rintro ⟨⟩ bR bF ⟨a7,be,bI,bJ,bd,bK,bo⟩ bs
 have aX:=wCE hm ai bs
 try dsimp only at aX
 have bb:Hid (¬ ((↑(((↑p0.length:Int):Int) - 0).toNat:Int) < (↑p0.length:Int))):=zM (wAf)
 refine sR fL1 Z (oR Z (zY Z be bd) (eN (zL (cF Z bb (Zd (zn (zn (ZV (zI (sR fL1 Z (oA Z Z (eN (zR ?_)))))))))))))
 have hE:=nA aX;first | subst r | cases hE
 exact ⟨Z,_,(ZH Z),a7,_,bo,Z,Z⟩
theorem wHM (p0:wAL) (w:World) (U:PHeap) (hS:St0 w U [])  {r:Bool} (hm:wCn p0=some r):Gv Tryz.prog 98 [.agg #[jV p0.Offset.Lo,jV p0.Offset.Hi,jV p0.Error]] w (wBa w [] U (fun U_ L_ v=>v=.bool r/\L_=[])):=by
 unfold wCn at hm
 refine Gv.of Tryz.func98 Z Tryz.ntmps98 Tryz.results98 Z (sR gAl Z ?_)
 let B0:List Value:=[jV p0.Offset.Lo,jV p0.Offset.Hi,jV p0.Error]
 refine ZC (cs:=B0) rfl rfl rfl rfl rfl rfl (by rfl) hS ?_
 intro W1 b2 aj
 refine oA Z Z (eN (sR (.fl 0 (.fl 1 (.fx 2 (wML gAo) .stop))) Z (oR Z (zJ Z Z Zv Z ZD) (oL Z (aj.ldBA (j:=0) Z Z Z yE ZD (vs:=[jV p0.Offset.Lo,jV p0.Offset.Hi]) Z Z) (bnK hm fun x5 h6 az=>zH 0 Z Z Z Z (zG Z Z Tryz.call96 (zB Z (zB Z (zB Z zO))) Z) aj (fun hs=>wFg p0.Offset (-36000) 36000 W1 U hs h6) (.inr Z) ?_)))))
 rintro U8 L9 aY ah aW ap ⟨rfl,rfl⟩
 have af:sW w U U8 [.blk b2 39 B0] ah:=ap
 refine oM Z Z (ifc az ?_ ?_)
 intro ab av
 refine ze Z Z Z (zQ Z Z (congrArg hJ ab.out)) (fun _=>zJ Z Z Zv Z zD) (ZE Z Z Z (zQ Z Z (congrArg hJ ab.out)) (af.ldB (j:=0) Z Z Z zF (v:=jV p0.Error) Z) Z (bnK av fun a6 an ax=>zH 0 Z Z Z (zQ Z Z (congrArg hJ ab.out)) (zG Z Z yV (zB Z (zB Z (zB Z zO))) Z) af (fun hs=>wBs p0.Error 0 600 ah U8 hs an) (.inr Z) ?_))
 rintro ag aU aZ am aX aq ⟨rfl,rfl⟩
 have au:sW w U ag [.blk b2 39 B0] am:=aq
 refine oR Z (zT Z (congrArg hJ ab.out) Z) (oA Z Z (eN (zR ?_)))
 have hE:=nA ax;first | subst r | cases hE
 exact ⟨rfl,_,(ZH rfl),ag,_,(au.pick [] _ (by decide) rfl),rfl,rfl⟩
 intro ab ay
 refine ZA Z Z Z (zU Z Z (congrArg hJ (nB.2 ab.out)) Z) (ZA Z Z Z (zU Z Z (congrArg hJ (nB.2 ab.out)) Z) (ZI Z Z Z (zU Z Z (congrArg hJ (nB.2 ab.out)) Z) (oR Z (zc Z (congrArg hJ (nB.2 ab.out)) Z) (oA Z Z (eN (zR ?_))))))
 have hE:=nA ay;first | subst r | cases hE
 exact ⟨rfl,_,(ZH rfl),U8,_,(af.pick [] _ (by decide) rfl),rfl,rfl⟩
theorem wDD (p0:List wAK) (an:Option Addr) (ao:Nat) (p1:(wAK->Option Bool)) (ap:Value) (w:World) (U:PHeap) (hS:St0 w U []) (bp:Sl U 4 an ao p0.length (hD wAB p0)) (bq:FnOK Tryz.prog U ap wKC wKD p1) {r:Bool} (hm:wAx p0 p1=some r):Gv Tryz.prog 99 [.slice an p0.length ao,ap] w (wBa w [] U (fun U_ L_ v=>v=.bool r/\L_=[])):=by
 unfold wAx at hm
 refine Gv.of Tryz.func99 Z Tryz.ntmps99 Tryz.results99 Z (sR fL1 Z (oA Z Z (eN (zL (sR fL3 Z (oM Z Z (oR Z (zr Z Z ZY) (oM Z Z (eN (zb ?_))))))))))
 have q:=wBQ hm
 obtain ⟨r3,ai⟩:=q
 have q:=wBP ai
 obtain ⟨ak,bt⟩:=q
 replace ak:=zM ak
 refine yG (fun k2 _ σ_ w_=>∃ (U_:PHeap),σ_ 9=jV (↑k2:Int)/\σ_ 1=ap/\σ_ 7=.slice an p0.length ao/\σ_ 8=jV (↑p0.length:Int)/\PHeap.Le U U_/\sW w U U_ [] w_) bt ?_ ?_ ?_
 exact ⟨U,Z,Z,Z,Z,(zN _),hS⟩
 rintro k2 ⟨⟩ bQ bS W8 aj ⟨a6,ah,av,ax,ay,am,aU⟩ aY br
 try dsimp only at aY
 have au:Hid ((↑k2:Int) < (↑p0.length:Int)):=zM (wAr aj)
 replace aj:=zM aj
 have bu:Hid (w64 ((↑k2:Int) + 1)=(↑(k2 + 1):Int)):=zM (by have h1:=ak.out;have h2:=au.out;rw [wAW] <;> omega)
 refine sR fL1 Z (oR Z (zY Z ah ay) (eN (zL (cT Z au (kN (zL (zb (sR gBc Z (bnK aY fun ab az bv=>?_)))))))))
 have bf:=bp.le am
 have q:=bf.el (fun _=>rfl) (wAX az)
 obtain ⟨bH,bL,bi,bj⟩:=q
 refine oR Z (ZR Z ax bi ah ZY Zg (wBA az)) (oL Z (aU.ldCA (f:=0) bj Z Z yr Zg (us:=[jV ab.Skier,jV ab.Mat,jV ab.Clock,jV ab.Time]) Z Z) (zW (cs:=[jV 0,jV 0,jV 0,jV 0]) Z Z Z Z Z Zn Z aU ?_))
 intro bE aq bk
 let B0:List Value:=[jV ab.Skier,jV ab.Mat,jV ab.Clock,jV ab.Time]
 refine zX (j:=0) (vs:=B0) Z Z Z Z bk Z Z Z Z Zg (zA Z) Z Z Z ?_
 intro a8 bm
 have aV:sW w U a6 [.blk aq 52 B0] a8:=bm
 refine eN (sR gBb Z (oM Z av (oL Z (aV.ldBA (j:=0) Z Z Z yr Zg (vs:=B0) Z Z) (bnK bv fun bP bg bw=>?_))))
 have bh:=bq.le am
 refine YF (a:=ab) Z Z Z Z Z Z (zB Z zO) aV bh Z bg ?_
 rintro af bD bN ba bB bn ⟨rfl,rfl⟩
 have aW:sW w U af [.blk aq 52 B0] ba:=bn
 refine oR Z (ZW Z Z) (eN (ifc bw ?_ ?_))
 intro ag bx
 refine zy (nC ag.out) (Zi (zx (zI (rR fL2 Z (oR Z (ZG (za Z ah Z) (congrArg (jV) bu.out)) (oM Z Z (zg ?_)))))))
 have q:=nA bx
 obtain rfl:=q
 exact zI ⟨rfl,_,rfl,⟨af,rfl,av,ax,ay,(am.trans bB),(aW.pick [] _ (by decide) rfl)⟩⟩
 intro ag bz
 refine ZJ (nF (ag.out)) (sR fL1 Z (oA Z Z (eN (zR (zd (zS ?_))))))
 have q:=wAZ bz
 obtain ⟨bC,bA,bc⟩:=q
 have q:=wBB hm ai (br bC bc)
 obtain rfl:=q
 refine zS (zd (zS ?_))
 have hE:=nA bA;first | subst r | cases hE
 exact ⟨rfl,_,(ZH rfl),af,_,(aW.pick [] _ (by decide) rfl),rfl,rfl⟩
 rintro ⟨⟩ bR bF ⟨a7,be,bI,bJ,bd,bK,bo⟩ bs
 have aX:=wCE hm ai bs
 try dsimp only at aX
 have bb:Hid (¬ ((↑(((↑p0.length:Int):Int) - 0).toNat:Int) < (↑p0.length:Int))):=zM (wAf)
 refine sR fL1 Z (oR Z (zY Z be bd) (eN (zL (cF Z bb (Zd (zn (zn (ZV (zI (sR fL1 Z (oA Z Z (eN (zR ?_)))))))))))))
 have hE:=nA aX;first | subst r | cases hE
 exact ⟨Z,_,(ZH Z),a7,_,bo,Z,Z⟩
theorem wHN (p0:wAK) (w:World) (U:PHeap) (hS:St0 w U [])  {r:Bool} (hm:wCo p0=some r):Gv Tryz.prog 100 [.agg #[jV p0.Skier,jV p0.Mat,jV p0.Clock,jV p0.Time]] w (wBa w [] U (fun U_ L_ v=>v=.bool r/\L_=[])):=by
 unfold wCo at hm
 refine Gv.of Tryz.func100 Z Tryz.ntmps100 Tryz.results100 Z (sR gAl Z ?_)
 let B0:List Value:=[jV p0.Skier,jV p0.Mat,jV p0.Clock,jV p0.Time]
 refine ZC (cs:=B0) rfl rfl rfl rfl rfl rfl (by rfl) hS ?_
 intro W1 b2 ae
 refine oA Z Z (eN (sR gBb Z (oR Z (zJ Z Z ZL Z zD) (oL Z (ae.ldB (j:=0) Z Z Z zF (v:=jV p0.Time) Z) (bnK hm fun x5 h6 am=>zH 0 Z Z Z Z (zG Z Z yV (zB Z (zB Z (zB Z zO))) Z) ae (fun hs=>wBs p0.Time 0 360000 W1 U hs h6) (.inr Z) ?_)))))
 rintro U8 L9 ap ag ao aj ⟨rfl,rfl⟩
 have ak:sW w U U8 [.blk b2 52 B0] ag:=aj
 refine oA Z Z (eN (zR ?_))
 have hE:=nA am;first | subst r | cases hE
 exact ⟨rfl,_,(ZH rfl),U8,_,(ak.pick [] _ (by decide) rfl),rfl,rfl⟩
theorem wCj (p0:wAE) (af:Option Addr) (ah:Nat) (ag:Option Addr) (ai:Nat) (ao:Option Addr) (aq:Nat) (ap:Option Addr) (au:Nat) (p1:wAP) (w:World) (U:PHeap) (hS:St0 w U []) (bg:Sl U 1 af ah p0.Starts.length (hD KL.encI p0.Starts)) (bh:Sl U 2 ag ai p0.Splits.length (hD wAF p0.Splits)) (bi:Sl U 3 ao aq p0.Clocks.length (hD wAA p0.Clocks)) (bj:Sl U 4 ap au p0.Readings.length (hD wAB p0.Readings)) {r:Bool} (hm:wAn p0 p1=some r):Gv Tryz.prog 59 [.agg #[.slice af p0.Starts.length ah,.slice ag p0.Splits.length ai,.slice ao p0.Clocks.length aq,.slice ap p0.Readings.length au],.agg #[jV p1.Skier,jV p1.Mat]] w (wBa w [] U (fun U_ L_ v=>v=.bool r/\L_=[])):=by
 unfold wAn at hm
 refine Gv.of Tryz.func59 Z Tryz.ntmps59 Tryz.results59 Z (sR gAv Z ?_)
 let B0:List Value:=[.slice af p0.Starts.length ah,.slice ag p0.Splits.length ai,.slice ao p0.Clocks.length aq,.slice ap p0.Readings.length au]
 refine ZC (cs:=B0) rfl rfl rfl rfl rfl rfl (by rfl) hS ?_
 intro W1 b2 a6
 let B1:List Value:=[jV p1.Skier,jV p1.Mat]
 refine ZC (cs:=B1) rfl rfl rfl rfl rfl rfl (by rfl) a6 ?_
 intro W5 b6 an
 refine oA Z Z (eN (sR (wFd (.fx 6 (wMe gAw) .stop)) Z (oR Z (zJ Z Z Tryz.runUnderlying62 Z zD) (oL Z (an.ldB (j:=0) Z Z Z zF (v:=jV p1.Skier) Z) (oR Z (zJ Z Z zP Z zZ) (oL Z (an.ldB (j:=1) Z Z Z zj (v:=.slice af p0.Starts.length ah) Z) (oR Z (zr Z Z zC) (oR Z (yP Z Z Z) (bnK hm fun x9 aW a8=>zH 0 Z Z Z Z (zG Z Z yV (zB Z (zB Z (zB Z zO))) Z) an (fun hs=>wBs p1.Skier 0 (w64 ((↑p0.Starts.length:Int) - 1)) W5 U hs aW) (.inr Z) ?_)))))))))
 rintro am bd bn ax bk aY ⟨rfl,rfl⟩
 have ae:sW w U am [.blk b6 62 B1,.blk b2 45 B0] ax:=aY
 refine oM Z Z (ifc a8 ?_ ?_)
 intro ab ba
 refine ze Z Z Z (zQ Z Z (congrArg hJ ab.out)) (fun _=>zJ Z Z Tryz.runUnderlying62 Z zD) (ZE Z Z Z (zQ Z Z (congrArg hJ ab.out)) (ae.ldB (j:=0) Z Z Z zF (v:=jV p1.Mat) Z) Z (ze Z Z Z (zQ Z Z (congrArg hJ ab.out)) (fun _=>zJ Z Z zP Z yA) (ZE Z Z Z (zQ Z Z (congrArg hJ ab.out)) (ae.ldB (j:=1) Z Z Z yL (v:=.slice ag p0.Splits.length ai) Z) Z (ze Z Z Z (zQ Z Z (congrArg hJ ab.out)) (fun _=>zr Z Z ZP) (bnK ba fun bp aX bb=>zH 0 Z Z Z (zQ Z Z (congrArg hJ ab.out)) (zG Z Z yV (zB Z (zB Z (zB Z zO))) Z) ae (fun hs=>wBs p1.Mat 0 (↑p0.Splits.length:Int) ax am hs aX) (.inr Z) ?_)))))
 rintro av be bo aU bm aZ ⟨rfl,rfl⟩
 have a7:sW w U av [.blk b6 62 B1,.blk b2 45 B0] aU:=aZ
 refine oR Z (zT Z (congrArg hJ ab.out) Z) (oA Z Z (eN (zR ?_)))
 have hE:=nA bb;first | subst r | cases hE
 exact ⟨rfl,_,(ZH rfl),av,_,(a7.pick [] _ (by decide) rfl),rfl,rfl⟩
 intro ab bc
 refine ZA Z Z Z (zU Z Z (congrArg hJ (nB.2 ab.out)) Z) (ZA Z Z Z (zU Z Z (congrArg hJ (nB.2 ab.out)) Z) (ZA Z Z Z (zU Z Z (congrArg hJ (nB.2 ab.out)) Z) (ZA Z Z Z (zU Z Z (congrArg hJ (nB.2 ab.out)) Z) (ZA Z Z Z (zU Z Z (congrArg hJ (nB.2 ab.out)) Z) (ZI Z Z Z (zU Z Z (congrArg hJ (nB.2 ab.out)) Z) (oR Z (zc Z (congrArg hJ (nB.2 ab.out)) Z) (oA Z Z (eN (zR ?_)))))))))
 have hE:=nA bc;first | subst r | cases hE
 exact ⟨rfl,_,(ZH rfl),am,_,(ae.pick [] _ (by decide) rfl),rfl,rfl⟩
theorem wHO (p0:wAK) (p1:wAE) (az:Nat) (ai:Option Addr) (am:Nat) (aj:Option Addr) (an:Nat) (ae:Option Addr) (af:Nat) (ak:Option Addr) (ao:Nat) (w:World) (U:PHeap) (hS:St0 w U []) (ay:Cl U az 0 [.slice ai p1.Starts.length am,.slice aj p1.Splits.length an,.slice ae p1.Clocks.length af,.slice ak p1.Readings.length ao]) (a8:Sl U 1 ai am p1.Starts.length (hD KL.encI p1.Starts)) (ba:Sl U 2 aj an p1.Splits.length (hD wAF p1.Splits)) (bb:Sl U 3 ae af p1.Clocks.length (hD wAA p1.Clocks)) (bc:Sl U 4 ak ao p1.Readings.length (hD wAB p1.Readings)) {r:Bool} (hm:wCp p0 p1=some r):Gv Tryz.prog 101 [.agg #[jV p0.Skier,jV p0.Mat,jV p0.Clock,jV p0.Time],.pointer (some ⟨az,0,none⟩)] w (wBa w [] U (fun U_ L_ v=>v=.bool r/\L_=[])):=by
 unfold wCp at hm
 refine Gv.of Tryz.func101 Z Tryz.ntmps101 Tryz.results101 Z (sR gAl Z ?_)
 let B0:List Value:=[jV p0.Skier,jV p0.Mat,jV p0.Clock,jV p0.Time]
 refine ZC (cs:=B0) rfl rfl rfl rfl rfl rfl (by rfl) hS ?_
 intro W1 b2 ah
 refine oA Z Z (eN (sR (wFd (.fx 6 (wMf gAx) .stop)) Z (oL Z (ah.ldCA (f:=0) ay Z Z zz zh (us:=[.slice ai p1.Starts.length am,.slice aj p1.Splits.length an,.slice ae p1.Clocks.length af,.slice ak p1.Readings.length ao]) Z Z) (oR Z (zJ Z Z ZL Z zD) (oL Z (ah.ldB (j:=0) Z Z Z zF (v:=jV p0.Skier) Z) (oR Z (zJ Z Z ZL Z zD) (oL Z (ah.ldB (j:=0) Z Z Z zF (v:=jV p0.Mat) Z) (oR Z (zu (pv:=[(0,jV p0.Skier),(1,jV p0.Mat)]) (z:=[jV 0,jV 0]) (cs:=[jV p0.Skier,jV p0.Mat]) Z (wAD Z (wAD Z wAM)) yF wFZ Z Z) (bnK hm fun x5 h6 bg=>zH 0 Z Z Z Z (zG Z Z Tryz.call59 (zB Z (zB Z zO)) Z) ah (fun hs=>wCj p1 ai am aj an ae af ak ao (⟨p0.Skier,p0.Mat⟩:wAP) W1 U hs a8 ba bb bc h6) (.inr Z) ?_)))))))))
 rintro U8 L9 bm av bh aZ ⟨rfl,rfl⟩
 have ag:sW w U U8 [.blk b2 52 B0] av:=aZ
 refine oM Z Z (ifc bg ?_ ?_)
 intro ac bd
 refine ze Z Z Z (zQ Z Z (congrArg hJ ac.out)) (fun _=>zJ Z Z ZL Z zD) (ZE Z Z Z (zQ Z Z (congrArg hJ ac.out)) (ag.ldB (j:=0) Z Z Z zF (v:=jV p0.Clock) Z) Z (ze Z Z Z (zQ Z Z (congrArg hJ ac.out)) (fun _=>zJ Z Z zP Z Zr) ?_))
 have aW:=ay.le bh
 refine ZE Z Z Z (zQ Z Z (congrArg hJ ac.out)) (ag.ldC (f:=2) aW (v:=.slice ae p1.Clocks.length af) Z Z yM Z) Z (ze Z Z Z (zQ Z Z (congrArg hJ ac.out)) (fun _=>zr Z Z Za) (ze Z Z Z (zQ Z Z (congrArg hJ ac.out)) (fun _=>yP Z Z Z) (bnK bd fun bo aX be=>zH 0 Z Z Z (zQ Z Z (congrArg hJ ac.out)) (zG Z Z yV (zB Z (zB Z (zB Z zO))) Z) ag (fun hs=>wBs p0.Clock 0 (w64 ((↑p1.Clocks.length:Int) - 1)) av U8 hs aX) (.inr Z) ?_)))
 rintro au bi bn aV bk a6 ⟨rfl,rfl⟩
 have a7:sW w U au [.blk b2 52 B0] aV:=a6
 refine oR Z (zT Z (congrArg hJ ac.out) Z) (oA Z Z (eN (zR ?_)))
 have hE:=nA be;first | subst r | cases hE
 exact ⟨rfl,_,(ZH rfl),au,_,(a7.pick [] _ (by decide) rfl),rfl,rfl⟩
 intro ac bf
 refine ZA Z Z Z (zU Z Z (congrArg hJ (nB.2 ac.out)) Z) (ZA Z Z Z (zU Z Z (congrArg hJ (nB.2 ac.out)) Z) (ZA Z Z Z (zU Z Z (congrArg hJ (nB.2 ac.out)) Z) (ZA Z Z Z (zU Z Z (congrArg hJ (nB.2 ac.out)) Z) (ZA Z Z Z (zU Z Z (congrArg hJ (nB.2 ac.out)) Z) (ZA Z Z Z (zU Z Z (congrArg hJ (nB.2 ac.out)) Z) (ZI Z Z Z (zU Z Z (congrArg hJ (nB.2 ac.out)) Z) (oR Z (zc Z (congrArg hJ (nB.2 ac.out)) Z) (oA Z Z (eN (zR ?_))))))))))
 have hE:=nA bf;first | subst r | cases hE
 exact ⟨rfl,_,(ZH rfl),U8,_,(ag.pick [] _ (by decide) rfl),rfl,rfl⟩
end Go.Proofs.YtkghaiefcjgfkaaGreat
namespace Go.Proofs.YtkghaiefcjgfkaaGreat
open Go.KL
set_option maxHeartbeats 4000000
theorem wEY (p0:wAE) (an:Option Addr) (aq:Nat) (ao:Option Addr) (au:Nat) (ap:Option Addr) (av:Nat) (ai:Option Addr) (aj:Nat) (w:World) (U:PHeap) (hS:St0 w U []) (cI:Sl U 1 an aq p0.Starts.length (hD KL.encI p0.Starts)) (cJ:Sl U 2 ao au p0.Splits.length (hD wAF p0.Splits)) (cK:Sl U 3 ap av p0.Clocks.length (hD wAA p0.Clocks)) (cL:Sl U 4 ai aj p0.Readings.length (hD wAB p0.Readings)) {r:Int} (hm:wCd p0=some r):Gv Tryz.prog 58 [.agg #[.slice an p0.Starts.length aq,.slice ao p0.Splits.length au,.slice ap p0.Clocks.length av,.slice ai p0.Readings.length aj]] w (wBa w [] U (fun U_ L_ v=>v=jV r/\L_=[])):=by
 unfold wCd at hm
 refine Gv.of Tryz.func58 Z Tryz.ntmps58 Tryz.results58 Z (sR gAl Z ?_)
 let B0:List Value:=[.slice an p0.Starts.length aq,.slice ao p0.Splits.length au,.slice ap p0.Clocks.length av,.slice ai p0.Readings.length aj]
 refine ZC (cs:=B0) rfl rfl rfl rfl rfl rfl (by rfl) hS ?_
 intro W1 b2 cC
 have q:=cC.freeze (k:=0) rfl
 obtain ⟨U5,ba,ay,cH⟩:=q
 replace ay:=Cl.of ay
 have bG:sW w U U5 [] W1:=cH
 replace ay:Cl U5 b2 0 B0:=ay
 refine oA Z Z (eN (zL (zb (sR (wCv (.fx 3 (wOc (.nil)) .stop)) Z (oR Z (zJ Z Z zP Z zZ) (oL Z (bG.ldC (f:=0) ay (v:=.slice an p0.Starts.length aq) Z Z zj Z) (oR Z (zr Z Z zC) (bnK hm fun dD bN cO=>zH 0 Z Z Z Z (zG Z Z yV (zB Z (zB Z (zB Z zO))) Z) bG (fun hs=>wBs (↑p0.Starts.length:Int) 1 8 W1 U5 hs bN) (.inr Z) ?_))))))))
 rintro am dq dy bq aU cB ⟨rfl,rfl⟩
 have ah:sW w U am [] bq:=cB
 refine oR Z (ZW Z Z) (oM Z Z (ifc cO ?_ ?_))
 intro ab cX
 refine ze Z Z Z (zQ Z Z (nC ab.out)) (fun _=>zJ Z Z zP Z yA) ?_
 have az:=ay.le aU
 refine ZE Z Z Z (zQ Z Z (nC ab.out)) (ah.ldC (f:=1) az (v:=.slice ao p0.Splits.length au) Z Z yL Z) Z (ze Z Z Z (zQ Z Z (nC ab.out)) (fun _=>zr Z Z ZP) (ze Z Z Z (zQ Z Z (nC ab.out)) (fun _=>yt Z Z Z) (oR Z (zc Z (nC ab.out) Z) (oM Z Z (ifc cX ?_ ?_)))))
 intro ac cY
 refine oT Z ac (oT Z ac (oT Z ac (oT Z ac (oR Z (zT Z (Zm ac.out) Z) (oM Z Z (oN Z (oN Z (oN Z (oN Z (oR Z (zT Z Z Z) (oA Z Z (eN (ZJ Z (sR fL1 Z (oA Z Z (eN (zR (zd (zS ?_)))))))))))))))))))
 cases cY
 exact ⟨Z,_,(ZH Z),am,_,ah,Z,Z⟩
 intro ac cZ
 refine rU Z (wF Z ac) (zJ Z Z zP Z Zr) (ZE Z Z Z (wF Z ac) (ah.ldC (f:=2) az (v:=.slice ap p0.Clocks.length av) Z Z yM Z) Z (rU Z (wF Z ac) (zr Z Z Za) (rU Z (wF Z ac) (yt Z Z Z) (oR Z (zc Z (ZM ac.out) Z) (oM Z Z (ifc cZ ?_ ?_))))))
 intro ae c6
 refine oT Z ae (oT Z ae (oT Z ae (oT Z ae (oR Z (zT Z (Zm ae.out) Z) (oA Z Z (eN (ZJ Z (sR fL1 Z (oA Z Z (eN (zR (zd (zS ?_)))))))))))))
 cases c6
 exact ⟨Z,_,(ZH Z),am,_,ah,Z,Z⟩
 intro ae c8
 refine rU Z (wF Z ae) (zJ Z Z zP Z Zo) (ZE Z Z Z (wF Z ae) (ah.ldC (f:=3) az (v:=.slice ai p0.Readings.length aj) Z Z yN Z) Z (rU Z (wF Z ae) (zr Z Z ZY) (rU Z (wF Z ae) (yt Z Z Z) (oR Z (zc Z (ZM ae.out) Z) (oA Z Z (eN (ifc c8 ?_ ?_)))))))
 intro bf da
 refine cT Z bf (sR fL1 Z (oA Z Z (eN (zR (zd (zS ?_))))))
 cases da
 exact ⟨Z,_,(ZH Z),am,_,ah,Z,Z⟩
 intro bf db
 refine cF Z bf (sR (.fl 0 (.fl 1 (.fx 2 (wKZ (.fx 7 (wHF (.nil)) .stop)) .stop))) Z (oR Z (zJ Z Z zP Z zZ) (oL Z (ah.ldC (f:=0) az (v:=.slice an p0.Starts.length aq) Z Z zj Z) ?_)))
 have bW:=cI.le ba
 have bx:=bW.le aU
 have cu:FnOK Tryz.prog am (.func (.func 93) #[] #[]) wJG wKx wCk:=⟨93,[],[],rfl,Tryz.call93,fun U1 w1 x y vs le hs ha hm=>by obtain rfl:=ha;exact wHK x w1 U1 hs  hm⟩
 refine bnK db fun dF bX dd=>zH 0 Z Z Z Z (zG Z Z Tryz.call92 (zB Z (zB Z zO)) Z) ah (fun hs=>wGW p0.Starts an aq wCk (.func (.func 93) #[] #[]) bq am hs bx cu bX) (.inr Z) ?_
 rintro aZ dr dz br aV cD ⟨rfl,rfl⟩
 have bk:sW w U aZ [] br:=cD
 refine oR Z (ZW Z Z) (oM Z Z (ifc dd ?_ ?_))
 intro af de
 refine ze Z Z Z (zQ Z Z (nC af.out)) (fun _=>zJ Z Z zP Z yA) ?_
 have bz:=az.le aV
 refine ZE Z Z Z (zQ Z Z (nC af.out)) (bk.ldC (f:=1) bz (v:=.slice ao p0.Splits.length au) Z Z yL Z) Z ?_
 have bY:=cJ.le ba
 have bZ:=bY.le aU
 have bA:=bZ.le aV
 have cw:FnOK Tryz.prog aZ (.func (.func 95) #[] #[]) wNk wNl wCm:=⟨95,[],[],rfl,Tryz.call95,fun U1 w1 x y vs le hs ha hm=>by obtain rfl:=ha;exact wHL x w1 U1 hs  hm⟩
 refine bnK de fun dG ca df=>zH 0 Z Z Z (zQ Z Z (nC af.out)) (zG Z Z Tryz.call94 (zB Z (zB Z zO)) Z) bk (fun hs=>wFI p0.Splits ao au wCm (.func (.func 95) #[] #[]) br aZ hs bA cw ca) (.inr Z) ?_
 rintro a6 dt dA bs aW cE ⟨rfl,rfl⟩
 have bm:sW w U a6 [] bs:=cE
 refine ze Z Z Z (zQ Z Z (nC af.out)) (fun _=>ZW Z Z) (oR Z (zc Z (nC af.out) Z) (oA Z Z (eN (ifc df ?_ ?_))))
 intro bg dg
 refine zy (nC bg.out) (sR gBk Z (oR Z (zJ Z Z zP Z Zr) ?_))
 have bB:=bz.le aW
 refine oL Z (bm.ldC (f:=2) bB (v:=.slice ap p0.Clocks.length av) Z Z yM Z) ?_
 have cc:=cK.le ba
 have cd:=cc.le aU
 have cg:=cd.le aV
 have bC:=cg.le aW
 have cx:FnOK Tryz.prog a6 (.func (.func 98) #[] #[]) wNm wNn wCn:=⟨98,[],[],rfl,Tryz.call98,fun U1 w1 x y vs le hs ha hm=>by obtain rfl:=ha;exact wHM x w1 U1 hs  hm⟩
 refine bnK dg fun dH ci dh=>zH 0 Z Z Z Z (zG Z Z Tryz.call97 (zB Z (zB Z zO)) Z) bm (fun hs=>wEn p0.Clocks ap av wCn (.func (.func 98) #[] #[]) bs a6 hs bC cx ci) (.inr Z) ?_
 rintro a7 du dB bt aX cG ⟨rfl,rfl⟩
 have bn:sW w U a7 [] bt:=cG
 refine oR Z (ZW Z Z) (oA Z Z (eN (ifc dh ?_ ?_)))
 intro bh di
 refine zy (nC bh.out) (zL (yf fun dn bH=>?_))
 have bi:dn 1=.pointer (some ⟨b2,0,none⟩):=(bH 1).trans rfl
 clear bH
 refine rR gBk Z (oR Z (zJ Z bi zP Z Zo) ?_)
 have bD:=bB.le aX
 refine oL Z (bn.ldC (f:=3) bD (v:=.slice ai p0.Readings.length aj) Z Z yN Z) ?_
 have cj:=cL.le ba
 have cm:=cj.le aU
 have co:=cm.le aV
 have cp:=co.le aW
 have bE:=cp.le aX
 have cy:FnOK Tryz.prog a7 (.func (.func 100) #[] #[]) wKC wKD wCo:=⟨100,[],[],rfl,Tryz.call100,fun U1 w1 x y vs le hs ha hm=>by obtain rfl:=ha;exact wHN x w1 U1 hs  hm⟩
 refine bnK di fun dI cq dm=>zH 0 Z Z Z Z (zG Z Z Tryz.call99 (zB Z (zB Z zO)) Z) bn (fun hs=>wDD p0.Readings ai aj wCo (.func (.func 100) #[] #[]) bt a7 hs bE cy cq) (.inr Z) ?_
 rintro a8 dv dC bu aY cz ⟨rfl,rfl⟩
 have bj:sW w U a8 [] bu:=cz
 refine oR Z (ZW Z Z) (oA Z Z (eN (ifc dm ?_ ?_)))
 intro bd cM
 refine zy (nC bd.out) (sR (wCv gAu) Z (oR Z (zJ Z bi zP Z Zo) ?_))
 have bv:=bD.le aY
 refine oL Z (bj.ldC (f:=3) bv (v:=.slice ai p0.Readings.length aj) Z Z yN Z) (oR Z (YD Z zO (zB bi zO)) ?_)
 have bw:=bE.le aY
 have bJ:=bx.le aV
 have bK:=bJ.le aW
 have bL:=bK.le aX
 have bM:=bL.le aY
 have bP:=bA.le aW
 have bQ:=bP.le aX
 have bR:=bQ.le aY
 have bS:=bC.le aX
 have bU:=bS.le aY
 have cr:FnOK Tryz.prog a8 (.func (.func 101) #[] #[.pointer (some ⟨b2,0,none⟩)]) wKC wKD (fun x=>wCp x p0):=⟨101,[],[.pointer (some ⟨b2,0,none⟩)],rfl,Tryz.call101,fun U1 w1 x y vs le hs ha hm=>by obtain rfl:=ha;exact wHO x p0 b2 an aq ao au ap av ai aj w1 U1 hs (bv.le le) (bM.le le) (bR.le le) (bU.le le) (bw.le le) hm⟩
 refine bnK cM fun dE bV cN=>zH 0 Z Z Z Z (zG Z Z Tryz.call99 (zB Z (zB Z zO)) Z) bj (fun hs=>wDD p0.Readings ai aj (fun x=>wCp x p0) (.func (.func 101) #[] #[.pointer (some ⟨b2,0,none⟩)]) bu a8 hs bw cr bV) (.inr Z) ?_
 rintro bb dp dx bI dw cA ⟨rfl,rfl⟩
 have bF:sW w U bb [] bI:=cA
 refine oR Z (ZW Z Z) (oA Z Z (eN (ifc cN ?_ ?_)))
 intro be cP
 refine zy (nC be.out) (Zi (zx (zI (sR fL1 Z (oA Z Z (eN (zR ?_)))))))
 cases cP
 exact ⟨Z,_,(ZH Z),bb,_,bF,Z,Z⟩
 intro be cQ
 refine ZJ (nF (be.out)) (sR fL1 Z (oA Z Z (eN (zR (zd (zS ?_))))))
 cases cQ
 exact ⟨Z,_,(ZH Z),bb,_,bF,Z,Z⟩
 intro bd cR
 refine ZJ (nF (bd.out)) (sR fL1 Z (oA Z Z (eN (zR (zd (zS ?_))))))
 cases cR
 exact ⟨Z,_,(ZH Z),a8,_,bj,Z,Z⟩
 intro bh cS
 refine ZJ (nF (bh.out)) (sR fL1 Z (oA Z Z (eN (zR (zd (zS ?_))))))
 cases cS
 exact ⟨Z,_,(ZH Z),a7,_,bn,Z,Z⟩
 intro bg cU
 refine ZJ (nF (bg.out)) (sR fL1 Z (oA Z Z (eN (zR (zd (zS ?_))))))
 cases cU
 exact ⟨Z,_,(ZH Z),a6,_,bm,Z,Z⟩
 intro af cV
 refine ZA Z Z Z (zU Z Z (nF (af.out)) Z) (ZA Z Z Z (zU Z Z (nF (af.out)) Z) (ZI Z Z Z (zU Z Z (nF (af.out)) Z) (ZA Z Z Z (zU Z Z (nF (af.out)) Z) (oR Z (zT Z (nF (af.out)) Z) (oA Z Z (eN (ZJ Z (sR fL1 Z (oA Z Z (eN (zR (zd (zS ?_)))))))))))))
 cases cV
 exact ⟨Z,_,(ZH Z),aZ,_,bk,Z,Z⟩
 intro ab cW
 refine ZA Z Z Z (zU Z Z (nF (ab.out)) Z) (ZA Z Z Z (zU Z Z (nF (ab.out)) Z) (ZA Z Z Z (zU Z Z (nF (ab.out)) Z) (ZA Z Z Z (zU Z Z (nF (ab.out)) Z) (oR Z (zT Z (nF (ab.out)) Z) (oM Z Z (oN Z (oN Z (oN Z (oN Z (oR Z (zT Z Z Z) (oM Z Z (oN Z (oN Z (oN Z (oN Z (oR Z (zT Z Z Z) (oA Z Z (eN (ZJ Z (sR fL1 Z (oA Z Z (eN (zR (zd (zS ?_)))))))))))))))))))))))))
 cases cW
 exact ⟨Z,_,(ZH Z),am,_,ah,Z,Z⟩
theorem wBm  (w:World) (U:PHeap) (hS:St0 w U [])  {r:wAH} (hm:wCf =some r):Gv Tryz.prog 57 [] w (wBa w [] U (fun U_ L_ v=>v=.agg #[jV r.skier,jV r.mat]/\L_=[])):=by
 unfold wCf at hm
 refine Gv.of Tryz.func57 Z Tryz.ntmps57 Tryz.results57 Z (sR (.fx 0 .nil .stop) Z (zW (cs:=[jV 0,jV 0]) Z Z Z Z Z zf Z hS ?_))
 intro W1 b2 af
 refine eN (sR (.fl 0 (.fx 1 .nil .stop)) Z ?_)
 let B0:List Value:=[jV (-1),jV 0]
 refine oR Z (zu (pv:=[(0,jV (-1)),(1,jV 0)]) (z:=[jV 0,jV 0]) (cs:=B0) Z (wAD Z (wAD Z wAM)) zf wBY Z Z) (zX (j:=0) (vs:=B0) Z Z Z Z af Z Z Z Z zK (zA Z) Z Z Z ?_)
 intro W5 ag
 have ab:sW w U U [.blk b2 115 B0] W5:=ag
 refine eN (zR ?_)
 cases hm
 exact ⟨rfl,_,(wHx (v:=.agg B0.toArray) ⟨⟨_,rfl,(wBN zk zK (ab.blkAt (k:=0) rfl) (vs:=B0) rfl rfl)⟩,trivial⟩),U,_,(ab.pick [] _ (by decide) rfl),rfl,rfl⟩
theorem wFo {S E:Type} (PY:S->PHeap->List Res->Prop) (PE:E->PHeap->List Res->Prop) (f:S->wAG->Option (S ⊕ E)) (y:Nat) (s0:S) (p1:wAE) (aj:Nat) (bY:Option Addr) (cd:Nat) (bZ:Option Addr) (cg:Nat) (ca:Option Addr) (ci:Nat) (cc:Option Addr) (cj:Nat) (w:World) (L:List Res) (U:PHeap) (hS:St ⟨w,L,U⟩ U L w) (hP:PY s0 U L) (hY:YOK Tryz.prog y wLl PY PE f U) (ba:Cl U aj 0 [.slice bY p1.Starts.length cd,.slice bZ p1.Splits.length cg,.slice ca p1.Clocks.length ci,.slice cc p1.Readings.length cj]) (jq:Sl U 1 bY cd p1.Starts.length (hD KL.encI p1.Starts)) (jr:Sl U 2 bZ cg p1.Splits.length (hD wAF p1.Splits)) (jt:Sl U 3 ca ci p1.Clocks.length (hD wAA p1.Clocks)) (ju:Sl U 4 cc cj p1.Readings.length (hD wAB p1.Readings)) {r:S ⊕ E} (hm:wCJ f s0 p1=some r):Gv Tryz.prog 144 [.func (.yield y) #[] #[],.pointer (some ⟨aj,0,none⟩)] w (ItS w L U PY PE r):=by
 unfold wCJ at hm
 refine Gv.of Tryz.func144 Z Tryz.ntmps144 Tryz.results144 Z (sR wON Z (oR Z (zJ Z Z zP Z yA) (oL Z (hS.ldC (f:=1) ba (v:=.slice bZ p1.Splits.length cg) Z Z yL Z) (oR Z (zr Z Z ZP) (oR Z (zJ Z Z zP Z Zr) (oL Z (hS.ldC (f:=2) ba (v:=.slice ca p1.Clocks.length ci) Z Z yM Z) (oR Z (zr Z Z Za) (oR Z (zJ Z Z zP Z Zo) (oL Z (hS.ldC (f:=3) ba (v:=.slice cc p1.Readings.length cj) Z Z yN Z) (oR Z (zr Z Z ZY) ?_))))))))))
 let B0:List Value:=[jV 1,jV (↑p1.Splits.length:Int),jV (↑p1.Clocks.length:Int),jV (↑p1.Readings.length:Int)]
 refine oR Z (Runs.buildA (pv:=[(0,jV 1),(1,jV (↑p1.Splits.length:Int)),(2,jV (↑p1.Clocks.length:Int)),(3,jV (↑p1.Readings.length:Int))]) (z:=[jV 0,jV 0,jV 0,jV 0]) (cs:=B0) Z (wAD Z (wAD Z (wAD Z (wAD Z wAM)))) Tryz.zeroValue217 Tryz.runUnderlying217 zD Z Z) (oM Z Z (eN (zb ?_)))
 have q:=wBQ hm
 obtain ⟨jx,an⟩:=q
 have q:=wBP an
 obtain ⟨bP,gF⟩:=q
 replace bP:=zM bP
 refine yG (fun ab dr σ_ w_=>∃ (U_:PHeap) (ap:List Res),σ_ 18=jV (↑ab:Int)/\σ_ 0=.func (.yield y) #[] #[]/\σ_ 1=.pointer (some ⟨aj,0,none⟩)/\σ_ 17=.agg B0.toArray/\PHeap.Le U U_/\St ⟨w,L,U⟩ U_ ap w_/\PY dr U_ ap) gF ?_ ?_ ?_
 exact ⟨U,L,Z,Z,Z,Z,(zN _),hS,hP⟩
 rintro ab dr jC jM iZ bJ ⟨bq,ap,au,cJ,bw,bx,am,bH,cV⟩ iq bb
 have cE:Hid ((↑ab:Int) < 4):=zM (wAr bJ)
 replace bJ:=zM bJ
 have df:Hid (w64 ((↑ab:Int) + 1)=(↑(ab + 1):Int)):=zM (by have h1:=bP.out;have h2:=cE.out;rw [wAW] <;> omega)
 refine sR fL1 Z (oR Z (zY Z au Z) (eN (zL (cT Z cE (kN (zL (zb (sR fL4 Z (oM Z au (bnK iq fun af bG gY=>oR Z (YB (cs:=hD KL.encI ([1,(↑p1.Splits.length:Int),(↑p1.Clocks.length:Int),(↑p1.Readings.length:Int)]:List Int)) Z bx au Tryz.runUnderlying217 zD (wBt bG) (wBy bG) (wFL zF (wEB (sz:=1) (fun _=>Z) _ _ 0 _ _ (wAX bG) Z))) (oA Z Z (oA Z Z (eN (sR fL4 Z (oR Z (zJ Z bw zP Z zZ) ?_)))))))))))))))
 have fZ:=ba.le am
 refine oL Z (bH.ldC (f:=0) fZ (v:=.slice bY p1.Starts.length cd) Z Z zj Z) (oR Z (zr Z Z zC) (oA Z Z (eN (zL ?_))))
 have q:=bnd gY
 obtain ⟨⟨dG,iE⟩,dm,dg⟩:=q
 try dsimp only at dg
 refine yW (fun σ_ w_=>∃ (U_:PHeap) (aq:List Res),σ_ 0=.func (.yield y) #[] #[]/\σ_ 1=.pointer (some ⟨aj,0,none⟩)/\σ_ 3=jV (↑ab:Int)/\σ_ 4=jV af/\σ_ 5=jV (↑p1.Starts.length:Int)/\σ_ 17=.agg B0.toArray/\σ_ 18=jV (↑ab:Int)/\σ_ 30=.bool dG/\PHeap.Le bq U_/\St ⟨w,L,U⟩ U_ aq w_/\PY iE U_ aq) ?_ ?_
 refine rR fL6 Z (oM Z Z (oR Z (yO Z Z Z) (oM Z Z ?_)))
 by_cases ag:(↑ab:Int)=2
 have dh:=dm;rw [if_pos ag] at dh;replace ag:=zM ag
 refine oT Z ag (oT Z ag (oR Z (zT Z (Zm ag.out) Z) (zg ?_)))
 cases dh
 exact zI ⟨Z,⟨bq,ap,cJ,bw,Z,Z,Z,bx,au,Z,(zN _),bH,cV⟩⟩
 have di:=dm;rw [if_neg ag] at di;replace ag:=zM ag
 refine zm Z Z Z (wF Z ag) Z Z (rU Z (wF Z ag) (yO Z Z Z) (oR Z (zc Z (ZM ag.out) Z) (zg ?_)))
 cases di
 exact zI ⟨Z,⟨bq,ap,cJ,bw,Z,Z,Z,bx,au,Z,(zN _),bH,cV⟩⟩
 rintro jU ja ⟨aU,aq,cL,cM,cN,cO,fC,cP,cQ,cR,ao,c8,cW⟩
 refine ifc dg ?_ ?_
 intro bs bh
 refine ZJ (cR.trans (congrArg hJ bs.out)) (rR fL1 Z (oA Z Z (eN (sR fL2 Z (oM Z Z (oM Z Z (eN (zb ?_))))))))
 have q:=wBQ bh
 obtain ⟨jA,a8⟩:=q
 have q:=wBP a8
 obtain ⟨bS,gI⟩:=q
 replace bS:=zM bS
 refine yG (fun ae dw σ_ w_=>∃ (U_:PHeap) (ax:List Res),σ_ 32=jV (↑ae:Int)/\σ_ 0=.func (.yield y) #[] #[]/\σ_ 1=.pointer (some ⟨aj,0,none⟩)/\σ_ 3=jV (↑ab:Int)/\σ_ 4=jV af/\σ_ 17=.agg B0.toArray/\σ_ 18=jV (↑ab:Int)/\σ_ 31=jV 1/\PHeap.Le aU U_/\St ⟨w,L,U⟩ U_ ax w_/\PY dw U_ ax) gI ?_ ?_ ?_
 exact ⟨aU,aq,Z,cL,cM,cN,cO,cP,cQ,Z,(zN _),c8,cW⟩
 rintro ae dw jF jW jb bM ⟨cu,ax,bF,fD,fE,fG,cS,fH,fI,cU,bX,gy,fO⟩ bj de
 have cA:Hid ((↑ae:Int) < 1):=zM (wAr bM)
 replace bM:=zM bM
 have gJ:Hid (w64 ((↑ae:Int) + 1)=(↑(ae + 1):Int)):=zM (by have h1:=bS.out;have h2:=cA.out;rw [wAW] <;> omega)
 refine sR fL1 Z (oR Z (zY Z bF cU) (eN (zL (cT Z cA (kN (zL (zb (sR fL2 Z (oM Z bF (oA Z Z (eN (sR fL2 Z (oM Z cS (oM Z Z (eN (zb ?_))))))))))))))))
 have q:=wBQ bj
 obtain ⟨jw,aZ⟩:=q
 have q:=wBP aZ
 obtain ⟨bN,gE⟩:=q
 replace bN:=zM bN
 refine yG (fun ah dt σ_ w_=>∃ (U_:PHeap) (bk:List Res),σ_ 36=jV (↑ah:Int)/\σ_ 0=.func (.yield y) #[] #[]/\σ_ 1=.pointer (some ⟨aj,0,none⟩)/\σ_ 3=jV (↑ab:Int)/\σ_ 4=jV af/\σ_ 6=jV (↑ae:Int)/\σ_ 17=.agg B0.toArray/\σ_ 18=jV (↑ab:Int)/\σ_ 31=jV 1/\σ_ 32=jV (↑ae:Int)/\σ_ 35=jV af/\PHeap.Le cu U_/\St ⟨w,L,U⟩ U_ bk w_/\PY dt U_ bk) gE ?_ ?_ ?_
 exact ⟨cu,ax,Z,fD,fE,fG,cS,Z,fH,fI,cU,bF,Z,(zN _),gy,fO⟩
 rintro ah dt jB jL iY bI ⟨iW,bk,bC,bt,dY,bu,dZ,bv,d5,d7,d9,ef,cG,bU,f9,fP⟩ ip da
 have cB:Hid ((↑ah:Int) < af):=zM (wAr bI)
 replace bI:=zM bI
 have gK:Hid (w64 ((↑ah:Int) + 1)=(↑(ah + 1):Int)):=zM (by have h1:=bN.out;have h2:=cB.out;rw [wAW] <;> omega)
 refine sR fL1 Z (oR Z (zY Z bC cG) (eN (zL (cT Z cB (kN (zL (zb (sR fL2 Z (oM Z bC (oA Z Z (eN (sR (wHC (.fx 5 (wMc gAw) .stop)) Z (oM Z bt (oM Z bu (oM Z bv (oM Z Z ?_))))))))))))))))
 let B1:List Value:=[jV 0,jV 0,jV 0,.bool false]
 refine oR Z (zu (pv:=[(0,jV (↑ab:Int)),(1,jV (↑ae:Int)),(2,jV (↑ah:Int)),(3,.bool true)]) (z:=B1) (cs:=[jV (↑ab:Int),jV (↑ae:Int),jV (↑ah:Int),.bool true]) Z (wAD Z (wAD Z (wAD Z (wAD Z wAM)))) Zx wDL Z Z) (bnK ip fun iR fQ bc=>OKS.yieldT 0 (a:=(⟨(↑ab:Int),(↑ae:Int),(↑ah:Int),true⟩:wAG)) Z Z Z Z Z Z (zB Z zO) f9 hY (((am.trans ao).trans bX).trans bU) fP Z fQ Z ?_)
 rintro bp cp jc cw dn cX aV
 rcases iR with iA | iA
 try dsimp only at bc aV
 obtain ⟨rfl,ie⟩:=aV
 have ga:St ⟨w,L,U⟩ bp cp cw:=cX
 refine oR Z (ZW Z Z) (oM Z Z (zm Z Z Z (zQ Z Z Z) Z bt (zm Z Z Z (zQ Z Z Z) Z bu (zm Z Z Z (zQ Z Z Z) Z bv (zm Z Z Z (zQ Z Z Z) Z Z (ze Z Z Z (zQ Z Z Z) (fun _=>zu (pv:=[(0,jV (↑ab:Int)),(1,jV (↑ae:Int)),(2,jV (↑ah:Int)),(3,.bool false)]) (z:=B1) (cs:=[jV (↑ab:Int),jV (↑ae:Int),jV (↑ah:Int),.bool false]) Z (wAD Z (wAD Z (wAD Z (wAD Z wAM)))) Zx wDL Z Z) (bnK bc fun iS fR bd=>OKS.yieldT 0 (a:=(⟨(↑ab:Int),(↑ae:Int),(↑ah:Int),false⟩:wAG)) Z Z Z (zQ Z Z Z) Z Z (zB Z zO) ga hY ((((am.trans ao).trans bX).trans bU).trans dn) ie Z fR Z ?_)))))))
 rintro ay bm jd cx it cY aW
 rcases iS with iB | iB
 try dsimp only at bd aW
 obtain ⟨rfl,ig⟩:=aW
 have gb:St ⟨w,L,U⟩ ay bm cx:=cY
 refine ze Z Z Z (zQ Z Z Z) (fun _=>ZW Z Z) (oR Z (zc Z Z Z) (eN (zy Z (Zi (zx (zI (rR fL2 Z (oR Z (ZG (za Z bC Z) (congrArg (jV) gK.out)) (oM Z Z (zg ?_))))))))))
 have q:=nA bd
 obtain rfl:=q
 exact zI ⟨Z,_,Z,⟨ay,bm,Z,bt,dY,bu,dZ,bv,d5,d7,d9,ef,cG,((bU.trans dn).trans it),gb,ig⟩⟩
 try dsimp only at bd aW
 obtain ⟨rfl,ii⟩:=aW
 have ge:St ⟨w,L,U⟩ ay bm cx:=cY
 refine ze Z Z Z (zQ Z Z Z) (fun _=>ZW Z Z) (oR Z (zc Z Z Z) (eN (ZJ Z (zR (zd (zS ?_))))))
 have q:=wAZ bd
 obtain ⟨iF,gN,dM⟩:=q
 have q:=wBB bj aZ (da iF dM)
 obtain rfl:=q
 refine zS (zd (zd (zS ?_)))
 have q:=wAZ gN
 obtain ⟨iG,gO,dN⟩:=q
 have q:=wBB bh a8 (de iG dN)
 obtain rfl:=q
 refine zS (zd (zd (zS ?_)))
 have q:=wAZ gO
 obtain ⟨iH,gP,dO⟩:=q
 have q:=wBB hm an (bb iH dO)
 obtain rfl:=q
 refine zS (zd ?_)
 cases gP
 exact ⟨Z,_,(wMg),ay,_,ge,ii⟩
 try dsimp only at bc aV
 obtain ⟨rfl,ij⟩:=aV
 have gf:St ⟨w,L,U⟩ bp cp cw:=cX
 refine oR Z (ZW Z Z) (oM Z Z (oN Z (oN Z (oN Z (oN Z (oN Z (ZI Z Z Z (zU Z Z Z Z) (oN Z (oR Z (zT Z Z Z) (eN (ZJ Z (zR (zd (zS ?_))))))))))))))
 have q:=wAZ bc
 obtain ⟨iI,gQ,dP⟩:=q
 have q:=wBB bj aZ (da iI dP)
 obtain rfl:=q
 refine zS (zd (zd (zS ?_)))
 have q:=wAZ gQ
 obtain ⟨iJ,gR,dQ⟩:=q
 have q:=wBB bh a8 (de iJ dQ)
 obtain rfl:=q
 refine zS (zd (zd (zS ?_)))
 have q:=wAZ gR
 obtain ⟨iK,gS,dR⟩:=q
 have q:=wBB hm an (bb iK dR)
 obtain rfl:=q
 refine zS (zd ?_)
 cases gS
 exact ⟨Z,_,(wMg),bp,_,gf,ij⟩
 rintro jG jN i2 ⟨dB,dx,fJ,eh,ep,eu,ew,jg,eA,eB,eD,eF,eG,iu,gg,fS⟩ gz
 have gT:=wCE bj aZ gz
 have dH:Hid (¬ ((↑((af:Int) - 0).toNat:Int) < af)):=zM (wAf)
 refine sR fL1 Z (oR Z (zY Z fJ eG) (eN (zL (cF Z dH (Zd (zn (zn (ZV (zx (zI (rR fL2 Z (oR Z (ZG (za Z eF Z) (congrArg (jV) gJ.out)) (oM Z Z (zg ?_))))))))))))))
 have q:=nA gT
 obtain rfl:=q
 exact zI ⟨Z,_,Z,⟨dB,dx,Z,eh,ep,eu,ew,eA,eB,eD,(bX.trans iu),gg,fS⟩⟩
 rintro jH jO i4 ⟨dC,dy,fK,eH,eI,jh,ji,eJ,eK,eM,iv,gh,fT⟩ gA
 have gU:=wCE bh a8 gA
 have dI:Hid (¬ ((↑((1:Int) - 0).toNat:Int) < 1)):=zM (wAf)
 refine sR fL1 Z (oR Z (zY Z fK eM) (eN (zL (cF Z dI (Zd (zn (zn (ZV (zx (zI (rR fL2 Z (oR Z (ZG (za Z eK Z) (congrArg (jV) df.out)) (oM Z Z (zg ?_))))))))))))))
 have q:=nA gU
 obtain rfl:=q
 exact zI ⟨Z,_,Z,⟨dC,dy,Z,eH,eI,eJ,((am.trans ao).trans iv),gh,fT⟩⟩
 intro bs be
 refine zy (cR.trans (congrArg hJ (nB.2 bs.out))) (kN (sR fL2 Z (oM Z fC (oM Z Z (eN (zb ?_))))))
 have q:=wBQ be
 obtain ⟨jy,a6⟩:=q
 have q:=wBP a6
 obtain ⟨bQ,gG⟩:=q
 replace bQ:=zM bQ
 refine yG (fun ac du σ_ w_=>∃ (U_:PHeap) (av:List Res),σ_ 32=jV (↑ac:Int)/\σ_ 0=.func (.yield y) #[] #[]/\σ_ 1=.pointer (some ⟨aj,0,none⟩)/\σ_ 3=jV (↑ab:Int)/\σ_ 4=jV af/\σ_ 17=.agg B0.toArray/\σ_ 18=jV (↑ab:Int)/\σ_ 31=jV (↑p1.Starts.length:Int)/\PHeap.Le aU U_/\St ⟨w,L,U⟩ U_ av w_/\PY du U_ av) gG ?_ ?_ ?_
 exact ⟨aU,aq,Z,cL,cM,cN,cO,cP,cQ,Z,(zN _),c8,cW⟩
 rintro ac du jD jP i5 bK ⟨cr,av,bD,eO,eQ,eU,cH,eV,eW,cI,bV,gi,fU⟩ bi db
 have cC:Hid ((↑ac:Int) < (↑p1.Starts.length:Int)):=zM (wAr bK)
 replace bK:=zM bK
 have gL:Hid (w64 ((↑ac:Int) + 1)=(↑(ac + 1):Int)):=zM (by have h1:=bQ.out;have h2:=cC.out;rw [wAW] <;> omega)
 refine sR fL1 Z (oR Z (zY Z bD cI) (eN (zL (cT Z cC (kN (zL (zb (sR fL2 Z (oM Z bD (oA Z Z (eN (sR fL2 Z (oM Z cH (oM Z Z (eN (zb ?_))))))))))))))))
 have q:=wBQ bi
 obtain ⟨jz,a7⟩:=q
 have q:=wBP a7
 obtain ⟨bR,gH⟩:=q
 replace bR:=zM bR
 refine yG (fun ai dv σ_ w_=>∃ (U_:PHeap) (bn:List Res),σ_ 36=jV (↑ai:Int)/\σ_ 0=.func (.yield y) #[] #[]/\σ_ 1=.pointer (some ⟨aj,0,none⟩)/\σ_ 3=jV (↑ab:Int)/\σ_ 4=jV af/\σ_ 6=jV (↑ac:Int)/\σ_ 17=.agg B0.toArray/\σ_ 18=jV (↑ab:Int)/\σ_ 31=jV (↑p1.Starts.length:Int)/\σ_ 32=jV (↑ac:Int)/\σ_ 35=jV af/\PHeap.Le cr U_/\St ⟨w,L,U⟩ U_ bn w_/\PY dv U_ bn) gH ?_ ?_ ?_
 exact ⟨cr,av,Z,eO,eQ,eU,cH,Z,eV,eW,cI,bD,Z,(zN _),gi,fU⟩
 rintro ai dv jE jQ i6 bL ⟨iX,bn,bE,bz,eX,bA,eY,bB,eZ,fb,fc,fd,cK,bW,gj,fV⟩ ir dd
 have cD:Hid ((↑ai:Int) < af):=zM (wAr bL)
 replace bL:=zM bL
 have gM:Hid (w64 ((↑ai:Int) + 1)=(↑(ai + 1):Int)):=zM (by have h1:=bR.out;have h2:=cD.out;rw [wAW] <;> omega)
 refine sR fL1 Z (oR Z (zY Z bE cK) (eN (zL (cT Z cD (kN (zL (zb (sR fL2 Z (oM Z bE (oA Z Z (eN (sR (wHC (.fx 5 (wMc gAw) .stop)) Z (oM Z bz (oM Z bA (oM Z bB (oM Z Z ?_))))))))))))))))
 let B2:List Value:=[jV 0,jV 0,jV 0,.bool false]
 refine oR Z (zu (pv:=[(0,jV (↑ab:Int)),(1,jV (↑ac:Int)),(2,jV (↑ai:Int)),(3,.bool true)]) (z:=B2) (cs:=[jV (↑ab:Int),jV (↑ac:Int),jV (↑ai:Int),.bool true]) Z (wAD Z (wAD Z (wAD Z (wAD Z wAM)))) Zx wDL Z Z) (bnK ir fun iT fW bf=>OKS.yieldT 0 (a:=(⟨(↑ab:Int),(↑ac:Int),(↑ai:Int),true⟩:wAG)) Z Z Z Z Z Z (zB Z zO) gj hY (((am.trans ao).trans bV).trans bW) fV Z fW Z ?_)
 rintro br cq je cy dp cZ aX
 rcases iT with iC | iC
 try dsimp only at bf aX
 obtain ⟨rfl,ik⟩:=aX
 have gm:St ⟨w,L,U⟩ br cq cy:=cZ
 refine oR Z (ZW Z Z) (oM Z Z (zm Z Z Z (zQ Z Z Z) Z bz (zm Z Z Z (zQ Z Z Z) Z bA (zm Z Z Z (zQ Z Z Z) Z bB (zm Z Z Z (zQ Z Z Z) Z Z (ze Z Z Z (zQ Z Z Z) (fun _=>zu (pv:=[(0,jV (↑ab:Int)),(1,jV (↑ac:Int)),(2,jV (↑ai:Int)),(3,.bool false)]) (z:=B2) (cs:=[jV (↑ab:Int),jV (↑ac:Int),jV (↑ai:Int),.bool false]) Z (wAD Z (wAD Z (wAD Z (wAD Z wAM)))) Zx wDL Z Z) (bnK bf fun iU fY bg=>OKS.yieldT 0 (a:=(⟨(↑ab:Int),(↑ac:Int),(↑ai:Int),false⟩:wAG)) Z Z Z (zQ Z Z Z) Z Z (zB Z zO) gm hY ((((am.trans ao).trans bV).trans bW).trans dp) ik Z fY Z ?_)))))))
 rintro az bo jf cz iw c6 aY
 rcases iU with iD | iD
 try dsimp only at bg aY
 obtain ⟨rfl,il⟩:=aY
 have gq:St ⟨w,L,U⟩ az bo cz:=c6
 refine ze Z Z Z (zQ Z Z Z) (fun _=>ZW Z Z) (oR Z (zc Z Z Z) (eN (zy Z (Zi (zx (zI (rR fL2 Z (oR Z (ZG (za Z bE Z) (congrArg (jV) gM.out)) (oM Z Z (zg ?_))))))))))
 have q:=nA bg
 obtain rfl:=q
 exact zI ⟨Z,_,Z,⟨az,bo,Z,bz,eX,bA,eY,bB,eZ,fb,fc,fd,cK,((bW.trans dp).trans iw),gq,il⟩⟩
 try dsimp only at bg aY
 obtain ⟨rfl,im⟩:=aY
 have gt:St ⟨w,L,U⟩ az bo cz:=c6
 refine ze Z Z Z (zQ Z Z Z) (fun _=>ZW Z Z) (oR Z (zc Z Z Z) (eN (ZJ Z (zR (zd (zS ?_))))))
 have q:=wAZ bg
 obtain ⟨iL,gV,dS⟩:=q
 have q:=wBB bi a7 (dd iL dS)
 obtain rfl:=q
 refine zS (zd (zd (zS ?_)))
 have q:=wAZ gV
 obtain ⟨iM,gW,dT⟩:=q
 have q:=wBB be a6 (db iM dT)
 obtain rfl:=q
 refine zS (zd (zd (zS ?_)))
 have q:=wAZ gW
 obtain ⟨iN,gX,dU⟩:=q
 have q:=wBB hm an (bb iN dU)
 obtain rfl:=q
 refine zS (zd ?_)
 cases gX
 exact ⟨Z,_,(wMg),az,_,gt,im⟩
 try dsimp only at bf aX
 obtain ⟨rfl,io⟩:=aX
 have gu:St ⟨w,L,U⟩ br cq cy:=cZ
 refine oR Z (ZW Z Z) (oM Z Z (oN Z (oN Z (oN Z (oN Z (oN Z (ZI Z Z Z (zU Z Z Z Z) (oN Z (oR Z (zT Z Z Z) (eN (ZJ Z (zR (zd (zS ?_))))))))))))))
 have q:=wAZ bf
 obtain ⟨iO,gZ,dV⟩:=q
 have q:=wBB bi a7 (dd iO dV)
 obtain rfl:=q
 refine zS (zd (zd (zS ?_)))
 have q:=wAZ gZ
 obtain ⟨iP,g6,dW⟩:=q
 have q:=wBB be a6 (db iP dW)
 obtain rfl:=q
 refine zS (zd (zd (zS ?_)))
 have q:=wAZ g6
 obtain ⟨iQ,g7,dX⟩:=q
 have q:=wBB hm an (bb iQ dX)
 obtain rfl:=q
 refine zS (zd ?_)
 cases g7
 exact ⟨Z,_,(wMg),br,_,gu,io⟩
 rintro jI jR i7 ⟨dD,dz,fL,ff,fg,fh,fj,jj,fk,fm,fq,ft,fu,iy,gv,f5⟩ gB
 have g8:=wCE bi a7 gB
 have dJ:Hid (¬ ((↑((af:Int) - 0).toNat:Int) < af)):=zM (wAf)
 refine sR fL1 Z (oR Z (zY Z fL fu) (eN (zL (cF Z dJ (Zd (zn (zn (ZV (zx (zI (rR fL2 Z (oR Z (ZG (za Z ft Z) (congrArg (jV) gL.out)) (oM Z Z (zg ?_))))))))))))))
 have q:=nA g8
 obtain rfl:=q
 exact zI ⟨Z,_,Z,⟨dD,dz,Z,ff,fg,fh,fj,fk,fm,fq,(bV.trans iy),gv,f5⟩⟩
 rintro jJ jS i8 ⟨dE,dA,fM,fw,fy,jk,jl,fz,fA,fB,iz,gw,f7⟩ gC
 have g9:=wCE be a6 gC
 have dK:Hid (¬ ((↑(((↑p1.Starts.length:Int):Int) - 0).toNat:Int) < (↑p1.Starts.length:Int))):=zM (wAf)
 refine sR fL1 Z (oR Z (zY Z fM fB) (eN (zL (cF Z dK (Zd (zn (zn (ZV (zx (zI (rR fL2 Z (oR Z (ZG (za Z fA Z) (congrArg (jV) df.out)) (oM Z Z (zg ?_))))))))))))))
 have q:=nA g9
 obtain rfl:=q
 exact zI ⟨Z,_,Z,⟨dE,dA,Z,fw,fy,fz,((am.trans ao).trans iz),gw,f7⟩⟩
 rintro jK jT i9 ⟨dF,iV,fN,jm,jo,jp,jv,gx,f8⟩ gD
 have ic:=wCE hm an gD
 have dL:Hid (¬ ((↑((4:Int) - 0).toNat:Int) < 4)):=zM (wAf)
 refine sR fL1 Z (oR Z (zY Z fN Z) (eN (zL (cF Z dL (Zd (zn (zn (ZV ?_))))))))
 cases ic
 exact ⟨Z,_,(wMg),dF,_,gx,f8⟩
theorem wGX (p0:wAE) (ac:Option Addr) (ah:Nat) (ae:Option Addr) (ai:Nat) (af:Option Addr) (aj:Nat) (ag:Option Addr) (ak:Nat) (w:World) (U:PHeap) (hS:St0 w U []) (ay:Sl U 1 ac ah p0.Starts.length (hD KL.encI p0.Starts)) (az:Sl U 2 ae ai p0.Splits.length (hD wAF p0.Splits)) (aU:Sl U 3 af aj p0.Clocks.length (hD wAA p0.Clocks)) (aV:Sl U 4 ag ak p0.Readings.length (hD wAB p0.Readings)) {r:Unit} (hm:wDA p0=some r):Gv Tryz.prog 115 [.agg #[.slice ac p0.Starts.length ah,.slice ae p0.Splits.length ai,.slice af p0.Clocks.length aj,.slice ag p0.Readings.length ak]] w (wBa w [] U (fun U_ L_ v=>∃ (b0:Nat),v=.func (.func 144) #[] #[.pointer (some ⟨b0,0,none⟩)]/\L_=[]/\Cl U_ b0 0 [.slice ac p0.Starts.length ah,.slice ae p0.Splits.length ai,.slice af p0.Clocks.length aj,.slice ag p0.Readings.length ak])):=by
 unfold wDA at hm
 refine Gv.of Tryz.func115 Z Tryz.ntmps115 Tryz.results115 Z (sR gAl Z ?_)
 let B0:List Value:=[.slice ac p0.Starts.length ah,.slice ae p0.Splits.length ai,.slice af p0.Clocks.length aj,.slice ag p0.Readings.length ak]
 refine ZC (cs:=B0) rfl rfl rfl rfl rfl rfl (by rfl) hS ?_
 intro W1 b2 au
 have q:=au.freeze (k:=0) rfl
 obtain ⟨U5,aW,ab,av⟩:=q
 replace ab:=Cl.of ab
 have ax:sW w U U5 [] W1:=av
 replace ab:Cl U5 b2 0 B0:=ab
 refine oA Z Z (eN (sR fL2 Z (oR Z (YD Z zO (zB Z zO)) (oA Z Z (eN (zR ?_))))))
 cases hm
 exact ⟨Z,_,(ZH Z),U5,_,ax,b2,Z,Z,ab⟩
theorem wHP (p0:wAE) (ae:Option Addr) (af:Nat) (aj:Option Addr) (an:Nat) (ak:Option Addr) (ao:Nat) (am:Option Addr) (ap:Nat) (p1:wAG) (w:World) (U:PHeap) (hS:St0 w U []) (a8:Sl U 1 ae af p0.Starts.length (hD KL.encI p0.Starts)) (ba:Sl U 2 aj an p0.Splits.length (hD wAF p0.Splits)) (bb:Sl U 3 ak ao p0.Clocks.length (hD wAA p0.Clocks)) (bc:Sl U 4 am ap p0.Readings.length (hD wAB p0.Readings)) {r:Bool} (hm:wEd p0 p1=some r):Gv Tryz.prog 116 [.agg #[.slice ae p0.Starts.length af,.slice aj p0.Splits.length an,.slice ak p0.Clocks.length ao,.slice am p0.Readings.length ap],.agg #[jV p1.Kind,jV p1.Skier,jV p1.Index,.bool p1.Up]] w (wBa w [] U (fun U_ L_ v=>v=.bool r/\L_=[])):=by
 unfold wEd at hm
 refine Gv.of Tryz.func116 Z Tryz.ntmps116 Tryz.results116 Z (sR gAv Z ?_)
 let B0:List Value:=[.slice ae p0.Starts.length af,.slice aj p0.Splits.length an,.slice ak p0.Clocks.length ao,.slice am p0.Readings.length ap]
 refine ZC (cs:=B0) rfl rfl rfl rfl rfl rfl (by rfl) hS ?_
 intro W1 b2 aX
 let B1:List Value:=[jV p1.Kind,jV p1.Skier,jV p1.Index,.bool p1.Up]
 refine ZC (cs:=B1) rfl rfl rfl rfl rfl rfl (by rfl) aX ?_
 intro W5 b6 ai
 refine oA Z Z (eN (sR (wFd (.fx 6 (wMe (.nil)) .stop)) Z (oR Z (zJ Z Z zq Z zD) (oL Z (ai.ldB (j:=0) Z Z Z zF (v:=jV p1.Skier) Z) (oR Z (zJ Z Z zP Z zZ) (oL Z (ai.ldB (j:=1) Z Z Z zj (v:=.slice ae p0.Starts.length af) Z) (oR Z (zr Z Z zC) (oR Z (yP Z Z Z) (bnK hm fun x9 aV aY=>zH 0 Z Z Z Z (zG Z Z yV (zB Z (zB Z (zB Z zO))) Z) ai (fun hs=>wBs p1.Skier 0 (w64 ((↑p0.Starts.length:Int) - 1)) W5 U hs aV) (.inr Z) ?_)))))))))
 rintro ag a6 be ax bd aW ⟨rfl,rfl⟩
 have ah:sW w U ag [.blk b6 101 B1,.blk b2 45 B0] ax:=aW
 refine oM Z Z (ifc aY ?_ ?_)
 intro ac av
 refine ze Z Z Z (zQ Z Z (congrArg hJ ac.out)) (fun _=>zJ Z Z zq Z zD) (ZE Z Z Z (zQ Z Z (congrArg hJ ac.out)) (ah.ldB (j:=0) Z Z Z zF (v:=jV p1.Index) Z) Z (ze Z Z Z (zQ Z Z (congrArg hJ ac.out)) (fun _=>yO Z Z Z) (oR Z (zT Z (congrArg hJ ac.out) Z) (oA Z Z (eN (zR ?_))))))
 first | (obtain rfl:=nA av) | cases av
 exact ⟨rfl,_,(ZH rfl),ag,_,(ah.pick [] _ (by decide) rfl),rfl,rfl⟩
 intro ac aZ
 refine ZA Z Z Z (zU Z Z (congrArg hJ (nB.2 ac.out)) Z) (ZA Z Z Z (zU Z Z (congrArg hJ (nB.2 ac.out)) Z) (ZA Z Z Z (zU Z Z (congrArg hJ (nB.2 ac.out)) Z) (oR Z (zc Z (congrArg hJ (nB.2 ac.out)) Z) (oA Z Z (eN (zR ?_))))))
 have hE:=nA aZ;first | subst r | cases hE
 exact ⟨rfl,_,(ZH rfl),ag,_,(ah.pick [] _ (by decide) rfl),rfl,rfl⟩
end Go.Proofs.YtkghaiefcjgfkaaGreat
namespace Go.Proofs.YtkghaiefcjgfkaaGreat
open Go.KL
set_option maxHeartbeats 4000000
theorem wHQ (p0:wAE) (aV:Option Addr) (aZ:Nat) (aW:Option Addr) (a6:Nat) (aX:Option Addr) (a7:Nat) (aY:Option Addr) (a8:Nat) (p1:wAG) (w:World) (U:PHeap) (hS:St0 w U []) (bX:Sl U 1 aV aZ p0.Starts.length (hD KL.encI p0.Starts)) (bY:Sl U 2 aW a6 p0.Splits.length (hD wAF p0.Splits)) (bZ:Sl U 3 aX a7 p0.Clocks.length (hD wAA p0.Clocks)) (ca:Sl U 4 aY a8 p0.Readings.length (hD wAB p0.Readings)) {r:wAH × wAH} (hm:wDj p0 p1=some r):Gv Tryz.prog 117 [.agg #[.slice aV p0.Starts.length aZ,.slice aW p0.Splits.length a6,.slice aX p0.Clocks.length a7,.slice aY p0.Readings.length a8],.agg #[jV p1.Kind,jV p1.Skier,jV p1.Index,.bool p1.Up]] w (wBa w [] U (fun U_ L_ v=>v=.tuple #[.agg #[jV r.1.skier,jV r.1.mat],.agg #[jV r.2.skier,jV r.2.mat]]/\L_=[])):=by
 unfold wDj at hm
 refine Gv.of Tryz.func117 Z Tryz.ntmps117 Tryz.results117 Z (sR gBf Z ?_)
 let B0:List Value:=[.slice aV p0.Starts.length aZ,.slice aW p0.Splits.length a6,.slice aX p0.Clocks.length a7,.slice aY p0.Readings.length a8]
 refine ZC (cs:=B0) rfl rfl rfl rfl rfl rfl (by rfl) hS ?_
 intro W1 b2 bu
 let B1:List Value:=[jV p1.Kind,jV p1.Skier,jV p1.Index,.bool p1.Up]
 refine ZC (cs:=B1) rfl rfl rfl rfl rfl rfl (by rfl) bu ?_
 intro W5 b6 bE
 let B2:List Value:=[jV 0,jV 0]
 refine zW (cs:=B2) Z Z Z Z Z zf Z bE ?_
 intro W9 ah bs
 refine zW (cs:=B2) Z Z Z Z Z zf Z bs ?_
 intro ba ai bt
 refine eN ?_
 have q:=bnd hm
 obtain ⟨⟨bN,bP⟩,bL,be⟩:=q
 try dsimp only at be
 let B3:List Value:=[jV p1.Skier,jV 0]
 let B4:List Value:=[jV bN,jV bP]
 refine yW (fun σ_ w_=>∃ (U_:PHeap),σ_ 4=.pointer (some ⟨ah,0,none⟩)/\σ_ 5=.pointer (some ⟨ai,0,none⟩)/\PHeap.Le U U_/\sW w U U_ [.blk ai 115 B3,.blk ah 115 B4,.blk b6 101 B1,.blk b2 45 B0] w_) ?_ ?_
 refine bnK bL fun an bc aU=>ZF ZB [2,3,2,3,0,0] (.fl 1 (.fx 0 (.fx 2 (.fl 3 gAm) (.fx 4 (.fx 2 (.fl 3 (.fx 5 .nil .stop)) .stop) .stop)) (.fx 2 (.fl 3 (.fx 0 gAm .stop)) .stop))) (by kernel_rfl) ?_
 have ap:=bt.drew
 generalize hw_W40:({ ba with drawn:=ba.drawn + 1 }:World)=bb at ap ⊢
 refine oR Z (zJ Z Z zq Z zD) (zw ?_ ?_)
 refine zH 0 Z Z Z Z (zG Z Z yg zO Z) ap (fun hs=>wBm bb U hs bc) (.inr Z) ?_
 rintro am bQ cd bh bf bv ⟨rfl,rfl⟩
 have ay:sW w U am [.blk ai 115 B2,.blk ah 115 B2,.blk b6 101 B1,.blk b2 45 B0] bh:=bv
 refine zw ?_ ?_
 refine Zb Z Z Z Z (ay.ldB (j:=2) Z Z Z zF (v:=jV p1.Skier) Z) (oR Z (zu (pv:=[(0,jV p1.Skier),(1,jV 0)]) (z:=B2) (cs:=B3) Z (wAD Z (wAD Z wAM)) zf wBY Z Z) ?_)
 let B5:List Value:=[jV an.skier,jV an.mat]
 refine zX (j:=1) (vs:=B5) Z Z Z Z ay Z Z Z Z zK (zA Z) Z Z Z ?_
 intro bi bw
 have bx:sW w U am [.blk ai 115 B2,.blk ah 115 B5,.blk b6 101 B1,.blk b2 45 B0] bi:=bw
 refine zX (j:=0) (vs:=B3) Z Z Z Z bx Z Z Z Z zK (zA Z) Z Z Z ?_
 intro bj bz
 have bA:sW w U am [.blk ai 115 B3,.blk ah 115 B5,.blk b6 101 B1,.blk b2 45 B0] bj:=bz
 refine zg ?_
 cases aU
 exact zI ⟨Z,⟨am,Z,Z,bf,bA⟩⟩
 let B6:List Value:=[jV an.skier,jV an.mat]
 refine zX (j:=1) (vs:=B6) Z Z Z Z ay Z Z Z Z zK (zA Z) Z Z Z ?_
 intro bk bB
 have bd:sW w U am [.blk ai 115 B2,.blk ah 115 B6,.blk b6 101 B1,.blk b2 45 B0] bk:=bB
 refine Zb Z Z Z Z (bd.ldB (j:=2) Z Z Z zF (v:=jV p1.Skier) Z) (oR Z (zu (pv:=[(0,jV p1.Skier),(1,jV 0)]) (z:=B2) (cs:=B3) Z (wAD Z (wAD Z wAM)) zf wBY Z Z) (zX (j:=0) (vs:=B3) Z Z Z Z bd Z Z Z Z zK (zA Z) Z Z Z ?_))
 intro bm bC
 have bD:sW w U am [.blk ai 115 B3,.blk ah 115 B6,.blk b6 101 B1,.blk b2 45 B0] bm:=bC
 refine zg ?_
 cases aU
 exact zI ⟨Z,⟨am,Z,Z,bf,bD⟩⟩
 refine Zb Z Z Z Z (ap.ldB (j:=2) Z Z Z zF (v:=jV p1.Skier) Z) (oR Z (zu (pv:=[(0,jV p1.Skier),(1,jV 0)]) (z:=B2) (cs:=B3) Z (wAD Z (wAD Z wAM)) zf wBY Z Z) (zH 0 Z Z Z Z (zG Z Z yg zO Z) ap (fun hs=>wBm bb U hs bc) (.inr Z) ?_))
 rintro ao bR cg bn bM bF ⟨rfl,rfl⟩
 have bG:sW w U ao [.blk ai 115 B2,.blk ah 115 B2,.blk b6 101 B1,.blk b2 45 B0] bn:=bF
 let B7:List Value:=[jV an.skier,jV an.mat]
 refine zX (j:=1) (vs:=B7) Z Z Z Z bG Z Z Z Z zK (zA Z) Z Z Z ?_
 intro bo bH
 have bI:sW w U ao [.blk ai 115 B2,.blk ah 115 B7,.blk b6 101 B1,.blk b2 45 B0] bo:=bH
 refine zX (j:=0) (vs:=B3) Z Z Z Z bI Z Z Z Z zK (zA Z) Z Z Z ?_
 intro bp bJ
 have bK:sW w U ao [.blk ai 115 B3,.blk ah 115 B7,.blk b6 101 B1,.blk b2 45 B0] bp:=bJ
 refine zg ?_
 cases aU
 exact zI ⟨Z,⟨ao,Z,Z,bM,bK⟩⟩
 rintro ci bV ⟨bg,bq,br,cc,az⟩
 refine zR ?_
 cases be
 exact ⟨rfl,_,(wEH (rs:=[.cell 4 115,.cell 5 115]) (vs:=[.agg B4.toArray,.agg B3.toArray]) ⟨⟨_,bq,(wBN zk zK (az.blkAt (k:=1) rfl) (vs:=B4) rfl rfl)⟩,⟨⟨_,br,(wBN zk zK (az.blkAt (k:=0) rfl) (vs:=B3) rfl rfl)⟩,trivial⟩⟩ rfl),bg,_,(az.pick [] _ (by decide) rfl),rfl,rfl⟩
theorem wHR (p0:wAE) (af:Option Addr) (ag:Nat) (ah:Option Addr) (ak:Nat) (ai:Option Addr) (am:Nat) (aj:Option Addr) (an:Nat) (p1:wAG) (w:World) (U:PHeap) (hS:St0 w U []) (ap:Sl U 1 af ag p0.Starts.length (hD KL.encI p0.Starts)) (a8:Sl U 2 ah ak p0.Splits.length (hD wAF p0.Splits)) (ba:Sl U 3 ai am p0.Clocks.length (hD wAA p0.Clocks)) (bb:Sl U 4 aj an p0.Readings.length (hD wAB p0.Readings)) {r:Int × Int} (hm:wDk p0 p1=some r):Gv Tryz.prog 118 [.agg #[.slice af p0.Starts.length ag,.slice ah p0.Splits.length ak,.slice ai p0.Clocks.length am,.slice aj p0.Readings.length an],.agg #[jV p1.Kind,jV p1.Skier,jV p1.Index,.bool p1.Up]] w (wBa w [] U (fun U_ L_ v=>v=.tuple #[jV r.1,jV r.2]/\L_=[])):=by
 unfold wDk at hm
 refine Gv.of Tryz.func118 rfl Tryz.ntmps118 Tryz.results118 rfl (sR gBg rfl (ZC (cs:=[.slice af p0.Starts.length ag,.slice ah p0.Splits.length ak,.slice ai p0.Clocks.length am,.slice aj p0.Readings.length an]) rfl rfl rfl rfl rfl rfl (by rfl) hS ?_))
 intro W1 b2 az
 refine ZC (cs:=[jV p1.Kind,jV p1.Skier,jV p1.Index,.bool p1.Up]) rfl rfl rfl rfl rfl rfl (by rfl) az ?_
 intro W5 b6 aU
 refine yB rfl rfl rfl rfl rfl rfl (yB rfl rfl rfl rfl rfl rfl (eN (zL (ZF ZB [3,1,3,1,3,1,3,1,3,1,3,1,3,3,3] fL15 (by kernel_rfl) ?_))))
 have ac:=aU.drew
 generalize hw_W10:({ W5 with drawn:=W5.drawn + 1 }:World)=aX at ac ⊢
 refine oR Z (zJ Z Z zP Z zZ) (oL Z (ac.ldB (j:=1) Z Z Z zj (v:=.slice af p0.Starts.length ag) Z) (oR Z (zJ Z Z zq Z zD) (oL Z (ac.ldB (j:=0) Z Z Z zF (v:=jV p1.Skier) Z) (bnK hm fun aq ae aV=>?_))))
 have q:=ap.el (fun _=>rfl) (wAX ae)
 obtain ⟨aY,bc,au,ax⟩:=q
 refine oR Z (Ze Z Z au Z zC zD (wBt ae) (wBy ae)) (oL Z (ac.ldC (f:=0) ax (v:=jV aq) Z Z zF Z) (oR Z (zJ Z Z zP Z zZ) (oL Z (ac.ldB (j:=1) Z Z Z zj (v:=.slice af p0.Starts.length ag) Z) (oR Z (zJ Z Z zq Z zD) (oL Z (ac.ldB (j:=0) Z Z Z zF (v:=jV p1.Skier) Z) ?_)))))
 have q:=ap.el (fun _=>rfl) (wAX ae)
 obtain ⟨aZ,bd,av,ay⟩:=q
 refine oR Z (Ze Z Z av Z zC zD (wBt ae) (wBy ae)) (oL Z (ac.ldC (f:=0) ay (v:=jV aq) Z Z zF Z) (oR Z (Runs.negw Z Z) (oA Z Z (oA Z Z (eN (zR ?_))))))
 cases aV
 exact ⟨rfl,_,(wEF rfl rfl),U,_,(ac.pick [] _ (by decide) rfl),rfl,rfl⟩
theorem wHS (p0:wAE) (af:Option Addr) (ah:Nat) (ag:Option Addr) (ai:Nat) (ao:Option Addr) (aq:Nat) (ap:Option Addr) (au:Nat) (p1:wAG) (w:World) (U:PHeap) (hS:St0 w U []) (bg:Sl U 1 af ah p0.Starts.length (hD KL.encI p0.Starts)) (bh:Sl U 2 ag ai p0.Splits.length (hD wAF p0.Splits)) (bi:Sl U 3 ao aq p0.Clocks.length (hD wAA p0.Clocks)) (bj:Sl U 4 ap au p0.Readings.length (hD wAB p0.Readings)) {r:Bool} (hm:wEe p0 p1=some r):Gv Tryz.prog 119 [.agg #[.slice af p0.Starts.length ah,.slice ag p0.Splits.length ai,.slice ao p0.Clocks.length aq,.slice ap p0.Readings.length au],.agg #[jV p1.Kind,jV p1.Skier,jV p1.Index,.bool p1.Up]] w (wBa w [] U (fun U_ L_ v=>v=.bool r/\L_=[])):=by
 unfold wEe at hm
 refine Gv.of Tryz.func119 Z Tryz.ntmps119 Tryz.results119 Z (sR gAv Z ?_)
 let B0:List Value:=[.slice af p0.Starts.length ah,.slice ag p0.Splits.length ai,.slice ao p0.Clocks.length aq,.slice ap p0.Readings.length au]
 refine ZC (cs:=B0) rfl rfl rfl rfl rfl rfl (by rfl) hS ?_
 intro W1 b2 a6
 let B1:List Value:=[jV p1.Kind,jV p1.Skier,jV p1.Index,.bool p1.Up]
 refine ZC (cs:=B1) rfl rfl rfl rfl rfl rfl (by rfl) a6 ?_
 intro W5 b6 an
 refine oA Z Z (eN (sR (wFd (.fx 6 (wMf gAx) .stop)) Z (oR Z (zJ Z Z zq Z zD) (oL Z (an.ldB (j:=0) Z Z Z zF (v:=jV p1.Skier) Z) (oR Z (zJ Z Z zP Z zZ) (oL Z (an.ldB (j:=1) Z Z Z zj (v:=.slice af p0.Starts.length ah) Z) (oR Z (zr Z Z zC) (oR Z (yP Z Z Z) (bnK hm fun x9 aW a8=>zH 0 Z Z Z Z (zG Z Z yV (zB Z (zB Z (zB Z zO))) Z) an (fun hs=>wBs p1.Skier 0 (w64 ((↑p0.Starts.length:Int) - 1)) W5 U hs aW) (.inr Z) ?_)))))))))
 rintro am bd bn ax bk aY ⟨rfl,rfl⟩
 have ae:sW w U am [.blk b6 101 B1,.blk b2 45 B0] ax:=aY
 refine oM Z Z (ifc a8 ?_ ?_)
 intro ab ba
 refine ze Z Z Z (zQ Z Z (congrArg hJ ab.out)) (fun _=>zJ Z Z zq Z zD) (ZE Z Z Z (zQ Z Z (congrArg hJ ab.out)) (ae.ldB (j:=0) Z Z Z zF (v:=jV p1.Index) Z) Z (ze Z Z Z (zQ Z Z (congrArg hJ ab.out)) (fun _=>zJ Z Z zP Z yA) (ZE Z Z Z (zQ Z Z (congrArg hJ ab.out)) (ae.ldB (j:=1) Z Z Z yL (v:=.slice ag p0.Splits.length ai) Z) Z (ze Z Z Z (zQ Z Z (congrArg hJ ab.out)) (fun _=>zr Z Z ZP) (ze Z Z Z (zQ Z Z (congrArg hJ ab.out)) (fun _=>yP Z Z Z) (bnK ba fun bp aX bb=>zH 0 Z Z Z (zQ Z Z (congrArg hJ ab.out)) (zG Z Z yV (zB Z (zB Z (zB Z zO))) Z) ae (fun hs=>wBs p1.Index 0 (w64 ((↑p0.Splits.length:Int) - 1)) ax am hs aX) (.inr Z) ?_))))))
 rintro av be bo aU bm aZ ⟨rfl,rfl⟩
 have a7:sW w U av [.blk b6 101 B1,.blk b2 45 B0] aU:=aZ
 refine oR Z (zT Z (congrArg hJ ab.out) Z) (oA Z Z (eN (zR ?_)))
 have hE:=nA bb;first | subst r | cases hE
 exact ⟨rfl,_,(ZH rfl),av,_,(a7.pick [] _ (by decide) rfl),rfl,rfl⟩
 intro ab bc
 refine ZA Z Z Z (zU Z Z (congrArg hJ (nB.2 ab.out)) Z) (ZA Z Z Z (zU Z Z (congrArg hJ (nB.2 ab.out)) Z) (ZA Z Z Z (zU Z Z (congrArg hJ (nB.2 ab.out)) Z) (ZA Z Z Z (zU Z Z (congrArg hJ (nB.2 ab.out)) Z) (ZA Z Z Z (zU Z Z (congrArg hJ (nB.2 ab.out)) Z) (ZA Z Z Z (zU Z Z (congrArg hJ (nB.2 ab.out)) Z) (ZI Z Z Z (zU Z Z (congrArg hJ (nB.2 ab.out)) Z) (oR Z (zc Z (congrArg hJ (nB.2 ab.out)) Z) (oA Z Z (eN (zR ?_))))))))))
 have hE:=nA bc;first | subst r | cases hE
 exact ⟨rfl,_,(ZH rfl),am,_,(ae.pick [] _ (by decide) rfl),rfl,rfl⟩
theorem wHT (p0:wAE) (au:Option Addr) (az:Nat) (av:Option Addr) (aU:Nat) (ax:Option Addr) (aV:Nat) (ay:Option Addr) (aW:Nat) (p1:wAG) (w:World) (U:PHeap) (hS:St0 w U []) (bR:Sl U 1 au az p0.Starts.length (hD KL.encI p0.Starts)) (bS:Sl U 2 av aU p0.Splits.length (hD wAF p0.Splits)) (bU:Sl U 3 ax aV p0.Clocks.length (hD wAA p0.Clocks)) (bV:Sl U 4 ay aW p0.Readings.length (hD wAB p0.Readings)) {r:wAH × wAH} (hm:wDl p0 p1=some r):Gv Tryz.prog 120 [.agg #[.slice au p0.Starts.length az,.slice av p0.Splits.length aU,.slice ax p0.Clocks.length aV,.slice ay p0.Readings.length aW],.agg #[jV p1.Kind,jV p1.Skier,jV p1.Index,.bool p1.Up]] w (wBa w [] U (fun U_ L_ v=>v=.tuple #[.agg #[jV r.1.skier,jV r.1.mat],.agg #[jV r.2.skier,jV r.2.mat]]/\L_=[])):=by
 unfold wDl at hm
 refine Gv.of Tryz.func120 Z Tryz.ntmps120 Tryz.results120 Z (sR gBf Z ?_)
 let B0:List Value:=[.slice au p0.Starts.length az,.slice av p0.Splits.length aU,.slice ax p0.Clocks.length aV,.slice ay p0.Readings.length aW]
 refine ZC (cs:=B0) rfl rfl rfl rfl rfl rfl (by rfl) hS ?_
 intro W1 b2 bq
 let B1:List Value:=[jV p1.Kind,jV p1.Skier,jV p1.Index,.bool p1.Up]
 refine ZC (cs:=B1) rfl rfl rfl rfl rfl rfl (by rfl) bq ?_
 intro W5 b6 bK
 let B2:List Value:=[jV 0,jV 0]
 refine zW (cs:=B2) Z Z Z Z Z zf Z bK ?_
 intro W9 ai bn
 refine zW (cs:=B2) Z Z Z Z Z zf Z bn ?_
 intro aX aj bo
 refine eN ?_
 have q:=bnd hm
 obtain ⟨⟨⟩,ap,a6⟩:=q
 try dsimp only at a6
 let B3:List Value:=[jV p1.Skier,jV (w64 (p1.Index + 1))]
 let B4:List Value:=[jV p1.Skier,jV p1.Index]
 refine yW (fun σ_ w_=>∃ (U_:PHeap),σ_ 4=.pointer (some ⟨ai,0,none⟩)/\σ_ 5=.pointer (some ⟨aj,0,none⟩)/\PHeap.Le U U_/\sW w U U_ [.blk aj 115 B3,.blk ai 115 B4,.blk b6 101 B1,.blk b2 45 B0] w_) ?_ ?_
 refine ZF ZB [3,1,3,1,3,3,2,3,2,3,3,0,0] (wFd (.fl 7 (.fx 6 (.fx 8 (.fl 9 gAy) (.fx 11 gBh .stop)) (.fx 8 (.fl 9 (.fx 6 gAy (.fx 11 gAz .stop))) (.fx 11 (.fx 6 gBh (.fx 8 (.fl 9 gAz) .stop)) .stop))))) (by kernel_rfl) ?_
 have an:=bo.drew
 generalize hw_W27:({ aX with drawn:=aX.drawn + 1 }:World)=bM at an ⊢
 refine oR Z (zJ Z Z zq Z zD) (oL Z (an.ldB (j:=2) Z Z Z zF (v:=jV p1.Skier) Z) (oR Z (zJ Z Z zq Z zD) (oL Z (an.ldB (j:=2) Z Z Z zF (v:=jV p1.Index) Z) (oR Z (zu (pv:=[(0,jV p1.Skier),(1,jV p1.Index)]) (z:=B2) (cs:=B4) Z (wAD Z (wAD Z wAM)) zf wBY Z Z) (oR Z (zJ Z Z zq Z zD) (oR Z (zJ Z Z zq Z zD) (zw ?_ ?_)))))))
 refine Zb Z Z Z Z (an.ldB (j:=2) Z Z Z zF (v:=jV p1.Skier) Z) (zw ?_ ?_)
 refine Zb Z Z Z Z (an.ldB (j:=2) Z Z Z zF (v:=jV p1.Index) Z) (oR Z (za Z Z Z) (oR Z (zu (pv:=[(0,jV p1.Skier),(1,jV (w64 (p1.Index + 1)))]) (z:=B2) (cs:=B3) Z (wAD Z (wAD Z wAM)) zf wBY Z Z) (zX (j:=1) (vs:=B4) Z Z Z Z an Z Z Z Z zK (zA Z) Z Z Z ?_)))
 intro a8 bp
 have br:sW w U U [.blk aj 115 B2,.blk ai 115 B4,.blk b6 101 B1,.blk b2 45 B0] a8:=bp
 refine zX (j:=0) (vs:=B3) Z Z Z Z br Z Z Z Z zK (zA Z) Z Z Z ?_
 intro ba bs
 have bt:sW w U U [.blk aj 115 B3,.blk ai 115 B4,.blk b6 101 B1,.blk b2 45 B0] ba:=bs
 refine zg ?_
 cases ap
 exact zI ⟨Z,⟨U,Z,Z,(zN _),bt⟩⟩
 refine zX (j:=1) (vs:=B4) Z Z Z Z an Z Z Z Z zK (zA Z) Z Z Z ?_
 intro bb bu
 have aY:sW w U U [.blk aj 115 B2,.blk ai 115 B4,.blk b6 101 B1,.blk b2 45 B0] bb:=bu
 refine Zb Z Z Z Z (aY.ldB (j:=2) Z Z Z zF (v:=jV p1.Index) Z) (oR Z (za Z Z Z) (oR Z (zu (pv:=[(0,jV p1.Skier),(1,jV (w64 (p1.Index + 1)))]) (z:=B2) (cs:=B3) Z (wAD Z (wAD Z wAM)) zf wBY Z Z) (zX (j:=0) (vs:=B3) Z Z Z Z aY Z Z Z Z zK (zA Z) Z Z Z ?_)))
 intro bc bv
 have bw:sW w U U [.blk aj 115 B3,.blk ai 115 B4,.blk b6 101 B1,.blk b2 45 B0] bc:=bv
 refine zg ?_
 cases ap
 exact zI ⟨Z,⟨U,Z,Z,(zN _),bw⟩⟩
 refine zw ?_ ?_
 refine Zb Z Z Z Z (an.ldB (j:=2) Z Z Z zF (v:=jV p1.Index) Z) (oR Z (za Z Z Z) (zw ?_ ?_))
 refine Zb Z Z Z Z (an.ldB (j:=2) Z Z Z zF (v:=jV p1.Skier) Z) (oR Z (zu (pv:=[(0,jV p1.Skier),(1,jV (w64 (p1.Index + 1)))]) (z:=B2) (cs:=B3) Z (wAD Z (wAD Z wAM)) zf wBY Z Z) (zX (j:=1) (vs:=B4) Z Z Z Z an Z Z Z Z zK (zA Z) Z Z Z ?_))
 intro bd bx
 have bz:sW w U U [.blk aj 115 B2,.blk ai 115 B4,.blk b6 101 B1,.blk b2 45 B0] bd:=bx
 refine zX (j:=0) (vs:=B3) Z Z Z Z bz Z Z Z Z zK (zA Z) Z Z Z ?_
 intro be bA
 have bB:sW w U U [.blk aj 115 B3,.blk ai 115 B4,.blk b6 101 B1,.blk b2 45 B0] be:=bA
 refine zg ?_
 cases ap
 exact zI ⟨Z,⟨U,Z,Z,(zN _),bB⟩⟩
 refine zX (j:=1) (vs:=B4) Z Z Z Z an Z Z Z Z zK (zA Z) Z Z Z ?_
 intro bf bC
 have aZ:sW w U U [.blk aj 115 B2,.blk ai 115 B4,.blk b6 101 B1,.blk b2 45 B0] bf:=bC
 refine Zb Z Z Z Z (aZ.ldB (j:=2) Z Z Z zF (v:=jV p1.Skier) Z) (oR Z (zu (pv:=[(0,jV p1.Skier),(1,jV (w64 (p1.Index + 1)))]) (z:=B2) (cs:=B3) Z (wAD Z (wAD Z wAM)) zf wBY Z Z) (zX (j:=0) (vs:=B3) Z Z Z Z aZ Z Z Z Z zK (zA Z) Z Z Z ?_))
 intro bg bD
 have bE:sW w U U [.blk aj 115 B3,.blk ai 115 B4,.blk b6 101 B1,.blk b2 45 B0] bg:=bD
 refine zg ?_
 cases ap
 exact zI ⟨Z,⟨U,Z,Z,(zN _),bE⟩⟩
 refine zX (j:=1) (vs:=B4) Z Z Z Z an Z Z Z Z zK (zA Z) Z Z Z ?_
 intro bh bF
 have ao:sW w U U [.blk aj 115 B2,.blk ai 115 B4,.blk b6 101 B1,.blk b2 45 B0] bh:=bF
 refine zw ?_ ?_
 refine Zb Z Z Z Z (ao.ldB (j:=2) Z Z Z zF (v:=jV p1.Skier) Z) (Zb Z Z Z Z (ao.ldB (j:=2) Z Z Z zF (v:=jV p1.Index) Z) (oR Z (za Z Z Z) (oR Z (zu (pv:=[(0,jV p1.Skier),(1,jV (w64 (p1.Index + 1)))]) (z:=B2) (cs:=B3) Z (wAD Z (wAD Z wAM)) zf wBY Z Z) (zX (j:=0) (vs:=B3) Z Z Z Z ao Z Z Z Z zK (zA Z) Z Z Z ?_))))
 intro bi bG
 have bH:sW w U U [.blk aj 115 B3,.blk ai 115 B4,.blk b6 101 B1,.blk b2 45 B0] bi:=bG
 refine zg ?_
 cases ap
 exact zI ⟨Z,⟨U,Z,Z,(zN _),bH⟩⟩
 refine Zb Z Z Z Z (ao.ldB (j:=2) Z Z Z zF (v:=jV p1.Index) Z) (oR Z (za Z Z Z) (Zb Z Z Z Z (ao.ldB (j:=2) Z Z Z zF (v:=jV p1.Skier) Z) (oR Z (zu (pv:=[(0,jV p1.Skier),(1,jV (w64 (p1.Index + 1)))]) (z:=B2) (cs:=B3) Z (wAD Z (wAD Z wAM)) zf wBY Z Z) (zX (j:=0) (vs:=B3) Z Z Z Z ao Z Z Z Z zK (zA Z) Z Z Z ?_))))
 intro bj bI
 have bJ:sW w U U [.blk aj 115 B3,.blk ai 115 B4,.blk b6 101 B1,.blk b2 45 B0] bj:=bI
 refine zg ?_
 cases ap
 exact zI ⟨Z,⟨U,Z,Z,(zN _),bJ⟩⟩
 rintro bX bP ⟨a7,bk,bm,bW,aq⟩
 refine zR ?_
 cases a6
 exact ⟨rfl,_,(wEH (rs:=[.cell 4 115,.cell 5 115]) (vs:=[.agg B4.toArray,.agg B3.toArray]) ⟨⟨_,bk,(wBN zk zK (aq.blkAt (k:=1) rfl) (vs:=B4) rfl rfl)⟩,⟨⟨_,bm,(wBN zk zK (aq.blkAt (k:=0) rfl) (vs:=B3) rfl rfl)⟩,trivial⟩⟩ rfl),a7,_,(aq.pick [] _ (by decide) rfl),rfl,rfl⟩
theorem wHU (p0:wAE) (ah:Option Addr) (ak:Nat) (af:Option Addr) (ag:Nat) (ai:Option Addr) (am:Nat) (aj:Option Addr) (an:Nat) (p1:wAG) (w:World) (U:PHeap) (hS:St0 w U []) (a8:Sl U 1 ah ak p0.Starts.length (hD KL.encI p0.Starts)) (ap:Sl U 2 af ag p0.Splits.length (hD wAF p0.Splits)) (ba:Sl U 3 ai am p0.Clocks.length (hD wAA p0.Clocks)) (bb:Sl U 4 aj an p0.Readings.length (hD wAB p0.Readings)) {r:Int × Int} (hm:wDm p0 p1=some r):Gv Tryz.prog 121 [.agg #[.slice ah p0.Starts.length ak,.slice af p0.Splits.length ag,.slice ai p0.Clocks.length am,.slice aj p0.Readings.length an],.agg #[jV p1.Kind,jV p1.Skier,jV p1.Index,.bool p1.Up]] w (wBa w [] U (fun U_ L_ v=>v=.tuple #[jV r.1,jV r.2]/\L_=[])):=by
 unfold wDm at hm
 refine Gv.of Tryz.func121 rfl Tryz.ntmps121 Tryz.results121 rfl (sR gBg rfl (ZC (cs:=[.slice ah p0.Starts.length ak,.slice af p0.Splits.length ag,.slice ai p0.Clocks.length am,.slice aj p0.Readings.length an]) rfl rfl rfl rfl rfl rfl (by rfl) hS ?_))
 intro W1 b2 az
 refine ZC (cs:=[jV p1.Kind,jV p1.Skier,jV p1.Index,.bool p1.Up]) rfl rfl rfl rfl rfl rfl (by rfl) az ?_
 intro W5 b6 aU
 refine yB rfl rfl rfl rfl rfl rfl (yB rfl rfl rfl rfl rfl rfl (eN (zL (ZF ZB [3,1,3,1,3,3,1,3,1,3,1,3,3,1,3,3,3] fL17 (by kernel_rfl) ?_))))
 have ac:=aU.drew
 generalize hw_W10:({ W5 with drawn:=W5.drawn + 1 }:World)=aX at ac ⊢
 refine oR Z (zJ Z Z zP Z yA) (oL Z (ac.ldB (j:=1) Z Z Z yL (v:=.slice af p0.Splits.length ag) Z) (oR Z (zJ Z Z zq Z zD) (oL Z (ac.ldB (j:=0) Z Z Z zF (v:=jV p1.Index) Z) (bnK hm fun aq ae aV=>?_))))
 have q:=ap.el (fun _=>rfl) (wAX ae)
 obtain ⟨aY,bc,au,ax⟩:=q
 refine oR Z (Ze Z Z au Z ZP ZD (wBt ae) (wBy ae)) (oR Z (zJ Z Z ZU Z zD) (oL Z (ac.ldC (f:=1) ax (v:=jV aq.Hi) Z Z zF Z) (oR Z (zJ Z Z zP Z yA) (oL Z (ac.ldB (j:=1) Z Z Z yL (v:=.slice af p0.Splits.length ag) Z) (oR Z (zJ Z Z zq Z zD) (oL Z (ac.ldB (j:=0) Z Z Z zF (v:=jV p1.Index) Z) ?_))))))
 have q:=ap.el (fun _=>rfl) (wAX ae)
 obtain ⟨aZ,bd,av,ay⟩:=q
 refine oR Z (Ze Z Z av Z ZP ZD (wBt ae) (wBy ae)) (oR Z (zJ Z Z ZU Z zD) (oL Z (ac.ldC (f:=0) ay (v:=jV aq.Lo) Z Z zF Z) (oR Z (Runs.negw Z Z) (oA Z Z (oA Z Z (eN (zR ?_)))))))
 cases aV
 exact ⟨rfl,_,(wEF rfl rfl),U,_,(ac.pick [] _ (by decide) rfl),rfl,rfl⟩
theorem wHV (p0:wAE) (ah:Option Addr) (ak:Nat) (ai:Option Addr) (am:Nat) (af:Option Addr) (ag:Nat) (aj:Option Addr) (an:Nat) (p1:wAG) (w:World) (U:PHeap) (hS:St0 w U []) (a8:Sl U 1 ah ak p0.Starts.length (hD KL.encI p0.Starts)) (ba:Sl U 2 ai am p0.Splits.length (hD wAF p0.Splits)) (bb:Sl U 3 af ag p0.Clocks.length (hD wAA p0.Clocks)) (bc:Sl U 4 aj an p0.Readings.length (hD wAB p0.Readings)) {r:Bool} (hm:wEf p0 p1=some r):Gv Tryz.prog 122 [.agg #[.slice ah p0.Starts.length ak,.slice ai p0.Splits.length am,.slice af p0.Clocks.length ag,.slice aj p0.Readings.length an],.agg #[jV p1.Kind,jV p1.Skier,jV p1.Index,.bool p1.Up]] w (wBa w [] U (fun U_ L_ v=>v=.bool r/\L_=[])):=by
 unfold wEf at hm
 refine Gv.of Tryz.func122 Z Tryz.ntmps122 Tryz.results122 Z (sR gAv Z ?_)
 let B0:List Value:=[.slice ah p0.Starts.length ak,.slice ai p0.Splits.length am,.slice af p0.Clocks.length ag,.slice aj p0.Readings.length an]
 refine ZC (cs:=B0) rfl rfl rfl rfl rfl rfl (by rfl) hS ?_
 intro W1 b2 aY
 let B1:List Value:=[jV p1.Kind,jV p1.Skier,jV p1.Index,.bool p1.Up]
 refine ZC (cs:=B1) rfl rfl rfl rfl rfl rfl (by rfl) aY ?_
 intro W5 b6 ae
 refine oA Z Z (eN (sR (wNL gBa) Z (oR Z (zJ Z Z zq Z zD) (oL Z (ae.ldB (j:=0) Z Z Z zF (v:=jV p1.Skier) Z) (oR Z (yO Z Z Z) (oM Z Z ?_))))))
 by_cases c9:p1.Skier=0
 have au:=hm;rw [if_pos c9] at au;replace c9:=zM c9
 refine rU Z (wT Z c9) (zJ Z Z zq Z zD) (ZE Z Z Z (wT Z c9) (ae.ldB (j:=0) Z Z Z zF (v:=jV p1.Index) Z) Z (rU Z (wT Z c9) (zJ Z Z zP Z Zr) (ZE Z Z Z (wT Z c9) (ae.ldB (j:=1) Z Z Z yM (v:=.slice af p0.Clocks.length ag) Z) Z (rU Z (wT Z c9) (zr Z Z Za) (rU Z (wT Z c9) (yP Z Z Z) (bnK au fun bf aV aZ=>zH 0 Z Z Z (wT Z c9) (zG Z Z yV (zB Z (zB Z (zB Z zO))) Z) ae (fun hs=>wBs p1.Index 0 (w64 ((↑p0.Clocks.length:Int) - 1)) W5 U hs aV) (.inr Z) ?_))))))
 rintro aq a6 be ax bd aW ⟨rfl,rfl⟩
 have aX:sW w U aq [.blk b6 101 B1,.blk b2 45 B0] ax:=aW
 refine oR Z (zT Z (Zm c9.out) Z) (oA Z Z (eN (zR ?_)))
 have hE:=nA aZ;first | subst r | cases hE
 exact ⟨rfl,_,(ZH rfl),aq,_,(aX.pick [] _ (by decide) rfl),rfl,rfl⟩
 have av:=hm;rw [if_neg c9] at av;replace c9:=zM c9
 refine oF Z c9 (oF Z c9 (oF Z c9 (oF Z c9 (oF Z c9 (oF Z c9 (ZI Z Z Z (zU Z Z (ZM c9.out) Z) (oR Z (zc Z (ZM c9.out) Z) (oA Z Z (eN (zR ?_))))))))))
 have hE:=nA av;first | subst r | cases hE
 exact ⟨rfl,_,(ZH rfl),U,_,(ae.pick [] _ (by decide) rfl),rfl,rfl⟩
theorem wCq (p0:Int) (w:World) (U:PHeap) (hS:St0 w U [])  {r:wAH} (hm:wCF p0=some r):Gv Tryz.prog 73 [jV p0] w (wBa w [] U (fun U_ L_ v=>v=.agg #[jV r.skier,jV r.mat]/\L_=[])):=by
 unfold wCF at hm
 refine Gv.of Tryz.func73 Z Tryz.ntmps73 Tryz.results73 Z (sR (.fx 0 .nil .stop) Z (zW (cs:=[jV 0,jV 0]) Z Z Z Z Z zf Z hS ?_))
 intro W1 b2 ag
 refine eN (sR (wCv (.fx 3 .nil .stop)) Z (oM Z Z (oR Z (za Z Z Z) ?_)))
 let B0:List Value:=[jV (-1),jV (w64 (1 + p0))]
 refine oR Z (zu (pv:=[(0,jV (-1)),(1,jV (w64 (1 + p0)))]) (z:=[jV 0,jV 0]) (cs:=B0) Z (wAD Z (wAD Z wAM)) zf wBY Z Z) (zX (j:=0) (vs:=B0) Z Z Z Z ag Z Z Z Z zK (zA Z) Z Z Z ?_)
 intro W5 ah
 have ac:sW w U U [.blk b2 115 B0] W5:=ah
 refine eN (zR ?_)
 cases hm
 exact ⟨rfl,_,(wHx (v:=.agg B0.toArray) ⟨⟨_,rfl,(wBN zk zK (ac.blkAt (k:=0) rfl) (vs:=B0) rfl rfl)⟩,trivial⟩),U,_,(ac.pick [] _ (by decide) rfl),rfl,rfl⟩
theorem wHW (p0:wAE) (aq:Option Addr) (ay:Nat) (au:Option Addr) (az:Nat) (av:Option Addr) (aU:Nat) (ax:Option Addr) (aV:Nat) (p1:wAG) (w:World) (U:PHeap) (hS:St0 w U []) (bx:Sl U 1 aq ay p0.Starts.length (hD KL.encI p0.Starts)) (bz:Sl U 2 au az p0.Splits.length (hD wAF p0.Splits)) (bA:Sl U 3 av aU p0.Clocks.length (hD wAA p0.Clocks)) (bB:Sl U 4 ax aV p0.Readings.length (hD wAB p0.Readings)) {r:wAH × wAH} (hm:wDn p0 p1=some r):Gv Tryz.prog 123 [.agg #[.slice aq p0.Starts.length ay,.slice au p0.Splits.length az,.slice av p0.Clocks.length aU,.slice ax p0.Readings.length aV],.agg #[jV p1.Kind,jV p1.Skier,jV p1.Index,.bool p1.Up]] w (wBa w [] U (fun U_ L_ v=>v=.tuple #[.agg #[jV r.1.skier,jV r.1.mat],.agg #[jV r.2.skier,jV r.2.mat]]/\L_=[])):=by
 unfold wDn at hm
 refine Gv.of Tryz.func123 Z Tryz.ntmps123 Tryz.results123 Z (sR gBf Z ?_)
 let B0:List Value:=[.slice aq p0.Starts.length ay,.slice au p0.Splits.length az,.slice av p0.Clocks.length aU,.slice ax p0.Readings.length aV]
 refine ZC (cs:=B0) rfl rfl rfl rfl rfl rfl (by rfl) hS ?_
 intro W1 b2 bi
 let B1:List Value:=[jV p1.Kind,jV p1.Skier,jV p1.Index,.bool p1.Up]
 refine ZC (cs:=B1) rfl rfl rfl rfl rfl rfl (by rfl) bi ?_
 intro W5 b6 bp
 let B2:List Value:=[jV 0,jV 0]
 refine zW (cs:=B2) Z Z Z Z Z zf Z bp ?_
 intro W9 aj be
 refine zW (cs:=B2) Z Z Z Z Z zf Z be ?_
 intro aX ak bf
 refine eN (zL (ZF ZB [2,3,1,2,0,0] (.fl 1 (.fl 2 (.fx 0 (.fx 3 gAm .stop) .stop))) (by kernel_rfl) ?_))
 have ao:=bf.drew
 generalize hw_W18:({ aX with drawn:=aX.drawn + 1 }:World)=a7 at ao ⊢
 refine oR Z (zJ Z Z zq Z zD) (oL Z (ao.ldB (j:=2) Z Z Z zF (v:=jV p1.Index) Z) (bnK hm fun aZ bc bq=>zH 0 Z Z Z Z (zG Z Z yg zO Z) ao (fun hs=>wBm a7 U hs bc) (.inr Z) ?_))
 rintro aW bs bE aY bC bg ⟨rfl,rfl⟩
 have bh:sW w U aW [.blk ak 115 B2,.blk aj 115 B2,.blk b6 101 B1,.blk b2 45 B0] aY:=bg
 refine bnK bq fun a6 bd br=>zH 0 Z Z Z Z (zG Z Z Tryz.call73 (zB Z zO) Z) bh (fun hs=>wCq p1.Index aY aW hs bd) (.inr Z) ?_
 rintro ai bt bF a8 bD bj ⟨rfl,rfl⟩
 have bk:sW w U ai [.blk ak 115 B2,.blk aj 115 B2,.blk b6 101 B1,.blk b2 45 B0] a8:=bj
 let B3:List Value:=[jV aZ.skier,jV aZ.mat]
 refine zX (j:=1) (vs:=B3) Z Z Z Z bk Z Z Z Z zK (zA Z) Z Z Z ?_
 intro ba bm
 have bn:sW w U ai [.blk ak 115 B2,.blk aj 115 B3,.blk b6 101 B1,.blk b2 45 B0] ba:=bm
 let B4:List Value:=[jV a6.skier,jV a6.mat]
 refine zX (j:=0) (vs:=B4) Z Z Z Z bn Z Z Z Z zK (zA Z) Z Z Z ?_
 intro bb bo
 have ap:sW w U ai [.blk ak 115 B4,.blk aj 115 B3,.blk b6 101 B1,.blk b2 45 B0] bb:=bo
 refine eN (zR ?_)
 cases br
 exact ⟨rfl,_,(wEH (rs:=[.cell 4 115,.cell 5 115]) (vs:=[.agg B3.toArray,.agg B4.toArray]) ⟨⟨_,rfl,(wBN zk zK (ap.blkAt (k:=1) rfl) (vs:=B3) rfl rfl)⟩,⟨⟨_,rfl,(wBN zk zK (ap.blkAt (k:=0) rfl) (vs:=B4) rfl rfl)⟩,trivial⟩⟩ rfl),ai,_,(ap.pick [] _ (by decide) rfl),rfl,rfl⟩
theorem wHX (p0:wAE) (ah:Option Addr) (ak:Nat) (ai:Option Addr) (am:Nat) (af:Option Addr) (ag:Nat) (aj:Option Addr) (an:Nat) (p1:wAG) (w:World) (U:PHeap) (hS:St0 w U []) (a8:Sl U 1 ah ak p0.Starts.length (hD KL.encI p0.Starts)) (ba:Sl U 2 ai am p0.Splits.length (hD wAF p0.Splits)) (ap:Sl U 3 af ag p0.Clocks.length (hD wAA p0.Clocks)) (bb:Sl U 4 aj an p0.Readings.length (hD wAB p0.Readings)) {r:Int × Int} (hm:wDo p0 p1=some r):Gv Tryz.prog 124 [.agg #[.slice ah p0.Starts.length ak,.slice ai p0.Splits.length am,.slice af p0.Clocks.length ag,.slice aj p0.Readings.length an],.agg #[jV p1.Kind,jV p1.Skier,jV p1.Index,.bool p1.Up]] w (wBa w [] U (fun U_ L_ v=>v=.tuple #[jV r.1,jV r.2]/\L_=[])):=by
 unfold wDo at hm
 refine Gv.of Tryz.func124 rfl Tryz.ntmps124 Tryz.results124 rfl (sR gBg rfl (ZC (cs:=[.slice ah p0.Starts.length ak,.slice ai p0.Splits.length am,.slice af p0.Clocks.length ag,.slice aj p0.Readings.length an]) rfl rfl rfl rfl rfl rfl (by rfl) hS ?_))
 intro W1 b2 az
 refine ZC (cs:=[jV p1.Kind,jV p1.Skier,jV p1.Index,.bool p1.Up]) rfl rfl rfl rfl rfl rfl (by rfl) az ?_
 intro W5 b6 aU
 refine yB rfl rfl rfl rfl rfl rfl (yB rfl rfl rfl rfl rfl rfl (eN (zL (ZF ZB [3,1,3,1,3,3,3,1,3,3,1,3,1,3,3,3,1,3,3] fL19 (by kernel_rfl) ?_))))
 have ac:=aU.drew
 generalize hw_W10:({ W5 with drawn:=W5.drawn + 1 }:World)=aX at ac ⊢
 refine oR Z (zJ Z Z zP Z Zr) (oL Z (ac.ldB (j:=1) Z Z Z yM (v:=.slice af p0.Clocks.length ag) Z) (oR Z (zJ Z Z zq Z zD) (oL Z (ac.ldB (j:=0) Z Z Z zF (v:=jV p1.Index) Z) (bnK hm fun aq ae aV=>?_))))
 have q:=ap.el (fun _=>rfl) (wAX ae)
 obtain ⟨aY,bc,au,ax⟩:=q
 refine oR Z (Ze Z Z au Z Za Zs (wBt ae) (wBy ae)) (oR Z (zJ Z Z Zv Z ZD) (oR Z (zJ Z Z ZU Z zD) (oL Z (ac.ldC (f:=0) ax (v:=jV aq.Offset.Lo) Z Z zF Z) (oR Z (Runs.negw Z Z) (oR Z (zJ Z Z zP Z Zr) (oL Z (ac.ldB (j:=1) Z Z Z yM (v:=.slice af p0.Clocks.length ag) Z) (oR Z (zJ Z Z zq Z zD) (oL Z (ac.ldB (j:=0) Z Z Z zF (v:=jV p1.Index) Z) ?_))))))))
 have q:=ap.el (fun _=>rfl) (wAX ae)
 obtain ⟨aZ,bd,av,ay⟩:=q
 refine oR Z (Ze Z Z av Z Za Zs (wBt ae) (wBy ae)) (oR Z (zJ Z Z Zv Z ZD) (oR Z (zJ Z Z ZU Z zD) (oL Z (ac.ldC (f:=1) ay (v:=jV aq.Offset.Hi) Z Z zF Z) (oA Z Z (oA Z Z (eN (zR ?_)))))))
 cases aV
 exact ⟨rfl,_,(wEF rfl rfl),U,_,(ac.pick [] _ (by decide) rfl),rfl,rfl⟩
theorem wGw (p0:wAE) (ah:Option Addr) (ak:Nat) (ai:Option Addr) (am:Nat) (aj:Option Addr) (an:Nat) (af:Option Addr) (ag:Nat) (p1:wAG) (w:World) (U:PHeap) (hS:St0 w U []) (a8:Sl U 1 ah ak p0.Starts.length (hD KL.encI p0.Starts)) (ba:Sl U 2 ai am p0.Splits.length (hD wAF p0.Splits)) (bb:Sl U 3 aj an p0.Clocks.length (hD wAA p0.Clocks)) (bc:Sl U 4 af ag p0.Readings.length (hD wAB p0.Readings)) {r:Bool} (hm:wEI p0 p1=some r):Gv Tryz.prog 125 [.agg #[.slice ah p0.Starts.length ak,.slice ai p0.Splits.length am,.slice aj p0.Clocks.length an,.slice af p0.Readings.length ag],.agg #[jV p1.Kind,jV p1.Skier,jV p1.Index,.bool p1.Up]] w (wBa w [] U (fun U_ L_ v=>v=.bool r/\L_=[])):=by
 unfold wEI at hm
 refine Gv.of Tryz.func125 Z Tryz.ntmps125 Tryz.results125 Z (sR gAv Z ?_)
 let B0:List Value:=[.slice ah p0.Starts.length ak,.slice ai p0.Splits.length am,.slice aj p0.Clocks.length an,.slice af p0.Readings.length ag]
 refine ZC (cs:=B0) rfl rfl rfl rfl rfl rfl (by rfl) hS ?_
 intro W1 b2 aY
 let B1:List Value:=[jV p1.Kind,jV p1.Skier,jV p1.Index,.bool p1.Up]
 refine ZC (cs:=B1) rfl rfl rfl rfl rfl rfl (by rfl) aY ?_
 intro W5 b6 ae
 refine oA Z Z (eN (sR (wNL gBa) Z (oR Z (zJ Z Z zq Z zD) (oL Z (ae.ldB (j:=0) Z Z Z zF (v:=jV p1.Skier) Z) (oR Z (yO Z Z Z) (oM Z Z ?_))))))
 by_cases c9:p1.Skier=0
 have au:=hm;rw [if_pos c9] at au;replace c9:=zM c9
 refine rU Z (wT Z c9) (zJ Z Z zq Z zD) (ZE Z Z Z (wT Z c9) (ae.ldB (j:=0) Z Z Z zF (v:=jV p1.Index) Z) Z (rU Z (wT Z c9) (zJ Z Z zP Z Zo) (ZE Z Z Z (wT Z c9) (ae.ldB (j:=1) Z Z Z yN (v:=.slice af p0.Readings.length ag) Z) Z (rU Z (wT Z c9) (zr Z Z ZY) (rU Z (wT Z c9) (yP Z Z Z) (bnK au fun bf aV aZ=>zH 0 Z Z Z (wT Z c9) (zG Z Z yV (zB Z (zB Z (zB Z zO))) Z) ae (fun hs=>wBs p1.Index 0 (w64 ((↑p0.Readings.length:Int) - 1)) W5 U hs aV) (.inr Z) ?_))))))
 rintro aq a6 be ax bd aW ⟨rfl,rfl⟩
 have aX:sW w U aq [.blk b6 101 B1,.blk b2 45 B0] ax:=aW
 refine oR Z (zT Z (Zm c9.out) Z) (oA Z Z (eN (zR ?_)))
 have hE:=nA aZ;first | subst r | cases hE
 exact ⟨rfl,_,(ZH rfl),aq,_,(aX.pick [] _ (by decide) rfl),rfl,rfl⟩
 have av:=hm;rw [if_neg c9] at av;replace c9:=zM c9
 refine oF Z c9 (oF Z c9 (oF Z c9 (oF Z c9 (oF Z c9 (oF Z c9 (ZI Z Z Z (zU Z Z (ZM c9.out) Z) (oR Z (zc Z (ZM c9.out) Z) (oA Z Z (eN (zR ?_))))))))))
 have hE:=nA av;first | subst r | cases hE
 exact ⟨rfl,_,(ZH rfl),U,_,(ae.pick [] _ (by decide) rfl),rfl,rfl⟩
end Go.Proofs.YtkghaiefcjgfkaaGreat
