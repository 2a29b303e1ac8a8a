import Derived.Test.YtlnfbjphfoipaaaGreatT6
set_option linter.all false
open List renaming flatMap->hH,length_append->nI
open Go.Value renaming bool->nA
open Bool renaming eq_false_iff->nB
open Option.some renaming inj->nD
open Prod.mk renaming injEq->nE
open Nat renaming blt->nG,le_of_ble_eq_true->nH
namespace Go.Proofs.YtlnfbjphfoipaaaGreat
open Go.KL
def gAa:Sch:=.fl 2 (.fl 3 .nil)
def gAb:Sch:=.fl 3 (.fl 4 .nil)
def gAc:Sch:=.fl 4 (.fl 5 .nil)
def gAd:Sch:=.fl 7 (.fl 8 .nil)
def gAe:Sch:=.fl 15 (.fl 16 .nil)
def gAf:Sch:=.fx 0 (.fl 1 .nil) .stop
def gAg:Sch:=.fx 1 (.fl 2 .nil) .stop
def gAh:Sch:=.fx 0 (.fx 1 .nil .stop) .stop
def gAi:Sch:=.fx 4 (.fl 5 .nil) .stop
def gAj:Sch:=.fx 2 (.fx 3 .nil .stop) .stop
def gAk:Sch:=.fl 0 (.fx 1 .nil .stop)
def gAl:Sch:=.fx 4 (.fx 5 .nil .stop) .stop
def gAm:Sch:=.fl 3 (.fx 5 .nil .stop)
def gAn:Sch:=.fl 10 (.fx 12 .nil .stop)
def gAo:Sch:=.fx 6 (.fx 7 .nil .stop) .stop
def gAp:Sch:=.fx 8 (.fx 9 .nil .stop) .stop
def gAq:Sch:=.fl 7 (.fx 9 .nil .stop)
def gAr:Sch:=.fl 0 gAg
def gAs:Sch:=.fx 3 gAi .stop
def gAt:Sch:=.fx 5 (.fl 6 (.fx 8 .nil .stop)) .stop
def gAu:Sch:=.fx 13 (.fl 14 (.fl 15 .nil)) .stop
def gAv:Sch:=.fl 10 (.fx 11 (.fx 12 .nil .stop) .stop)
def gAw:Sch:=.fx 6 gAn .stop
def gAx:Sch:=.fx 6 gAq .stop
def gAy:Sch:=.fx 4 gAq .stop
def gAz:Sch:=.fl 0 (.fl 1 gAj)
def gBa:Sch:=.fx 3 (.fx 4 (.fl 5 (.fx 6 .nil .stop)) .stop) .stop
def gBb:Sch:=.fl 0 (.fl 1 (.fx 2 (.fl 3 .nil) .stop))
def gBc:Sch:=.fx 0 (.fx 1 gAj .stop) .stop
def gBd:Sch:=.fx 0 (.fx 1 gAa .stop) .stop
def gBe:Sch:=.fx 8 (.fl 9 gAn) .stop
def gBf:Sch:=.fl 7 (.fx 2 gAp .stop)
def gBg:Sch:=.fl 0 (.fl 1 (.fx 2 gAb .stop))
def gBh:Sch:=.fx 6 (.fl 7 gAp) (.fx 8 gAx .stop)
def gBi:Sch:=.fx 4 (.fl 7 gAp) (.fx 8 gAy .stop)
def gBj:Sch:=.fx 0 (.fx 1 (.fx 2 (.fx 3 (.fl 4 .nil) .stop) .stop) .stop) .stop
def gBk:Sch:=.fl 1 (.fl 2 (.fx 0 (.fl 3 gAl) (.fx 4 (.fx 0 gAm .stop) .stop)))
def gBl:Sch:=.fl 0 (.fl 2 (.fx 1 gAs (.fx 3 (.fx 1 gAi .stop) .stop)))
set_option maxHeartbeats 4000000
theorem Z {α:Type} {a:α}:a=a:=rfl
section
variable {r:Option Nat} {N:Nat} {P:Program} {l:List Oper} {Q:wDx} {D:List Deferred} {ks:List Nat} {σ:Env} {w:World} {i d j e:Nat} {s:Sch} {o:Oper} {b:Bool} {x:Operand} {v:Value} {p:Prop} {inst:Decidable p} {K:List Deferred->Env->World->Prop} {c1 c2:Code}
abbrev jV (n:Int):Value:=.int .i64 n
abbrev SW (w:World) (X:List Res) (U U':PHeap) (L:List Res) (w':World):Prop:=St ⟨w,X,U⟩ U' L w'
abbrev sW (w:World) (U U':PHeap) (L:List Res) (w':World):Prop:=St ⟨w,[],U⟩ U' L w'
abbrev St0 (w:World) (U:PHeap) (L:List Res):Prop:=St ⟨w,L,U⟩ U L w
theorem ifc {α:Type} {G p:Prop} {inst:Decidable p} {a b r:α} (h:@ite α p inst a b=r) (h1:Hid p->a=r->G) (h2:Hid (¬ p)->b=r->G):G:=by
 by_cases c:p
 rw [if_pos c] at h;exact h1 ⟨c⟩ h
 rw [if_neg c] at h;exact h2 ⟨c⟩ h
theorem bnK {α β:Type} {G:Prop} {o:Option α} {f:α->Option β} {r:β} (h:o.bind f=some r) (k:∀ x,o=some x->f x=some r->G):G:=by
 obtain ⟨x,h1,h2⟩:=bnd h
 exact k x h1 h2
theorem oR (h:(l[i]?,o.dst,nG d N,wanted l σ o)=(some o,some d,true,true)) (hr:∀ {w'},Runs P σ w' o v w') (k:OKS N P l Q D ks s (upd σ d v) w):OKS N P l Q D ks (.fl i s) σ w:=by
 simp only [nE] at h;exact OKS.r h.1 h.2.1 h.2.2.1 h.2.2.2 (fun _=>hr) k
theorem oL (h:(l[i]?,o.dst,nG d N,wanted l σ o,wSf (kOf ks i))=(some o,some d,true,true,false)) (hr:RunsK P σ w o v) (k:OKS N P l Q D ks s (upd σ d v) w):OKS N P l Q D ks (.fl i s) σ w:=by
 simp only [nE] at h;exact OKS.m h.1 h.2.1 h.2.2.1 h.2.2.2.1 hr h.2.2.2.2 k
theorem oM (h:(l[i]?,o.dst,nG d N,wanted l σ o,o.op)=(some o,some d,true,true,.move x)) (hx:ev σ x=v) (k:OKS N P l Q D ks s (upd σ d v) w):OKS N P l Q D ks (.fl i s) σ w:=by
 simp only [nE] at h;exact OKS.rm h.1 h.2.1 h.2.2.1 h.2.2.2.1 h.2.2.2.2 hx k
theorem oA (h:(l[i]?,o.dst,nG d N,wanted l σ o,o.op)=(some o,some d,true,true,.assign x)) (hx:ev σ x=v) (k:OKS N P l Q D ks s (upd σ d v) w):OKS N P l Q D ks (.fl i s) σ w:=by
 simp only [nE] at h;exact OKS.ra h.1 h.2.1 h.2.2.1 h.2.2.2.1 h.2.2.2.2 hx k
theorem oF (h:(l[i]?,o.dst,nG d N,o.guard,(l[j]?).bind (·.dst),σ e,false == b)=(some o,some d,true,some (j,b),some e,.bool (decide p),false)) (c:Hid (¬ p)) (k:OKS N P l Q D ks s (upd σ d undef) w):OKS N P l Q D ks (.fl i s) σ w:=by
 simp only [nE] at h;exact OKS.p h.1 h.2.1 h.2.2.1 (wHJ h.2.2.2.1 h.2.2.2.2.1 (h.2.2.2.2.2.1.trans (wSe c.out)) h.2.2.2.2.2.2) k
theorem oT (h:(l[i]?,o.dst,nG d N,o.guard,(l[j]?).bind (·.dst),σ e,true == b)=(some o,some d,true,some (j,b),some e,.bool (decide p),false)) (c:Hid p) (k:OKS N P l Q D ks s (upd σ d undef) w):OKS N P l Q D ks (.fl i s) σ w:=by
 simp only [nE] at h;exact OKS.p h.1 h.2.1 h.2.2.1 (wHJ h.2.2.2.1 h.2.2.2.2.1 (h.2.2.2.2.2.1.trans (wSd c.out)) h.2.2.2.2.2.2) k
theorem oN {b2:Bool} (h:(l[i]?,o.dst,nG d N,o.guard,(l[j]?).bind (·.dst),σ e,b2 == b)=(some o,some d,true,some (j,b),some e,.bool b2,false)) (k:OKS N P l Q D ks s (upd σ d undef) w):OKS N P l Q D ks (.fl i s) σ w:=by
 simp only [nE] at h;exact OKS.p h.1 h.2.1 h.2.2.1 (wHJ h.2.2.2.1 h.2.2.2.2.1 h.2.2.2.2.2.1 h.2.2.2.2.2.2) k
theorem nC {a b:Bool} (h:a=b):nA (!a)=nA (!b):=h ▸ rfl
theorem nF {a:Bool} (h:¬ a=true):nA (!a)=nA (!false):=nC (nB.2 h)
theorem wT (h:(o.guard,(l[j]?).bind (·.dst),σ e)=(some (j,true),some e,.bool (decide p))) (c:Hid p):wanted l σ o=true:=by
 simp only [nE] at h;exact wIt h.1 h.2.1 (h.2.2.trans (wSd c.out))
theorem wF (h:(o.guard,(l[j]?).bind (·.dst),σ e)=(some (j,false),some e,.bool (decide p))) (c:Hid (¬ p)):wanted l σ o=true:=by
 simp only [nE] at h;exact wIt h.1 h.2.1 (h.2.2.trans (wSe c.out))
theorem rU (h:(l[i]?,o.dst,nG d N)=(some o,some d,true)) (hw:wanted l σ o=true) (hr:∀ {w'},Runs P σ w' o v w') (k:OKS N P l Q D ks s (upd σ d v) w):OKS N P l Q D ks (.fl i s) σ w:=by
 simp only [nE] at h;exact OKS.r h.1 h.2.1 h.2.2 hw (fun _=>hr) k
theorem sR {id:Nat} (s:Sch) (hs:inOrder 0 s l.length=true) (h:OKS N P l (wFu (fun D σ w=>CK r N P c2 Q D σ w) Q) D [] s σ w):CK r N P (.seq (.region id l.toArray false) c2) Q D σ w:=CK.seq (CK.reg s hs h)
theorem rR {id:Nat} (s:Sch) (hs:inOrder 0 s l.length=true) (h:OKS N P l Q D [] s σ w):CK r N P (.region id l.toArray false) Q D σ w:=CK.reg s hs h
theorem eN (h:K D σ w):OKS N P l (wFu K Q) D ks .nil σ w:=OKS.e (wIp h)
theorem cT (hz:ev σ x=.bool (decide p)) (c:Hid p) (h:CK r N P c1 Q D σ w):CK r N P (.cond x c1 c2) Q D σ w:=CK.condT (hz.trans (wSd c.out)) h
theorem cF (hz:ev σ x=.bool (decide p)) (c:Hid (¬ p)) (h:CK r N P c2 Q D σ w):CK r N P (.cond x c1 c2) Q D σ w:=CK.condF (hz.trans (wSe c.out)) h
theorem kN (h:K D σ w):CK r N P .skip (wFu K Q) D σ w:=CK.skip (wIp h)
end
def fL1:Sch:=.fl 0 .nil
def fL2:Sch:=.fl 0 (.fl 1 .nil)
def fL3:Sch:=.fl 0 (.fl 1 (.fl 2 .nil))
def fL4:Sch:=.fl 0 (.fl 1 gAa)
def fL5:Sch:=.fl 0 (.fl 1 (.fl 2 gAb))
def fL6:Sch:=.fl 0 (.fl 1 (.fl 2 (.fl 3 gAc)))
def fL7:Sch:=.fl 0 (.fl 1 (.fl 2 (.fl 3 (.fl 4 (.fl 5 (.fl 6 .nil))))))
def fL8:Sch:=.fl 0 (.fl 1 (.fl 2 (.fl 3 (.fl 4 (.fl 5 (.fl 6 (.fl 7 .nil)))))))
def fL9:Sch:=.fl 0 (.fl 1 (.fl 2 (.fl 3 (.fl 4 (.fl 5 (.fl 6 gAd))))))
def fL10:Sch:=.fl 0 (.fl 1 (.fl 2 (.fl 3 (.fl 4 (.fl 5 (.fl 6 (.fl 7 (.fl 8 (.fl 9 .nil)))))))))
def fL11:Sch:=.fl 0 (.fl 1 (.fl 2 (.fl 3 (.fl 4 (.fl 5 (.fl 6 (.fl 7 (.fl 8 (.fl 9 (.fl 10 .nil))))))))))
def fL12:Sch:=.fl 0 (.fl 1 (.fl 2 (.fl 3 (.fl 4 (.fl 5 (.fl 6 (.fl 7 (.fl 8 (.fl 9 (.fl 10 (.fl 11 .nil)))))))))))
def fL14:Sch:=.fl 0 (.fl 1 (.fl 2 (.fl 3 (.fl 4 (.fl 5 (.fl 6 (.fl 7 (.fl 8 (.fl 9 (.fl 10 (.fl 11 (.fl 12 (.fl 13 .nil)))))))))))))
def fL15:Sch:=.fl 0 (.fl 1 (.fl 2 (.fl 3 (.fl 4 (.fl 5 (.fl 6 (.fl 7 (.fl 8 (.fl 9 (.fl 10 (.fl 11 (.fl 12 (.fl 13 (.fl 14 .nil))))))))))))))
def fL17:Sch:=.fl 0 (.fl 1 (.fl 2 (.fl 3 (.fl 4 (.fl 5 (.fl 6 (.fl 7 (.fl 8 (.fl 9 (.fl 10 (.fl 11 (.fl 12 (.fl 13 (.fl 14 gAe))))))))))))))
def fL18:Sch:=.fl 0 (.fl 1 (.fl 2 (.fl 3 (.fl 4 (.fl 5 (.fl 6 (.fl 7 (.fl 8 (.fl 9 (.fl 10 (.fl 11 (.fl 12 (.fl 13 (.fl 14 (.fl 15 (.fl 16 (.fl 17 .nil)))))))))))))))))
def fL19:Sch:=.fl 0 (.fl 1 (.fl 2 (.fl 3 (.fl 4 (.fl 5 (.fl 6 (.fl 7 (.fl 8 (.fl 9 (.fl 10 (.fl 11 (.fl 12 (.fl 13 (.fl 14 (.fl 15 (.fl 16 (.fl 17 (.fl 18 .nil))))))))))))))))))
def fL22:Sch:=.fl 0 (.fl 1 (.fl 2 (.fl 3 (.fl 4 (.fl 5 (.fl 6 (.fl 7 (.fl 8 (.fl 9 (.fl 10 (.fl 11 (.fl 12 (.fl 13 (.fl 14 (.fl 15 (.fl 16 (.fl 17 (.fl 18 (.fl 19 (.fl 20 (.fl 21 .nil)))))))))))))))))))))
def fL23:Sch:=.fl 0 (.fl 1 (.fl 2 (.fl 3 (.fl 4 (.fl 5 (.fl 6 (.fl 7 (.fl 8 (.fl 9 (.fl 10 (.fl 11 (.fl 12 (.fl 13 (.fl 14 (.fl 15 (.fl 16 (.fl 17 (.fl 18 (.fl 19 (.fl 20 (.fl 21 (.fl 22 .nil))))))))))))))))))))))
def fL43:Sch:=.fl 0 (.fl 1 (.fl 2 (.fl 3 (.fl 4 (.fl 5 (.fl 6 (.fl 7 (.fl 8 (.fl 9 (.fl 10 (.fl 11 (.fl 12 (.fl 13 (.fl 14 (.fl 15 (.fl 16 (.fl 17 (.fl 18 (.fl 19 (.fl 20 (.fl 21 (.fl 22 (.fl 23 (.fl 24 (.fl 25 (.fl 26 (.fl 27 (.fl 28 (.fl 29 (.fl 30 (.fl 31 (.fl 32 (.fl 33 (.fl 34 (.fl 35 (.fl 36 (.fl 37 (.fl 38 (.fl 39 (.fl 40 (.fl 41 (.fl 42 .nil))))))))))))))))))))))))))))))))))))))))))
def wFK (s:Sch):Sch:=.fl 0 (.fl 1 (.fl 2 (s)))
def wEf (s:Sch):Sch:=.fl 0 (.fl 1 (.fl 2 (.fl 3 (s))))
def wHz (s:Sch):Sch:=.fl 0 (.fl 1 (.fl 2 (.fl 3 (.fl 4 (s)))))
def wKM (s:Sch):Sch:=.fl 0 (.fl 1 (.fl 2 (.fl 3 (.fl 4 (.fl 5 (s))))))
def wTs (s:Sch):Sch:=.fl 0 (.fl 1 (.fl 2 (.fl 3 (.fl 4 (.fl 5 (.fl 6 (s)))))))
def wTt (s:Sch):Sch:=.fl 0 (.fl 1 (.fl 2 (.fl 3 (.fl 4 (.fl 5 (.fl 6 (.fl 7 (s))))))))
def wTu (s:Sch):Sch:=.fl 0 (.fl 1 (.fl 2 (.fl 3 (.fl 4 (.fl 5 (.fl 6 (.fl 7 (.fl 8 (s)))))))))
def fC0_9 (s:Sch):Sch:=.fl 0 (.fl 1 (.fl 2 (.fl 3 (.fl 4 (.fl 5 (.fl 6 (.fl 7 (.fl 8 (.fl 9 (s))))))))))
def wTv (s:Sch):Sch:=.fl 0 (.fl 1 (.fl 2 (.fl 3 (.fl 4 (.fl 5 (.fl 6 (.fl 7 (.fl 8 (.fl 9 (.fl 10 (.fl 11 (.fl 12 (.fl 13 (s))))))))))))))
def wQg (s:Sch):Sch:=.fl 0 (.fl 1 (.fl 2 (.fl 3 (.fl 4 (.fl 5 (.fl 6 (.fl 7 (.fl 8 (.fl 9 (.fl 10 (.fl 11 (.fl 12 (.fl 13 (.fl 14 (.fl 15 (.fl 16 (s)))))))))))))))))
def wTw (s:Sch):Sch:=.fl 0 (.fl 1 (.fl 2 (.fl 3 (.fl 4 (.fl 5 (.fl 6 (.fl 7 (.fl 8 (.fl 9 (.fl 10 (.fl 11 (.fl 12 (.fl 13 (.fl 14 (.fl 15 (.fl 16 (.fl 17 (s))))))))))))))))))
def wTx (s:Sch):Sch:=.fl 0 (.fl 1 (.fl 2 (.fl 3 (.fl 4 (.fl 5 (.fl 6 (.fl 7 (.fl 8 (.fl 9 (.fl 10 (.fl 11 (.fl 12 (.fl 13 (.fl 14 (.fl 15 (.fl 16 (.fl 17 (.fl 18 (.fl 19 (.fl 20 (s)))))))))))))))))))))
def wTy (s:Sch):Sch:=.fl 0 (.fl 1 (.fl 2 (.fl 3 (.fl 4 (.fl 5 (.fl 6 (.fl 7 (.fl 8 (.fl 9 (.fl 10 (.fl 11 (.fl 12 (.fl 13 (.fl 14 (.fl 15 (.fl 16 (.fl 17 (.fl 18 (.fl 19 (.fl 20 (.fl 21 (s))))))))))))))))))))))
def wTz (s:Sch):Sch:=.fl 0 (.fl 1 (.fl 2 (.fl 3 (.fl 4 (.fl 5 (.fl 6 (.fl 7 (.fl 8 (.fl 9 (.fl 10 (.fl 11 (.fl 12 (.fl 13 (.fl 14 (.fl 15 (.fl 16 (.fl 17 (.fl 18 (.fl 19 (.fl 20 (.fl 21 (.fl 22 (.fl 23 (.fl 24 (.fl 25 (.fl 26 (.fl 27 (s))))))))))))))))))))))))))))
def fC1_3 (s:Sch):Sch:=.fl 1 (.fl 2 (.fl 3 (s)))
def fC1_5 (s:Sch):Sch:=.fl 1 (.fl 2 (.fl 3 (.fl 4 (.fl 5 (s)))))
def wUA (s:Sch):Sch:=.fl 1 (.fl 2 (.fl 3 (.fl 4 (.fl 5 (.fl 6 (.fl 7 (.fl 8 (.fl 9 (.fl 10 (.fl 11 (.fl 12 (.fl 13 (.fl 14 (.fl 15 (.fl 16 (.fl 17 (.fl 18 (.fl 19 (s)))))))))))))))))))
def fC2_4 (s:Sch):Sch:=.fl 2 (.fl 3 (.fl 4 (s)))
def wUB (s:Sch):Sch:=.fl 2 (.fl 3 (.fl 4 (.fl 5 (s))))
def fC2_6 (s:Sch):Sch:=.fl 2 (.fl 3 (.fl 4 (.fl 5 (.fl 6 (s)))))
def fC2_8 (s:Sch):Sch:=.fl 2 (.fl 3 (.fl 4 (.fl 5 (.fl 6 (.fl 7 (.fl 8 (s)))))))
def wUC (s:Sch):Sch:=.fl 2 (.fl 3 (.fl 4 (.fl 5 (.fl 6 (.fl 7 (.fl 8 (.fl 9 (.fl 10 (.fl 11 (s))))))))))
def fC3_5 (s:Sch):Sch:=.fl 3 (.fl 4 (.fl 5 (s)))
def wQA (s:Sch):Sch:=.fl 3 (.fl 4 (.fl 5 (.fl 6 (s))))
def wSN (s:Sch):Sch:=.fl 4 (.fl 5 (.fl 6 (.fl 7 (.fl 8 (s)))))
def wUD (s:Sch):Sch:=.fl 4 (.fl 5 (.fl 6 (.fl 7 (.fl 8 (.fl 9 (.fl 10 (.fl 11 (.fl 12 (.fl 13 (.fl 14 (s)))))))))))
def wUE (s:Sch):Sch:=.fl 4 (.fl 5 (.fl 6 (.fl 7 (.fl 8 (.fl 9 (.fl 10 (.fl 11 (.fl 12 (.fl 13 (.fl 14 (.fl 15 (.fl 16 (.fl 17 (.fl 18 (s)))))))))))))))
def wUF (s:Sch):Sch:=.fl 4 (.fl 5 (.fl 6 (.fl 7 (.fl 8 (.fl 9 (.fl 10 (.fl 11 (.fl 12 (.fl 13 (.fl 14 (.fl 15 (.fl 16 (.fl 17 (.fl 18 (.fl 19 (.fl 20 (.fl 21 (s))))))))))))))))))
def wUG (s:Sch):Sch:=.fl 4 (.fl 5 (.fl 6 (.fl 7 (.fl 8 (.fl 9 (.fl 10 (.fl 11 (.fl 12 (.fl 13 (.fl 14 (.fl 15 (.fl 16 (.fl 17 (.fl 18 (.fl 19 (.fl 20 (.fl 21 (.fl 22 (.fl 23 (s))))))))))))))))))))
def wOy (s:Sch):Sch:=.fl 5 (.fl 6 (.fl 7 (s)))
def fC5_8 (s:Sch):Sch:=.fl 5 (.fl 6 (.fl 7 (.fl 8 (s))))
def wLP (s:Sch):Sch:=.fl 5 (.fl 6 (.fl 7 (.fl 8 (.fl 9 (s)))))
def wQh (s:Sch):Sch:=.fl 5 (.fl 6 (.fl 7 (.fl 8 (.fl 9 (.fl 10 (.fl 11 (.fl 12 (.fl 13 (.fl 14 (.fl 15 (s)))))))))))
def wOz (s:Sch):Sch:=.fl 6 (.fl 7 (.fl 8 (.fl 9 (s))))
def wUH (s:Sch):Sch:=.fl 6 (.fl 7 (.fl 8 (.fl 9 (.fl 10 (s)))))
def wQi (s:Sch):Sch:=.fl 6 (.fl 7 (.fl 8 (.fl 9 (.fl 10 (.fl 11 (.fl 12 (s)))))))
def fC7_9 (s:Sch):Sch:=.fl 7 (.fl 8 (.fl 9 (s)))
def wQj (s:Sch):Sch:=.fl 7 (.fl 8 (.fl 9 (.fl 10 (.fl 11 (.fl 12 (s))))))
def wQk (s:Sch):Sch:=.fl 7 (.fl 8 (.fl 9 (.fl 10 (.fl 11 (.fl 12 (.fl 13 (s)))))))
def wPA (s:Sch):Sch:=.fl 8 (.fl 9 (.fl 10 (s)))
def wUI (s:Sch):Sch:=.fl 8 (.fl 9 (.fl 10 (.fl 11 (s))))
def wUJ (s:Sch):Sch:=.fl 9 (.fl 10 (.fl 11 (.fl 12 (s))))
def wPB (s:Sch):Sch:=.fl 10 (.fl 11 (.fl 12 (.fl 13 (.fl 14 (.fl 15 (.fl 16 (.fl 17 (.fl 18 (.fl 19 (.fl 20 (s)))))))))))
def wSO (s:Sch):Sch:=.fl 10 (.fl 11 (.fl 12 (.fl 13 (.fl 14 (.fl 15 (.fl 16 (.fl 17 (.fl 18 (.fl 19 (.fl 20 (.fl 21 (.fl 22 (s)))))))))))))
def wSP (s:Sch):Sch:=.fl 11 (.fl 12 (.fl 13 (.fl 14 (s))))
def wSQ (s:Sch):Sch:=.fl 11 (.fl 12 (.fl 13 (.fl 14 (.fl 15 (.fl 16 (s))))))
def wSR (s:Sch):Sch:=.fl 11 (.fl 12 (.fl 13 (.fl 14 (.fl 15 (.fl 16 (.fl 17 (.fl 18 (s))))))))
def wSS (s:Sch):Sch:=.fl 14 (.fl 15 (.fl 16 (.fl 17 (.fl 18 (.fl 19 (.fl 20 (.fl 21 (s))))))))
def wST (s:Sch):Sch:=.fl 16 (.fl 17 (.fl 18 (.fl 19 (s))))
def wSU (s:Sch):Sch:=.fl 18 (.fl 19 (.fl 20 (.fl 21 (.fl 22 (.fl 23 (s))))))
theorem zA:type_of% @nH:=@nH
theorem zB:type_of% @Tryz.runUnderlying22:=@Tryz.runUnderlying22
theorem zC:type_of% @wMx:=@wMx
theorem zD:type_of% @Tryz.sizeOf3:=@Tryz.sizeOf3
theorem zE:type_of% @Tryz.sizeOf123:=@Tryz.sizeOf123
theorem zF:type_of% @Runs.fa:=@Runs.fa
theorem zG:type_of% @Tryz.isAgg3:=@Tryz.isAgg3
theorem zH:type_of% @wIp:=@wIp
theorem zI:type_of% @OKS.callH:=@OKS.callH
theorem zJ:type_of% @Enters.mk:=@Enters.mk
theorem zK:type_of% @CK.seq:=@CK.seq
theorem zL:type_of% @Hid.mk:=@Hid.mk
theorem zM:type_of% @PHeap.Le.refl:=@PHeap.Le.refl
theorem zN:type_of% @wMw:=@wMw
theorem zO:type_of% @wIt:=@wIt
theorem zP:type_of% @wQB:=@wQB
theorem zQ:type_of% @Tryz.runUnderlying27:=@Tryz.runUnderlying27
theorem zR:type_of% @CK.ret:=@CK.ret
theorem zS:type_of% @OKS.alloc:=@OKS.alloc
theorem zU:type_of% @Tryz.runUnderlying36:=@Tryz.runUnderlying36
theorem zV:type_of% @Tryz.runUnderlying49:=@Tryz.runUnderlying49
theorem zW:type_of% @OKS.st:=@OKS.st
theorem zX:type_of% @Tryz.sizeOf22:=@Tryz.sizeOf22
theorem zY:type_of% @Tryz.isAgg22:=@Tryz.isAgg22
theorem zZ:type_of% @wLR:=@wLR
theorem zd:type_of% @CK.block:=@CK.block
theorem ze:type_of% @Tryz.zeroValue123:=@Tryz.zeroValue123
theorem zf:type_of% @Runs.len:=@Runs.len
theorem zg:type_of% @Runs.lss:=@Runs.lss
theorem zh:type_of% @wHJ:=@wHJ
theorem zi:type_of% @Runs.addw:=@Runs.addw
theorem zj:type_of% @Tryz.isAgg123:=@Tryz.isAgg123
theorem zk:type_of% @wMv:=@wMv
theorem zl:type_of% @OKS.both:=@OKS.both
theorem zm:type_of% @OKS.r:=@OKS.r
theorem zn:type_of% @Runs.pickT:=@Runs.pickT
theorem zo:type_of% @OKS.e:=@OKS.e
theorem zq:type_of% @Runs.pickF:=@Runs.pickF
theorem zr:type_of% @Tryz.sizeOf27:=@Tryz.sizeOf27
theorem zt:type_of% @wLQ:=@wLQ
theorem zu:type_of% @Tryz.mixed:=@Tryz.mixed
theorem zw:type_of% @Tryz.runUnderlying23:=@Tryz.runUnderlying23
theorem zx:type_of% @CK.condF:=@CK.condF
theorem zy:type_of% @CK.anyOrd:=@CK.anyOrd
theorem zz:type_of% @Runs.iaI:=@Runs.iaI
theorem ZA:type_of% @OKS.rm:=@OKS.rm
theorem ZB:type_of% @Runs.ext:=@Runs.ext
theorem ZC:type_of% @OKS.cutD:=@OKS.cutD
theorem ZD:type_of% @Tryz.isAgg27:=@Tryz.isAgg27
theorem ZE:type_of% @CK.condT:=@CK.condT
theorem ZF:type_of% @res1:=@res1
theorem ZG:type_of% @Tryz.runUnderlying93:=@Tryz.runUnderlying93
theorem ZH:type_of% @OKS.box:=@OKS.box
theorem ZI:type_of% @OKS.m:=@OKS.m
theorem ZJ:type_of% @Runs.iaN:=@Runs.iaN
theorem ZK:type_of% @Tryz.runUnderlying139:=@Tryz.runUnderlying139
theorem ZL:type_of% @Tryz.runUnderlying24:=@Tryz.runUnderlying24
theorem ZM:type_of% @wIq:=@wIq
theorem ZN:type_of% @Tryz.runUnderlying39:=@Tryz.runUnderlying39
theorem ZO:type_of% @OKS.p:=@OKS.p
theorem ZP:type_of% @Runs.build:=@Runs.build
theorem ZQ:type_of% @OKS.mx2:=@OKS.mx2
theorem ZR:type_of% @Tryz.runUnderlying136:=@Tryz.runUnderlying136
theorem ZS:type_of% @Tryz.sizeOf39:=@Tryz.sizeOf39
theorem ZT:type_of% @Runs.to:=@Runs.to
theorem ZU:type_of% @CK.exit:=@CK.exit
theorem ZV:type_of% @Tryz.sizeOf200:=@Tryz.sizeOf200
theorem ZW:type_of% @Tryz.runUnderlying133:=@Tryz.runUnderlying133
theorem ZX:type_of% @Tryz.sizeOf23:=@Tryz.sizeOf23
theorem ZY:type_of% @Tryz.runUnderlying117:=@Tryz.runUnderlying117
theorem Za:type_of% @Tryz.isAgg23:=@Tryz.isAgg23
theorem Zb:type_of% @Tryz.runUnderlying33:=@Tryz.runUnderlying33
theorem Zc:type_of% @Tryz.sizeOf36:=@Tryz.sizeOf36
theorem Zd:type_of% @Runs.notT:=@Runs.notT
theorem Ze:type_of% @CK.skip:=@CK.skip
theorem Zf:type_of% @Tryz.runUnderlying25:=@Tryz.runUnderlying25
theorem Zg:type_of% @OKS.buildSlice:=@OKS.buildSlice
theorem Zh:type_of% @wSe:=@wSe
theorem Zi:type_of% @Tryz.zeroValue36:=@Tryz.zeroValue36
theorem Zj:type_of% @Tryz.zeroValue3:=@Tryz.zeroValue3
theorem Zk:type_of% @wSd:=@wSd
theorem Zl:type_of% @Tryz.sizeOf115:=@Tryz.sizeOf115
theorem Zm:type_of% @Tryz.zeroValue118:=@Tryz.zeroValue118
theorem Zn:type_of% @Tryz.runUnderlying115:=@Tryz.runUnderlying115
theorem Zo:type_of% @Tryz.sizeOf112:=@Tryz.sizeOf112
theorem Zp:type_of% @Tryz.sizeOf33:=@Tryz.sizeOf33
theorem Zq:type_of% @Tryz.zeroValue200:=@Tryz.zeroValue200
theorem Zr:type_of% @Tryz.isAgg36:=@Tryz.isAgg36
theorem Zs:type_of% @Tryz.sizeOf4:=@Tryz.sizeOf4
theorem Zt:type_of% @Tryz.sizeOf24:=@Tryz.sizeOf24
theorem Zu:type_of% @Runs.neq:=@Runs.neq
theorem Zv:type_of% @Tryz.zeroValue133:=@Tryz.zeroValue133
theorem Zw:type_of% @Tryz.runUnderlying34:=@Tryz.runUnderlying34
theorem Zx:type_of% @Tryz.isAgg4:=@Tryz.isAgg4
theorem Zy:type_of% @Tryz.isAgg24:=@Tryz.isAgg24
theorem Zz:type_of% @Tryz.zeroValue27:=@Tryz.zeroValue27
theorem yA:type_of% @Tryz.runUnderlying201:=@Tryz.runUnderlying201
theorem yB:type_of% @Tryz.sizeOf40:=@Tryz.sizeOf40
theorem yC:type_of% @Tryz.isAgg33:=@Tryz.isAgg33
theorem yD:type_of% @OKS.px:=@OKS.px
theorem yE:type_of% @Runs.nilp:=@Runs.nilp
theorem yF:type_of% @Tryz.sizeOf93:=@Tryz.sizeOf93
theorem yG:type_of% @Tryz.isAgg118:=@Tryz.isAgg118
theorem yH:type_of% @Tryz.runUnderlying116:=@Tryz.runUnderlying116
theorem yI:type_of% @Tryz.runUnderlying200:=@Tryz.runUnderlying200
theorem yJ:type_of% @Tryz.isAgg40:=@Tryz.isAgg40
theorem yK:type_of% @CK.forN:=@CK.forN
theorem yL:type_of% @Tryz.sizeOf34:=@Tryz.sizeOf34
theorem yM:type_of% @Tryz.sizeOf117:=@Tryz.sizeOf117
theorem yN:type_of% @Runs.gtr:=@Runs.gtr
theorem yO:type_of% @Tryz.sizeOf25:=@Tryz.sizeOf25
theorem yP:type_of% @Tryz.sizeOf136:=@Tryz.sizeOf136
theorem yQ:type_of% @Tryz.isAgg25:=@Tryz.isAgg25
theorem yR:type_of% @Tryz.call71:=@Tryz.call71
theorem yS:type_of% @Tryz.call65:=@Tryz.call65
theorem yU:type_of% @Tryz.isAgg93:=@Tryz.isAgg93
theorem yV:type_of% @Tryz.isAgg49:=@Tryz.isAgg49
theorem yW:type_of% @OKS.append:=@OKS.append
theorem yX:type_of% @Tryz.isAgg136:=@Tryz.isAgg136
theorem yY:type_of% @CK.cut:=@CK.cut
theorem yZ:type_of% @Tryz.sizeOf116:=@Tryz.sizeOf116
theorem ya:type_of% @Tryz.runUnderlying112:=@Tryz.runUnderlying112
theorem yb:type_of% @Tryz.sizeOf133:=@Tryz.sizeOf133
theorem yc:type_of% @Tryz.runUnderlying184:=@Tryz.runUnderlying184
theorem yd:type_of% @Tryz.isAgg34:=@Tryz.isAgg34
theorem ye:type_of% @Tryz.call127:=@Tryz.call127
theorem yf:type_of% @Tryz.sizeOf137:=@Tryz.sizeOf137
theorem yg:type_of% @Runs.subw:=@Runs.subw
theorem yh:type_of% @Tryz.isAgg115:=@Tryz.isAgg115
theorem yi:type_of% @CK.fresh:=@CK.fresh
theorem yj:type_of% @Tryz.isAgg200:=@Tryz.isAgg200
theorem yk:type_of% @OKS.ra:=@OKS.ra
theorem yl:type_of% @OKS.stR:=@OKS.stR
theorem ym:type_of% @Tryz.isAgg39:=@Tryz.isAgg39
theorem yn:type_of% @Tryz.zeroValue93:=@Tryz.zeroValue93
theorem yo:type_of% @Tryz.call122:=@Tryz.call122
theorem yp:type_of% @RunsK.to:=@RunsK.to
theorem yq:type_of% @CK.iter:=@CK.iter
end Go.Proofs.YtlnfbjphfoipaaaGreat
namespace Go.Proofs.YtlnfbjphfoipaaaGreat
open Go.KL
set_option maxHeartbeats 4000000
theorem wFp (p0:wAA) (aj:Option Addr) (aq:Nat) (ak:Option Addr) (au:Nat) (am:Option Addr) (av:Nat) (ap:Option Addr) (az:Nat) (w:World) (U:PHeap) (hS:St0 w U []) (a0:Sl U 1 aj aq p0.Starts.length (hH KL.encI p0.Starts)) (ba:Sl U 2 ak au p0.Splits.length (hH wAB p0.Splits)) (bb:Sl U 3 am av p0.Clocks.length (hH wAD p0.Clocks)) (bd:Sl U 4 ap az p0.Readings.length (hH wAC p0.Readings)) {r:Bool} (hm:wBU p0=some r):Gv Tryz.prog 8 [.agg #[.slice aj p0.Starts.length aq,.slice ak p0.Splits.length au,.slice am p0.Clocks.length av,.slice ap p0.Readings.length az]] w (wCs w [] U (fun U_ L_ v=>v=.bool r/\L_=[])):=by
 unfold wBU at hm
 refine Gv.of Tryz.func8 rfl Tryz.ntmps8 Tryz.results8 rfl (sR gAf rfl (ZH (cs:=[.slice aj p0.Starts.length aq,.slice ak p0.Splits.length au,.slice am p0.Clocks.length av,.slice ap p0.Readings.length az]) rfl rfl rfl rfl rfl rfl (by rfl) hS ?_))
 intro W1 b2 ai
 refine oA Z Z (eN (sR fL23 Z (oR Z (zF Z Z zQ Z zX) (oL Z (ai.ldB (j:=0) Z Z Z zY (v:=.slice aj p0.Starts.length aq) Z) (oR Z (zf Z Z zB) (oR Z (yN Z Z Z) (oM Z Z ?_)))))))
 by_cases c5:10 < (↑p0.Starts.length:Int)
 have aT:=hm;rw [if_pos c5] at aT;replace c5:=zL c5
 refine oT Z c5 (oT Z c5 (oT Z c5 (oT Z c5 (oR Z (zn Z (Zk c5.out) Z) (oM Z Z (oN Z (oN Z (oN Z (oN Z (oR Z (zn Z Z Z) (oM Z Z (oN Z (oN Z (oN Z (oN Z (oR Z (zn Z Z Z) (oA Z Z (eN (zR ?_)))))))))))))))))))
 have hE:=nD aT;first | subst r | cases hE
 exact ⟨rfl,_,(ZF rfl),U,_,(ai.pick [] _ (by decide) rfl),rfl,rfl⟩
 have aU:=hm;rw [if_neg c5] at aU;replace c5:=zL c5
 refine rU Z (wF Z c5) (zF Z Z zQ Z ZX) (ZI Z Z Z (wF Z c5) (ai.ldB (j:=0) Z Z Z Za (v:=.slice ak p0.Splits.length au) Z) Z (rU Z (wF Z c5) (zf Z Z zw) (rU Z (wF Z c5) (yN Z Z Z) (oR Z (zq Z (Zh c5.out) Z) (oM Z Z (ifc aU ?_ ?_))))))
 intro c8 aX
 refine oT Z c8 (oT Z c8 (oT Z c8 (oT Z c8 (oR Z (zn Z (Zk c8.out) Z) (oM Z Z (oN Z (oN Z (oN Z (oN Z (oR Z (zn Z Z Z) (oA Z Z (eN (zR ?_)))))))))))))
 have hE:=nD aX;first | subst r | cases hE
 exact ⟨rfl,_,(ZF rfl),U,_,(ai.pick [] _ (by decide) rfl),rfl,rfl⟩
 intro c8 aV
 refine rU Z (wF Z c8) (zF Z Z zQ Z Zt) (ZI Z Z Z (wF Z c8) (ai.ldB (j:=0) Z Z Z Zy (v:=.slice am p0.Clocks.length av) Z) Z (rU Z (wF Z c8) (zf Z Z ZL) (rU Z (wF Z c8) (yN Z Z Z) (oR Z (zq Z (Zh c8.out) Z) (oM Z Z (ifc aV ?_ ?_))))))
 intro ae aW
 refine oT Z ae (oT Z ae (oT Z ae (oT Z ae (oR Z (zn Z (Zk ae.out) Z) (oA Z Z (eN (zR ?_)))))))
 have hE:=nD aW;first | subst r | cases hE
 exact ⟨rfl,_,(ZF rfl),U,_,(ai.pick [] _ (by decide) rfl),rfl,rfl⟩
 intro ae aS
 refine rU Z (wF Z ae) (zF Z Z zQ Z yO) (ZI Z Z Z (wF Z ae) (ai.ldB (j:=0) Z Z Z yQ (v:=.slice ap p0.Readings.length az) Z) Z (rU Z (wF Z ae) (zf Z Z Zf) (rU Z (wF Z ae) (yN Z Z Z) (oR Z (zq Z (Zh ae.out) Z) (oA Z Z (eN (zR ?_)))))))
 first | (obtain rfl:=nD aS) | cases aS
 exact ⟨rfl,_,(ZF rfl),U,_,(ai.pick [] _ (by decide) rfl),rfl,rfl⟩
theorem wBq (w:World) (U:PHeap) (hS:St0 w U []) {r:Bool} (hm:wAq=some r):Gv Tryz.prog 9 [] w (wCs w [] U (fun U_ L_ v=>v=.bool r/\L_=[])):=by
 cases hm
 refine (xr9 w).mono ?_
 rintro v w' ⟨rfl,k⟩
 exact ⟨U,[],hS.grow k,Z,Z⟩
theorem wAk (p0:List Int) (ak:Option Addr) (am:Nat) (w:World) (U:PHeap) (hS:St0 w U []) (aT:Sl U 1 ak am p0.length (hH KL.encI p0)) {r:(List Int)} (hm:wAd p0=some r):Gv Tryz.prog 32 [.slice ak p0.length am] w (wCs w [] U (fun U_ L_ v=>∃ (A0:Option Addr) (c0:Nat),v=.slice A0 r.length c0/\L_=[.row A0 c0 3 1 (hH KL.encI r)])):=by
 unfold wAd at hm
 refine Gv.of Tryz.func32 Z Tryz.ntmps32 Tryz.results32 Z (sR fL1 Z (oA Z Z (eN (sR gAr Z (oM Z Z ?_)))))
 have av:=hS.nilrow 3 1
 have aj:sW w U U [.row none 0 3 1 (hH KL.encI ([]:List Int))] w:=av
 refine bnK hm fun x4 h5 aU=>yW (j:=0) (enc:=KL.encI) (xs:=([]:List Int)) (ys:=p0) (zs:=x4) Z Z Z Z Z Tryz.underlying22 wOi Z Z Z Z Z Z aj Z Z Z (aj.srcS aT) (fun _=>Z) (fun _=>Z) h5 Z ?_
 intro A7 c8 W9 az
 have aS:sW w U U [.row A7 c8 3 1 (hH KL.encI x4)] W9:=az
 refine oA Z Z (eN (zR ?_))
 have hE:=nD aU;first | subst r | cases hE
 exact ⟨Z,_,(ZF Z),U,_,aS,A7,c8,Z,Z⟩
theorem wBO (p0:List wAX) (ak:Option Addr) (am:Nat) (w:World) (U:PHeap) (hS:St0 w U []) (aT:Sl U 2 ak am p0.length (hH wAB p0)) {r:(List wAX)} (hm:wAl p0=some r):Gv Tryz.prog 60 [.slice ak p0.length am] w (wCs w [] U (fun U_ L_ v=>∃ (A0:Option Addr) (c0:Nat),v=.slice A0 r.length c0/\L_=[.row A0 c0 39 2 (hH wAB r)])):=by
 unfold wAl at hm
 refine Gv.of Tryz.func60 Z Tryz.ntmps60 Tryz.results60 Z (sR fL1 Z (oA Z Z (eN (sR gAr Z (oM Z Z ?_)))))
 have av:=hS.nilrow 39 2
 have aj:sW w U U [.row none 0 39 2 (hH wAB ([]:List wAX))] w:=av
 refine bnK hm fun x4 h5 aU=>yW (j:=0) (enc:=wAB) (xs:=([]:List wAX)) (ys:=p0) (zs:=x4) Z Z Z Z Z Tryz.underlying23 wTW Z Z Z Z Z Z aj Z Z Z (aj.srcS aT) (fun _=>Z) (fun _=>Z) h5 Z ?_
 intro A7 c8 W9 az
 have aS:sW w U U [.row A7 c8 39 2 (hH wAB x4)] W9:=az
 refine oA Z Z (eN (zR ?_))
 have hE:=nD aU;first | subst r | cases hE
 exact ⟨Z,_,(ZF Z),U,_,aS,A7,c8,Z,Z⟩
theorem wDs (p0:List wAZ) (ak:Option Addr) (am:Nat) (w:World) (U:PHeap) (hS:St0 w U []) (aT:Sl U 3 ak am p0.length (hH wAD p0)) {r:(List wAZ)} (hm:wBE p0=some r):Gv Tryz.prog 61 [.slice ak p0.length am] w (wCs w [] U (fun U_ L_ v=>∃ (A0:Option Addr) (c0:Nat),v=.slice A0 r.length c0/\L_=[.row A0 c0 112 3 (hH wAD r)])):=by
 unfold wBE at hm
 refine Gv.of Tryz.func61 Z Tryz.ntmps61 Tryz.results61 Z (sR fL1 Z (oA Z Z (eN (sR gAr Z (oM Z Z ?_)))))
 have av:=hS.nilrow 112 3
 have aj:sW w U U [.row none 0 112 3 (hH wAD ([]:List wAZ))] w:=av
 refine bnK hm fun x4 h5 aU=>yW (j:=0) (enc:=wAD) (xs:=([]:List wAZ)) (ys:=p0) (zs:=x4) Z Z Z Z Z Tryz.underlying24 wRn Z Z Z Z Z Z aj Z Z Z (aj.srcS aT) (fun _=>Z) (fun _=>Z) h5 Z ?_
 intro A7 c8 W9 az
 have aS:sW w U U [.row A7 c8 112 3 (hH wAD x4)] W9:=az
 refine oA Z Z (eN (zR ?_))
 have hE:=nD aU;first | subst r | cases hE
 exact ⟨Z,_,(ZF Z),U,_,aS,A7,c8,Z,Z⟩
theorem wDa (p0:List wAO) (ak:Option Addr) (am:Nat) (w:World) (U:PHeap) (hS:St0 w U []) (aT:Sl U 4 ak am p0.length (hH wAC p0)) {r:(List wAO)} (hm:wAw p0=some r):Gv Tryz.prog 62 [.slice ak p0.length am] w (wCs w [] U (fun U_ L_ v=>∃ (A0:Option Addr) (c0:Nat),v=.slice A0 r.length c0/\L_=[.row A0 c0 115 4 (hH wAC r)])):=by
 unfold wAw at hm
 refine Gv.of Tryz.func62 Z Tryz.ntmps62 Tryz.results62 Z (sR fL1 Z (oA Z Z (eN (sR gAr Z (oM Z Z ?_)))))
 have av:=hS.nilrow 115 4
 have aj:sW w U U [.row none 0 115 4 (hH wAC ([]:List wAO))] w:=av
 refine bnK hm fun x4 h5 aU=>yW (j:=0) (enc:=wAC) (xs:=([]:List wAO)) (ys:=p0) (zs:=x4) Z Z Z Z Z Tryz.underlying25 wRo Z Z Z Z Z Z aj Z Z Z (aj.srcS aT) (fun _=>Z) (fun _=>Z) h5 Z ?_
 intro A7 c8 W9 az
 have aS:sW w U U [.row A7 c8 115 4 (hH wAC x4)] W9:=az
 refine oA Z Z (eN (zR ?_))
 have hE:=nD aU;first | subst r | cases hE
 exact ⟨Z,_,(ZF Z),U,_,aS,A7,c8,Z,Z⟩
theorem wCM (p0:wAA) (ap:Option Addr) (az:Nat) (aq:Option Addr) (aS:Nat) (au:Option Addr) (aT:Nat) (av:Option Addr) (aU:Nat) (w:World) (U:PHeap) (hS:St0 w U []) (cb:Sl U 1 ap az p0.Starts.length (hH KL.encI p0.Starts)) (cd:Sl U 2 aq aS p0.Splits.length (hH wAB p0.Splits)) (cf:Sl U 3 au aT p0.Clocks.length (hH wAD p0.Clocks)) (cg:Sl U 4 av aU p0.Readings.length (hH wAC p0.Readings)) {r:wAA} (hm:wBl p0=some r):Gv Tryz.prog 10 [.agg #[.slice ap p0.Starts.length az,.slice aq p0.Splits.length aS,.slice au p0.Clocks.length aT,.slice av p0.Readings.length aU]] w (wCs w [] U (fun U_ L_ v=>∃ (bj:Option Addr) (bw:Nat) (bk:Option Addr) (bz:Nat) (bm:Option Addr) (bA:Nat) (bn:Option Addr) (bB:Nat),v=.agg #[.slice bj r.Starts.length bw,.slice bk r.Splits.length bz,.slice bm r.Clocks.length bA,.slice bn r.Readings.length bB]/\L_=[.row bj bw 3 1 (hH KL.encI r.Starts),.row bk bz 39 2 (hH wAB r.Splits),.row bm bA 112 3 (hH wAD r.Clocks),.row bn bB 115 4 (hH wAC r.Readings)])):=by
 unfold wBl at hm
 refine Gv.of Tryz.func10 Z Tryz.ntmps10 Tryz.results10 Z (sR gAh Z ?_)
 let B0:List Value:=[.slice ap p0.Starts.length az,.slice aq p0.Splits.length aS,.slice au p0.Clocks.length aT,.slice av p0.Readings.length aU]
 refine ZH (cs:=B0) rfl rfl rfl rfl rfl rfl (by rfl) hS ?_
 intro W1 b2 bT
 let B1:List Value:=[.slice none 0 0,.slice none 0 0,.slice none 0 0,.slice none 0 0]
 refine zS (cs:=B1) Z Z Z Z Z Zz Z bT ?_
 intro W5 b6 b5
 refine eN (zK (zy zu [3,1,2,3,1,2,3,1,2,3,1,2,3,0] (.fl 0 (.fl 1 (.fl 3 (.fl 4 (.fl 6 (.fl 7 (.fl 9 (.fl 10 (.fx 2 (.fx 5 (.fx 8 (.fx 11 (.fl 12 (.fx 13 .nil .stop)) .stop) .stop) .stop) .stop))))))))) (by kernel_rfl) ?_))
 have ah:=b5.drew
 generalize hw_W10:({ W5 with drawn:=W5.drawn + 1 }:World)=bE at ah ⊢
 refine oR Z (zF Z Z zQ Z zX) (oL Z (ah.ldB (j:=1) Z Z Z zY (v:=.slice ap p0.Starts.length az) Z) (oR Z (zF Z Z zQ Z ZX) (oL Z (ah.ldB (j:=1) Z Z Z Za (v:=.slice aq p0.Splits.length aS) Z) (oR Z (zF Z Z zQ Z Zt) (oL Z (ah.ldB (j:=1) Z Z Z Zy (v:=.slice au p0.Clocks.length aT) Z) (oR Z (zF Z Z zQ Z yO) (oL Z (ah.ldB (j:=1) Z Z Z yQ (v:=.slice av p0.Readings.length aU) Z) (bnK hm fun bh bH cj=>zI 0 Z Z Z Z (zJ Z Z Tryz.call32 (zC Z zP) Z) ah (fun hs=>wAk p0.Starts ap az bE U hs cb bH) (.inr Z) ?_))))))))
 rintro bp cr cz bs bg bR ⟨aV,a0,rfl,rfl⟩
 let B2:Res:=.row aV a0 3 1 (hH KL.encI bh)
 have bS:sW w U bp [B2,.blk b6 27 B1,.blk b2 27 B0] bs:=bR
 have bI:=cd.le bg
 refine bnK cj fun bi bJ cm=>zI 0 Z Z Z Z (zJ Z Z Tryz.call60 (zC Z zP) Z) bS (fun hs=>wBO p0.Splits aq aS bs bp hs bI bJ) (.inr Z) ?_
 rintro bq ct cA bt bD bU ⟨aW,ba,rfl,rfl⟩
 let B3:Res:=.row aW ba 39 2 (hH wAB bi)
 have bV:sW w U bq [B3,B2,.blk b6 27 B1,.blk b2 27 B0] bt:=bU
 have bK:=cf.le bg
 have bL:=bK.le bD
 refine bnK cm fun x40 bM cn=>zI 0 Z Z Z Z (zJ Z Z Tryz.call61 (zC Z zP) Z) bV (fun hs=>wDs p0.Clocks au aT bt bq hs bL bM) (.inr Z) ?_
 rintro br cu cC bu cq bW ⟨aX,bb,rfl,rfl⟩
 let B4:Res:=.row aX bb 112 3 (hH wAD x40)
 have bX:sW w U br [B4,B3,B2,.blk b6 27 B1,.blk b2 27 B0] bu:=bW
 have bN:=cg.le bg
 have bO:=bN.le bD
 have bP:=bO.le cq
 refine bnK cn fun x56 bQ cp=>zI 0 Z Z Z Z (zJ Z Z Tryz.call62 (zC Z zP) Z) bX (fun hs=>wDa p0.Readings av aU bu br hs bP bQ) (.inr Z) ?_
 rintro bf cw cD bF cy bY ⟨aY,bd,rfl,rfl⟩
 let B5:Res:=.row aY bd 115 4 (hH wAC x56)
 have bZ:sW w U bf [B5,B4,B3,B2,.blk b6 27 B1,.blk b2 27 B0] bF:=bY
 let B6:List Value:=[.slice aV bh.length a0,.slice aW bi.length ba,.slice aX x40.length bb,.slice aY x56.length bd]
 refine oR Z (ZP (pv:=[(0,.slice aV bh.length a0),(1,.slice aW bi.length ba),(2,.slice aX x40.length bb),(3,.slice aY x56.length bd)]) (z:=B1) (cs:=B6) Z (wAI Z (wAI Z (wAI Z (wAI Z wAY)))) Zz wPh Z Z) (zW (j:=4) (vs:=B6) Z Z Z Z bZ Z Z Z Z zr (zA Z) Z Z Z ?_)
 intro bG b9
 have bC:sW w U bf [B5,B4,B3,B2,.blk b6 27 B6,.blk b2 27 B0] bG:=b9
 refine eN (zR ?_)
 cases cp
 exact ⟨rfl,_,(wMJ (v:=.agg B6.toArray) ⟨⟨_,rfl,(wCF ZD zr (bC.blkAt (k:=4) rfl) (vs:=B6) rfl rfl)⟩,trivial⟩),bf,_,(bC.pick [3,2,1,0] _ (by decide) rfl),aV,a0,aW,ba,aX,bb,aY,bd,rfl,rfl⟩
theorem wBc (p0:List (List Int)) (ba:Option Addr) (bd:Nat) (w:World) (U:PHeap) (hS:St0 w U []) (cn:SlR U wEx ba bd p0) {r:(List (List Int))} (hm:wBB p0=some r):Gv Tryz.prog 31 [.slice ba p0.length bd] w (wCs w [] U (fun U_ L_ v=>∃ (A0:Option Addr) (c0:Nat) (bw:List Hd),v=.slice A0 r.length c0/\L_=[.row A0 c0 22 1 (hH wDU bw),inn 3 1 KL.encI bw r])):=by
 unfold wBB at hm
 refine Gv.of Tryz.func31 Z Tryz.ntmps31 Tryz.results31 Z (sR fL1 Z (oA Z Z (eN (sR fL1 Z (oA Z Z (eN (zK (sR fL3 Z (oM Z Z (oR Z (zf Z Z zV) (oM Z Z (eN (zd (bnK hm fun cN cq cw=>?_))))))))))))))
 have q:=wCl cq
 obtain ⟨a0,cr⟩:=q
 replace a0:=zL a0
 refine CK.forN' (fun ak ai σ_ w_=>∃ (U_:PHeap) (am:Option Addr) (az:Nat) (aa:List Hd),σ_ 8=jV (↑ak:Int)/\σ_ 3=.slice am ai.length az/\σ_ 6=.slice ba p0.length bd/\σ_ 7=jV (↑p0.length:Int)/\PHeap.Le U U_/\sW w U U_ [.row am az 22 1 (hH wDU aa),inn 3 1 KL.encI aa ai] w_) cr ?_ ?_ ?_
 have bY:=hS.nilrow 22 1
 have bZ:=bY.innNil 3 1 KL.encI
 have b5:sW w U U [inn 3 1 KL.encI ([]:List Hd) ([]:List (List Int)),.row none 0 22 1 []] w:=bZ
 exact ⟨U,none,0,[],rfl,rfl,rfl,rfl,(zM _),(b5.pick [1,0] _ (by decide) rfl)⟩
 rintro ak ai cM cP bD aZ ⟨bm,am,az,aa,aV,bK,br,bs,bA,bv⟩ cC
 have bp:Hid ((↑ak:Int) < (↑p0.length:Int)):=zL (wBR aZ)
 replace aZ:=zL aZ
 have ct:Hid (w64 ((↑ak:Int) + 1)=(↑(ak + 1):Int)):=zL (by have h1:=a0.out;have h2:=bp.out;rw [wAU] <;> omega)
 refine sR fL1 Z (oR Z (zg Z aV bs) (eN (zK (cT Z bp (kN (zK (zd (sR fL3 Z (bnK cC fun bf bt cx=>?_)))))))))
 have bN:=cn.le bA
 have q:=bN.el (wAP bt)
 obtain ⟨bF,cE,cL,bR,aW,cA⟩:=q
 obtain ⟨bb,be,rfl,bO⟩:=cA
 replace aW:Cl bm bF (cE + ak * 1) [.slice bb bf.length be]:=aW
 refine oR Z (ZJ Z br bR aV zV zX (wBa bt)) (oL Z (bv.ldC (f:=0) aW (v:=.slice bb bf.length be) Z Z zY Z) (oA Z Z (eN (rR (.fl 0 (.fl 1 (.fx 2 gAs .stop))) Z (oM Z bK (oM Z Z (bnK cx fun x63 bP cy=>zI 0 Z Z Z Z (zJ Z Z Tryz.call32 (zC Z zP) Z) bv (fun hs=>wAk bf bb be bD bm hs bO bP) (.inr Z) ?_)))))))
 rintro ah cG cK bE cD b9 ⟨ab,ae,rfl,rfl⟩
 let B0:Res:=.row am az 22 1 (hH wDU aa)
 let B1:Res:=.row ab ae 3 1 (hH KL.encI x63)
 have cb:sW w U ah [B1,B0,inn 3 1 KL.encI aa ai] bE:=b9
 let B2:List Value:=[.slice ab x63.length ae]
 refine Zg (pv:=[(0,.slice ab x63.length ae)]) (zs:=[.slice none 0 0]) (cs:=B2) Z Z Z Z Z (wAI Z wAY) zV zX Tryz.zeroValue22 Z Z Z Z Z cb ?_
 intro aU bn cd
 let B3:Res:=.row (some ⟨bn,0,none⟩) 1 22 1 B2
 have cf:sW w U ah [B3,B1,B0,inn 3 1 KL.encI aa ai] aU:=cd
 have cg:sW w U ah [B1,B3,B0,inn 3 1 KL.encI aa ai] aU:=cf.pick [1,0,2,3] _ (by decide) rfl
 have cj:=cg.innOne
 let B4:Res:=.row (some ⟨bn,0,none⟩) 1 22 1 (hH wDU [(⟨ab,x63.length,ae⟩:Hd)])
 have aS:sW w U ah [inn 3 1 KL.encI [(⟨ab,x63.length,ae⟩:Hd)] [x63],B4,B0,inn 3 1 KL.encI aa ai] aU:=cj
 refine bnK cy fun bg bQ cz=>?_
 have aX:=aS.innFit (j:=3) rfl
 have aY:=aS.innFit (j:=0) rfl
 have q:=wQP bQ aX aY
 obtain ⟨cp,bz⟩:=q
 refine yW (j:=2) (enc:=wDU) (xs:=aa) (ys:=[(⟨ab,x63.length,ae⟩:Hd)]) rfl rfl rfl rfl rfl Tryz.underlying49 wOj rfl rfl rfl rfl rfl rfl aS rfl (slen rfl aX) (slen rfl aY) (aS.srcR (j:=1) rfl (by decide) (wAJ (f:=wDU) (sz:=1) (fun _=>rfl) [(⟨ab,x63.length,ae⟩:Hd)])) (fun _=>rfl) (fun _=>rfl) cp rfl ?_
 intro bi bq av cm
 have cu:(aa ++ [(⟨ab,x63.length,ae⟩:Hd)]:List Hd).length=bg.length:=by rw [bz,nI,nI,aX.len,aY.len]
 rw [cu]
 let B5:Res:=.row bi bq 22 1 (hH wDU (aa ++ [(⟨ab,x63.length,ae⟩:Hd)]:List Hd))
 have bS:sW w U ah [inn 3 1 KL.encI [(⟨ab,x63.length,ae⟩:Hd)] [x63],B4,B5,inn 3 1 KL.encI aa ai] av:=cm
 have bT:sW w U ah [inn 3 1 KL.encI aa ai,inn 3 1 KL.encI [(⟨ab,x63.length,ae⟩:Hd)] [x63],B4,B5] av:=bS.pick [3,0,1,2] _ (by decide) rfl
 have bu:=bT.innApp
 rw [<- bz] at bu
 have bU:sW w U ah [inn 3 1 KL.encI (aa ++ [(⟨ab,x63.length,ae⟩:Hd)]:List Hd) bg,B4,B5] av:=bu
 have bV:=bU.drop 1
 have bW:sW w U ah [inn 3 1 KL.encI (aa ++ [(⟨ab,x63.length,ae⟩:Hd)]:List Hd) bg,B5] av:=bV
 refine oA Z Z (zo (zt (zH (rR fL2 Z (oR Z (ZT (zi Z aV Z) (congrArg (jV) ct.out)) (oM Z Z (zo ?_)))))))
 cases cz
 exact zH ⟨rfl,⟨ah,bi,bq,(aa ++ [(⟨ab,x63.length,ae⟩:Hd)]:List Hd),rfl,rfl,br,bs,(bA.trans cD),(bW.pick [1,0] _ (by decide) rfl)⟩⟩
 rintro cO cH ⟨bC,bB,bG,bM,bL,bI,cI,bJ,cJ,bX⟩
 have bH:Hid (¬ ((↑(((↑p0.length:Int):Int) - 0).toNat:Int) < (↑p0.length:Int))):=zL (wAs)
 refine sR fL1 Z (oR Z (zg Z bL bJ) (eN (zK (cF Z bH (ZU (zk (zk (ZM (zH (sR fL2 Z (oM Z bI (oA Z Z (eN (zR ?_))))))))))))))
 have hE:=nD cw;first | subst r | cases hE
 exact ⟨Z,_,(ZF Z),bC,_,bX,bB,bG,bM,Z,Z⟩
theorem wCH (p0:wAA) (bo:Option Addr) (bp:Nat) (bd:Option Addr) (be:Nat) (bw:Option Addr) (bA:Nat) (bz:Option Addr) (bB:Nat) (w:World) (U:PHeap) (hS:St0 w U []) (dI:Sl U 1 bo bp p0.Starts.length (hH KL.encI p0.Starts)) (cz:Sl U 2 bd be p0.Splits.length (hH wAB p0.Splits)) (fY:Sl U 3 bw bA p0.Clocks.length (hH wAD p0.Clocks)) (fZ:Sl U 4 bz bB p0.Readings.length (hH wAC p0.Readings)) {r:wAK} (hm:wBV p0=some r):Gv Tryz.prog 11 [.agg #[.slice bo p0.Starts.length bp,.slice bd p0.Splits.length be,.slice bw p0.Clocks.length bA,.slice bz p0.Readings.length bB]] w (wCs w [] U (fun U_ L_ v=>∃ (cH:Option Addr) (df:Nat) (cI:Option Addr) (dg:Nat) (cJ:Option Addr) (dh:Nat) (cK:Option Addr) (dk:Nat),v=.agg #[.slice cH r.Starts.length df,.slice cI r.Splits.length dg,.slice cJ r.Clocks.length dh,.slice cK r.Readings.length dk]/\L_=[.row cH df 3 1 (hH KL.encI r.Starts),.row cI dg 39 2 (hH wAB r.Splits),.row cJ dh 116 3 (hH wAG r.Clocks),.row cK dk 117 4 (hH wAF r.Readings)])):=by
 unfold wBV at hm
 refine Gv.of Tryz.func11 Z Tryz.ntmps11 Tryz.results11 Z (sR gAh Z ?_)
 let B0:List Value:=[.slice bo p0.Starts.length bp,.slice bd p0.Splits.length be,.slice bw p0.Clocks.length bA,.slice bz p0.Readings.length bB]
 refine ZH (cs:=B0) rfl rfl rfl rfl rfl rfl (by rfl) hS ?_
 intro W1 b2 fE
 let B1:List Value:=[.slice none 0 0,.slice none 0 0,.slice none 0 0,.slice none 0 0]
 refine zS (cs:=B1) Z Z Z Z Z Zi Z fE ?_
 intro W5 b6 fQ
 refine eN ?_
 have q:=bnd hm
 obtain ⟨⟨aT,aU⟩,gu,dJ⟩:=q
 try dsimp only at dJ
 refine yY (fun σ_ w_=>∃ (U_:PHeap) (ap:Nat) (ak:Option Addr) (aq:Nat) (am:Option Addr) (au:Nat),σ_ 1=.pointer (some ⟨b2,0,none⟩)/\σ_ 2=.pointer (some ⟨b6,0,none⟩)/\σ_ 3=.pointer (some ⟨ap,0,none⟩)/\PHeap.Le U U_/\sW w U U_ [.blk b6 36 B1,.blk b2 27 B0,.blk ap 36 [.slice ak aT.length aq,.slice am aU.length au,.slice none 0 0,.slice none 0 0],.row ak aq 3 1 (hH KL.encI aT),.row am au 39 2 (hH wAB aU)] w_) ?_ ?_
 refine bnK gu fun aY dw gt=>bnK gt fun aV cw cG=>zy zu [3,1,2,3,1,2,3,2,0] (.fl 0 (.fl 1 (.fl 3 (.fl 4 (.fx 2 (.fx 5 (.fl 6 (.fx 7 (.fx 8 .nil .stop) .stop)) (.fx 7 gAt .stop)) (.fx 7 (.fx 2 gAt .stop) .stop)))))) (by kernel_rfl) ?_
 have bt:=fQ.drew
 generalize hw_W57:({ W5 with drawn:=W5.drawn + 1 }:World)=d7 at bt ⊢
 refine oR Z (zF Z Z zQ Z zX) (oL Z (bt.ldB (j:=1) Z Z Z zY (v:=.slice bo p0.Starts.length bp) Z) (oR Z (zF Z Z zQ Z ZX) (oL Z (bt.ldB (j:=1) Z Z Z Za (v:=.slice bd p0.Splits.length be) Z) (zl ?_ ?_))))
 refine zI 0 Z Z Z Z (zJ Z Z Tryz.call32 (zC Z zP) Z) bt (fun hs=>wAk p0.Starts bo bp d7 U hs dI dw) (.inr Z) ?_
 rintro cj gE g8 db bS fP ⟨aZ,a0,rfl,rfl⟩
 let B2:Res:=.row aZ a0 3 1 (hH KL.encI aY)
 have dH:sW w U cj [B2,.blk b6 36 B1,.blk b2 27 B0] db:=fP
 refine zl ?_ ?_
 have eV:=cz.le bS
 refine zI 0 Z Z Z Z (zJ Z Z Tryz.call60 (zC Z zP) Z) dH (fun hs=>wBO p0.Splits bd be db cj hs eV cw) (.inr Z) ?_
 rintro cm gF g9 d8 gA fR ⟨bI,bR,rfl,rfl⟩
 let B3:Res:=.row bI bR 39 2 (hH wAB aV)
 have fS:sW w U cm [B3,B2,.blk b6 36 B1,.blk b2 27 B0] d8:=fR
 let B4:List Value:=[.slice aZ aY.length a0,.slice bI aV.length bR,.slice none 0 0,.slice none 0 0]
 refine oR Z (ZP (pv:=[(0,.slice aZ aY.length a0),(1,.slice bI aV.length bR)]) (z:=B1) (cs:=B4) Z (wAI Z (wAI Z wAY)) Zi wJJ Z Z) (zS (cs:=B1) Z Z Z Z Z Zi Z fS ?_)
 intro gO de fT
 refine zW (j:=0) (vs:=B4) Z Z Z Z fT Z Z Z Z Zc (zA Z) Z Z Z ?_
 intro d9 fU
 have fV:sW w U cm [.blk de 36 B4,B3,B2,.blk b6 36 B1,.blk b2 27 B0] d9:=fU
 refine zo ?_
 cases cG
 exact zH ⟨rfl,⟨cm,de,aZ,a0,bI,bR,rfl,rfl,rfl,(bS.trans gA),(fV.pick [3,4,0,2,1] _ (by decide) rfl)⟩⟩
 refine zS (cs:=B1) Z Z Z Z Z Zi Z dH ?_
 intro ec cn fW
 have eL:=cz.le bS
 refine zI 0 Z Z Z Z (zJ Z Z Tryz.call60 (zC Z zP) Z) fW (fun hs=>wBO p0.Splits bd be ec cj hs eL cw) (.inr Z) ?_
 rintro cf gB gX dP gx e8 ⟨bD,bM,rfl,rfl⟩
 let B5:Res:=.row bD bM 39 2 (hH wAB aV)
 have e9:sW w U cf [B5,.blk cn 36 B1,B2,.blk b6 36 B1,.blk b2 27 B0] dP:=e8
 let B6:List Value:=[.slice aZ aY.length a0,.slice bD aV.length bM,.slice none 0 0,.slice none 0 0]
 refine oR Z (ZP (pv:=[(0,.slice aZ aY.length a0),(1,.slice bD aV.length bM)]) (z:=B1) (cs:=B6) Z (wAI Z (wAI Z wAY)) Zi wJJ Z Z) (zW (j:=1) (vs:=B6) Z Z Z Z e9 Z Z Z Z Zc (zA Z) Z Z Z ?_)
 intro dQ fb
 have fc:sW w U cf [B5,.blk cn 36 B6,B2,.blk b6 36 B1,.blk b2 27 B0] dQ:=fb
 refine zo ?_
 cases cG
 exact zH ⟨rfl,⟨cf,cn,aZ,a0,bD,bM,rfl,rfl,rfl,(bS.trans gx),(fc.pick [3,4,1,2,0] _ (by decide) rfl)⟩⟩
 refine zS (cs:=B1) Z Z Z Z Z Zi Z bt ?_
 intro dR bJ fd
 refine zI 0 Z Z Z Z (zJ Z Z Tryz.call32 (zC Z zP) Z) fd (fun hs=>wAk p0.Starts bo bp dR U hs dI dw) (.inr Z) ?_
 rintro cV gC gZ cZ dK ff ⟨bE,bN,rfl,rfl⟩
 let B7:Res:=.row bE bN 3 1 (hH KL.encI aY)
 have fg:sW w U cV [B7,.blk bJ 36 B1,.blk b6 36 B1,.blk b2 27 B0] cZ:=ff
 have eM:=cz.le dK
 refine zI 0 Z Z Z Z (zJ Z Z Tryz.call60 (zC Z zP) Z) fg (fun hs=>wBO p0.Splits bd be cZ cV hs eM cw) (.inr Z) ?_
 rintro cg gD g7 dS gy fh ⟨bF,bO,rfl,rfl⟩
 let B8:Res:=.row bF bO 39 2 (hH wAB aV)
 have fj:sW w U cg [B8,B7,.blk bJ 36 B1,.blk b6 36 B1,.blk b2 27 B0] dS:=fh
 let B9:List Value:=[.slice bE aY.length bN,.slice bF aV.length bO,.slice none 0 0,.slice none 0 0]
 refine oR Z (ZP (pv:=[(0,.slice bE aY.length bN),(1,.slice bF aV.length bO)]) (z:=B1) (cs:=B9) Z (wAI Z (wAI Z wAY)) Zi wJJ Z Z) (zW (j:=2) (vs:=B9) Z Z Z Z fj Z Z Z Z Zc (zA Z) Z Z Z ?_)
 intro dT fm
 have fq:sW w U cg [B8,B7,.blk bJ 36 B9,.blk b6 36 B1,.blk b2 27 B0] dT:=fm
 refine zo ?_
 cases cG
 exact zH ⟨rfl,⟨cg,bJ,bE,bN,bF,bO,rfl,rfl,rfl,(dK.trans gy),(fq.pick [3,4,2,1,0] _ (by decide) rfl)⟩⟩
 rintro ie gH ⟨cW,ap,ak,aq,am,au,dp,en,eu,dL,dz⟩
 refine zK (sR fL4 Z (oR Z (zF Z dp zQ Z Zt) (oL Z (dz.ldB (j:=1) Z Z Z Zy (v:=.slice bw p0.Clocks.length bA) Z) (oR Z (zf Z Z ZL) (oM Z Z (eN (zd (bnK dJ fun bC ga gi=>?_))))))))
 have q:=wCl ga
 obtain ⟨cD,gb⟩:=q
 replace cD:=zL cD
 let az:Res:=.row am au 39 2 (hH wAB aU)
 let aS:Res:=.row ak aq 3 1 (hH KL.encI aT)
 refine CK.forN' (fun bu ba σ_ w_=>∃ (U_:PHeap) (bf:Option Addr) (bk:Nat),σ_ 18=jV (↑bu:Int)/\σ_ 1=.pointer (some ⟨b2,0,none⟩)/\σ_ 2=.pointer (some ⟨b6,0,none⟩)/\σ_ 3=.pointer (some ⟨ap,0,none⟩)/\σ_ 16=.slice bw p0.Clocks.length bA/\σ_ 17=jV (↑p0.Clocks.length:Int)/\PHeap.Le cW U_/\sW w U U_ [.blk b6 36 B1,.blk b2 27 B0,aS,az,.row bf bk 116 3 (hH wAG ba),.blk ap 36 [.slice ak aT.length aq,.slice am aU.length au,.slice bf ba.length bk,.slice none 0 0]] w_) gb ?_ ?_ ?_
 have ft:=dz.nilrow 116 3
 exact ⟨cW,none,0,rfl,dp,en,eu,rfl,rfl,(zM _),(ft.pick [1,2,4,5,0,3] _ (by decide) rfl)⟩
 rintro bu ba ib ig gI cA ⟨br,bf,bk,ct,ey,eA,cq,dq,dr,dM,dA⟩ gv
 have dl:Hid ((↑bu:Int) < (↑p0.Clocks.length:Int)):=zL (wBR cA)
 replace cA:=zL cA
 have gg:Hid (w64 ((↑bu:Int) + 1)=(↑(bu + 1):Int)):=zL (by have h1:=cD.out;have h2:=dl.out;rw [wAU] <;> omega)
 refine sR fL1 Z (oR Z (zg Z ct dr) (eN (zK (cT Z dl (kN (zK (zd (sR gAz Z (bnK gv fun av dx gj=>?_)))))))))
 have eO:=fY.le dL
 have eP:=eO.le dM
 have q:=eP.el (fun _=>rfl) (wAP dx)
 obtain ⟨gP,gU,eW,eY⟩:=q
 refine oR Z (ZJ Z dq eW ct ZL Zo (wBa dx)) (oL Z (dA.ldCA (f:=0) eY Z Z Tryz.isAgg112 Zo (us:=[jV av.Offset.Lo,jV av.Offset.Hi,jV av.Error]) Z Z) ?_)
 let cL:List Value:=[jV 0,jV 0,jV 0]
 refine zS (cs:=cL) Z Z Z Z Z Tryz.zeroValue112 Z dA ?_
 intro gJ bK fu
 let aW:List Value:=[jV av.Offset.Lo,jV av.Offset.Hi,jV av.Error]
 refine zW (j:=0) (vs:=aW) Z Z Z Z fu Z Z Z Z Zo (zA Z) Z Z Z ?_
 intro dU fw
 let bW:Res:=.blk ap 36 [.slice ak aT.length aq,.slice am aU.length au,.slice bf ba.length bk,.slice none 0 0]
 let cM:Res:=.row bf bk 116 3 (hH wAG ba)
 have cx:sW w U br [.blk bK 112 aW,.blk b6 36 B1,.blk b2 27 B0,aS,az,cM,bW] dU:=fw
 refine eN (rR (wFK gBa) Z (oR Z (zF Z cq zU Z Zp) (oL Z (cx.ldB (j:=6) Z Z Z yC (v:=.slice bf ba.length bk) Z) (oL Z (cx.ldBA (j:=0) Z Z Z Tryz.isAgg112 Zo (vs:=aW) Z Z) (Zg (pv:=[(0,.agg aW.toArray)]) (zs:=cL) (cs:=aW) Z Z Z Z Z (wAI Z wAY) Zb yZ Tryz.zeroValue116 Z Z Z Z Z cx ?_)))))
 intro dV ef fy
 let bX:Res:=.row (some ⟨ef,0,none⟩) 1 116 3 (hH wAG [(⟨av.Offset,av.Error⟩:wAp)])
 have dB:sW w U br [bX,.blk bK 112 aW,.blk b6 36 B1,.blk b2 27 B0,aS,az,cM,bW] dV:=fy
 refine bnK gj fun bT eQ gk=>yW (j:=6) (enc:=wAG) (xs:=ba) (ys:=[(⟨av.Offset,av.Error⟩:wAp)]) (zs:=bT) rfl rfl rfl rfl rfl Tryz.underlying33 wRp rfl rfl rfl rfl rfl rfl dB rfl rfl rfl (dB.srcR (j:=0) rfl (by decide) (wAJ (f:=wAG) (sz:=3) (fun _=>rfl) [(⟨av.Offset,av.Error⟩:wAp)])) (fun _=>rfl) (fun _=>rfl) eQ rfl ?_
 intro bG bP dW fz
 let cN:Res:=.row bG bP 116 3 (hH wAG bT)
 have fA:sW w U br [bX,.blk bK 112 aW,.blk b6 36 B1,.blk b2 27 B0,aS,az,cN,bW] dW:=fz
 refine oR Z (zF Z cq zU Z Zp) (zW (j:=7) (vs:=[.slice bG bT.length bP]) Z Z Z Z fA Z Z Z Z Zp (zA Z) Z Z Z ?_)
 intro dX fB
 have fC:sW w U br [bX,.blk bK 112 aW,.blk b6 36 B1,.blk b2 27 B0,aS,az,cN,.blk ap 36 [.slice ak aT.length aq,.slice am aU.length au,.slice bG bT.length bP,.slice none 0 0]] dX:=fB
 refine zo (zt (zH (rR fL2 Z (oR Z (ZT (zi Z ct Z) (congrArg (jV) gg.out)) (oM Z Z (zo ?_))))))
 cases gk
 exact zH ⟨rfl,⟨br,bG,bP,rfl,ey,eA,cq,dq,dr,dM,(fC.pick [2,3,4,5,6,7] _ (by decide) rfl)⟩⟩
 rintro ii gK ⟨cX,bg,bm,eJ,eC,eD,eE,gR,eF,gz,dC⟩
 have eh:Hid (¬ ((↑(((↑p0.Clocks.length:Int):Int) - 0).toNat:Int) < (↑p0.Clocks.length:Int))):=zL (wAs)
 refine sR fL1 Z (oR Z (zg Z eJ eF) (eN (zK (cF Z eh (ZU (zk (zk (ZM (zH (zK (sR fL4 Z (oR Z (zF Z eC zQ Z yO) (oL Z (dC.ldB (j:=1) Z Z Z yQ (v:=.slice bz p0.Readings.length bB) Z) (oR Z (zf Z Z Zf) (oM Z Z (eN (zd (bnK gi fun dO ge gm=>?_))))))))))))))))))
 have q:=wCl ge
 obtain ⟨cE,gf⟩:=q
 replace cE:=zL cE
 let bi:Res:=.row bg bm 116 3 (hH wAG bC)
 refine CK.forN' (fun bv bb σ_ w_=>∃ (U_:PHeap) (bh:Option Addr) (bn:Nat),σ_ 32=jV (↑bv:Int)/\σ_ 2=.pointer (some ⟨b6,0,none⟩)/\σ_ 3=.pointer (some ⟨ap,0,none⟩)/\σ_ 30=.slice bz p0.Readings.length bB/\σ_ 31=jV (↑p0.Readings.length:Int)/\PHeap.Le cX U_/\sW w U U_ [.blk b6 36 B1,.blk b2 27 B0,aS,az,bi,.row bh bn 117 4 (hH wAF bb),.blk ap 36 [.slice ak aT.length aq,.slice am aU.length au,.slice bg bC.length bm,.slice bh bb.length bn]] w_) gf ?_ ?_ ?_
 have fD:=dC.nilrow 117 4
 exact ⟨cX,none,0,rfl,eD,eE,rfl,rfl,(zM _),(fD.pick [1,2,3,4,5,0,6] _ (by decide) rfl)⟩
 rintro bv bb ic ij gL cC ⟨bs,bh,bn,cu,eG,cr,dt,du,dN,dD⟩ gw
 have dm:Hid ((↑bv:Int) < (↑p0.Readings.length:Int)):=zL (wBR cC)
 replace cC:=zL cC
 have gh:Hid (w64 ((↑bv:Int) + 1)=(↑(bv + 1):Int)):=zL (by have h1:=cE.out;have h2:=dm.out;rw [wAU] <;> omega)
 refine sR fL1 Z (oR Z (zg Z cu du) (eN (zK (cT Z dm (kN (zK (zd (sR gAz Z (bnK gw fun aj dy gp=>?_)))))))))
 have eR:=fZ.le dL
 have eS:=eR.le gz
 have eT:=eS.le dN
 have q:=eT.el (fun _=>rfl) (wAP dy)
 obtain ⟨gQ,gW,eX,eZ⟩:=q
 refine oR Z (ZJ Z dt eX cu Zf Zl (wBa dy)) (oL Z (dD.ldCA (f:=0) eZ Z Z yh Zl (us:=[jV aj.Skier,jV aj.Mat,jV aj.Clock,jV aj.Time]) Z Z) ?_)
 let cO:List Value:=[jV 0,jV 0,jV 0,jV 0]
 refine zS (cs:=cO) Z Z Z Z Z Tryz.zeroValue115 Z dD ?_
 intro gM bL fG
 let aX:List Value:=[jV aj.Skier,jV aj.Mat,jV aj.Clock,jV aj.Time]
 refine zW (j:=0) (vs:=aX) Z Z Z Z fG Z Z Z Z Zl (zA Z) Z Z Z ?_
 intro dY fH
 let bY:Res:=.blk ap 36 [.slice ak aT.length aq,.slice am aU.length au,.slice bg bC.length bm,.slice bh bb.length bn]
 let cP:Res:=.row bh bn 117 4 (hH wAF bb)
 have cy:sW w U bs [.blk bL 115 aX,.blk b6 36 B1,.blk b2 27 B0,aS,az,bi,cP,bY] dY:=fH
 refine eN (rR (wFK gBa) Z (oR Z (zF Z cr zU Z yL) (oL Z (cy.ldB (j:=7) Z Z Z yd (v:=.slice bh bb.length bn) Z) (oL Z (cy.ldBA (j:=0) Z Z Z yh Zl (vs:=aX) Z Z) (Zg (pv:=[(0,.agg aX.toArray)]) (zs:=cO) (cs:=aX) Z Z Z Z Z (wAI Z wAY) Zw yM Tryz.zeroValue117 Z Z Z Z Z cy ?_)))))
 intro dZ eg fJ
 let bZ:Res:=.row (some ⟨eg,0,none⟩) 1 117 4 (hH wAF [(⟨aj.Skier,aj.Mat,aj.Clock,aj.Time⟩:wAi)])
 have dE:sW w U bs [bZ,.blk bL 115 aX,.blk b6 36 B1,.blk b2 27 B0,aS,az,bi,cP,bY] dZ:=fJ
 refine bnK gp fun bU eU gq=>yW (j:=7) (enc:=wAF) (xs:=bb) (ys:=[(⟨aj.Skier,aj.Mat,aj.Clock,aj.Time⟩:wAi)]) (zs:=bU) rfl rfl rfl rfl rfl Tryz.underlying34 wRq rfl rfl rfl rfl rfl rfl dE rfl rfl rfl (dE.srcR (j:=0) rfl (by decide) (wAJ (f:=wAF) (sz:=4) (fun _=>rfl) [(⟨aj.Skier,aj.Mat,aj.Clock,aj.Time⟩:wAi)])) (fun _=>rfl) (fun _=>rfl) eU rfl ?_
 intro bH bQ d4 fK
 let cQ:Res:=.row bH bQ 117 4 (hH wAF bU)
 have fL:sW w U bs [bZ,.blk bL 115 aX,.blk b6 36 B1,.blk b2 27 B0,aS,az,bi,cQ,bY] d4:=fK
 refine oR Z (zF Z cr zU Z yL) (zW (j:=8) (vs:=[.slice bH bU.length bQ]) Z Z Z Z fL Z Z Z Z yL (zA Z) Z Z Z ?_)
 intro d5 fM
 have fN:sW w U bs [bZ,.blk bL 115 aX,.blk b6 36 B1,.blk b2 27 B0,aS,az,bi,cQ,.blk ap 36 [.slice ak aT.length aq,.slice am aU.length au,.slice bg bC.length bm,.slice bH bU.length bQ]] d5:=fM
 refine zo (zt (zH (rR fL2 Z (oR Z (ZT (zi Z cu Z) (congrArg (jV) gh.out)) (oM Z Z (zo ?_))))))
 cases gq
 exact zH ⟨rfl,⟨bs,bH,bQ,rfl,eG,cr,dt,du,dN,(fN.pick [2,3,4,5,6,7,8] _ (by decide) rfl)⟩⟩
 rintro ik gN ⟨cY,bV,cp,eK,dv,eH,gS,eI,gT,dF⟩
 have ej:Hid (¬ ((↑(((↑p0.Readings.length:Int):Int) - 0).toNat:Int) < (↑p0.Readings.length:Int))):=zL (wAs)
 refine sR fL1 Z (oR Z (zg Z eK eI) (eN (zK (cF Z ej (ZU (zk (zk (ZM (zH (sR gAk Z ?_))))))))))
 let bj:List Value:=[.slice ak aT.length aq,.slice am aU.length au,.slice bg bC.length bm,.slice bV dO.length cp]
 refine oL Z (dF.ldBA (j:=6) Z Z eH Zr Zc (vs:=bj) Z Z) (zW (j:=0) (vs:=bj) Z Z Z Z dF Z dv Z Z Zc (zA Z) Z Z Z ?_)
 intro d6 fO
 have dG:sW w U cY [.blk b6 36 bj,.blk b2 27 B0,aS,az,bi,.row bV cp 117 4 (hH wAF dO),.blk ap 36 bj] d6:=fO
 refine eN (zR ?_)
 cases gm
 exact ⟨rfl,_,(wMJ (v:=.agg bj.toArray) ⟨⟨_,dv,(wCF Zr Zc (dG.blkAt (k:=0) rfl) (vs:=bj) rfl rfl)⟩,trivial⟩),cY,_,(dG.pick [2,3,4,5] _ (by decide) rfl),ak,aq,am,au,bg,bm,bV,cp,rfl,rfl⟩
end Go.Proofs.YtlnfbjphfoipaaaGreat
namespace Go.Proofs.YtlnfbjphfoipaaaGreat
open Go.KL
set_option maxHeartbeats 4000000
theorem wDp (p0:Int) (p1:Int) (p2:Int) (w:World) (U:PHeap) (hS:St0 w U [])  {r:Bool} (hm:wCY p0 p1 p2=some r):Gv Tryz.prog 69 [jV p0,jV p1,jV p2] w (wCs w [] U (fun U_ L_ v=>v=.bool r/\L_=[])):=by
 unfold wCY at hm
 refine Gv.of Tryz.func69 Z Tryz.ntmps69 Tryz.results69 Z (sR fL1 Z (oA Z Z (eN (sR fL9 Z (oM Z Z (oM Z Z (oR Z (Runs.geq Z Z Z) (oM Z Z ?_))))))))
 by_cases c1:p1 <= p0
 have ab:=hm;rw [if_pos c1] at ab;replace c1:=zL c1
 refine ZA Z Z Z (wT Z c1) Z Z (ZA Z Z Z (wT Z c1) Z Z (rU Z (wT Z c1) (Runs.leq Z Z Z) (oR Z (zn Z (Zk c1.out) Z) (oA Z Z (eN (zR ?_))))))
 first | (obtain rfl:=nD ab) | cases ab
 exact ⟨Z,_,(ZF Z),U,_,hS,Z,Z⟩
 have ai:=hm;rw [if_neg c1] at ai;replace c1:=zL c1
 refine oF Z c1 (oF Z c1 (oF Z c1 (oR Z (zq Z (Zh c1.out) Z) (oA Z Z (eN (zR ?_))))))
 have hE:=nD ai;first | subst r | cases hE
 exact ⟨Z,_,(ZF Z),U,_,hS,Z,Z⟩
theorem wCu (p0:List Int) (aq:Option Addr) (au:Nat) (p1:(Int->Option Bool)) (av:Value) (w:World) (U:PHeap) (hS:St0 w U []) (bp:Sl U 1 aq au p0.length (hH KL.encI p0)) (bq:FnOK Tryz.prog U av wKz wLA p1) {r:Bool} (hm:wBK p0 p1=some r):Gv Tryz.prog 89 [.slice aq p0.length au,av] w (wCs w [] U (fun U_ L_ v=>v=.bool r/\L_=[])):=by
 unfold wBK at hm
 refine Gv.of Tryz.func89 Z Tryz.ntmps89 Tryz.results89 Z (sR fL1 Z (oA Z Z (eN (zK (sR fL3 Z (oM Z Z (oR Z (zf Z Z zB) (oM Z Z (eN (zd ?_))))))))))
 have q:=wCD hm
 obtain ⟨r3,aj⟩:=q
 have q:=wCC aj
 obtain ⟨am,bt⟩:=q
 replace am:=zL am
 refine yK (fun k2 _ σ_ w_=>∃ (U_:PHeap),σ_ 9=jV (↑k2:Int)/\σ_ 1=av/\σ_ 7=.slice aq p0.length au/\σ_ 8=jV (↑p0.length:Int)/\PHeap.Le U U_/\sW w U U_ [] w_) bt ?_ ?_ ?_
 exact ⟨U,Z,Z,Z,Z,(zM _),hS⟩
 rintro k2 ⟨⟩ bQ bS W8 ak ⟨bF,ai,aS,aT,aU,ap,aW⟩ aZ br
 try dsimp only at aZ
 have az:Hid ((↑k2:Int) < (↑p0.length:Int)):=zL (wBR ak)
 replace ak:=zL ak
 have bu:Hid (w64 ((↑k2:Int) + 1)=(↑(k2 + 1):Int)):=zL (by have h1:=am.out;have h2:=az.out;rw [wAU] <;> omega)
 refine sR fL1 Z (oR Z (zg Z ai aU) (eN (zK (cT Z az (kN (zK (zd (sR fL3 Z (bnK aZ fun x22 aV bv=>?_)))))))))
 have bh:=bp.le ap
 have q:=bh.el (fun _=>rfl) (wAP aV)
 obtain ⟨bI,bM,bk,bm⟩:=q
 refine oR Z (ZJ Z aT bk ai zB zD (wBa aV)) (oL Z (aW.ldC (f:=0) bm (v:=jV x22) Z Z zG Z) (oA Z Z (eN (sR gBb Z (oM Z aS (oM Z Z (bnK bv fun bP bi bw=>?_)))))))
 have bj:=bq.le ap
 refine OKS.callV (a:=x22) Z Z Z Z Z Z (zC Z zP) aW bj Z bi ?_
 rintro ae bE bO bb bC bn ⟨rfl,rfl⟩
 have aX:sW w U ae [] bb:=bn
 refine oR Z (Zd Z Z) (eN (ifc bw ?_ ?_))
 intro ah bz
 refine zx (nC ah.out) (Ze (zt (zH (rR fL2 Z (oR Z (ZT (zi Z ai Z) (congrArg (jV) bu.out)) (oM Z Z (zo ?_)))))))
 obtain rfl:=nD bz
 exact zH ⟨Z,_,Z,⟨ae,Z,aS,aT,aU,(ap.trans bC),aX⟩⟩
 intro ah bA
 refine ZE (nF (ah.out)) (sR fL1 Z (oA Z Z (eN (zR (zZ (zN ?_))))))
 have q:=wAR bA
 obtain ⟨bD,bB,be⟩:=q
 obtain rfl:=wCE hm aj (br bD be)
 refine zN (zZ (zN ?_))
 have hE:=nD bB;first | subst r | cases hE
 exact ⟨Z,_,(ZF Z),ae,_,aX,Z,Z⟩
 rintro ⟨⟩ bR bG ⟨ba,bg,bJ,bK,bf,bL,bo⟩ bs
 have aY:=wCp hm aj bs
 try dsimp only at aY
 have bd:Hid (¬ ((↑(((↑p0.length:Int):Int) - 0).toNat:Int) < (↑p0.length:Int))):=zL (wAs)
 refine sR fL1 Z (oR Z (zg Z bg bf) (eN (zK (cF Z bd (ZU (zk (zk (ZM (zH (sR fL1 Z (oA Z Z (eN (zR ?_)))))))))))))
 have hE:=nD aY;first | subst r | cases hE
 exact ⟨Z,_,(ZF Z),ba,_,bo,Z,Z⟩
theorem wIF (p0:Int) (w:World) (U:PHeap) (hS:St0 w U [])  {r:Bool} (hm:wCc p0=some r):Gv Tryz.prog 90 [jV p0] w (wCs w [] U (fun U_ L_ v=>v=.bool r/\L_=[])):=by
 unfold wCc at hm
 refine Gv.of Tryz.func90 Z Tryz.ntmps90 Tryz.results90 Z (sR fL1 Z (oA Z Z (eN (sR gAr Z (oM Z Z (bnK hm fun x1 h2 ak=>zI 0 Z Z Z Z (zJ Z Z Tryz.call69 (zC Z (zC Z (zC Z zP))) Z) hS (fun hs=>wDp p0 0 360000 w U hs h2) (.inr Z) ?_))))))
 rintro U4 L5 v6 W7 ap aj ⟨rfl,rfl⟩
 have ai:sW w U U4 [] W7:=aj
 refine oA Z Z (eN (zR ?_))
 have hE:=nD ak;first | subst r | cases hE
 exact ⟨Z,_,(ZF Z),U4,_,ai,Z,Z⟩
theorem wEy (p0:List wAX) (au:Option Addr) (av:Nat) (p1:(wAX->Option Bool)) (az:Value) (w:World) (U:PHeap) (hS:St0 w U []) (bw:Sl U 2 au av p0.length (hH wAB p0)) (bz:FnOK Tryz.prog U az wTS wTT p1) {r:Bool} (hm:wBS p0 p1=some r):Gv Tryz.prog 91 [.slice au p0.length av,az] w (wCs w [] U (fun U_ L_ v=>v=.bool r/\L_=[])):=by
 unfold wBS at hm
 refine Gv.of Tryz.func91 Z Tryz.ntmps91 Tryz.results91 Z (sR fL1 Z (oA Z Z (eN (zK (sR fL3 Z (oM Z Z (oR Z (zf Z Z zw) (oM Z Z (eN (zd ?_))))))))))
 have q:=wCD hm
 obtain ⟨r3,ak⟩:=q
 have q:=wCC ak
 obtain ⟨ap,bC⟩:=q
 replace ap:=zL ap
 refine yK (fun k2 _ σ_ w_=>∃ (U_:PHeap),σ_ 9=jV (↑k2:Int)/\σ_ 1=az/\σ_ 7=.slice au p0.length av/\σ_ 8=jV (↑p0.length:Int)/\PHeap.Le U U_/\sW w U U_ [] w_) bC ?_ ?_ ?_
 exact ⟨U,Z,Z,Z,Z,(zM _),hS⟩
 rintro k2 ⟨⟩ bW bY W8 am ⟨be,aj,aU,aV,aW,aq,aY⟩ bb bA
 try dsimp only at bb
 have aT:Hid ((↑k2:Int) < (↑p0.length:Int)):=zL (wBR am)
 replace am:=zL am
 have bD:Hid (w64 ((↑k2:Int) + 1)=(↑(k2 + 1):Int)):=zL (by have h1:=ap.out;have h2:=aT.out;rw [wAU] <;> omega)
 refine sR fL1 Z (oR Z (zg Z aj aW) (eN (zK (cT Z aT (kN (zK (zd (sR gAz Z (bnK bb fun x22 aX bE=>?_)))))))))
 have bn:=bw.le aq
 have q:=bn.el (fun _=>rfl) (wAP aX)
 obtain ⟨bP,bT,bq,br⟩:=q
 refine oR Z (ZJ Z aV bq aj zw ZS (wBa aX)) (oL Z (aY.ldCA (f:=0) br Z Z ym ZS (us:=[jV x22.Lo,jV x22.Hi]) Z Z) (zS (cs:=[jV 0,jV 0]) Z Z Z Z Z Tryz.zeroValue39 Z aY ?_))
 intro bM aS bs
 let B0:List Value:=[jV x22.Lo,jV x22.Hi]
 refine zW (j:=0) (vs:=B0) Z Z Z Z bs Z Z Z Z ZS (zA Z) Z Z Z ?_
 intro bg bt
 have aZ:sW w U be [.blk aS 39 B0] bg:=bt
 refine eN (sR gBb Z (oM Z aU (oL Z (aZ.ldBA (j:=0) Z Z Z ym ZS (vs:=B0) Z Z) (bnK bE fun x37 bo bF=>?_))))
 have bp:=bz.le aq
 refine OKS.callV (a:=x22) Z Z Z Z Z Z (zC Z zP) aZ bp Z bo ?_
 rintro ah bL bV bh bJ bu ⟨rfl,rfl⟩
 have a0:sW w U ah [.blk aS 39 B0] bh:=bu
 refine oR Z (Zd Z Z) (eN (ifc bF ?_ ?_))
 intro ai bG
 refine zx (nC ai.out) (Ze (zt (zH (rR fL2 Z (oR Z (ZT (zi Z aj Z) (congrArg (jV) bD.out)) (oM Z Z (zo ?_)))))))
 obtain rfl:=nD bG
 exact zH ⟨rfl,_,rfl,⟨ah,rfl,aU,aV,aW,(aq.trans bJ),(a0.pick [] _ (by decide) rfl)⟩⟩
 intro ai bH
 refine ZE (nF (ai.out)) (sR fL1 Z (oA Z Z (eN (zR (zZ (zN ?_))))))
 have q:=wAR bH
 obtain ⟨bK,bI,bj⟩:=q
 obtain rfl:=wCE hm ak (bA bK bj)
 refine zN (zZ (zN ?_))
 have hE:=nD bI;first | subst r | cases hE
 exact ⟨rfl,_,(ZF rfl),ah,_,(a0.pick [] _ (by decide) rfl),rfl,rfl⟩
 rintro ⟨⟩ bX bN ⟨bf,bm,bQ,bR,bk,bS,bv⟩ bB
 have ba:=wCp hm ak bB
 try dsimp only at ba
 have bi:Hid (¬ ((↑(((↑p0.length:Int):Int) - 0).toNat:Int) < (↑p0.length:Int))):=zL (wAs)
 refine sR fL1 Z (oR Z (zg Z bm bk) (eN (zK (cF Z bi (ZU (zk (zk (ZM (zH (sR fL1 Z (oA Z Z (eN (zR ?_)))))))))))))
 have hE:=nD ba;first | subst r | cases hE
 exact ⟨Z,_,(ZF Z),bf,_,bv,Z,Z⟩
theorem wFX (p0:wAX) (p1:Int) (p2:Int) (w:World) (U:PHeap) (hS:St0 w U [])  {r:Bool} (hm:wCd p0 p1 p2=some r):Gv Tryz.prog 93 [.agg #[jV p0.Lo,jV p0.Hi],jV p1,jV p2] w (wCs w [] U (fun U_ L_ v=>v=.bool r/\L_=[])):=by
 unfold wCd at hm
 refine Gv.of Tryz.func93 rfl Tryz.ntmps93 Tryz.results93 rfl (sR gAf rfl (ZH (cs:=[jV p0.Lo,jV p0.Hi]) rfl rfl rfl rfl rfl rfl (by rfl) hS ?_))
 intro W1 b2 ah
 refine oA Z Z (eN (sR fL18 Z (oR Z (zF Z Z ZN Z zD) (oL Z (ah.ldB (j:=0) Z Z Z zG (v:=jV p0.Lo) Z) (oR Z (zF Z Z ZN Z zD) (oL Z (ah.ldB (j:=0) Z Z Z zG (v:=jV p0.Hi) Z) (oR Z (Runs.leq Z Z Z) (oM Z Z ?_))))))))
 by_cases c5:p0.Lo <= p0.Hi
 have aj:=hm;rw [if_pos c5] at aj;replace c5:=zL c5
 refine rU Z (wT Z c5) (zF Z Z ZN Z zD) (ZI Z Z Z (wT Z c5) (ah.ldB (j:=0) Z Z Z zG (v:=jV p0.Lo) Z) Z (ZA Z Z Z (wT Z c5) Z Z (rU Z (wT Z c5) (Runs.geq Z Z Z) (oR Z (zn Z (Zk c5.out) Z) (oM Z Z (ifc aj ?_ ?_))))))
 intro c7 ak
 refine rU Z (wT Z c7) (zF Z Z ZN Z zD) (ZI Z Z Z (wT Z c7) (ah.ldB (j:=0) Z Z Z zG (v:=jV p0.Hi) Z) Z (ZA Z Z Z (wT Z c7) Z Z (rU Z (wT Z c7) (Runs.leq Z Z Z) (oR Z (zn Z (Zk c7.out) Z) (oA Z Z (eN (zR ?_)))))))
 first | (obtain rfl:=nD ak) | cases ak
 exact ⟨rfl,_,(ZF rfl),U,_,(ah.pick [] _ (by decide) rfl),rfl,rfl⟩
 intro c7 aq
 refine oF Z c7 (oF Z c7 (oF Z c7 (oF Z c7 (oR Z (zq Z (Zh c7.out) Z) (oA Z Z (eN (zR ?_)))))))
 have hE:=nD aq;first | subst r | cases hE
 exact ⟨rfl,_,(ZF rfl),U,_,(ah.pick [] _ (by decide) rfl),rfl,rfl⟩
 have ai:=hm;rw [if_neg c5] at ai;replace c5:=zL c5
 refine oF Z c5 (oF Z c5 (oF Z c5 (oF Z c5 (oR Z (zq Z (Zh c5.out) Z) (oM Z Z (oN Z (oN Z (oN Z (oN Z (oR Z (zq Z Z Z) (oA Z Z (eN (zR ?_)))))))))))))
 have hE:=nD ai;first | subst r | cases hE
 exact ⟨rfl,_,(ZF rfl),U,_,(ah.pick [] _ (by decide) rfl),rfl,rfl⟩
theorem wIG (p0:wAX) (w:World) (U:PHeap) (hS:St0 w U [])  {r:Bool} (hm:wCe p0=some r):Gv Tryz.prog 92 [.agg #[jV p0.Lo,jV p0.Hi]] w (wCs w [] U (fun U_ L_ v=>v=.bool r/\L_=[])):=by
 unfold wCe at hm
 refine Gv.of Tryz.func92 Z Tryz.ntmps92 Tryz.results92 Z (sR gAf Z ?_)
 let B0:List Value:=[jV p0.Lo,jV p0.Hi]
 refine ZH (cs:=B0) rfl rfl rfl rfl rfl rfl (by rfl) hS ?_
 intro W1 b2 ah
 refine oA Z Z (eN (sR gAr Z (oL Z (ah.ldBA (j:=0) Z Z Z ym ZS (vs:=B0) Z Z) (bnK hm fun x5 h6 au=>zI 0 Z Z Z Z (zJ Z Z Tryz.call93 (zC Z (zC Z (zC Z zP))) Z) ah (fun hs=>wFX p0 0 360000 W1 U hs h6) (.inr Z) ?_))))
 rintro U8 L9 aS aj az ap ⟨rfl,rfl⟩
 have aq:sW w U U8 [.blk b2 39 B0] aj:=ap
 refine oA Z Z (eN (zR ?_))
 have hE:=nD au;first | subst r | cases hE
 exact ⟨rfl,_,(ZF rfl),U8,_,(aq.pick [] _ (by decide) rfl),rfl,rfl⟩
theorem wEa (p0:List wAZ) (au:Option Addr) (av:Nat) (p1:(wAZ->Option Bool)) (az:Value) (w:World) (U:PHeap) (hS:St0 w U []) (bw:Sl U 3 au av p0.length (hH wAD p0)) (bz:FnOK Tryz.prog U az wTU wTV p1) {r:Bool} (hm:wBL p0 p1=some r):Gv Tryz.prog 94 [.slice au p0.length av,az] w (wCs w [] U (fun U_ L_ v=>v=.bool r/\L_=[])):=by
 unfold wBL at hm
 refine Gv.of Tryz.func94 Z Tryz.ntmps94 Tryz.results94 Z (sR fL1 Z (oA Z Z (eN (zK (sR fL3 Z (oM Z Z (oR Z (zf Z Z ZL) (oM Z Z (eN (zd ?_))))))))))
 have q:=wCD hm
 obtain ⟨r3,ak⟩:=q
 have q:=wCC ak
 obtain ⟨ap,bC⟩:=q
 replace ap:=zL ap
 refine yK (fun k2 _ σ_ w_=>∃ (U_:PHeap),σ_ 9=jV (↑k2:Int)/\σ_ 1=az/\σ_ 7=.slice au p0.length av/\σ_ 8=jV (↑p0.length:Int)/\PHeap.Le U U_/\sW w U U_ [] w_) bC ?_ ?_ ?_
 exact ⟨U,Z,Z,Z,Z,(zM _),hS⟩
 rintro k2 ⟨⟩ bW bY W8 am ⟨be,aj,aU,aV,aW,aq,aY⟩ bb bA
 try dsimp only at bb
 have aT:Hid ((↑k2:Int) < (↑p0.length:Int)):=zL (wBR am)
 replace am:=zL am
 have bD:Hid (w64 ((↑k2:Int) + 1)=(↑(k2 + 1):Int)):=zL (by have h1:=ap.out;have h2:=aT.out;rw [wAU] <;> omega)
 refine sR fL1 Z (oR Z (zg Z aj aW) (eN (zK (cT Z aT (kN (zK (zd (sR gAz Z (bnK bb fun x22 aX bE=>?_)))))))))
 have bn:=bw.le aq
 have q:=bn.el (fun _=>rfl) (wAP aX)
 obtain ⟨bP,bT,bq,br⟩:=q
 refine oR Z (ZJ Z aV bq aj ZL Zo (wBa aX)) (oL Z (aY.ldCA (f:=0) br Z Z Tryz.isAgg112 Zo (us:=[jV x22.Offset.Lo,jV x22.Offset.Hi,jV x22.Error]) Z Z) (zS (cs:=[jV 0,jV 0,jV 0]) Z Z Z Z Z Tryz.zeroValue112 Z aY ?_))
 intro bM aS bs
 let B0:List Value:=[jV x22.Offset.Lo,jV x22.Offset.Hi,jV x22.Error]
 refine zW (j:=0) (vs:=B0) Z Z Z Z bs Z Z Z Z Zo (zA Z) Z Z Z ?_
 intro bg bt
 have aZ:sW w U be [.blk aS 112 B0] bg:=bt
 refine eN (sR gBb Z (oM Z aU (oL Z (aZ.ldBA (j:=0) Z Z Z Tryz.isAgg112 Zo (vs:=B0) Z Z) (bnK bE fun x37 bo bF=>?_))))
 have bp:=bz.le aq
 refine OKS.callV (a:=x22) Z Z Z Z Z Z (zC Z zP) aZ bp Z bo ?_
 rintro ah bL bV bh bJ bu ⟨rfl,rfl⟩
 have a0:sW w U ah [.blk aS 112 B0] bh:=bu
 refine oR Z (Zd Z Z) (eN (ifc bF ?_ ?_))
 intro ai bG
 refine zx (nC ai.out) (Ze (zt (zH (rR fL2 Z (oR Z (ZT (zi Z aj Z) (congrArg (jV) bD.out)) (oM Z Z (zo ?_)))))))
 obtain rfl:=nD bG
 exact zH ⟨rfl,_,rfl,⟨ah,rfl,aU,aV,aW,(aq.trans bJ),(a0.pick [] _ (by decide) rfl)⟩⟩
 intro ai bH
 refine ZE (nF (ai.out)) (sR fL1 Z (oA Z Z (eN (zR (zZ (zN ?_))))))
 have q:=wAR bH
 obtain ⟨bK,bI,bj⟩:=q
 obtain rfl:=wCE hm ak (bA bK bj)
 refine zN (zZ (zN ?_))
 have hE:=nD bI;first | subst r | cases hE
 exact ⟨rfl,_,(ZF rfl),ah,_,(a0.pick [] _ (by decide) rfl),rfl,rfl⟩
 rintro ⟨⟩ bX bN ⟨bf,bm,bQ,bR,bk,bS,bv⟩ bB
 have ba:=wCp hm ak bB
 try dsimp only at ba
 have bi:Hid (¬ ((↑(((↑p0.length:Int):Int) - 0).toNat:Int) < (↑p0.length:Int))):=zL (wAs)
 refine sR fL1 Z (oR Z (zg Z bm bk) (eN (zK (cF Z bi (ZU (zk (zk (ZM (zH (sR fL1 Z (oA Z Z (eN (zR ?_)))))))))))))
 have hE:=nD ba;first | subst r | cases hE
 exact ⟨Z,_,(ZF Z),bf,_,bv,Z,Z⟩
theorem wIH (p0:wAZ) (w:World) (U:PHeap) (hS:St0 w U [])  {r:Bool} (hm:wCf p0=some r):Gv Tryz.prog 95 [.agg #[jV p0.Offset.Lo,jV p0.Offset.Hi,jV p0.Error]] w (wCs w [] U (fun U_ L_ v=>v=.bool r/\L_=[])):=by
 unfold wCf at hm
 refine Gv.of Tryz.func95 Z Tryz.ntmps95 Tryz.results95 Z (sR gAf Z ?_)
 let B0:List Value:=[jV p0.Offset.Lo,jV p0.Offset.Hi,jV p0.Error]
 refine ZH (cs:=B0) rfl rfl rfl rfl rfl rfl (by rfl) hS ?_
 intro W1 b2 ap
 refine oA Z Z (eN (sR (.fl 0 (.fl 1 (.fx 2 (fC3_5 (.fx 6 gAd .stop)) .stop))) Z (oR Z (zF Z Z ya Z ZS) (oL Z (ap.ldBA (j:=0) Z Z Z ym ZS (vs:=[jV p0.Offset.Lo,jV p0.Offset.Hi]) Z Z) (bnK hm fun x5 h6 aY=>zI 0 Z Z Z Z (zJ Z Z Tryz.call93 (zC Z (zC Z (zC Z zP))) Z) ap (fun hs=>wFX p0.Offset (-36000) 36000 W1 U hs h6) (.inr Z) ?_)))))
 rintro U8 L9 bd ak ba aS ⟨rfl,rfl⟩
 have ai:sW w U U8 [.blk b2 112 B0] ak:=aS
 refine oM Z Z (ifc aY ?_ ?_)
 intro ab aV
 refine zm Z Z Z (zO Z Z (congrArg nA ab.out)) (fun _=>zF Z Z ya Z zD) (ZI Z Z Z (zO Z Z (congrArg nA ab.out)) (ai.ldB (j:=0) Z Z Z zG (v:=jV p0.Error) Z) Z (bnK aV fun bf av aW=>zI 0 Z Z Z (zO Z Z (congrArg nA ab.out)) (zJ Z Z Tryz.call69 (zC Z (zC Z (zC Z zP))) Z) ai (fun hs=>wDp p0.Error 0 600 ak U8 hs av) (.inr Z) ?_))
 rintro aj aZ be au bb aT ⟨rfl,rfl⟩
 have aU:sW w U aj [.blk b2 112 B0] au:=aT
 refine oR Z (zn Z (congrArg nA ab.out) Z) (oA Z Z (eN (zR ?_)))
 have hE:=nD aW;first | subst r | cases hE
 exact ⟨rfl,_,(ZF rfl),aj,_,(aU.pick [] _ (by decide) rfl),rfl,rfl⟩
 intro ab aX
 refine ZO Z Z Z (zh Z Z (congrArg nA (nB.2 ab.out)) Z) (ZO Z Z Z (zh Z Z (congrArg nA (nB.2 ab.out)) Z) (yD Z Z Z (zh Z Z (congrArg nA (nB.2 ab.out)) Z) (oR Z (zq Z (congrArg nA (nB.2 ab.out)) Z) (oA Z Z (eN (zR ?_))))))
 have hE:=nD aX;first | subst r | cases hE
 exact ⟨rfl,_,(ZF rfl),U8,_,(ai.pick [] _ (by decide) rfl),rfl,rfl⟩
theorem wCx (p0:List wAO) (au:Option Addr) (av:Nat) (p1:(wAO->Option Bool)) (az:Value) (w:World) (U:PHeap) (hS:St0 w U []) (bw:Sl U 4 au av p0.length (hH wAC p0)) (bz:FnOK Tryz.prog U az wRk wRl p1) {r:Bool} (hm:wAn p0 p1=some r):Gv Tryz.prog 96 [.slice au p0.length av,az] w (wCs w [] U (fun U_ L_ v=>v=.bool r/\L_=[])):=by
 unfold wAn at hm
 refine Gv.of Tryz.func96 Z Tryz.ntmps96 Tryz.results96 Z (sR fL1 Z (oA Z Z (eN (zK (sR fL3 Z (oM Z Z (oR Z (zf Z Z Zf) (oM Z Z (eN (zd ?_))))))))))
 have q:=wCD hm
 obtain ⟨r3,ak⟩:=q
 have q:=wCC ak
 obtain ⟨ap,bC⟩:=q
 replace ap:=zL ap
 refine yK (fun k2 _ σ_ w_=>∃ (U_:PHeap),σ_ 9=jV (↑k2:Int)/\σ_ 1=az/\σ_ 7=.slice au p0.length av/\σ_ 8=jV (↑p0.length:Int)/\PHeap.Le U U_/\sW w U U_ [] w_) bC ?_ ?_ ?_
 exact ⟨U,Z,Z,Z,Z,(zM _),hS⟩
 rintro k2 ⟨⟩ bW bY W8 am ⟨be,aj,aU,aV,aW,aq,aY⟩ bb bA
 try dsimp only at bb
 have aT:Hid ((↑k2:Int) < (↑p0.length:Int)):=zL (wBR am)
 replace am:=zL am
 have bD:Hid (w64 ((↑k2:Int) + 1)=(↑(k2 + 1):Int)):=zL (by have h1:=ap.out;have h2:=aT.out;rw [wAU] <;> omega)
 refine sR fL1 Z (oR Z (zg Z aj aW) (eN (zK (cT Z aT (kN (zK (zd (sR gAz Z (bnK bb fun x22 aX bE=>?_)))))))))
 have bn:=bw.le aq
 have q:=bn.el (fun _=>rfl) (wAP aX)
 obtain ⟨bP,bT,bq,br⟩:=q
 refine oR Z (ZJ Z aV bq aj Zf Zl (wBa aX)) (oL Z (aY.ldCA (f:=0) br Z Z yh Zl (us:=[jV x22.Skier,jV x22.Mat,jV x22.Clock,jV x22.Time]) Z Z) (zS (cs:=[jV 0,jV 0,jV 0,jV 0]) Z Z Z Z Z Tryz.zeroValue115 Z aY ?_))
 intro bM aS bs
 let B0:List Value:=[jV x22.Skier,jV x22.Mat,jV x22.Clock,jV x22.Time]
 refine zW (j:=0) (vs:=B0) Z Z Z Z bs Z Z Z Z Zl (zA Z) Z Z Z ?_
 intro bg bt
 have aZ:sW w U be [.blk aS 115 B0] bg:=bt
 refine eN (sR gBb Z (oM Z aU (oL Z (aZ.ldBA (j:=0) Z Z Z yh Zl (vs:=B0) Z Z) (bnK bE fun x37 bo bF=>?_))))
 have bp:=bz.le aq
 refine OKS.callV (a:=x22) Z Z Z Z Z Z (zC Z zP) aZ bp Z bo ?_
 rintro ah bL bV bh bJ bu ⟨rfl,rfl⟩
 have a0:sW w U ah [.blk aS 115 B0] bh:=bu
 refine oR Z (Zd Z Z) (eN (ifc bF ?_ ?_))
 intro ai bG
 refine zx (nC ai.out) (Ze (zt (zH (rR fL2 Z (oR Z (ZT (zi Z aj Z) (congrArg (jV) bD.out)) (oM Z Z (zo ?_)))))))
 obtain rfl:=nD bG
 exact zH ⟨rfl,_,rfl,⟨ah,rfl,aU,aV,aW,(aq.trans bJ),(a0.pick [] _ (by decide) rfl)⟩⟩
 intro ai bH
 refine ZE (nF (ai.out)) (sR fL1 Z (oA Z Z (eN (zR (zZ (zN ?_))))))
 have q:=wAR bH
 obtain ⟨bK,bI,bj⟩:=q
 obtain rfl:=wCE hm ak (bA bK bj)
 refine zN (zZ (zN ?_))
 have hE:=nD bI;first | subst r | cases hE
 exact ⟨rfl,_,(ZF rfl),ah,_,(a0.pick [] _ (by decide) rfl),rfl,rfl⟩
 rintro ⟨⟩ bX bN ⟨bf,bm,bQ,bR,bk,bS,bv⟩ bB
 have ba:=wCp hm ak bB
 try dsimp only at ba
 have bi:Hid (¬ ((↑(((↑p0.length:Int):Int) - 0).toNat:Int) < (↑p0.length:Int))):=zL (wAs)
 refine sR fL1 Z (oR Z (zg Z bm bk) (eN (zK (cF Z bi (ZU (zk (zk (ZM (zH (sR fL1 Z (oA Z Z (eN (zR ?_)))))))))))))
 have hE:=nD ba;first | subst r | cases hE
 exact ⟨Z,_,(ZF Z),bf,_,bv,Z,Z⟩
theorem wII (p0:wAO) (w:World) (U:PHeap) (hS:St0 w U [])  {r:Bool} (hm:wCg p0=some r):Gv Tryz.prog 97 [.agg #[jV p0.Skier,jV p0.Mat,jV p0.Clock,jV p0.Time]] w (wCs w [] U (fun U_ L_ v=>v=.bool r/\L_=[])):=by
 unfold wCg at hm
 refine Gv.of Tryz.func97 Z Tryz.ntmps97 Tryz.results97 Z (sR gAf Z ?_)
 let B0:List Value:=[jV p0.Skier,jV p0.Mat,jV p0.Clock,jV p0.Time]
 refine ZH (cs:=B0) rfl rfl rfl rfl rfl rfl (by rfl) hS ?_
 intro W1 b2 ah
 refine oA Z Z (eN (sR gBb Z (oR Z (zF Z Z Zn Z zD) (oL Z (ah.ldB (j:=0) Z Z Z zG (v:=jV p0.Time) Z) (bnK hm fun x5 h6 au=>zI 0 Z Z Z Z (zJ Z Z Tryz.call69 (zC Z (zC Z (zC Z zP))) Z) ah (fun hs=>wDp p0.Time 0 360000 W1 U hs h6) (.inr Z) ?_)))))
 rintro U8 L9 aS aj az ap ⟨rfl,rfl⟩
 have aq:sW w U U8 [.blk b2 115 B0] aj:=ap
 refine oA Z Z (eN (zR ?_))
 have hE:=nD au;first | subst r | cases hE
 exact ⟨rfl,_,(ZF rfl),U8,_,(aq.pick [] _ (by decide) rfl),rfl,rfl⟩
theorem wGr (p0:wAA) (ai:Option Addr) (ak:Nat) (aj:Option Addr) (am:Nat) (az:Option Addr) (aT:Nat) (aS:Option Addr) (aU:Nat) (p1:wCT) (w:World) (U:PHeap) (hS:St0 w U []) (bp:Sl U 1 ai ak p0.Starts.length (hH KL.encI p0.Starts)) (bq:Sl U 2 aj am p0.Splits.length (hH wAB p0.Splits)) (br:Sl U 3 az aT p0.Clocks.length (hH wAD p0.Clocks)) (bs:Sl U 4 aS aU p0.Readings.length (hH wAC p0.Readings)) {r:Bool} (hm:wCZ p0 p1=some r):Gv Tryz.prog 99 [.agg #[.slice ai p0.Starts.length ak,.slice aj p0.Splits.length am,.slice az p0.Clocks.length aT,.slice aS p0.Readings.length aU],.agg #[jV p1.Skier,jV p1.Mat]] w (wCs w [] U (fun U_ L_ v=>v=.bool r/\L_=[])):=by
 unfold wCZ at hm
 refine Gv.of Tryz.func99 Z Tryz.ntmps99 Tryz.results99 Z (sR (.fx 0 gAg .stop) Z ?_)
 let B0:List Value:=[.slice ai p0.Starts.length ak,.slice aj p0.Splits.length am,.slice az p0.Clocks.length aT,.slice aS p0.Readings.length aU]
 refine ZH (cs:=B0) rfl rfl rfl rfl rfl rfl (by rfl) hS ?_
 intro W1 b2 bf
 let B1:List Value:=[jV p1.Skier,jV p1.Mat]
 refine ZH (cs:=B1) rfl rfl rfl rfl rfl rfl (by rfl) bf ?_
 intro W5 b6 av
 refine oA Z Z (eN (sR (wKM (.fx 6 (wQj gAu) .stop)) Z (oR Z (zF Z Z Tryz.runUnderlying29 Z zD) (oL Z (av.ldB (j:=0) Z Z Z zG (v:=jV p1.Skier) Z) (oR Z (zF Z Z zQ Z zX) (oL Z (av.ldB (j:=1) Z Z Z zY (v:=.slice ai p0.Starts.length ak) Z) (oR Z (zf Z Z zB) (oR Z (yg Z Z Z) (bnK hm fun x9 ba bh=>zI 0 Z Z Z Z (zJ Z Z Tryz.call69 (zC Z (zC Z (zC Z zP))) Z) av (fun hs=>wDp p1.Skier 0 (w64 ((↑p0.Starts.length:Int) - 1)) W5 U hs ba) (.inr Z) ?_)))))))))
 rintro au bm bv aW bt bd ⟨rfl,rfl⟩
 have ah:sW w U au [.blk b6 29 B1,.blk b2 27 B0] aW:=bd
 refine oM Z Z (ifc bh ?_ ?_)
 intro ab bi
 refine zm Z Z Z (zO Z Z (congrArg nA ab.out)) (fun _=>zF Z Z Tryz.runUnderlying29 Z zD) (ZI Z Z Z (zO Z Z (congrArg nA ab.out)) (ah.ldB (j:=0) Z Z Z zG (v:=jV p1.Mat) Z) Z (zm Z Z Z (zO Z Z (congrArg nA ab.out)) (fun _=>zF Z Z zQ Z ZX) (ZI Z Z Z (zO Z Z (congrArg nA ab.out)) (ah.ldB (j:=1) Z Z Z Za (v:=.slice aj p0.Splits.length am) Z) Z (zm Z Z Z (zO Z Z (congrArg nA ab.out)) (fun _=>zf Z Z zw) (bnK bi fun bz bb bj=>zI 0 Z Z Z (zO Z Z (congrArg nA ab.out)) (zJ Z Z Tryz.call69 (zC Z (zC Z (zC Z zP))) Z) ah (fun hs=>wDp p1.Mat 0 (↑p0.Splits.length:Int) aW au hs bb) (.inr Z) ?_)))))
 rintro aV bn bw aZ bu be ⟨rfl,rfl⟩
 have bg:sW w U aV [.blk b6 29 B1,.blk b2 27 B0] aZ:=be
 refine oR Z (zn Z (congrArg nA ab.out) Z) (oA Z Z (eN (zR ?_)))
 have hE:=nD bj;first | subst r | cases hE
 exact ⟨rfl,_,(ZF rfl),aV,_,(bg.pick [] _ (by decide) rfl),rfl,rfl⟩
 intro ab bk
 refine ZO Z Z Z (zh Z Z (congrArg nA (nB.2 ab.out)) Z) (ZO Z Z Z (zh Z Z (congrArg nA (nB.2 ab.out)) Z) (ZO Z Z Z (zh Z Z (congrArg nA (nB.2 ab.out)) Z) (ZO Z Z Z (zh Z Z (congrArg nA (nB.2 ab.out)) Z) (ZO Z Z Z (zh Z Z (congrArg nA (nB.2 ab.out)) Z) (yD Z Z Z (zh Z Z (congrArg nA (nB.2 ab.out)) Z) (oR Z (zq Z (congrArg nA (nB.2 ab.out)) Z) (oA Z Z (eN (zR ?_)))))))))
 have hE:=nD bk;first | subst r | cases hE
 exact ⟨rfl,_,(ZF rfl),au,_,(ah.pick [] _ (by decide) rfl),rfl,rfl⟩
theorem wIJ (p0:wAO) (p1:wAA) (aY:Nat) (am:Option Addr) (au:Nat) (ap:Option Addr) (av:Nat) (ah:Option Addr) (ai:Nat) (aq:Option Addr) (az:Nat) (w:World) (U:PHeap) (hS:St0 w U []) (aX:Cl U aY 0 [.slice am p1.Starts.length au,.slice ap p1.Splits.length av,.slice ah p1.Clocks.length ai,.slice aq p1.Readings.length az]) (bh:Sl U 1 am au p1.Starts.length (hH KL.encI p1.Starts)) (bi:Sl U 2 ap av p1.Splits.length (hH wAB p1.Splits)) (bj:Sl U 3 ah ai p1.Clocks.length (hH wAD p1.Clocks)) (bk:Sl U 4 aq az p1.Readings.length (hH wAC p1.Readings)) {r:Bool} (hm:wCh p0 p1=some r):Gv Tryz.prog 98 [.agg #[jV p0.Skier,jV p0.Mat,jV p0.Clock,jV p0.Time],.pointer (some ⟨aY,0,none⟩)] w (wCs w [] U (fun U_ L_ v=>v=.bool r/\L_=[])):=by
 unfold wCh at hm
 refine Gv.of Tryz.func98 Z Tryz.ntmps98 Tryz.results98 Z (sR gAf Z ?_)
 let B0:List Value:=[jV p0.Skier,jV p0.Mat,jV p0.Clock,jV p0.Time]
 refine ZH (cs:=B0) rfl rfl rfl rfl rfl rfl (by rfl) hS ?_
 intro W1 b2 ak
 refine oA Z Z (eN (sR (wKM (.fx 6 (wQk (.fx 14 gAe .stop)) .stop)) Z (oL Z (ak.ldCA (f:=0) aX Z Z ZD zr (us:=[.slice am p1.Starts.length au,.slice ap p1.Splits.length av,.slice ah p1.Clocks.length ai,.slice aq p1.Readings.length az]) Z Z) (oR Z (zF Z Z Zn Z zD) (oL Z (ak.ldB (j:=0) Z Z Z zG (v:=jV p0.Skier) Z) (oR Z (zF Z Z Zn Z zD) (oL Z (ak.ldB (j:=0) Z Z Z zG (v:=jV p0.Mat) Z) (oR Z (ZP (pv:=[(0,jV p0.Skier),(1,jV p0.Mat)]) (z:=[jV 0,jV 0]) (cs:=[jV p0.Skier,jV p0.Mat]) Z (wAI Z (wAI Z wAY)) Tryz.zeroValue29 wPi Z Z) (bnK hm fun x5 h6 bp=>zI 0 Z Z Z Z (zJ Z Z Tryz.call99 (zC Z (zC Z zP)) Z) ak (fun hs=>wGr p1 am au ap av ah ai aq az (⟨p0.Skier,p0.Mat⟩:wCT) W1 U hs bh bi bj bk h6) (.inr Z) ?_)))))))))
 rintro U8 L9 bu aV bq be ⟨rfl,rfl⟩
 have aj:sW w U U8 [.blk b2 115 B0] aV:=be
 refine oM Z Z (ifc bp ?_ ?_)
 intro ae bm
 refine zm Z Z Z (zO Z Z (congrArg nA ae.out)) (fun _=>zF Z Z Zn Z zD) (ZI Z Z Z (zO Z Z (congrArg nA ae.out)) (aj.ldB (j:=0) Z Z Z zG (v:=jV p0.Clock) Z) Z (zm Z Z Z (zO Z Z (congrArg nA ae.out)) (fun _=>zF Z Z zQ Z Zt) ?_))
 have ba:=aX.le bq
 refine ZI Z Z Z (zO Z Z (congrArg nA ae.out)) (aj.ldC (f:=2) ba (v:=.slice ah p1.Clocks.length ai) Z Z Zy Z) Z (zm Z Z Z (zO Z Z (congrArg nA ae.out)) (fun _=>zf Z Z ZL) (zm Z Z Z (zO Z Z (congrArg nA ae.out)) (fun _=>yg Z Z Z) (bnK bm fun bw bb bn=>zI 0 Z Z Z (zO Z Z (congrArg nA ae.out)) (zJ Z Z Tryz.call69 (zC Z (zC Z (zC Z zP))) Z) aj (fun hs=>wDp p0.Clock 0 (w64 ((↑p1.Clocks.length:Int) - 1)) aV U8 hs bb) (.inr Z) ?_)))
 rintro aU br bv a0 bt bf ⟨rfl,rfl⟩
 have bg:sW w U aU [.blk b2 115 B0] a0:=bf
 refine oR Z (zn Z (congrArg nA ae.out) Z) (oA Z Z (eN (zR ?_)))
 have hE:=nD bn;first | subst r | cases hE
 exact ⟨rfl,_,(ZF rfl),aU,_,(bg.pick [] _ (by decide) rfl),rfl,rfl⟩
 intro ae bo
 refine ZO Z Z Z (zh Z Z (congrArg nA (nB.2 ae.out)) Z) (ZO Z Z Z (zh Z Z (congrArg nA (nB.2 ae.out)) Z) (ZO Z Z Z (zh Z Z (congrArg nA (nB.2 ae.out)) Z) (ZO Z Z Z (zh Z Z (congrArg nA (nB.2 ae.out)) Z) (ZO Z Z Z (zh Z Z (congrArg nA (nB.2 ae.out)) Z) (ZO Z Z Z (zh Z Z (congrArg nA (nB.2 ae.out)) Z) (yD Z Z Z (zh Z Z (congrArg nA (nB.2 ae.out)) Z) (oR Z (zq Z (congrArg nA (nB.2 ae.out)) Z) (oA Z Z (eN (zR ?_))))))))))
 have hE:=nD bo;first | subst r | cases hE
 exact ⟨rfl,_,(ZF rfl),U8,_,(aj.pick [] _ (by decide) rfl),rfl,rfl⟩
theorem wGm (p0:wAA) (av:Option Addr) (aT:Nat) (az:Option Addr) (aU:Nat) (aS:Option Addr) (aV:Nat) (am:Option Addr) (ap:Nat) (w:World) (U:PHeap) (hS:St0 w U []) (cO:Sl U 1 av aT p0.Starts.length (hH KL.encI p0.Starts)) (cP:Sl U 2 az aU p0.Splits.length (hH wAB p0.Splits)) (cQ:Sl U 3 aS aV p0.Clocks.length (hH wAD p0.Clocks)) (cR:Sl U 4 am ap p0.Readings.length (hH wAC p0.Readings)) {r:Int} (hm:wDH p0=some r):Gv Tryz.prog 33 [.agg #[.slice av p0.Starts.length aT,.slice az p0.Splits.length aU,.slice aS p0.Clocks.length aV,.slice am p0.Readings.length ap]] w (wCs w [] U (fun U_ L_ v=>v=jV r/\L_=[])):=by
 unfold wDH at hm
 refine Gv.of Tryz.func33 Z Tryz.ntmps33 Tryz.results33 Z (sR gAf Z ?_)
 let B0:List Value:=[.slice av p0.Starts.length aT,.slice az p0.Splits.length aU,.slice aS p0.Clocks.length aV,.slice am p0.Readings.length ap]
 refine ZH (cs:=B0) rfl rfl rfl rfl rfl rfl (by rfl) hS ?_
 intro W1 b2 cJ
 have q:=cJ.freeze (k:=0) rfl
 obtain ⟨U5,bi,aX,cN⟩:=q
 replace aX:=Cl.of aX
 have bP:sW w U U5 [] W1:=cN
 replace aX:Cl U5 b2 0 B0:=aX
 refine oA Z Z (eN (zK (zd (sR (wFK (.fx 3 (wUG (.nil)) .stop)) Z (oR Z (zF Z Z zQ Z zX) (oL Z (bP.ldC (f:=0) aX (v:=.slice av p0.Starts.length aT) Z Z zY Z) (oR Z (zf Z Z zB) (bnK hm fun dM bW cV=>zI 0 Z Z Z Z (zJ Z Z Tryz.call69 (zC Z (zC Z (zC Z zP))) Z) bP (fun hs=>wDp (↑p0.Starts.length:Int) 1 8 W1 U5 hs bW) (.inr Z) ?_))))))))
 rintro au dA dH bA aZ cI ⟨rfl,rfl⟩
 have ak:sW w U au [] bA:=cI
 refine oR Z (Zd Z Z) (oM Z Z (ifc cV ?_ ?_))
 intro ab df
 refine zm Z Z Z (zO Z Z (nC ab.out)) (fun _=>zF Z Z zQ Z ZX) ?_
 have aY:=aX.le aZ
 refine ZI Z Z Z (zO Z Z (nC ab.out)) (ak.ldC (f:=1) aY (v:=.slice az p0.Splits.length aU) Z Z Za Z) Z (zm Z Z Z (zO Z Z (nC ab.out)) (fun _=>zf Z Z zw) (zm Z Z Z (zO Z Z (nC ab.out)) (fun _=>yN Z Z Z) (oR Z (zq Z (nC ab.out) Z) (oM Z Z (ifc df ?_ ?_)))))
 intro ae dg
 refine oT Z ae (oT Z ae (oT Z ae (oT Z ae (oR Z (zn Z (Zk ae.out) Z) (oM Z Z (oN Z (oN Z (oN Z (oN Z (oR Z (zn Z Z Z) (oA Z Z (eN (ZE Z (sR fL1 Z (oA Z Z (eN (zR (zZ (zN ?_)))))))))))))))))))
 cases dg
 exact ⟨Z,_,(ZF Z),au,_,ak,Z,Z⟩
 intro ae dh
 refine rU Z (wF Z ae) (zF Z Z zQ Z Zt) (ZI Z Z Z (wF Z ae) (ak.ldC (f:=2) aY (v:=.slice aS p0.Clocks.length aV) Z Z Zy Z) Z (rU Z (wF Z ae) (zf Z Z ZL) (rU Z (wF Z ae) (yN Z Z Z) (oR Z (zq Z (Zh ae.out) Z) (oM Z Z (ifc dh ?_ ?_))))))
 intro ah dk
 refine oT Z ah (oT Z ah (oT Z ah (oT Z ah (oR Z (zn Z (Zk ah.out) Z) (oA Z Z (eN (ZE Z (sR fL1 Z (oA Z Z (eN (zR (zZ (zN ?_)))))))))))))
 cases dk
 exact ⟨Z,_,(ZF Z),au,_,ak,Z,Z⟩
 intro ah dl
 refine rU Z (wF Z ah) (zF Z Z zQ Z yO) (ZI Z Z Z (wF Z ah) (ak.ldC (f:=3) aY (v:=.slice am p0.Readings.length ap) Z Z yQ Z) Z (rU Z (wF Z ah) (zf Z Z Zf) (rU Z (wF Z ah) (yN Z Z Z) (oR Z (zq Z (Zh ah.out) Z) (oA Z Z (eN (ifc dl ?_ ?_)))))))
 intro bo dm
 refine cT Z bo (sR fL1 Z (oA Z Z (eN (zR (zZ (zN ?_))))))
 cases dm
 exact ⟨Z,_,(ZF Z),au,_,ak,Z,Z⟩
 intro bo dp
 refine cF Z bo (sR (.fl 0 (.fl 1 (.fx 2 (wQA (.fx 7 (wPA (.nil)) .stop)) .stop))) Z (oR Z (zF Z Z zQ Z zX) (oL Z (ak.ldC (f:=0) aY (v:=.slice av p0.Starts.length aT) Z Z zY Z) ?_)))
 have cd:=cO.le bi
 have bH:=cd.le aZ
 have cA:FnOK Tryz.prog au (.func (.func 90) #[] #[]) wKz wLA wCc:=⟨90,[],[],rfl,Tryz.call90,fun U1 w1 x y vs le hs ha hm=>by obtain rfl:=ha;exact wIF x w1 U1 hs  hm⟩
 refine bnK dp fun dO cf dq=>zI 0 Z Z Z Z (zJ Z Z Tryz.call89 (zC Z (zC Z zP)) Z) ak (fun hs=>wCu p0.Starts av aT wCc (.func (.func 90) #[] #[]) bA au hs bH cA cf) (.inr Z) ?_
 rintro be dB dI bB a0 cK ⟨rfl,rfl⟩
 have bt:sW w U be [] bB:=cK
 refine oR Z (Zd Z Z) (oM Z Z (ifc dq ?_ ?_))
 intro ai dr
 refine zm Z Z Z (zO Z Z (nC ai.out)) (fun _=>zF Z Z zQ Z ZX) ?_
 have bI:=aY.le a0
 refine ZI Z Z Z (zO Z Z (nC ai.out)) (bt.ldC (f:=1) bI (v:=.slice az p0.Splits.length aU) Z Z Za Z) Z ?_
 have cg:=cP.le bi
 have cj:=cg.le aZ
 have bJ:=cj.le a0
 have cC:FnOK Tryz.prog be (.func (.func 92) #[] #[]) wTS wTT wCe:=⟨92,[],[],rfl,Tryz.call92,fun U1 w1 x y vs le hs ha hm=>by obtain rfl:=ha;exact wIG x w1 U1 hs  hm⟩
 refine bnK dr fun dP cm dt=>zI 0 Z Z Z (zO Z Z (nC ai.out)) (zJ Z Z Tryz.call91 (zC Z (zC Z zP)) Z) bt (fun hs=>wEy p0.Splits az aU wCe (.func (.func 92) #[] #[]) bB be hs bJ cC cm) (.inr Z) ?_
 rintro bf dC dJ bC ba cL ⟨rfl,rfl⟩
 have bu:sW w U bf [] bC:=cL
 refine zm Z Z Z (zO Z Z (nC ai.out)) (fun _=>Zd Z Z) (oR Z (zq Z (nC ai.out) Z) (oA Z Z (eN (ifc dt ?_ ?_))))
 intro bp du
 refine zx (nC bp.out) (sR gBg Z (oR Z (zF Z Z zQ Z Zt) ?_))
 have bK:=bI.le ba
 refine oL Z (bu.ldC (f:=2) bK (v:=.slice aS p0.Clocks.length aV) Z Z Zy Z) ?_
 have cn:=cQ.le bi
 have cp:=cn.le aZ
 have cq:=cp.le a0
 have bL:=cq.le ba
 have cD:FnOK Tryz.prog bf (.func (.func 95) #[] #[]) wTU wTV wCf:=⟨95,[],[],rfl,Tryz.call95,fun U1 w1 x y vs le hs ha hm=>by obtain rfl:=ha;exact wIH x w1 U1 hs  hm⟩
 refine bnK du fun x70 cr dv=>zI 0 Z Z Z Z (zJ Z Z Tryz.call94 (zC Z (zC Z zP)) Z) bu (fun hs=>wEa p0.Clocks aS aV wCf (.func (.func 95) #[] #[]) bC bf hs bL cD cr) (.inr Z) ?_
 rintro bg dD dK bD bb cM ⟨rfl,rfl⟩
 have bv:sW w U bg [] bD:=cM
 refine oR Z (Zd Z Z) (oA Z Z (eN (ifc dv ?_ ?_)))
 intro bq dw
 refine zx (nC bq.out) (zK (yi fun dy bQ=>?_))
 have br:dy 1=.pointer (some ⟨b2,0,none⟩):=(bQ 1).trans rfl
 clear bQ
 refine rR gBg Z (oR Z (zF Z br zQ Z yO) ?_)
 have bM:=bK.le bb
 refine oL Z (bv.ldC (f:=3) bM (v:=.slice am p0.Readings.length ap) Z Z yQ Z) ?_
 have ct:=cR.le bi
 have cu:=ct.le aZ
 have cw:=cu.le a0
 have cx:=cw.le ba
 have bN:=cx.le bb
 have cE:FnOK Tryz.prog bg (.func (.func 97) #[] #[]) wRk wRl wCg:=⟨97,[],[],rfl,Tryz.call97,fun U1 w1 x y vs le hs ha hm=>by obtain rfl:=ha;exact wII x w1 U1 hs  hm⟩
 refine bnK dw fun x92 cy dx=>zI 0 Z Z Z Z (zJ Z Z Tryz.call96 (zC Z (zC Z zP)) Z) bv (fun hs=>wCx p0.Readings am ap wCg (.func (.func 97) #[] #[]) bD bg hs bN cE cy) (.inr Z) ?_
 rintro bh dE dL bE bd cG ⟨rfl,rfl⟩
 have bs:sW w U bh [] bE:=cG
 refine oR Z (Zd Z Z) (oA Z Z (eN (ifc dx ?_ ?_)))
 intro bm cS
 refine zx (nC bm.out) (sR (wFK (.fx 3 gAc .stop)) Z (oR Z (zF Z br zQ Z yO) ?_))
 have bF:=bM.le bd
 refine oL Z (bs.ldC (f:=3) bF (v:=.slice am p0.Readings.length ap) Z Z yQ Z) (oR Z (Runs.mkf Z zP (zC br zP)) ?_)
 have bG:=bN.le bd
 have bS:=bH.le a0
 have bT:=bS.le ba
 have bU:=bT.le bb
 have bV:=bU.le bd
 have bX:=bJ.le ba
 have bY:=bX.le bb
 have bZ:=bY.le bd
 have b5:=bL.le bb
 have b9:=b5.le bd
 have cz:FnOK Tryz.prog bh (.func (.func 98) #[] #[.pointer (some ⟨b2,0,none⟩)]) wRk wRl (fun x=>wCh x p0):=⟨98,[],[.pointer (some ⟨b2,0,none⟩)],rfl,Tryz.call98,fun U1 w1 x y vs le hs ha hm=>by obtain rfl:=ha;exact wIJ x p0 b2 av aT az aU aS aV am ap w1 U1 hs (bF.le le) (bV.le le) (bZ.le le) (b9.le le) (bG.le le) hm⟩
 refine bnK cS fun dN cb cU=>zI 0 Z Z Z Z (zJ Z Z Tryz.call96 (zC Z (zC Z zP)) Z) bs (fun hs=>wCx p0.Readings am ap (fun x=>wCh x p0) (.func (.func 98) #[] #[.pointer (some ⟨b2,0,none⟩)]) bE bh hs bG cz cb) (.inr Z) ?_
 rintro bj dz dG bR dF cH ⟨rfl,rfl⟩
 have bO:sW w U bj [] bR:=cH
 refine oR Z (Zd Z Z) (oA Z Z (eN (ifc cU ?_ ?_)))
 intro bn cW
 refine zx (nC bn.out) (Ze (zt (zH (sR fL1 Z (oA Z Z (eN (zR ?_)))))))
 cases cW
 exact ⟨Z,_,(ZF Z),bj,_,bO,Z,Z⟩
 intro bn cX
 refine ZE (nF (bn.out)) (sR fL1 Z (oA Z Z (eN (zR (zZ (zN ?_))))))
 cases cX
 exact ⟨Z,_,(ZF Z),bj,_,bO,Z,Z⟩
 intro bm cY
 refine ZE (nF (bm.out)) (sR fL1 Z (oA Z Z (eN (zR (zZ (zN ?_))))))
 cases cY
 exact ⟨Z,_,(ZF Z),bh,_,bs,Z,Z⟩
 intro bq cZ
 refine ZE (nF (bq.out)) (sR fL1 Z (oA Z Z (eN (zR (zZ (zN ?_))))))
 cases cZ
 exact ⟨Z,_,(ZF Z),bg,_,bv,Z,Z⟩
 intro bp da
 refine ZE (nF (bp.out)) (sR fL1 Z (oA Z Z (eN (zR (zZ (zN ?_))))))
 cases da
 exact ⟨Z,_,(ZF Z),bf,_,bu,Z,Z⟩
 intro ai db
 refine ZO Z Z Z (zh Z Z (nF (ai.out)) Z) (ZO Z Z Z (zh Z Z (nF (ai.out)) Z) (yD Z Z Z (zh Z Z (nF (ai.out)) Z) (ZO Z Z Z (zh Z Z (nF (ai.out)) Z) (oR Z (zn Z (nF (ai.out)) Z) (oA Z Z (eN (ZE Z (sR fL1 Z (oA Z Z (eN (zR (zZ (zN ?_)))))))))))))
 cases db
 exact ⟨Z,_,(ZF Z),be,_,bt,Z,Z⟩
 intro ab de
 refine ZO Z Z Z (zh Z Z (nF (ab.out)) Z) (ZO Z Z Z (zh Z Z (nF (ab.out)) Z) (ZO Z Z Z (zh Z Z (nF (ab.out)) Z) (ZO Z Z Z (zh Z Z (nF (ab.out)) Z) (oR Z (zn Z (nF (ab.out)) Z) (oM Z Z (oN Z (oN Z (oN Z (oN Z (oR Z (zn Z Z Z) (oM Z Z (oN Z (oN Z (oN Z (oN Z (oR Z (zn Z Z Z) (oA Z Z (eN (ZE Z (sR fL1 Z (oA Z Z (eN (zR (zZ (zN ?_)))))))))))))))))))))))))
 cases de
 exact ⟨Z,_,(ZF Z),au,_,ak,Z,Z⟩
end Go.Proofs.YtlnfbjphfoipaaaGreat
namespace Go.Proofs.YtlnfbjphfoipaaaGreat
open Go.KL
set_option maxHeartbeats 4000000
theorem wAe (p0:Int) (p1:Int) (p2:Int) (w:World) (U:PHeap) (hS:St0 w U [])  {r:Bool} (hm:wAW p0 p1 p2=some r):Gv Tryz.prog 71 [jV p0,jV p1,jV p2] w (wCs w [] U (fun U_ L_ v=>v=.bool r/\L_=[])):=by
 unfold wAW at hm
 refine Gv.of Tryz.func71 Z Tryz.ntmps71 Tryz.results71 Z (sR fL1 Z (oA Z Z (eN (sR fL9 Z (oM Z Z (oM Z Z (oR Z (zg Z Z Z) (oM Z Z ?_))))))))
 by_cases c1:p0 < p1
 have ai:=hm;rw [if_pos c1] at ai;replace c1:=zL c1
 refine oT Z c1 (oT Z c1 (oT Z c1 (oR Z (zn Z (Zk c1.out) Z) (oA Z Z (eN (zR ?_))))))
 have hE:=nD ai;first | subst r | cases hE
 exact ⟨Z,_,(ZF Z),U,_,hS,Z,Z⟩
 have ab:=hm;rw [if_neg c1] at ab;replace c1:=zL c1
 refine ZA Z Z Z (wF Z c1) Z Z (ZA Z Z Z (wF Z c1) Z Z (rU Z (wF Z c1) (yN Z Z Z) (oR Z (zq Z (Zh c1.out) Z) (oA Z Z (eN (zR ?_))))))
 first | (obtain rfl:=nD ab) | cases ab
 exact ⟨Z,_,(ZF Z),U,_,hS,Z,Z⟩
theorem wEG (p0:wAX) (p1:Int) (p2:Int) (w:World) (U:PHeap) (hS:St0 w U [])  {r:Bool} (hm:wBW p0 p1 p2=some r):Gv Tryz.prog 100 [.agg #[jV p0.Lo,jV p0.Hi],jV p1,jV p2] w (wCs w [] U (fun U_ L_ v=>v=.bool r/\L_=[])):=by
 unfold wBW at hm
 refine Gv.of Tryz.func100 rfl Tryz.ntmps100 Tryz.results100 rfl (sR gAf rfl (ZH (cs:=[jV p0.Lo,jV p0.Hi]) rfl rfl rfl rfl rfl rfl (by rfl) hS ?_))
 intro W1 b2 ah
 refine oA Z Z (eN (sR fL18 Z (oR Z (zF Z Z ZN Z zD) (oL Z (ah.ldB (j:=0) Z Z Z zG (v:=jV p0.Lo) Z) (oR Z (zF Z Z ZN Z zD) (oL Z (ah.ldB (j:=0) Z Z Z zG (v:=jV p0.Hi) Z) (oR Z (yN Z Z Z) (oM Z Z ?_))))))))
 by_cases c5:p0.Hi < p0.Lo
 have aj:=hm;rw [if_pos c5] at aj;replace c5:=zL c5
 refine oT Z c5 (oT Z c5 (oT Z c5 (oT Z c5 (oR Z (zn Z (Zk c5.out) Z) (oM Z Z (oN Z (oN Z (oN Z (oN Z (oR Z (zn Z Z Z) (oA Z Z (eN (zR ?_)))))))))))))
 have hE:=nD aj;first | subst r | cases hE
 exact ⟨rfl,_,(ZF rfl),U,_,(ah.pick [] _ (by decide) rfl),rfl,rfl⟩
 have ak:=hm;rw [if_neg c5] at ak;replace c5:=zL c5
 refine rU Z (wF Z c5) (zF Z Z ZN Z zD) (ZI Z Z Z (wF Z c5) (ah.ldB (j:=0) Z Z Z zG (v:=jV p0.Lo) Z) Z (ZA Z Z Z (wF Z c5) Z Z (rU Z (wF Z c5) (zg Z Z Z) (oR Z (zq Z (Zh c5.out) Z) (oM Z Z (ifc ak ?_ ?_))))))
 intro c8 aq
 refine oT Z c8 (oT Z c8 (oT Z c8 (oT Z c8 (oR Z (zn Z (Zk c8.out) Z) (oA Z Z (eN (zR ?_)))))))
 have hE:=nD aq;first | subst r | cases hE
 exact ⟨rfl,_,(ZF rfl),U,_,(ah.pick [] _ (by decide) rfl),rfl,rfl⟩
 intro c8 ai
 refine rU Z (wF Z c8) (zF Z Z ZN Z zD) (ZI Z Z Z (wF Z c8) (ah.ldB (j:=0) Z Z Z zG (v:=jV p0.Hi) Z) Z (ZA Z Z Z (wF Z c8) Z Z (rU Z (wF Z c8) (yN Z Z Z) (oR Z (zq Z (Zh c8.out) Z) (oA Z Z (eN (zR ?_)))))))
 first | (obtain rfl:=nD ai) | cases ai
 exact ⟨rfl,_,(ZF rfl),U,_,(ah.pick [] _ (by decide) rfl),rfl,rfl⟩
theorem wCy (p0:wAK) (a0:Option Addr) (bb:Nat) (ba:Option Addr) (bd:Nat) (aV:Option Addr) (aX:Nat) (aW:Option Addr) (aY:Nat) (w:World) (U:PHeap) (hS:St0 w U []) (eW:Sl U 1 a0 bb p0.Starts.length (hH KL.encI p0.Starts)) (eX:Sl U 2 ba bd p0.Splits.length (hH wAB p0.Splits)) (eY:Sl U 3 aV aX p0.Clocks.length (hH wAG p0.Clocks)) (cE:Sl U 4 aW aY p0.Readings.length (hH wAF p0.Readings)) {r:Int} (hm:wBA p0=some r):Gv Tryz.prog 34 [.agg #[.slice a0 p0.Starts.length bb,.slice ba p0.Splits.length bd,.slice aV p0.Clocks.length aX,.slice aW p0.Readings.length aY]] w (wCs w [] U (fun U_ L_ v=>v=jV r/\L_=[])):=by
 unfold wBA at hm
 refine Gv.of Tryz.func34 Z Tryz.ntmps34 Tryz.results34 Z (sR gAf Z ?_)
 let B0:List Value:=[.slice a0 p0.Starts.length bb,.slice ba p0.Splits.length bd,.slice aV p0.Clocks.length aX,.slice aW p0.Readings.length aY]
 refine ZH (cs:=B0) rfl rfl rfl rfl rfl rfl (by rfl) hS ?_
 intro W1 b2 cA
 refine oA Z Z (eN (zK (sR (wFK (.fx 3 (wUF (.nil)) .stop)) Z (oR Z (zF Z Z zU Z zX) (oL Z (cA.ldB (j:=0) Z Z Z zY (v:=.slice a0 p0.Starts.length bb) Z) (oR Z (zf Z Z zB) (bnK hm fun x5 h6 gk=>zI 0 Z Z Z Z (zJ Z Z yR (zC Z (zC Z (zC Z zP))) Z) cA (fun hs=>wAe (↑p0.Starts.length:Int) 1 8 W1 U hs h6) (.inr Z) ?_)))))))
 rintro U8 L9 im dh bp eL ⟨rfl,rfl⟩
 have aU:sW w U U8 [.blk b2 36 B0] dh:=eL
 refine oM Z Z (ifc gk ?_ ?_)
 intro am fg
 refine ZO Z Z Z (zh Z Z (congrArg nA am.out) Z) (ZO Z Z Z (zh Z Z (congrArg nA am.out) Z) (ZO Z Z Z (zh Z Z (congrArg nA am.out) Z) (ZO Z Z Z (zh Z Z (congrArg nA am.out) Z) (oR Z (zn Z (congrArg nA am.out) Z) (oM Z Z (oN Z (oN Z (oN Z (oN Z (oR Z (zn Z Z Z) (oM Z Z (oN Z (oN Z (oN Z (oN Z (oR Z (zn Z Z Z) (eN (ZE Z (sR fL1 Z (oA Z Z (eN (zR (zN ?_)))))))))))))))))))))))
 cases fg
 exact ⟨rfl,_,(ZF rfl),U8,_,(aU.pick [] _ (by decide) rfl),rfl,rfl⟩
 intro am fq
 refine zm Z Z Z (zO Z Z (congrArg nA (nB.2 am.out))) (fun _=>zF Z Z zU Z ZX) (ZI Z Z Z (zO Z Z (congrArg nA (nB.2 am.out))) (aU.ldB (j:=0) Z Z Z Za (v:=.slice ba p0.Splits.length bd) Z) Z (zm Z Z Z (zO Z Z (congrArg nA (nB.2 am.out))) (fun _=>zf Z Z zw) (zm Z Z Z (zO Z Z (congrArg nA (nB.2 am.out))) (fun _=>yN Z Z Z) (oR Z (zq Z (congrArg nA (nB.2 am.out)) Z) (oM Z Z (ifc fq ?_ ?_))))))
 intro ap fz
 refine oT Z ap (oT Z ap (oT Z ap (oT Z ap (oR Z (zn Z (Zk ap.out) Z) (oM Z Z (oN Z (oN Z (oN Z (oN Z (oR Z (zn Z Z Z) (eN (ZE Z (sR fL1 Z (oA Z Z (eN (zR (zN ?_)))))))))))))))))
 cases fz
 exact ⟨rfl,_,(ZF rfl),U8,_,(aU.pick [] _ (by decide) rfl),rfl,rfl⟩
 intro ap fB
 refine rU Z (wF Z ap) (zF Z Z zU Z Zp) (ZI Z Z Z (wF Z ap) (aU.ldB (j:=0) Z Z Z yC (v:=.slice aV p0.Clocks.length aX) Z) Z (rU Z (wF Z ap) (zf Z Z Zb) (rU Z (wF Z ap) (yN Z Z Z) (oR Z (zq Z (Zh ap.out) Z) (oM Z Z (ifc fB ?_ ?_))))))
 intro aq fD
 refine oT Z aq (oT Z aq (oT Z aq (oT Z aq (oR Z (zn Z (Zk aq.out) Z) (eN (ZE Z (sR fL1 Z (oA Z Z (eN (zR (zN ?_)))))))))))
 cases fD
 exact ⟨rfl,_,(ZF rfl),U8,_,(aU.pick [] _ (by decide) rfl),rfl,rfl⟩
 intro aq fG
 refine rU Z (wF Z aq) (zF Z Z zU Z yL) (ZI Z Z Z (wF Z aq) (aU.ldB (j:=0) Z Z Z yd (v:=.slice aW p0.Readings.length aY) Z) Z (rU Z (wF Z aq) (zf Z Z Zw) (rU Z (wF Z aq) (yN Z Z Z) (oR Z (zq Z (Zh aq.out) Z) (eN (ifc fG ?_ ?_))))))
 intro bT fM
 refine cT Z bT (sR fL1 Z (oA Z Z (eN (zR (zN ?_)))))
 cases fM
 exact ⟨rfl,_,(ZF rfl),U8,_,(aU.pick [] _ (by decide) rfl),rfl,rfl⟩
 intro bT fN
 refine cF Z bT (kN (zK (sR fL1 Z (oA Z Z (eN (zd (yq (fun cp σ_ w_=>∃ (U_:PHeap),σ_ 1=.pointer (some ⟨b2,0,none⟩)/\σ_ 3=jV cp/\PHeap.Le U8 U_/\sW w U U_ [.blk b2 36 B0] w_) fN ?_ ?_)))))))
 exact ⟨U8,Z,Z,(zM _),aU⟩
 rintro cp iK iP dq ⟨bN,bu,bY,bg,bn⟩ cX cH
 refine zK (sR fL5 Z (oM Z bY (oR Z (zF Z bu zU Z zX) (oL Z (bn.ldB (j:=0) Z Z Z zY (v:=.slice a0 p0.Starts.length bb) Z) (oR Z (zf Z Z zB) (oR Z (zg Z Z Z) (eN ?_)))))))
 by_cases aS:cp < (↑p0.Starts.length:Int)
 have cQ:=cX;rw [if_pos aS] at cQ;replace aS:=zL aS
 refine cT Z aS (kN (zK (zd (sR (wHz (.fx 5 .nil .stop)) Z (oR Z (zF Z bu zU Z zX) (oL Z (bn.ldB (j:=0) Z Z Z zY (v:=.slice a0 p0.Starts.length bb) Z) (oM Z bY (bnK cQ fun de cb gf=>?_))))))))
 have d8:=eW.le bp
 have d9:=d8.le bg
 have q:=d9.el (fun _=>rfl) (wAP cb)
 obtain ⟨ib,il,eD,eJ⟩:=q
 refine oR Z (zz Z Z eD Z zB zD (wBG cb) (wBI cb)) (oL Z (bn.ldC (f:=0) eJ (v:=jV de) Z Z zG Z) (bnK gf fun iG ec gg=>zI 0 Z Z Z Z (zJ Z Z yR (zC Z (zC Z (zC Z zP))) Z) bn (fun hs=>wAe de 0 360000 dq bN hs ec) (.inr Z) ?_))
 rintro bO gT iw dt gy eV ⟨rfl,rfl⟩
 have cD:sW w U bO [.blk b2 36 B0] dt:=eV
 refine eN (ifc gg ?_ ?_)
 intro bV gh
 refine ZE (congrArg nA bV.out) (sR fL1 Z (oA Z Z (eN (zR (zZ (zN ?_))))))
 have q:=wAR gh
 obtain ⟨gK,gi,dG⟩:=q
 obtain rfl:=cH gK dG
 refine zN (zZ (zN ?_))
 cases gi
 exact ⟨rfl,_,(ZF rfl),bO,_,(cD.pick [] _ (by decide) rfl),rfl,rfl⟩
 intro bV gj
 refine zx (congrArg nA (nB.2 bV.out)) (Ze (zt (zH (rR fL3 Z (oM Z bY (oR Z (zi Z Z Z) (oA Z Z (zo ?_))))))))
 obtain rfl:=nD gj
 exact zH ⟨Z,_,Z,⟨bO,bu,Z,(bg.trans gy),cD⟩⟩
 have cR:=cX;rw [if_neg aS] at cR;replace aS:=zL aS
 refine cF Z aS (ZU (zk ?_))
 have q:=wAR cR
 obtain ⟨gL,gm,dH⟩:=q
 obtain rfl:=cH gL dH
 refine zk (ZM (zH (zK (sR fL1 Z (oA Z Z (eN (zd (yq (fun x78 σ_ w_=>∃ (U_:PHeap),σ_ 1=.pointer (some ⟨b2,0,none⟩)/\σ_ 4=jV x78/\PHeap.Le bN U_/\sW w U U_ [.blk b2 36 B0] w_) gm ?_ ?_))))))))
 exact ⟨bN,bu,Z,(zM _),bn⟩
 rintro x78 iL iQ du ⟨bP,bv,bZ,bq,bo⟩ cY cI
 refine zK (sR fL5 Z (oM Z bZ (oR Z (zF Z bv zU Z ZX) (oL Z (bo.ldB (j:=0) Z Z Z Za (v:=.slice ba p0.Splits.length bd) Z) (oR Z (zf Z Z zw) (oR Z (zg Z Z Z) (eN ?_)))))))
 by_cases aT:x78 < (↑p0.Splits.length:Int)
 have cS:=cY;rw [if_pos aT] at cS;replace aT:=zL aT
 refine cT Z aT (kN (zK (zd (sR (wHz (.fx 5 .nil .stop)) Z (oR Z (zF Z bv zU Z ZX) (oL Z (bo.ldB (j:=0) Z Z Z Za (v:=.slice ba p0.Splits.length bd) Z) (oM Z bZ (bnK cS fun x93 cd gp=>?_))))))))
 have eg:=eX.le bp
 have eh:=eg.le bg
 have ej:=eh.le bq
 have q:=ej.el (fun _=>rfl) (wAP cd)
 obtain ⟨ic,ie,en,eE⟩:=q
 refine oR Z (zz Z Z en Z zw ZS (wBG cd) (wBI cd)) (oL Z (bo.ldCA (f:=0) eE Z Z ym ZS (us:=[jV x93.Lo,jV x93.Hi]) Z Z) (bnK gp fun iy dI eZ=>zI 0 Z Z Z Z (zJ Z Z Tryz.call100 (zC Z (zC Z (zC Z zP))) Z) bo (fun hs=>wEG x93 0 360000 du bP hs dI) (.inr Z) ?_))
 rintro bD gM io dg gq eK ⟨rfl,rfl⟩
 have cx:sW w U bD [.blk b2 36 B0] dg:=eK
 refine eN (ifc eZ ?_ ?_)
 intro bQ e8
 refine ZE (congrArg nA bQ.out) (sR fL1 Z (oA Z Z (eN (zR (zZ (zN ?_))))))
 have q:=wAR e8
 obtain ⟨gz,e9,dv⟩:=q
 obtain rfl:=cI gz dv
 refine zN (zZ (zN ?_))
 cases e9
 exact ⟨rfl,_,(ZF rfl),bD,_,(cx.pick [] _ (by decide) rfl),rfl,rfl⟩
 intro bQ fb
 refine zx (congrArg nA (nB.2 bQ.out)) (Ze (zt (zH (rR fL3 Z (oM Z bZ (oR Z (zi Z Z Z) (oA Z Z (zo ?_))))))))
 obtain rfl:=nD fb
 exact zH ⟨Z,_,Z,⟨bD,bv,Z,(bq.trans gq),cx⟩⟩
 have cJ:=cY;rw [if_neg aT] at cJ;replace aT:=zL aT
 refine cF Z aT (ZU (zk ?_))
 have q:=wAR cJ
 obtain ⟨gA,fc,dw⟩:=q
 obtain rfl:=cI gA dw
 refine zk (ZM (zH (zK (sR fL1 Z (oA Z Z (eN (zd (yq (fun x127 σ_ w_=>∃ (U_:PHeap),σ_ 1=.pointer (some ⟨b2,0,none⟩)/\σ_ 5=jV x127/\PHeap.Le bP U_/\sW w U U_ [.blk b2 36 B0] w_) fc ?_ ?_))))))))
 exact ⟨bP,bv,Z,(zM _),bo⟩
 rintro x127 iH iM dk ⟨bE,bi,bs,bC,bj⟩ cU cg
 refine zK (sR fL5 Z (oM Z bs (oR Z (zF Z bi zU Z Zp) (oL Z (bj.ldB (j:=0) Z Z Z yC (v:=.slice aV p0.Clocks.length aX) Z) (oR Z (zf Z Z Zb) (oR Z (zg Z Z Z) (eN ?_)))))))
 by_cases au:x127 < (↑p0.Clocks.length:Int)
 have cK:=cU;rw [if_pos au] at cK;replace au:=zL au
 refine cT Z au (kN (zK (zd (sR (wKM (.fx 6 (wQk (.fx 14 (.fl 15 .nil) .stop)) .stop)) Z (oR Z (zF Z bi zU Z Zp) (oL Z (bj.ldB (j:=0) Z Z Z yC (v:=.slice aV p0.Clocks.length aX) Z) (oM Z bs (bnK cK fun x142 bf fd=>?_))))))))
 have dJ:=eY.le bp
 have dK:=dJ.le bg
 have dL:=dK.le bq
 have cw:=dL.le bC
 have q:=cw.el (fun _=>rfl) (wAP bf)
 obtain ⟨gZ,ig,eu,eF⟩:=q
 refine oR Z (zz Z Z eu Z Zb yZ (wBG bf) (wBI bf)) (oR Z (zF Z Z yH Z ZS) (oL Z (bj.ldCA (f:=0) eF Z Z ym ZS (us:=[jV x142.Offset.Lo,jV x142.Offset.Hi]) Z Z) (bnK fd fun iz dM ff=>zI 0 Z Z Z Z (zJ Z Z Tryz.call100 (zC Z (zC Z (zC Z zP))) Z) bj (fun hs=>wEG x142.Offset (-36000) 36000 dk bE hs dM) (.inr Z) ?_)))
 rintro bF gN ip cq cZ eM ⟨rfl,rfl⟩
 have bw:sW w U bF [.blk b2 36 B0] cq:=eM
 refine oM Z Z (ifc ff ?_ ?_)
 intro ae fh
 refine ZO Z Z Z (zh Z Z (congrArg nA ae.out) Z) (ZO Z Z Z (zh Z Z (congrArg nA ae.out) Z) (ZO Z Z Z (zh Z Z (congrArg nA ae.out) Z) (ZO Z Z Z (zh Z Z (congrArg nA ae.out) Z) (ZO Z Z Z (zh Z Z (congrArg nA ae.out) Z) (ZO Z Z Z (zh Z Z (congrArg nA ae.out) Z) (yD Z Z Z (zh Z Z (congrArg nA ae.out) Z) (oR Z (zn Z (congrArg nA ae.out) Z) (eN (ZE Z (sR fL1 Z (oA Z Z (eN (zR (zZ (zN ?_)))))))))))))))
 have q:=wAR fh
 obtain ⟨gB,fj,dx⟩:=q
 obtain rfl:=cg gB dx
 refine zN (zZ (zN ?_))
 cases fj
 exact ⟨rfl,_,(ZF rfl),bF,_,(bw.pick [] _ (by decide) rfl),rfl,rfl⟩
 intro ae fm
 refine zm Z Z Z (zO Z Z (congrArg nA (nB.2 ae.out))) (fun _=>zF Z bi zU Z Zp) (ZI Z Z Z (zO Z Z (congrArg nA (nB.2 ae.out))) (bw.ldB (j:=0) Z Z Z yC (v:=.slice aV p0.Clocks.length aX) Z) Z (ZA Z Z Z (zO Z Z (congrArg nA (nB.2 ae.out))) Z bs ?_))
 have dN:=cw.le cZ
 have q:=dN.el (fun _=>rfl) (wAP bf)
 obtain ⟨g7,ii,ey,eG⟩:=q
 refine zm Z Z Z (zO Z Z (congrArg nA (nB.2 ae.out))) (fun _=>zz Z Z ey Z Zb yZ (wBG bf) (wBI bf)) (zm Z Z Z (zO Z Z (congrArg nA (nB.2 ae.out))) (fun _=>zF Z Z yH Z zD) (ZI Z Z Z (zO Z Z (congrArg nA (nB.2 ae.out))) (bw.ldC (f:=2) eG (v:=jV x142.Error) Z Z zG Z) Z (bnK fm fun iA dO ft=>zI 0 Z Z Z (zO Z Z (congrArg nA (nB.2 ae.out))) (zJ Z Z yR (zC Z (zC Z (zC Z zP))) Z) bw (fun hs=>wAe x142.Error 0 600 cq bF hs dO) (.inr Z) ?_)))
 rintro bG gO iq dl gt eO ⟨rfl,rfl⟩
 have cy:sW w U bG [.blk b2 36 B0] dl:=eO
 refine oR Z (zq Z (congrArg nA (nB.2 ae.out)) Z) (eN (ifc ft ?_ ?_))
 intro bR fu
 refine ZE (congrArg nA bR.out) (sR fL1 Z (oA Z Z (eN (zR (zZ (zN ?_))))))
 have q:=wAR fu
 obtain ⟨gC,fw,dy⟩:=q
 obtain rfl:=cg gC dy
 refine zN (zZ (zN ?_))
 cases fw
 exact ⟨rfl,_,(ZF rfl),bG,_,(cy.pick [] _ (by decide) rfl),rfl,rfl⟩
 intro bR fy
 refine zx (congrArg nA (nB.2 bR.out)) (Ze (zt (zH (rR fL3 Z (oM Z bs (oR Z (zi Z Z Z) (oA Z Z (zo ?_))))))))
 obtain rfl:=nD fy
 exact zH ⟨Z,_,Z,⟨bG,bi,Z,((bC.trans cZ).trans gt),cy⟩⟩
 have cL:=cU;rw [if_neg au] at cL;replace au:=zL au
 refine cF Z au (ZU (zk ?_))
 have q:=wAR cL
 obtain ⟨gD,fA,dz⟩:=q
 obtain rfl:=cg gD dz
 refine zk (ZM (zH (zK (sR fL1 Z (oA Z Z (eN (zd (yq (fun cm σ_ w_=>∃ (U_:PHeap),σ_ 1=.pointer (some ⟨b2,0,none⟩)/\σ_ 6=jV cm/\PHeap.Le bE U_/\sW w U U_ [.blk b2 36 B0] w_) fA ?_ ?_))))))))
 exact ⟨bE,bi,Z,(zM _),bj⟩
 rintro cm iI iN dm ⟨bH,bt,bW,cj,bk⟩ cV cG
 refine zK (sR fL5 Z (oM Z bW (oR Z (zF Z bt zU Z yL) (oL Z (bk.ldB (j:=0) Z Z Z yd (v:=.slice aW p0.Readings.length aY) Z) (oR Z (zf Z Z Zw) (oR Z (zg Z Z Z) (eN ?_)))))))
 by_cases av:cm < (↑p0.Readings.length:Int)
 have cM:=cV;rw [if_pos av] at cM;replace av:=zL av
 refine cT Z av (kN (zK (zd (sR (wKM (.fx 6 .nil .stop)) Z (oR Z (zF Z bt zU Z yL) (oL Z (bk.ldB (j:=0) Z Z Z yd (v:=.slice aW p0.Readings.length aY) Z) (oM Z bW (bnK cM fun db b5 fC=>?_))))))))
 have dP:=cE.le bp
 have dQ:=dP.le bg
 have dR:=dQ.le bq
 have dS:=dR.le bC
 have dT:=dS.le cj
 have q:=dT.el (fun _=>rfl) (wAP b5)
 obtain ⟨g8,ij,eA,eH⟩:=q
 refine oR Z (zz Z Z eA Z Zw yM (wBG b5) (wBI b5)) (oR Z (zF Z Z ZY Z zD) (oL Z (bk.ldC (f:=3) eH (v:=jV db.Time) Z Z zG Z) (bnK fC fun iB dU fE=>zI 0 Z Z Z Z (zJ Z Z yR (zC Z (zC Z (zC Z zP))) Z) bk (fun hs=>wAe db.Time 0 360000 dm bH hs dU) (.inr Z) ?_)))
 rintro bI gP ir dp gu eP ⟨rfl,rfl⟩
 have cz:sW w U bI [.blk b2 36 B0] dp:=eP
 refine eN (ifc fE ?_ ?_)
 intro bS fH
 refine ZE (congrArg nA bS.out) (sR fL1 Z (oA Z Z (eN (zR (zZ (zN ?_))))))
 have q:=wAR fH
 obtain ⟨gE,fJ,dA⟩:=q
 obtain rfl:=cG gE dA
 refine zN (zZ (zN ?_))
 cases fJ
 exact ⟨rfl,_,(ZF rfl),bI,_,(cz.pick [] _ (by decide) rfl),rfl,rfl⟩
 intro bS fK
 refine zx (congrArg nA (nB.2 bS.out)) (Ze (zt (zH (rR fL3 Z (oM Z bW (oR Z (zi Z Z Z) (oA Z Z (zo ?_))))))))
 obtain rfl:=nD fK
 exact zH ⟨Z,_,Z,⟨bI,bt,Z,(cj.trans gu),cz⟩⟩
 have cN:=cV;rw [if_neg av] at cN;replace av:=zL av
 refine cF Z av (ZU (zk ?_))
 have q:=wAR cN
 obtain ⟨gF,fL,dB⟩:=q
 obtain rfl:=cG gF dB
 refine zk (ZM (zH (zK (sR fL1 Z (oA Z Z (eN (zd (yq (fun cn σ_ w_=>∃ (U_:PHeap),σ_ 1=.pointer (some ⟨b2,0,none⟩)/\σ_ 7=jV cn/\PHeap.Le bH U_/\sW w U U_ [.blk b2 36 B0] w_) fL ?_ ?_))))))))
 exact ⟨bH,bt,Z,(zM _),bk⟩
 rintro cn iJ iO gW ⟨bJ,be,bX,da,bm⟩ cW bB
 refine zK (sR fL5 Z (oM Z bX (oR Z (zF Z be zU Z yL) (oL Z (bm.ldB (j:=0) Z Z Z yd (v:=.slice aW p0.Readings.length aY) Z) (oR Z (zf Z Z Zw) (oR Z (zg Z Z Z) (eN ?_)))))))
 by_cases az:cn < (↑p0.Readings.length:Int)
 have cO:=cW;rw [if_pos az] at cO;replace az:=zL az
 refine cT Z az (kN (zK (zd (sR (wHz (.fx 5 (.fx 6 .nil .stop) .stop)) Z (oR Z (zF Z be zU Z yL) (oL Z (bm.ldB (j:=0) Z Z Z yd (v:=.slice aW p0.Readings.length aY) Z) (oM Z bX (bnK cO fun ak b9 fO=>?_))))))))
 have dV:=cE.le bp
 have dW:=dV.le bg
 have dX:=dW.le bq
 have dY:=dX.le bC
 have dZ:=dY.le cj
 have d4:=dZ.le da
 have q:=d4.el (fun _=>rfl) (wAP b9)
 obtain ⟨g9,ik,eC,eI⟩:=q
 refine oR Z (zz Z Z eC Z Zw yM (wBG b9) (wBI b9)) (oL Z (bm.ldCA (f:=0) eI Z Z Tryz.isAgg117 yM (us:=[jV ak.Skier,jV ak.Mat,jV ak.Clock,jV ak.Time]) Z Z) (zS (cs:=[jV 0,jV 0,jV 0,jV 0]) Z Z Z Z Z Tryz.zeroValue117 Z bm ?_))
 intro gX br eQ
 let B1:List Value:=[jV ak.Skier,jV ak.Mat,jV ak.Clock,jV ak.Time]
 refine zW (j:=0) (vs:=B1) Z Z Z Z eQ Z Z Z Z yM (zA Z) Z Z Z ?_
 intro cr eR
 have cf:sW w U bJ [.blk br 117 B1,.blk b2 36 B0] cr:=eR
 refine eN (sR (wKM (.fx 6 (wQj (.fx 13 (wSS (.fx 22 (.fl 23 .nil) .stop)) .stop)) .stop)) Z (oR Z (zF Z Z ZY Z zD) (oL Z (cf.ldB (j:=0) Z Z Z zG (v:=jV ak.Skier) Z) (oR Z (zF Z be zU Z zX) (oL Z (cf.ldB (j:=1) Z Z Z zY (v:=.slice a0 p0.Starts.length bb) Z) (oR Z (zf Z Z zB) (oR Z (yg Z Z Z) (bnK fO fun iC d5 fP=>zI 0 Z Z Z Z (zJ Z Z yR (zC Z (zC Z (zC Z zP))) Z) cf (fun hs=>wAe ak.Skier 0 (w64 ((↑p0.Starts.length:Int) - 1)) cr bJ hs d5) (.inr Z) ?_))))))))
 rintro bK gQ it ct gv eS ⟨rfl,rfl⟩
 have bz:sW w U bK [.blk br 117 B1,.blk b2 36 B0] ct:=eS
 refine oM Z Z (ifc fP ?_ ?_)
 intro aj fQ
 refine ZO Z Z Z (zh Z Z (congrArg nA aj.out) Z) (ZO Z Z Z (zh Z Z (congrArg nA aj.out) Z) (ZO Z Z Z (zh Z Z (congrArg nA aj.out) Z) (ZO Z Z Z (zh Z Z (congrArg nA aj.out) Z) (ZO Z Z Z (zh Z Z (congrArg nA aj.out) Z) (yD Z Z Z (zh Z Z (congrArg nA aj.out) Z) (oR Z (zn Z (congrArg nA aj.out) Z) (oM Z Z (oN Z (oN Z (oN Z (oN Z (oN Z (oN Z (yD Z Z Z (zh Z Z Z Z) (oR Z (zn Z Z Z) (eN (ZE Z (sR fL1 Z (oA Z Z (eN (zR (zZ (zN ?_)))))))))))))))))))))))
 have q:=wAR fQ
 obtain ⟨gG,fR,dC⟩:=q
 obtain rfl:=bB gG dC
 refine zN (zZ (zN ?_))
 cases fR
 exact ⟨rfl,_,(ZF rfl),bK,_,(bz.pick [] _ (by decide) rfl),rfl,rfl⟩
 intro aj fS
 refine zm Z Z Z (zO Z Z (congrArg nA (nB.2 aj.out))) (fun _=>zF Z Z ZY Z zD) (ZI Z Z Z (zO Z Z (congrArg nA (nB.2 aj.out))) (bz.ldB (j:=0) Z Z Z zG (v:=jV ak.Mat) Z) Z (zm Z Z Z (zO Z Z (congrArg nA (nB.2 aj.out))) (fun _=>zF Z be zU Z ZX) (ZI Z Z Z (zO Z Z (congrArg nA (nB.2 aj.out))) (bz.ldB (j:=1) Z Z Z Za (v:=.slice ba p0.Splits.length bd) Z) Z (zm Z Z Z (zO Z Z (congrArg nA (nB.2 aj.out))) (fun _=>zf Z Z zw) (bnK fS fun iD d6 fT=>zI 0 Z Z Z (zO Z Z (congrArg nA (nB.2 aj.out))) (zJ Z Z yR (zC Z (zC Z (zC Z zP))) Z) bz (fun hs=>wAe ak.Mat 0 (↑p0.Splits.length:Int) ct bK hs d6) (.inr Z) ?_)))))
 rintro bL gR iu cu gw eT ⟨rfl,rfl⟩
 have bA:sW w U bL [.blk br 117 B1,.blk b2 36 B0] cu:=eT
 refine oR Z (zq Z (congrArg nA (nB.2 aj.out)) Z) (oM Z Z (ifc fT ?_ ?_))
 intro ah fU
 refine ZO Z Z Z (zh Z Z (congrArg nA ah.out) Z) (ZO Z Z Z (zh Z Z (congrArg nA ah.out) Z) (ZO Z Z Z (zh Z Z (congrArg nA ah.out) Z) (ZO Z Z Z (zh Z Z (congrArg nA ah.out) Z) (ZO Z Z Z (zh Z Z (congrArg nA ah.out) Z) (ZO Z Z Z (zh Z Z (congrArg nA ah.out) Z) (yD Z Z Z (zh Z Z (congrArg nA ah.out) Z) (oR Z (zn Z (congrArg nA ah.out) Z) (eN (ZE Z (sR fL1 Z (oA Z Z (eN (zR (zZ (zN ?_)))))))))))))))
 have q:=wAR fU
 obtain ⟨gH,fV,dD⟩:=q
 obtain rfl:=bB gH dD
 refine zN (zZ (zN ?_))
 cases fV
 exact ⟨rfl,_,(ZF rfl),bL,_,(bA.pick [] _ (by decide) rfl),rfl,rfl⟩
 intro ah fW
 refine zm Z Z Z (zO Z Z (congrArg nA (nB.2 ah.out))) (fun _=>zF Z Z ZY Z zD) (ZI Z Z Z (zO Z Z (congrArg nA (nB.2 ah.out))) (bA.ldB (j:=0) Z Z Z zG (v:=jV ak.Clock) Z) Z (zm Z Z Z (zO Z Z (congrArg nA (nB.2 ah.out))) (fun _=>zF Z be zU Z Zp) (ZI Z Z Z (zO Z Z (congrArg nA (nB.2 ah.out))) (bA.ldB (j:=1) Z Z Z yC (v:=.slice aV p0.Clocks.length aX) Z) Z (zm Z Z Z (zO Z Z (congrArg nA (nB.2 ah.out))) (fun _=>zf Z Z Zb) (zm Z Z Z (zO Z Z (congrArg nA (nB.2 ah.out))) (fun _=>yg Z Z Z) (bnK fW fun iE d7 fY=>zI 0 Z Z Z (zO Z Z (congrArg nA (nB.2 ah.out))) (zJ Z Z yR (zC Z (zC Z (zC Z zP))) Z) bA (fun hs=>wAe ak.Clock 0 (w64 ((↑p0.Clocks.length:Int) - 1)) cu bL hs d7) (.inr Z) ?_))))))
 rintro bM gS iv dr gx eU ⟨rfl,rfl⟩
 have cC:sW w U bM [.blk br 117 B1,.blk b2 36 B0] dr:=eU
 refine oR Z (zq Z (congrArg nA (nB.2 ah.out)) Z) (eN (ifc fY ?_ ?_))
 intro bU fZ
 refine ZE (congrArg nA bU.out) (sR fL1 Z (oA Z Z (eN (zR (zZ (zN ?_))))))
 have q:=wAR fZ
 obtain ⟨gI,ga,dE⟩:=q
 obtain rfl:=bB gI dE
 refine zN (zZ (zN ?_))
 cases ga
 exact ⟨rfl,_,(ZF rfl),bM,_,(cC.pick [] _ (by decide) rfl),rfl,rfl⟩
 intro bU gb
 refine zx (congrArg nA (nB.2 bU.out)) (Ze (zt (zH (rR fL3 Z (oM Z bX (oR Z (zi Z Z Z) (oA Z Z (zo ?_))))))))
 obtain rfl:=nD gb
 exact zH ⟨rfl,_,rfl,⟨bM,be,rfl,(((da.trans gv).trans gw).trans gx),(cC.pick [1] _ (by decide) rfl)⟩⟩
 have cP:=cW;rw [if_neg az] at cP;replace az:=zL az
 refine cF Z az (ZU (zk ?_))
 have q:=wAR cP
 obtain ⟨gJ,ge,dF⟩:=q
 obtain rfl:=bB gJ dF
 refine zk (ZM (zH (sR fL1 Z (oA Z Z (eN (zR ?_))))))
 cases ge
 exact ⟨rfl,_,(ZF rfl),bJ,_,(bm.pick [] _ (by decide) rfl),rfl,rfl⟩
theorem wBk  (w:World) (U:PHeap) (hS:St0 w U [])  {r:wAE} (hm:wCU =some r):Gv Tryz.prog 65 [] w (wCs w [] U (fun U_ L_ v=>v=.agg #[jV r.skier,jV r.mat]/\L_=[])):=by
 unfold wCU at hm
 refine Gv.of Tryz.func65 Z Tryz.ntmps65 Tryz.results65 Z (sR (.fx 0 .nil .stop) Z (zS (cs:=[jV 0,jV 0]) Z Z Z Z Z ze Z hS ?_))
 intro W1 b2 ai
 refine eN (sR gAk Z ?_)
 let B0:List Value:=[jV (-1),jV 0]
 refine oR Z (ZP (pv:=[(0,jV (-1)),(1,jV 0)]) (z:=[jV 0,jV 0]) (cs:=B0) Z (wAI Z (wAI Z wAY)) ze wBp Z Z) (zW (j:=0) (vs:=B0) Z Z Z Z ai Z Z Z Z zE (zA Z) Z Z Z ?_)
 intro W5 aj
 have ab:sW w U U [.blk b2 123 B0] W5:=aj
 refine eN (zR ?_)
 cases hm
 exact ⟨rfl,_,(wMJ (v:=.agg B0.toArray) ⟨⟨_,rfl,(wCF zj zE (ab.blkAt (k:=0) rfl) (vs:=B0) rfl rfl)⟩,trivial⟩),U,_,(ab.pick [] _ (by decide) rfl),rfl,rfl⟩
theorem wEH {S E:Type} (PY:S->PHeap->List Res->Prop) (PE:E->PHeap->List Res->Prop) (f:S->wAH->Option (S ⊕ E)) (y:Nat) (s0:S) (p1:wAA) (am:Nat) (cf:Option Addr) (cn:Nat) (cg:Option Addr) (cp:Nat) (cj:Option Addr) (cq:Nat) (cm:Option Addr) (cr:Nat) (w:World) (L:List Res) (U:PHeap) (hS:St ⟨w,L,U⟩ U L w) (hP:PY s0 U L) (hY:YOK Tryz.prog y wRm PY PE f U) (bh:Cl U am 0 [.slice cf p1.Starts.length cn,.slice cg p1.Splits.length cp,.slice cj p1.Clocks.length cq,.slice cm p1.Readings.length cr]) (jv:Sl U 1 cf cn p1.Starts.length (hH KL.encI p1.Starts)) (jw:Sl U 2 cg cp p1.Splits.length (hH wAB p1.Splits)) (jx:Sl U 3 cj cq p1.Clocks.length (hH wAD p1.Clocks)) (jy:Sl U 4 cm cr p1.Readings.length (hH wAC p1.Readings)) {r:S ⊕ E} (hm:wBX f s0 p1=some r):Gv Tryz.prog 126 [.func (.yield y) #[] #[],.pointer (some ⟨am,0,none⟩)] w (ItS w L U PY PE r):=by
 unfold wBX at hm
 refine Gv.of Tryz.func126 Z Tryz.ntmps126 Tryz.results126 Z (sR fL11 Z (oR Z (zF Z Z zQ Z ZX) (oL Z (hS.ldC (f:=1) bh (v:=.slice cg p1.Splits.length cp) Z Z Za Z) (oR Z (zf Z Z zw) (oR Z (zF Z Z zQ Z Zt) (oL Z (hS.ldC (f:=2) bh (v:=.slice cj p1.Clocks.length cq) Z Z Zy Z) (oR Z (zf Z Z ZL) (oR Z (zF Z Z zQ Z yO) (oL Z (hS.ldC (f:=3) bh (v:=.slice cm p1.Readings.length cr) Z Z yQ Z) (oR Z (zf Z Z Zf) ?_))))))))))
 let B0:List Value:=[jV 1,jV (↑p1.Splits.length:Int),jV (↑p1.Clocks.length:Int),jV (↑p1.Readings.length:Int)]
 refine oR Z (Runs.buildA (pv:=[(0,jV 1),(1,jV (↑p1.Splits.length:Int)),(2,jV (↑p1.Clocks.length:Int)),(3,jV (↑p1.Readings.length:Int))]) (z:=[jV 0,jV 0,jV 0,jV 0]) (cs:=B0) Z (wAI Z (wAI Z (wAI Z (wAI Z wAY)))) Tryz.zeroValue195 Tryz.runUnderlying195 zD Z Z) (oM Z Z (eN (zd ?_)))
 have q:=wCD hm
 obtain ⟨jB,au⟩:=q
 have q:=wCC au
 obtain ⟨bW,gD⟩:=q
 replace bW:=zL bW
 refine yK (fun ab dA σ_ w_=>∃ (U_:PHeap) (az:List Res),σ_ 18=jV (↑ab:Int)/\σ_ 0=.func (.yield y) #[] #[]/\σ_ 1=.pointer (some ⟨am,0,none⟩)/\σ_ 17=.agg B0.toArray/\PHeap.Le U U_/\St ⟨w,L,U⟩ U_ az w_/\PY dA U_ az) gD ?_ ?_ ?_
 exact ⟨U,L,Z,Z,Z,Z,(zM _),hS,hP⟩
 rintro ab dA jH jS i4 bR ⟨bz,az,aT,cO,bF,bG,aq,bP,da⟩ iq bi
 have cK:Hid ((↑ab:Int) < 4):=zL (wBR bR)
 replace bR:=zL bR
 have dr:Hid (w64 ((↑ab:Int) + 1)=(↑(ab + 1):Int)):=zL (by have h1:=bW.out;have h2:=cK.out;rw [wAU] <;> omega)
 refine sR fL1 Z (oR Z (zg Z aT Z) (eN (zK (cT Z cK (kN (zK (zd (sR fL4 Z (oM Z aT (bnK iq fun x33 bO gX=>oR Z (Runs.ixA (cs:=hH KL.encI ([1,(↑p1.Splits.length:Int),(↑p1.Clocks.length:Int),(↑p1.Readings.length:Int)]:List Int)) Z bG aT Tryz.runUnderlying195 zD (wBG bO) (wBI bO) (wFy zG (wFM (sz:=1) (fun _=>Z) _ _ 0 _ _ (wAP bO) Z))) (oA Z Z (oA Z Z (eN (sR fL4 Z (oR Z (zF Z bF zQ Z zX) ?_)))))))))))))))
 have fU:=bh.le aq
 refine oL Z (bP.ldC (f:=0) fU (v:=.slice cf p1.Starts.length cn) Z Z zY Z) (oR Z (zf Z Z zB) (oA Z Z (eN (zK ?_))))
 have q:=bnd gX
 obtain ⟨⟨dO,iE⟩,dw,dt⟩:=q
 try dsimp only at dt
 refine yY (fun σ_ w_=>∃ (U_:PHeap) (aS:List Res),σ_ 0=.func (.yield y) #[] #[]/\σ_ 1=.pointer (some ⟨am,0,none⟩)/\σ_ 3=jV (↑ab:Int)/\σ_ 4=jV x33/\σ_ 5=jV (↑p1.Starts.length:Int)/\σ_ 17=.agg B0.toArray/\σ_ 18=jV (↑ab:Int)/\σ_ 30=.bool dO/\PHeap.Le bz U_/\St ⟨w,L,U⟩ U_ aS w_/\PY iE U_ aS) ?_ ?_
 refine rR fL6 Z (oM Z Z (oR Z (Runs.eql Z Z Z) (oM Z Z ?_)))
 by_cases ai:(↑ab:Int)=2
 have du:=dw;rw [if_pos ai] at du;replace ai:=zL ai
 refine oT Z ai (oT Z ai (oR Z (zn Z (Zk ai.out) Z) (zo ?_)))
 cases du
 exact zH ⟨Z,⟨bz,az,cO,bF,Z,Z,Z,bG,aT,Z,(zM _),bP,da⟩⟩
 have dv:=dw;rw [if_neg ai] at dv;replace ai:=zL ai
 refine ZA Z Z Z (wF Z ai) Z Z (rU Z (wF Z ai) (Runs.eql Z Z Z) (oR Z (zq Z (Zh ai.out) Z) (zo ?_)))
 cases dv
 exact zH ⟨Z,⟨bz,az,cO,bF,Z,Z,Z,bG,aT,Z,(zM _),bP,da⟩⟩
 rintro j6 je ⟨aY,aS,cQ,cR,cS,cU,fw,cV,cW,cX,av,dk,db⟩
 refine ifc dt ?_ ?_
 intro bB bp
 refine ZE (cX.trans (congrArg nA bB.out)) (rR fL1 Z (oA Z Z (eN (sR fL2 Z (oM Z Z (oM Z Z (eN (zd ?_))))))))
 have q:=wCD bp
 obtain ⟨jE,bg⟩:=q
 have q:=wCC bg
 obtain ⟨bZ,gG⟩:=q
 replace bZ:=zL bZ
 refine yK (fun ah dE σ_ w_=>∃ (U_:PHeap) (aV:List Res),σ_ 32=jV (↑ah:Int)/\σ_ 0=.func (.yield y) #[] #[]/\σ_ 1=.pointer (some ⟨am,0,none⟩)/\σ_ 3=jV (↑ab:Int)/\σ_ 4=jV x33/\σ_ 17=.agg B0.toArray/\σ_ 18=jV (↑ab:Int)/\σ_ 31=jV 1/\PHeap.Le aY U_/\St ⟨w,L,U⟩ U_ aV w_/\PY dE U_ aV) gG ?_ ?_ ?_
 exact ⟨aY,aS,Z,cQ,cR,cS,cU,cV,cW,Z,(zM _),dk,db⟩
 rintro ah dE jL j7 jf bU ⟨cz,aV,bN,fy,fz,fA,cY,fB,fC,cZ,cd,gw,fK⟩ br dq
 have cG:Hid ((↑ah:Int) < 1):=zL (wBR bU)
 replace bU:=zL bU
 have gH:Hid (w64 ((↑ah:Int) + 1)=(↑(ah + 1):Int)):=zL (by have h1:=bZ.out;have h2:=cG.out;rw [wAU] <;> omega)
 refine sR fL1 Z (oR Z (zg Z bN cZ) (eN (zK (cT Z cG (kN (zK (zd (sR fL2 Z (oM Z bN (oA Z Z (eN (sR fL2 Z (oM Z cY (oM Z Z (eN (zd ?_))))))))))))))))
 have q:=wCD br
 obtain ⟨jA,bd⟩:=q
 have q:=wCC bd
 obtain ⟨bV,gC⟩:=q
 replace bV:=zL bV
 refine yK (fun aj dB σ_ w_=>∃ (U_:PHeap) (bs:List Res),σ_ 36=jV (↑aj:Int)/\σ_ 0=.func (.yield y) #[] #[]/\σ_ 1=.pointer (some ⟨am,0,none⟩)/\σ_ 3=jV (↑ab:Int)/\σ_ 4=jV x33/\σ_ 6=jV (↑ah:Int)/\σ_ 17=.agg B0.toArray/\σ_ 18=jV (↑ab:Int)/\σ_ 31=jV 1/\σ_ 32=jV (↑ah:Int)/\σ_ 35=jV x33/\PHeap.Le cz U_/\St ⟨w,L,U⟩ U_ bs w_/\PY dB U_ bs) gC ?_ ?_ ?_
 exact ⟨cz,aV,Z,fy,fz,fA,cY,Z,fB,fC,cZ,bN,Z,(zM _),gw,fK⟩
 rintro aj dB jG jR iZ bQ ⟨iX,bs,bK,bC,ec,bD,ef,bE,eg,eh,ej,en,cL,b5,fZ,fL⟩ ip dl
 have cH:Hid ((↑aj:Int) < x33):=zL (wBR bQ)
 replace bQ:=zL bQ
 have gI:Hid (w64 ((↑aj:Int) + 1)=(↑(aj + 1):Int)):=zL (by have h1:=bV.out;have h2:=cH.out;rw [wAU] <;> omega)
 refine sR fL1 Z (oR Z (zg Z bK cL) (eN (zK (cT Z cH (kN (zK (zd (sR fL2 Z (oM Z bK (oA Z Z (eN (sR (wHz (.fx 5 (wQi gAu) .stop)) Z (oM Z bC (oM Z bD (oM Z bE (oM Z Z ?_))))))))))))))))
 let B1:List Value:=[jV 0,jV 0,jV 0,.bool false]
 refine oR Z (ZP (pv:=[(0,jV (↑ab:Int)),(1,jV (↑ah:Int)),(2,jV (↑aj:Int)),(3,.bool true)]) (z:=B1) (cs:=[jV (↑ab:Int),jV (↑ah:Int),jV (↑aj:Int),.bool true]) Z (wAI Z (wAI Z (wAI Z (wAI Z wAY)))) yn wHA Z Z) (bnK ip fun iR fM bj=>OKS.yieldT 0 (a:=(⟨(↑ab:Int),(↑ah:Int),(↑aj:Int),true⟩:wAH)) Z Z Z Z Z Z (zC Z zP) fZ hY (((aq.trans av).trans cd).trans b5) fL Z fM Z ?_)
 rintro bw cw jg cA dx de aZ
 rcases iR with iA | iA
 try dsimp only at bj aZ
 obtain ⟨rfl,ie⟩:=aZ
 have ga:St ⟨w,L,U⟩ bw cw cA:=de
 refine oR Z (Zd Z Z) (oM Z Z (ZA Z Z Z (zO Z Z Z) Z bC (ZA Z Z Z (zO Z Z Z) Z bD (ZA Z Z Z (zO Z Z Z) Z bE (ZA Z Z Z (zO Z Z Z) Z Z (zm Z Z Z (zO Z Z Z) (fun _=>ZP (pv:=[(0,jV (↑ab:Int)),(1,jV (↑ah:Int)),(2,jV (↑aj:Int)),(3,.bool false)]) (z:=B1) (cs:=[jV (↑ab:Int),jV (↑ah:Int),jV (↑aj:Int),.bool false]) Z (wAI Z (wAI Z (wAI Z (wAI Z wAY)))) yn wHA Z Z) (bnK bj fun iT fN bk=>OKS.yieldT 0 (a:=(⟨(↑ab:Int),(↑ah:Int),(↑aj:Int),false⟩:wAH)) Z Z Z (zO Z Z Z) Z Z (zC Z zP) ga hY ((((aq.trans av).trans cd).trans b5).trans dx) ie Z fN Z ?_)))))))
 rintro aW bt jh cC it df a0
 rcases iT with iB | iB
 try dsimp only at bk a0
 obtain ⟨rfl,ig⟩:=a0
 have gb:St ⟨w,L,U⟩ aW bt cC:=df
 refine zm Z Z Z (zO Z Z Z) (fun _=>Zd Z Z) (oR Z (zq Z Z Z) (eN (zx Z (Ze (zt (zH (rR fL2 Z (oR Z (ZT (zi Z bK Z) (congrArg (jV) gI.out)) (oM Z Z (zo ?_))))))))))
 obtain rfl:=nD bk
 exact zH ⟨Z,_,Z,⟨aW,bt,Z,bC,ec,bD,ef,bE,eg,eh,ej,en,cL,((b5.trans dx).trans it),gb,ig⟩⟩
 try dsimp only at bk a0
 obtain ⟨rfl,ii⟩:=a0
 have ge:St ⟨w,L,U⟩ aW bt cC:=df
 refine zm Z Z Z (zO Z Z Z) (fun _=>Zd Z Z) (oR Z (zq Z Z Z) (eN (ZE Z (zR (zZ (zN ?_))))))
 have q:=wAR bk
 obtain ⟨iF,gL,dU⟩:=q
 obtain rfl:=wCE br bd (dl iF dU)
 refine zN (zZ (zZ (zN ?_)))
 have q:=wAR gL
 obtain ⟨iG,gM,dV⟩:=q
 obtain rfl:=wCE bp bg (dq iG dV)
 refine zN (zZ (zZ (zN ?_)))
 have q:=wAR gM
 obtain ⟨iH,gN,dW⟩:=q
 obtain rfl:=wCE hm au (bi iH dW)
 refine zN (zZ ?_)
 cases gN
 exact ⟨Z,_,(wSV),aW,_,ge,ii⟩
 try dsimp only at bj aZ
 obtain ⟨rfl,ij⟩:=aZ
 have gf:St ⟨w,L,U⟩ bw cw cA:=de
 refine oR Z (Zd Z Z) (oM Z Z (oN Z (oN Z (oN Z (oN Z (oN Z (yD Z Z Z (zh Z Z Z Z) (oN Z (oR Z (zn Z Z Z) (eN (ZE Z (zR (zZ (zN ?_))))))))))))))
 have q:=wAR bj
 obtain ⟨iI,gO,dX⟩:=q
 obtain rfl:=wCE br bd (dl iI dX)
 refine zN (zZ (zZ (zN ?_)))
 have q:=wAR gO
 obtain ⟨iJ,gP,dY⟩:=q
 obtain rfl:=wCE bp bg (dq iJ dY)
 refine zN (zZ (zZ (zN ?_)))
 have q:=wAR gP
 obtain ⟨iK,gQ,dZ⟩:=q
 obtain rfl:=wCE hm au (bi iK dZ)
 refine zN (zZ ?_)
 cases gQ
 exact ⟨Z,_,(wSV),bw,_,gf,ij⟩
 rintro jM jU i6 ⟨dJ,dF,fD,eu,ey,eA,eC,jk,eD,eE,eF,eG,eH,iu,gg,fO⟩ gx
 have gR:=wCp br bd gx
 have dP:Hid (¬ ((↑((x33:Int) - 0).toNat:Int) < x33)):=zL (wAs)
 refine sR fL1 Z (oR Z (zg Z fD eH) (eN (zK (cF Z dP (ZU (zk (zk (ZM (zt (zH (rR fL2 Z (oR Z (ZT (zi Z eG Z) (congrArg (jV) gH.out)) (oM Z Z (zo ?_))))))))))))))
 obtain rfl:=nD gR
 exact zH ⟨Z,_,Z,⟨dJ,dF,Z,eu,ey,eA,eC,eD,eE,eF,(cd.trans iu),gg,fO⟩⟩
 rintro jN jW i8 ⟨dK,dG,fE,eI,eJ,jl,jm,eK,eL,eM,iv,gh,fP⟩ gy
 have gS:=wCp bp bg gy
 have dQ:Hid (¬ ((↑((1:Int) - 0).toNat:Int) < 1)):=zL (wAs)
 refine sR fL1 Z (oR Z (zg Z fE eM) (eN (zK (cF Z dQ (ZU (zk (zk (ZM (zt (zH (rR fL2 Z (oR Z (ZT (zi Z eL Z) (congrArg (jV) dr.out)) (oM Z Z (zo ?_))))))))))))))
 obtain rfl:=nD gS
 exact zH ⟨Z,_,Z,⟨dK,dG,Z,eI,eJ,eK,((aq.trans av).trans iv),gh,fP⟩⟩
 intro bB bm
 refine zx (cX.trans (congrArg nA (nB.2 bB.out))) (kN (sR fL2 Z (oM Z fw (oM Z Z (eN (zd ?_))))))
 have q:=wCD bm
 obtain ⟨jC,be⟩:=q
 have q:=wCC be
 obtain ⟨bX,gE⟩:=q
 replace bX:=zL bX
 refine yK (fun ae dC σ_ w_=>∃ (U_:PHeap) (aU:List Res),σ_ 32=jV (↑ae:Int)/\σ_ 0=.func (.yield y) #[] #[]/\σ_ 1=.pointer (some ⟨am,0,none⟩)/\σ_ 3=jV (↑ab:Int)/\σ_ 4=jV x33/\σ_ 17=.agg B0.toArray/\σ_ 18=jV (↑ab:Int)/\σ_ 31=jV (↑p1.Starts.length:Int)/\PHeap.Le aY U_/\St ⟨w,L,U⟩ U_ aU w_/\PY dC U_ aU) gE ?_ ?_ ?_
 exact ⟨aY,aS,Z,cQ,cR,cS,cU,cV,cW,Z,(zM _),dk,db⟩
 rintro ae dC jJ jX i9 bS ⟨cy,aU,bL,eO,eP,eQ,cM,eR,eS,cN,b9,gi,fQ⟩ bq dm
 have cI:Hid ((↑ae:Int) < (↑p1.Starts.length:Int)):=zL (wBR bS)
 replace bS:=zL bS
 have gJ:Hid (w64 ((↑ae:Int) + 1)=(↑(ae + 1):Int)):=zL (by have h1:=bX.out;have h2:=cI.out;rw [wAU] <;> omega)
 refine sR fL1 Z (oR Z (zg Z bL cN) (eN (zK (cT Z cI (kN (zK (zd (sR fL2 Z (oM Z bL (oA Z Z (eN (sR fL2 Z (oM Z cM (oM Z Z (eN (zd ?_))))))))))))))))
 have q:=wCD bq
 obtain ⟨jD,bf⟩:=q
 have q:=wCC bf
 obtain ⟨bY,gF⟩:=q
 replace bY:=zL bY
 refine yK (fun ak dD σ_ w_=>∃ (U_:PHeap) (bu:List Res),σ_ 36=jV (↑ak:Int)/\σ_ 0=.func (.yield y) #[] #[]/\σ_ 1=.pointer (some ⟨am,0,none⟩)/\σ_ 3=jV (↑ab:Int)/\σ_ 4=jV x33/\σ_ 6=jV (↑ae:Int)/\σ_ 17=.agg B0.toArray/\σ_ 18=jV (↑ab:Int)/\σ_ 31=jV (↑p1.Starts.length:Int)/\σ_ 32=jV (↑ae:Int)/\σ_ 35=jV x33/\PHeap.Le cy U_/\St ⟨w,L,U⟩ U_ bu w_/\PY dD U_ bu) gF ?_ ?_ ?_
 exact ⟨cy,aU,Z,eO,eP,eQ,cM,Z,eR,eS,cN,bL,Z,(zM _),gi,fQ⟩
 rintro ak dD jK jY ja bT ⟨iY,bu,bM,bH,eT,bI,eU,bJ,eV,eW,eX,eY,cP,cb,gj,fR⟩ ir dp
 have cJ:Hid ((↑ak:Int) < x33):=zL (wBR bT)
 replace bT:=zL bT
 have gK:Hid (w64 ((↑ak:Int) + 1)=(↑(ak + 1):Int)):=zL (by have h1:=bY.out;have h2:=cJ.out;rw [wAU] <;> omega)
 refine sR fL1 Z (oR Z (zg Z bM cP) (eN (zK (cT Z cJ (kN (zK (zd (sR fL2 Z (oM Z bM (oA Z Z (eN (sR (wHz (.fx 5 (wQi gAu) .stop)) Z (oM Z bH (oM Z bI (oM Z bJ (oM Z Z ?_))))))))))))))))
 let B2:List Value:=[jV 0,jV 0,jV 0,.bool false]
 refine oR Z (ZP (pv:=[(0,jV (↑ab:Int)),(1,jV (↑ae:Int)),(2,jV (↑ak:Int)),(3,.bool true)]) (z:=B2) (cs:=[jV (↑ab:Int),jV (↑ae:Int),jV (↑ak:Int),.bool true]) Z (wAI Z (wAI Z (wAI Z (wAI Z wAY)))) yn wHA Z Z) (bnK ir fun iU fS bn=>OKS.yieldT 0 (a:=(⟨(↑ab:Int),(↑ae:Int),(↑ak:Int),true⟩:wAH)) Z Z Z Z Z Z (zC Z zP) gj hY (((aq.trans av).trans b9).trans cb) fR Z fS Z ?_)
 rintro bA cx ji cD dy dg ba
 rcases iU with iC | iC
 try dsimp only at bn ba
 obtain ⟨rfl,ik⟩:=ba
 have gk:St ⟨w,L,U⟩ bA cx cD:=dg
 refine oR Z (Zd Z Z) (oM Z Z (ZA Z Z Z (zO Z Z Z) Z bH (ZA Z Z Z (zO Z Z Z) Z bI (ZA Z Z Z (zO Z Z Z) Z bJ (ZA Z Z Z (zO Z Z Z) Z Z (zm Z Z Z (zO Z Z Z) (fun _=>ZP (pv:=[(0,jV (↑ab:Int)),(1,jV (↑ae:Int)),(2,jV (↑ak:Int)),(3,.bool false)]) (z:=B2) (cs:=[jV (↑ab:Int),jV (↑ae:Int),jV (↑ak:Int),.bool false]) Z (wAI Z (wAI Z (wAI Z (wAI Z wAY)))) yn wHA Z Z) (bnK bn fun iV fT bo=>OKS.yieldT 0 (a:=(⟨(↑ab:Int),(↑ae:Int),(↑ak:Int),false⟩:wAH)) Z Z Z (zO Z Z Z) Z Z (zC Z zP) gk hY ((((aq.trans av).trans b9).trans cb).trans dy) ik Z fT Z ?_)))))))
 rintro aX bv jj cE iw dh bb
 rcases iV with iD | iD
 try dsimp only at bo bb
 obtain ⟨rfl,il⟩:=bb
 have gm:St ⟨w,L,U⟩ aX bv cE:=dh
 refine zm Z Z Z (zO Z Z Z) (fun _=>Zd Z Z) (oR Z (zq Z Z Z) (eN (zx Z (Ze (zt (zH (rR fL2 Z (oR Z (ZT (zi Z bM Z) (congrArg (jV) gK.out)) (oM Z Z (zo ?_))))))))))
 obtain rfl:=nD bo
 exact zH ⟨Z,_,Z,⟨aX,bv,Z,bH,eT,bI,eU,bJ,eV,eW,eX,eY,cP,((cb.trans dy).trans iw),gm,il⟩⟩
 try dsimp only at bo bb
 obtain ⟨rfl,im⟩:=bb
 have gp:St ⟨w,L,U⟩ aX bv cE:=dh
 refine zm Z Z Z (zO Z Z Z) (fun _=>Zd Z Z) (oR Z (zq Z Z Z) (eN (ZE Z (zR (zZ (zN ?_))))))
 have q:=wAR bo
 obtain ⟨iL,gT,d4⟩:=q
 obtain rfl:=wCE bq bf (dp iL d4)
 refine zN (zZ (zZ (zN ?_)))
 have q:=wAR gT
 obtain ⟨iM,gU,d5⟩:=q
 obtain rfl:=wCE bm be (dm iM d5)
 refine zN (zZ (zZ (zN ?_)))
 have q:=wAR gU
 obtain ⟨iN,gW,d6⟩:=q
 obtain rfl:=wCE hm au (bi iN d6)
 refine zN (zZ ?_)
 cases gW
 exact ⟨Z,_,(wSV),aX,_,gp,im⟩
 try dsimp only at bn ba
 obtain ⟨rfl,io⟩:=ba
 have gq:St ⟨w,L,U⟩ bA cx cD:=dg
 refine oR Z (Zd Z Z) (oM Z Z (oN Z (oN Z (oN Z (oN Z (oN Z (yD Z Z Z (zh Z Z Z Z) (oN Z (oR Z (zn Z Z Z) (eN (ZE Z (zR (zZ (zN ?_))))))))))))))
 have q:=wAR bn
 obtain ⟨iO,gZ,d7⟩:=q
 obtain rfl:=wCE bq bf (dp iO d7)
 refine zN (zZ (zZ (zN ?_)))
 have q:=wAR gZ
 obtain ⟨iP,g7,d8⟩:=q
 obtain rfl:=wCE bm be (dm iP d8)
 refine zN (zZ (zZ (zN ?_)))
 have q:=wAR g7
 obtain ⟨iQ,g8,d9⟩:=q
 obtain rfl:=wCE hm au (bi iQ d9)
 refine zN (zZ ?_)
 cases g8
 exact ⟨Z,_,(wSV),bA,_,gq,io⟩
 rintro jO jZ jb ⟨dL,dH,fG,eZ,e8,e9,fb,jo,fc,fd,ff,fg,fh,iy,gt,fV⟩ gz
 have g9:=wCp bq bf gz
 have dR:Hid (¬ ((↑((x33:Int) - 0).toNat:Int) < x33)):=zL (wAs)
 refine sR fL1 Z (oR Z (zg Z fG fh) (eN (zK (cF Z dR (ZU (zk (zk (ZM (zt (zH (rR fL2 Z (oR Z (ZT (zi Z fg Z) (congrArg (jV) gJ.out)) (oM Z Z (zo ?_))))))))))))))
 obtain rfl:=nD g9
 exact zH ⟨Z,_,Z,⟨dL,dH,Z,eZ,e8,e9,fb,fc,fd,ff,(b9.trans iy),gt,fV⟩⟩
 rintro jP j0 jc ⟨dM,dI,fH,fj,fm,jp,jq,fq,ft,fu,iz,gu,fW⟩ gA
 have ib:=wCp bm be gA
 have dS:Hid (¬ ((↑(((↑p1.Starts.length:Int):Int) - 0).toNat:Int) < (↑p1.Starts.length:Int))):=zL (wAs)
 refine sR fL1 Z (oR Z (zg Z fH fu) (eN (zK (cF Z dS (ZU (zk (zk (ZM (zt (zH (rR fL2 Z (oR Z (ZT (zi Z ft Z) (congrArg (jV) dr.out)) (oM Z Z (zo ?_))))))))))))))
 obtain rfl:=nD ib
 exact zH ⟨Z,_,Z,⟨dM,dI,Z,fj,fm,fq,((aq.trans av).trans iz),gu,fW⟩⟩
 rintro jQ j5 jd ⟨dN,iW,fJ,jr,jt,ju,jz,gv,fY⟩ gB
 have ic:=wCp hm au gB
 have dT:Hid (¬ ((↑((4:Int) - 0).toNat:Int) < 4)):=zL (wAs)
 refine sR fL1 Z (oR Z (zg Z fJ Z) (eN (zK (cF Z dT (ZU (zk (zk (ZM ?_))))))))
 cases ic
 exact ⟨Z,_,(wSV),dN,_,gv,fY⟩
end Go.Proofs.YtlnfbjphfoipaaaGreat
namespace Go.Proofs.YtlnfbjphfoipaaaGreat
open Go.KL
set_option maxHeartbeats 4000000
theorem wEb (p0:wAA) (ae:Option Addr) (ak:Nat) (ah:Option Addr) (am:Nat) (ai:Option Addr) (ap:Nat) (aj:Option Addr) (aq:Nat) (w:World) (U:PHeap) (hS:St0 w U []) (aX:Sl U 1 ae ak p0.Starts.length (hH KL.encI p0.Starts)) (aY:Sl U 2 ah am p0.Splits.length (hH wAB p0.Splits)) (aZ:Sl U 3 ai ap p0.Clocks.length (hH wAD p0.Clocks)) (a0:Sl U 4 aj aq p0.Readings.length (hH wAC p0.Readings)) {r:Unit} (hm:wBz p0=some r):Gv Tryz.prog 106 [.agg #[.slice ae p0.Starts.length ak,.slice ah p0.Splits.length am,.slice ai p0.Clocks.length ap,.slice aj p0.Readings.length aq]] w (wCs w [] U (fun U_ L_ v=>∃ (b0:Nat),v=.func (.func 126) #[] #[.pointer (some ⟨b0,0,none⟩)]/\L_=[]/\Cl U_ b0 0 [.slice ae p0.Starts.length ak,.slice ah p0.Splits.length am,.slice ai p0.Clocks.length ap,.slice aj p0.Readings.length aq])):=by
 unfold wBz at hm
 refine Gv.of Tryz.func106 Z Tryz.ntmps106 Tryz.results106 Z (sR gAf Z ?_)
 let B0:List Value:=[.slice ae p0.Starts.length ak,.slice ah p0.Splits.length am,.slice ai p0.Clocks.length ap,.slice aj p0.Readings.length aq]
 refine ZH (cs:=B0) rfl rfl rfl rfl rfl rfl (by rfl) hS ?_
 intro W1 b2 aU
 have q:=aU.freeze (k:=0) rfl
 obtain ⟨U5,ba,ab,aV⟩:=q
 replace ab:=Cl.of ab
 have aW:sW w U U5 [] W1:=aV
 replace ab:Cl U5 b2 0 B0:=ab
 refine oA Z Z (eN (sR fL2 Z (oR Z (Runs.mkf Z zP (zC Z zP)) (oA Z Z (eN (zR ?_))))))
 cases hm
 exact ⟨Z,_,(ZF Z),U5,_,aW,b2,Z,Z,ab⟩
theorem wIK (p0:wAA) (aZ:Option Addr) (bd:Nat) (a0:Option Addr) (be:Nat) (ba:Option Addr) (bf:Nat) (bb:Option Addr) (bg:Nat) (p1:wAH) (w:World) (U:PHeap) (hS:St0 w U []) (cd:Sl U 1 aZ bd p0.Starts.length (hH KL.encI p0.Starts)) (cf:Sl U 2 a0 be p0.Splits.length (hH wAB p0.Splits)) (cg:Sl U 3 ba bf p0.Clocks.length (hH wAD p0.Clocks)) (cj:Sl U 4 bb bg p0.Readings.length (hH wAC p0.Readings)) {r:wAE × wAE} (hm:wDg p0 p1=some r):Gv Tryz.prog 134 [.agg #[.slice aZ p0.Starts.length bd,.slice a0 p0.Splits.length be,.slice ba p0.Clocks.length bf,.slice bb p0.Readings.length bg],.agg #[jV p1.Kind,jV p1.Skier,jV p1.Index,.bool p1.Up]] w (wCs w [] U (fun U_ L_ v=>v=.tuple #[.agg #[jV r.1.skier,jV r.1.mat],.agg #[jV r.2.skier,jV r.2.mat]]/\L_=[])):=by
 unfold wDg at hm
 refine Gv.of Tryz.func134 Z Tryz.ntmps134 Tryz.results134 Z (sR gBc Z ?_)
 let B0:List Value:=[.slice aZ p0.Starts.length bd,.slice a0 p0.Splits.length be,.slice ba p0.Clocks.length bf,.slice bb p0.Readings.length bg]
 refine ZH (cs:=B0) rfl rfl rfl rfl rfl rfl (by rfl) hS ?_
 intro W1 b2 bD
 let B1:List Value:=[jV p1.Kind,jV p1.Skier,jV p1.Index,.bool p1.Up]
 refine ZH (cs:=B1) rfl rfl rfl rfl rfl rfl (by rfl) bD ?_
 intro W5 b6 bM
 let B2:List Value:=[jV 0,jV 0]
 refine zS (cs:=B2) Z Z Z Z Z ze Z bM ?_
 intro W9 ak bB
 refine zS (cs:=B2) Z Z Z Z Z ze Z bB ?_
 intro bh am bC
 refine eN ?_
 have q:=bnd hm
 obtain ⟨⟨bV,bW⟩,bT,bm⟩:=q
 try dsimp only at bm
 let B3:List Value:=[jV p1.Skier,jV 0]
 let B4:List Value:=[jV bV,jV bW]
 refine yY (fun σ_ w_=>∃ (U_:PHeap),σ_ 4=.pointer (some ⟨ak,0,none⟩)/\σ_ 5=.pointer (some ⟨am,0,none⟩)/\PHeap.Le U U_/\sW w U U_ [.blk am 123 B3,.blk ak 123 B4,.blk b6 93 B1,.blk b2 27 B0] w_) ?_ ?_
 refine bnK bT fun x22 bj aY=>zy zu [2,3,2,3,0,0] (.fl 1 (.fx 0 (.fx 2 (.fl 3 gAl) (.fx 4 (.fx 2 gAm .stop) .stop)) (.fx 2 (.fl 3 (.fx 0 gAl .stop)) .stop))) (by kernel_rfl) ?_
 have az:=bC.drew
 generalize hw_W40:({ bh with drawn:=bh.drawn + 1 }:World)=bi at az ⊢
 refine oR Z (zF Z Z ZG Z zD) (zl ?_ ?_)
 refine zI 0 Z Z Z Z (zJ Z Z yS zP Z) az (fun hs=>wBk bi U hs bj) (.inr Z) ?_
 rintro au bX cn bp bn bE ⟨rfl,rfl⟩
 have aW:sW w U au [.blk am 123 B2,.blk ak 123 B2,.blk b6 93 B1,.blk b2 27 B0] bp:=bE
 refine zl ?_ ?_
 refine ZQ Z Z Z Z (aW.ldB (j:=2) Z Z Z zG (v:=jV p1.Skier) Z) (oR Z (ZP (pv:=[(0,jV p1.Skier),(1,jV 0)]) (z:=B2) (cs:=B3) Z (wAI Z (wAI Z wAY)) ze wBp Z Z) ?_)
 let B5:List Value:=[jV x22.skier,jV x22.mat]
 refine zW (j:=1) (vs:=B5) Z Z Z Z aW Z Z Z Z zE (zA Z) Z Z Z ?_
 intro bq bF
 have bG:sW w U au [.blk am 123 B2,.blk ak 123 B5,.blk b6 93 B1,.blk b2 27 B0] bq:=bF
 refine zW (j:=0) (vs:=B3) Z Z Z Z bG Z Z Z Z zE (zA Z) Z Z Z ?_
 intro br bH
 have bI:sW w U au [.blk am 123 B3,.blk ak 123 B5,.blk b6 93 B1,.blk b2 27 B0] br:=bH
 refine zo ?_
 cases aY
 exact zH ⟨Z,⟨au,Z,Z,bn,bI⟩⟩
 let B6:List Value:=[jV x22.skier,jV x22.mat]
 refine zW (j:=1) (vs:=B6) Z Z Z Z aW Z Z Z Z zE (zA Z) Z Z Z ?_
 intro bs bJ
 have bk:sW w U au [.blk am 123 B2,.blk ak 123 B6,.blk b6 93 B1,.blk b2 27 B0] bs:=bJ
 refine ZQ Z Z Z Z (bk.ldB (j:=2) Z Z Z zG (v:=jV p1.Skier) Z) (oR Z (ZP (pv:=[(0,jV p1.Skier),(1,jV 0)]) (z:=B2) (cs:=B3) Z (wAI Z (wAI Z wAY)) ze wBp Z Z) (zW (j:=0) (vs:=B3) Z Z Z Z bk Z Z Z Z zE (zA Z) Z Z Z ?_))
 intro bt bK
 have bL:sW w U au [.blk am 123 B3,.blk ak 123 B6,.blk b6 93 B1,.blk b2 27 B0] bt:=bK
 refine zo ?_
 cases aY
 exact zH ⟨Z,⟨au,Z,Z,bn,bL⟩⟩
 refine ZQ Z Z Z Z (az.ldB (j:=2) Z Z Z zG (v:=jV p1.Skier) Z) (oR Z (ZP (pv:=[(0,jV p1.Skier),(1,jV 0)]) (z:=B2) (cs:=B3) Z (wAI Z (wAI Z wAY)) ze wBp Z Z) (zI 0 Z Z Z Z (zJ Z Z yS zP Z) az (fun hs=>wBk bi U hs bj) (.inr Z) ?_))
 rintro av bY cp bu bU bN ⟨rfl,rfl⟩
 have bO:sW w U av [.blk am 123 B2,.blk ak 123 B2,.blk b6 93 B1,.blk b2 27 B0] bu:=bN
 let B7:List Value:=[jV x22.skier,jV x22.mat]
 refine zW (j:=1) (vs:=B7) Z Z Z Z bO Z Z Z Z zE (zA Z) Z Z Z ?_
 intro bv bP
 have bQ:sW w U av [.blk am 123 B2,.blk ak 123 B7,.blk b6 93 B1,.blk b2 27 B0] bv:=bP
 refine zW (j:=0) (vs:=B3) Z Z Z Z bQ Z Z Z Z zE (zA Z) Z Z Z ?_
 intro bw bR
 have bS:sW w U av [.blk am 123 B3,.blk ak 123 B7,.blk b6 93 B1,.blk b2 27 B0] bw:=bR
 refine zo ?_
 cases aY
 exact zH ⟨Z,⟨av,Z,Z,bU,bS⟩⟩
 rintro cq b9 ⟨bo,bz,bA,cm,aX⟩
 refine zR ?_
 cases bm
 exact ⟨rfl,_,(wDL (rs:=[.cell 4 123,.cell 5 123]) (vs:=[.agg B4.toArray,.agg B3.toArray]) ⟨⟨_,bz,(wCF zj zE (aX.blkAt (k:=1) rfl) (vs:=B4) rfl rfl)⟩,⟨⟨_,bA,(wCF zj zE (aX.blkAt (k:=0) rfl) (vs:=B3) rfl rfl)⟩,trivial⟩⟩ rfl),bo,_,(aX.pick [] _ (by decide) rfl),rfl,rfl⟩
theorem wIL (p0:wAA) (ai:Option Addr) (aj:Nat) (ak:Option Addr) (aq:Nat) (am:Option Addr) (au:Nat) (ap:Option Addr) (av:Nat) (p1:wAH) (w:World) (U:PHeap) (hS:St0 w U []) (aS:Sl U 1 ai aj p0.Starts.length (hH KL.encI p0.Starts)) (bh:Sl U 2 ak aq p0.Splits.length (hH wAB p0.Splits)) (bi:Sl U 3 am au p0.Clocks.length (hH wAD p0.Clocks)) (bj:Sl U 4 ap av p0.Readings.length (hH wAC p0.Readings)) {r:Int × Int} (hm:wDh p0 p1=some r):Gv Tryz.prog 135 [.agg #[.slice ai p0.Starts.length aj,.slice ak p0.Splits.length aq,.slice am p0.Clocks.length au,.slice ap p0.Readings.length av],.agg #[jV p1.Kind,jV p1.Skier,jV p1.Index,.bool p1.Up]] w (wCs w [] U (fun U_ L_ v=>v=.tuple #[jV r.1,jV r.2]/\L_=[])):=by
 unfold wDh at hm
 refine Gv.of Tryz.func135 rfl Tryz.ntmps135 Tryz.results135 rfl (sR gBd rfl (ZH (cs:=[.slice ai p0.Starts.length aj,.slice ak p0.Splits.length aq,.slice am p0.Clocks.length au,.slice ap p0.Readings.length av]) rfl rfl rfl rfl rfl rfl (by rfl) hS ?_))
 intro W1 b2 aY
 refine ZH (cs:=[jV p1.Kind,jV p1.Skier,jV p1.Index,.bool p1.Up]) rfl rfl rfl rfl rfl rfl (by rfl) aY ?_
 intro W5 b6 aZ
 refine yk rfl rfl rfl rfl rfl rfl (yk rfl rfl rfl rfl rfl rfl (eN (zK (zy zu [3,1,3,1,3,1,3,1,3,1,3,1,3,3,3] fL15 (by kernel_rfl) ?_))))
 have ae:=aZ.drew
 generalize hw_W10:({ W5 with drawn:=W5.drawn + 1 }:World)=bb at ae ⊢
 refine oR Z (zF Z Z zQ Z zX) (oL Z (ae.ldB (j:=1) Z Z Z zY (v:=.slice ai p0.Starts.length aj) Z) (oR Z (zF Z Z ZG Z zD) (oL Z (ae.ldB (j:=0) Z Z Z zG (v:=jV p1.Skier) Z) (bnK hm fun aT ah a0=>?_))))
 have q:=aS.el (fun _=>rfl) (wAP ah)
 obtain ⟨bd,bk,aU,aW⟩:=q
 refine oR Z (zz Z Z aU Z zB zD (wBG ah) (wBI ah)) (oL Z (ae.ldC (f:=0) aW (v:=jV aT) Z Z zG Z) (oR Z (zF Z Z zQ Z zX) (oL Z (ae.ldB (j:=1) Z Z Z zY (v:=.slice ai p0.Starts.length aj) Z) (oR Z (zF Z Z ZG Z zD) (oL Z (ae.ldB (j:=0) Z Z Z zG (v:=jV p1.Skier) Z) ?_)))))
 have q:=aS.el (fun _=>rfl) (wAP ah)
 obtain ⟨be,bm,aV,aX⟩:=q
 refine oR Z (zz Z Z aV Z zB zD (wBG ah) (wBI ah)) (oL Z (ae.ldC (f:=0) aX (v:=jV aT) Z Z zG Z) (oR Z (Runs.negw Z Z) (oA Z Z (oA Z Z (eN (zR ?_))))))
 cases a0
 exact ⟨rfl,_,(wJS rfl rfl),U,_,(ae.pick [] _ (by decide) rfl),rfl,rfl⟩
theorem wIM (p0:wAA) (aU:Option Addr) (aY:Nat) (aV:Option Addr) (aZ:Nat) (aW:Option Addr) (a0:Nat) (aX:Option Addr) (ba:Nat) (p1:wAH) (w:World) (U:PHeap) (hS:St0 w U []) (bZ:Sl U 1 aU aY p0.Starts.length (hH KL.encI p0.Starts)) (b5:Sl U 2 aV aZ p0.Splits.length (hH wAB p0.Splits)) (b9:Sl U 3 aW a0 p0.Clocks.length (hH wAD p0.Clocks)) (cb:Sl U 4 aX ba p0.Readings.length (hH wAC p0.Readings)) {r:wAE × wAE} (hm:wDi p0 p1=some r):Gv Tryz.prog 137 [.agg #[.slice aU p0.Starts.length aY,.slice aV p0.Splits.length aZ,.slice aW p0.Clocks.length a0,.slice aX p0.Readings.length ba],.agg #[jV p1.Kind,jV p1.Skier,jV p1.Index,.bool p1.Up]] w (wCs w [] U (fun U_ L_ v=>v=.tuple #[.agg #[jV r.1.skier,jV r.1.mat],.agg #[jV r.2.skier,jV r.2.mat]]/\L_=[])):=by
 unfold wDi at hm
 refine Gv.of Tryz.func137 Z Tryz.ntmps137 Tryz.results137 Z (sR gBc Z ?_)
 let B0:List Value:=[.slice aU p0.Starts.length aY,.slice aV p0.Splits.length aZ,.slice aW p0.Clocks.length a0,.slice aX p0.Readings.length ba]
 refine ZH (cs:=B0) rfl rfl rfl rfl rfl rfl (by rfl) hS ?_
 intro W1 b2 bA
 let B1:List Value:=[jV p1.Kind,jV p1.Skier,jV p1.Index,.bool p1.Up]
 refine ZH (cs:=B1) rfl rfl rfl rfl rfl rfl (by rfl) bA ?_
 intro W5 b6 bT
 let B2:List Value:=[jV 0,jV 0]
 refine zS (cs:=B2) Z Z Z Z Z ze Z bT ?_
 intro W9 am bv
 refine zS (cs:=B2) Z Z Z Z Z ze Z bv ?_
 intro bb ap bw
 refine eN ?_
 have q:=bnd hm
 obtain ⟨⟨⟩,aS,bf⟩:=q
 try dsimp only at bf
 let B3:List Value:=[jV p1.Skier,jV (w64 (p1.Index + 1))]
 let B4:List Value:=[jV p1.Skier,jV p1.Index]
 refine yY (fun σ_ w_=>∃ (U_:PHeap),σ_ 4=.pointer (some ⟨am,0,none⟩)/\σ_ 5=.pointer (some ⟨ap,0,none⟩)/\PHeap.Le U U_/\sW w U U_ [.blk ap 123 B3,.blk am 123 B4,.blk b6 93 B1,.blk b2 27 B0] w_) ?_ ?_
 refine zy zu [3,1,3,1,3,3,2,3,2,3,3,0,0] (wKM (.fl 7 (.fx 6 (.fx 8 (.fl 9 gAv) (.fx 11 gBe .stop)) (.fx 8 (.fl 9 (.fx 6 gAv (.fx 11 gAw .stop))) (.fx 11 (.fx 6 gBe (.fx 8 (.fl 9 gAw) .stop)) .stop))))) (by kernel_rfl) ?_
 have av:=bw.drew
 generalize hw_W27:({ bb with drawn:=bb.drawn + 1 }:World)=bV at av ⊢
 refine oR Z (zF Z Z ZG Z zD) (oL Z (av.ldB (j:=2) Z Z Z zG (v:=jV p1.Skier) Z) (oR Z (zF Z Z ZG Z zD) (oL Z (av.ldB (j:=2) Z Z Z zG (v:=jV p1.Index) Z) (oR Z (ZP (pv:=[(0,jV p1.Skier),(1,jV p1.Index)]) (z:=B2) (cs:=B4) Z (wAI Z (wAI Z wAY)) ze wBp Z Z) (oR Z (zF Z Z ZG Z zD) (oR Z (zF Z Z ZG Z zD) (zl ?_ ?_)))))))
 refine ZQ Z Z Z Z (av.ldB (j:=2) Z Z Z zG (v:=jV p1.Skier) Z) (zl ?_ ?_)
 refine ZQ Z Z Z Z (av.ldB (j:=2) Z Z Z zG (v:=jV p1.Index) Z) (oR Z (zi Z Z Z) (oR Z (ZP (pv:=[(0,jV p1.Skier),(1,jV (w64 (p1.Index + 1)))]) (z:=B2) (cs:=B3) Z (wAI Z (wAI Z wAY)) ze wBp Z Z) (zW (j:=1) (vs:=B4) Z Z Z Z av Z Z Z Z zE (zA Z) Z Z Z ?_)))
 intro bh bz
 have bB:sW w U U [.blk ap 123 B2,.blk am 123 B4,.blk b6 93 B1,.blk b2 27 B0] bh:=bz
 refine zW (j:=0) (vs:=B3) Z Z Z Z bB Z Z Z Z zE (zA Z) Z Z Z ?_
 intro bi bC
 have bD:sW w U U [.blk ap 123 B3,.blk am 123 B4,.blk b6 93 B1,.blk b2 27 B0] bi:=bC
 refine zo ?_
 cases aS
 exact zH ⟨Z,⟨U,Z,Z,(zM _),bD⟩⟩
 refine zW (j:=1) (vs:=B4) Z Z Z Z av Z Z Z Z zE (zA Z) Z Z Z ?_
 intro bj bE
 have bd:sW w U U [.blk ap 123 B2,.blk am 123 B4,.blk b6 93 B1,.blk b2 27 B0] bj:=bE
 refine ZQ Z Z Z Z (bd.ldB (j:=2) Z Z Z zG (v:=jV p1.Index) Z) (oR Z (zi Z Z Z) (oR Z (ZP (pv:=[(0,jV p1.Skier),(1,jV (w64 (p1.Index + 1)))]) (z:=B2) (cs:=B3) Z (wAI Z (wAI Z wAY)) ze wBp Z Z) (zW (j:=0) (vs:=B3) Z Z Z Z bd Z Z Z Z zE (zA Z) Z Z Z ?_)))
 intro bk bF
 have bG:sW w U U [.blk ap 123 B3,.blk am 123 B4,.blk b6 93 B1,.blk b2 27 B0] bk:=bF
 refine zo ?_
 cases aS
 exact zH ⟨Z,⟨U,Z,Z,(zM _),bG⟩⟩
 refine zl ?_ ?_
 refine ZQ Z Z Z Z (av.ldB (j:=2) Z Z Z zG (v:=jV p1.Index) Z) (oR Z (zi Z Z Z) (zl ?_ ?_))
 refine ZQ Z Z Z Z (av.ldB (j:=2) Z Z Z zG (v:=jV p1.Skier) Z) (oR Z (ZP (pv:=[(0,jV p1.Skier),(1,jV (w64 (p1.Index + 1)))]) (z:=B2) (cs:=B3) Z (wAI Z (wAI Z wAY)) ze wBp Z Z) (zW (j:=1) (vs:=B4) Z Z Z Z av Z Z Z Z zE (zA Z) Z Z Z ?_))
 intro bm bH
 have bI:sW w U U [.blk ap 123 B2,.blk am 123 B4,.blk b6 93 B1,.blk b2 27 B0] bm:=bH
 refine zW (j:=0) (vs:=B3) Z Z Z Z bI Z Z Z Z zE (zA Z) Z Z Z ?_
 intro bn bJ
 have bK:sW w U U [.blk ap 123 B3,.blk am 123 B4,.blk b6 93 B1,.blk b2 27 B0] bn:=bJ
 refine zo ?_
 cases aS
 exact zH ⟨Z,⟨U,Z,Z,(zM _),bK⟩⟩
 refine zW (j:=1) (vs:=B4) Z Z Z Z av Z Z Z Z zE (zA Z) Z Z Z ?_
 intro bo bL
 have be:sW w U U [.blk ap 123 B2,.blk am 123 B4,.blk b6 93 B1,.blk b2 27 B0] bo:=bL
 refine ZQ Z Z Z Z (be.ldB (j:=2) Z Z Z zG (v:=jV p1.Skier) Z) (oR Z (ZP (pv:=[(0,jV p1.Skier),(1,jV (w64 (p1.Index + 1)))]) (z:=B2) (cs:=B3) Z (wAI Z (wAI Z wAY)) ze wBp Z Z) (zW (j:=0) (vs:=B3) Z Z Z Z be Z Z Z Z zE (zA Z) Z Z Z ?_))
 intro bp bM
 have bN:sW w U U [.blk ap 123 B3,.blk am 123 B4,.blk b6 93 B1,.blk b2 27 B0] bp:=bM
 refine zo ?_
 cases aS
 exact zH ⟨Z,⟨U,Z,Z,(zM _),bN⟩⟩
 refine zW (j:=1) (vs:=B4) Z Z Z Z av Z Z Z Z zE (zA Z) Z Z Z ?_
 intro bq bO
 have az:sW w U U [.blk ap 123 B2,.blk am 123 B4,.blk b6 93 B1,.blk b2 27 B0] bq:=bO
 refine zl ?_ ?_
 refine ZQ Z Z Z Z (az.ldB (j:=2) Z Z Z zG (v:=jV p1.Skier) Z) (ZQ Z Z Z Z (az.ldB (j:=2) Z Z Z zG (v:=jV p1.Index) Z) (oR Z (zi Z Z Z) (oR Z (ZP (pv:=[(0,jV p1.Skier),(1,jV (w64 (p1.Index + 1)))]) (z:=B2) (cs:=B3) Z (wAI Z (wAI Z wAY)) ze wBp Z Z) (zW (j:=0) (vs:=B3) Z Z Z Z az Z Z Z Z zE (zA Z) Z Z Z ?_))))
 intro br bP
 have bQ:sW w U U [.blk ap 123 B3,.blk am 123 B4,.blk b6 93 B1,.blk b2 27 B0] br:=bP
 refine zo ?_
 cases aS
 exact zH ⟨Z,⟨U,Z,Z,(zM _),bQ⟩⟩
 refine ZQ Z Z Z Z (az.ldB (j:=2) Z Z Z zG (v:=jV p1.Index) Z) (oR Z (zi Z Z Z) (ZQ Z Z Z Z (az.ldB (j:=2) Z Z Z zG (v:=jV p1.Skier) Z) (oR Z (ZP (pv:=[(0,jV p1.Skier),(1,jV (w64 (p1.Index + 1)))]) (z:=B2) (cs:=B3) Z (wAI Z (wAI Z wAY)) ze wBp Z Z) (zW (j:=0) (vs:=B3) Z Z Z Z az Z Z Z Z zE (zA Z) Z Z Z ?_))))
 intro bs bR
 have bS:sW w U U [.blk ap 123 B3,.blk am 123 B4,.blk b6 93 B1,.blk b2 27 B0] bs:=bR
 refine zo ?_
 cases aS
 exact zH ⟨Z,⟨U,Z,Z,(zM _),bS⟩⟩
 rintro cf bX ⟨bg,bt,bu,cd,aT⟩
 refine zR ?_
 cases bf
 exact ⟨rfl,_,(wDL (rs:=[.cell 4 123,.cell 5 123]) (vs:=[.agg B4.toArray,.agg B3.toArray]) ⟨⟨_,bt,(wCF zj zE (aT.blkAt (k:=1) rfl) (vs:=B4) rfl rfl)⟩,⟨⟨_,bu,(wCF zj zE (aT.blkAt (k:=0) rfl) (vs:=B3) rfl rfl)⟩,trivial⟩⟩ rfl),bg,_,(aT.pick [] _ (by decide) rfl),rfl,rfl⟩
theorem wIN (p0:wAA) (ak:Option Addr) (aq:Nat) (ai:Option Addr) (aj:Nat) (am:Option Addr) (au:Nat) (ap:Option Addr) (av:Nat) (p1:wAH) (w:World) (U:PHeap) (hS:St0 w U []) (bh:Sl U 1 ak aq p0.Starts.length (hH KL.encI p0.Starts)) (aS:Sl U 2 ai aj p0.Splits.length (hH wAB p0.Splits)) (bi:Sl U 3 am au p0.Clocks.length (hH wAD p0.Clocks)) (bj:Sl U 4 ap av p0.Readings.length (hH wAC p0.Readings)) {r:Int × Int} (hm:wDj p0 p1=some r):Gv Tryz.prog 138 [.agg #[.slice ak p0.Starts.length aq,.slice ai p0.Splits.length aj,.slice am p0.Clocks.length au,.slice ap p0.Readings.length av],.agg #[jV p1.Kind,jV p1.Skier,jV p1.Index,.bool p1.Up]] w (wCs w [] U (fun U_ L_ v=>v=.tuple #[jV r.1,jV r.2]/\L_=[])):=by
 unfold wDj at hm
 refine Gv.of Tryz.func138 rfl Tryz.ntmps138 Tryz.results138 rfl (sR gBd rfl (ZH (cs:=[.slice ak p0.Starts.length aq,.slice ai p0.Splits.length aj,.slice am p0.Clocks.length au,.slice ap p0.Readings.length av]) rfl rfl rfl rfl rfl rfl (by rfl) hS ?_))
 intro W1 b2 aY
 refine ZH (cs:=[jV p1.Kind,jV p1.Skier,jV p1.Index,.bool p1.Up]) rfl rfl rfl rfl rfl rfl (by rfl) aY ?_
 intro W5 b6 aZ
 refine yk rfl rfl rfl rfl rfl rfl (yk rfl rfl rfl rfl rfl rfl (eN (zK (zy zu [3,1,3,1,3,3,1,3,1,3,1,3,3,1,3,3,3] fL17 (by kernel_rfl) ?_))))
 have ae:=aZ.drew
 generalize hw_W10:({ W5 with drawn:=W5.drawn + 1 }:World)=bb at ae ⊢
 refine oR Z (zF Z Z zQ Z ZX) (oL Z (ae.ldB (j:=1) Z Z Z Za (v:=.slice ai p0.Splits.length aj) Z) (oR Z (zF Z Z ZG Z zD) (oL Z (ae.ldB (j:=0) Z Z Z zG (v:=jV p1.Index) Z) (bnK hm fun aT ah a0=>?_))))
 have q:=aS.el (fun _=>rfl) (wAP ah)
 obtain ⟨bd,bk,aU,aW⟩:=q
 refine oR Z (zz Z Z aU Z zw ZS (wBG ah) (wBI ah)) (oR Z (zF Z Z ZN Z zD) (oL Z (ae.ldC (f:=1) aW (v:=jV aT.Hi) Z Z zG Z) (oR Z (zF Z Z zQ Z ZX) (oL Z (ae.ldB (j:=1) Z Z Z Za (v:=.slice ai p0.Splits.length aj) Z) (oR Z (zF Z Z ZG Z zD) (oL Z (ae.ldB (j:=0) Z Z Z zG (v:=jV p1.Index) Z) ?_))))))
 have q:=aS.el (fun _=>rfl) (wAP ah)
 obtain ⟨be,bm,aV,aX⟩:=q
 refine oR Z (zz Z Z aV Z zw ZS (wBG ah) (wBI ah)) (oR Z (zF Z Z ZN Z zD) (oL Z (ae.ldC (f:=0) aX (v:=jV aT.Lo) Z Z zG Z) (oR Z (Runs.negw Z Z) (oA Z Z (oA Z Z (eN (zR ?_)))))))
 cases a0
 exact ⟨rfl,_,(wJS rfl rfl),U,_,(ae.pick [] _ (by decide) rfl),rfl,rfl⟩
theorem wCj (p0:Int) (w:World) (U:PHeap) (hS:St0 w U [])  {r:wAE} (hm:wBx p0=some r):Gv Tryz.prog 70 [jV p0] w (wCs w [] U (fun U_ L_ v=>v=.agg #[jV r.skier,jV r.mat]/\L_=[])):=by
 unfold wBx at hm
 refine Gv.of Tryz.func70 Z Tryz.ntmps70 Tryz.results70 Z (sR (.fx 0 .nil .stop) Z (zS (cs:=[jV 0,jV 0]) Z Z Z Z Z ze Z hS ?_))
 intro W1 b2 aj
 refine eN (sR (wFK (.fx 3 .nil .stop)) Z (oM Z Z (oR Z (zi Z Z Z) ?_)))
 let B0:List Value:=[jV (-1),jV (w64 (1 + p0))]
 refine oR Z (ZP (pv:=[(0,jV (-1)),(1,jV (w64 (1 + p0)))]) (z:=[jV 0,jV 0]) (cs:=B0) Z (wAI Z (wAI Z wAY)) ze wBp Z Z) (zW (j:=0) (vs:=B0) Z Z Z Z aj Z Z Z Z zE (zA Z) Z Z Z ?_)
 intro W5 ak
 have ae:sW w U U [.blk b2 123 B0] W5:=ak
 refine eN (zR ?_)
 cases hm
 exact ⟨rfl,_,(wMJ (v:=.agg B0.toArray) ⟨⟨_,rfl,(wCF zj zE (ae.blkAt (k:=0) rfl) (vs:=B0) rfl rfl)⟩,trivial⟩),U,_,(ae.pick [] _ (by decide) rfl),rfl,rfl⟩
theorem wIO (p0:wAA) (aT:Option Addr) (aX:Nat) (aU:Option Addr) (aY:Nat) (aV:Option Addr) (aZ:Nat) (aW:Option Addr) (a0:Nat) (p1:wAH) (w:World) (U:PHeap) (hS:St0 w U []) (bH:Sl U 1 aT aX p0.Starts.length (hH KL.encI p0.Starts)) (bI:Sl U 2 aU aY p0.Splits.length (hH wAB p0.Splits)) (bJ:Sl U 3 aV aZ p0.Clocks.length (hH wAD p0.Clocks)) (bK:Sl U 4 aW a0 p0.Readings.length (hH wAC p0.Readings)) {r:wAE × wAE} (hm:wDk p0 p1=some r):Gv Tryz.prog 140 [.agg #[.slice aT p0.Starts.length aX,.slice aU p0.Splits.length aY,.slice aV p0.Clocks.length aZ,.slice aW p0.Readings.length a0],.agg #[jV p1.Kind,jV p1.Skier,jV p1.Index,.bool p1.Up]] w (wCs w [] U (fun U_ L_ v=>v=.tuple #[.agg #[jV r.1.skier,jV r.1.mat],.agg #[jV r.2.skier,jV r.2.mat]]/\L_=[])):=by
 unfold wDk at hm
 refine Gv.of Tryz.func140 Z Tryz.ntmps140 Tryz.results140 Z (sR gBc Z ?_)
 let B0:List Value:=[.slice aT p0.Starts.length aX,.slice aU p0.Splits.length aY,.slice aV p0.Clocks.length aZ,.slice aW p0.Readings.length a0]
 refine ZH (cs:=B0) rfl rfl rfl rfl rfl rfl (by rfl) hS ?_
 intro W1 b2 br
 let B1:List Value:=[jV p1.Kind,jV p1.Skier,jV p1.Index,.bool p1.Up]
 refine ZH (cs:=B1) rfl rfl rfl rfl rfl rfl (by rfl) br ?_
 intro W5 b6 bz
 let B2:List Value:=[jV 0,jV 0]
 refine zS (cs:=B2) Z Z Z Z Z ze Z bz ?_
 intro W9 ap bn
 refine zS (cs:=B2) Z Z Z Z Z ze Z bn ?_
 intro bb aq bo
 refine eN (zK (zy zu [2,3,1,2,0,0] (.fl 1 (.fl 2 (.fx 0 (.fx 3 gAl .stop) .stop))) (by kernel_rfl) ?_))
 have az:=bo.drew
 generalize hw_W18:({ bb with drawn:=bb.drawn + 1 }:World)=bg at az ⊢
 refine oR Z (zF Z Z ZG Z zD) (oL Z (az.ldB (j:=2) Z Z Z zG (v:=jV p1.Index) Z) (bnK hm fun be bk bA=>zI 0 Z Z Z Z (zJ Z Z yS zP Z) az (fun hs=>wBk bg U hs bk) (.inr Z) ?_))
 rintro ba bC bN bd bL bp ⟨rfl,rfl⟩
 have bq:sW w U ba [.blk aq 123 B2,.blk ap 123 B2,.blk b6 93 B1,.blk b2 27 B0] bd:=bp
 refine bnK bA fun bf bm bB=>zI 0 Z Z Z Z (zJ Z Z Tryz.call70 (zC Z zP) Z) bq (fun hs=>wCj p1.Index bd ba hs bm) (.inr Z) ?_
 rintro am bD bO bh bM bs ⟨rfl,rfl⟩
 have bt:sW w U am [.blk aq 123 B2,.blk ap 123 B2,.blk b6 93 B1,.blk b2 27 B0] bh:=bs
 let B3:List Value:=[jV be.skier,jV be.mat]
 refine zW (j:=1) (vs:=B3) Z Z Z Z bt Z Z Z Z zE (zA Z) Z Z Z ?_
 intro bi bu
 have bv:sW w U am [.blk aq 123 B2,.blk ap 123 B3,.blk b6 93 B1,.blk b2 27 B0] bi:=bu
 let B4:List Value:=[jV bf.skier,jV bf.mat]
 refine zW (j:=0) (vs:=B4) Z Z Z Z bv Z Z Z Z zE (zA Z) Z Z Z ?_
 intro bj bw
 have aS:sW w U am [.blk aq 123 B4,.blk ap 123 B3,.blk b6 93 B1,.blk b2 27 B0] bj:=bw
 refine eN (zR ?_)
 cases bB
 exact ⟨rfl,_,(wDL (rs:=[.cell 4 123,.cell 5 123]) (vs:=[.agg B3.toArray,.agg B4.toArray]) ⟨⟨_,rfl,(wCF zj zE (aS.blkAt (k:=1) rfl) (vs:=B3) rfl rfl)⟩,⟨⟨_,rfl,(wCF zj zE (aS.blkAt (k:=0) rfl) (vs:=B4) rfl rfl)⟩,trivial⟩⟩ rfl),am,_,(aS.pick [] _ (by decide) rfl),rfl,rfl⟩
theorem wIP (p0:wAA) (ak:Option Addr) (aq:Nat) (am:Option Addr) (au:Nat) (ai:Option Addr) (aj:Nat) (ap:Option Addr) (av:Nat) (p1:wAH) (w:World) (U:PHeap) (hS:St0 w U []) (bh:Sl U 1 ak aq p0.Starts.length (hH KL.encI p0.Starts)) (bi:Sl U 2 am au p0.Splits.length (hH wAB p0.Splits)) (aS:Sl U 3 ai aj p0.Clocks.length (hH wAD p0.Clocks)) (bj:Sl U 4 ap av p0.Readings.length (hH wAC p0.Readings)) {r:Int × Int} (hm:wDl p0 p1=some r):Gv Tryz.prog 141 [.agg #[.slice ak p0.Starts.length aq,.slice am p0.Splits.length au,.slice ai p0.Clocks.length aj,.slice ap p0.Readings.length av],.agg #[jV p1.Kind,jV p1.Skier,jV p1.Index,.bool p1.Up]] w (wCs w [] U (fun U_ L_ v=>v=.tuple #[jV r.1,jV r.2]/\L_=[])):=by
 unfold wDl at hm
 refine Gv.of Tryz.func141 rfl Tryz.ntmps141 Tryz.results141 rfl (sR gBd rfl (ZH (cs:=[.slice ak p0.Starts.length aq,.slice am p0.Splits.length au,.slice ai p0.Clocks.length aj,.slice ap p0.Readings.length av]) rfl rfl rfl rfl rfl rfl (by rfl) hS ?_))
 intro W1 b2 aY
 refine ZH (cs:=[jV p1.Kind,jV p1.Skier,jV p1.Index,.bool p1.Up]) rfl rfl rfl rfl rfl rfl (by rfl) aY ?_
 intro W5 b6 aZ
 refine yk rfl rfl rfl rfl rfl rfl (yk rfl rfl rfl rfl rfl rfl (eN (zK (zy zu [3,1,3,1,3,3,3,1,3,3,1,3,1,3,3,3,1,3,3] fL19 (by kernel_rfl) ?_))))
 have ae:=aZ.drew
 generalize hw_W10:({ W5 with drawn:=W5.drawn + 1 }:World)=bb at ae ⊢
 refine oR Z (zF Z Z zQ Z Zt) (oL Z (ae.ldB (j:=1) Z Z Z Zy (v:=.slice ai p0.Clocks.length aj) Z) (oR Z (zF Z Z ZG Z zD) (oL Z (ae.ldB (j:=0) Z Z Z zG (v:=jV p1.Index) Z) (bnK hm fun aT ah a0=>?_))))
 have q:=aS.el (fun _=>rfl) (wAP ah)
 obtain ⟨bd,bk,aU,aW⟩:=q
 refine oR Z (zz Z Z aU Z ZL Zo (wBG ah) (wBI ah)) (oR Z (zF Z Z ya Z ZS) (oR Z (zF Z Z ZN Z zD) (oL Z (ae.ldC (f:=0) aW (v:=jV aT.Offset.Lo) Z Z zG Z) (oR Z (Runs.negw Z Z) (oR Z (zF Z Z zQ Z Zt) (oL Z (ae.ldB (j:=1) Z Z Z Zy (v:=.slice ai p0.Clocks.length aj) Z) (oR Z (zF Z Z ZG Z zD) (oL Z (ae.ldB (j:=0) Z Z Z zG (v:=jV p1.Index) Z) ?_))))))))
 have q:=aS.el (fun _=>rfl) (wAP ah)
 obtain ⟨be,bm,aV,aX⟩:=q
 refine oR Z (zz Z Z aV Z ZL Zo (wBG ah) (wBI ah)) (oR Z (zF Z Z ya Z ZS) (oR Z (zF Z Z ZN Z zD) (oL Z (ae.ldC (f:=1) aX (v:=jV aT.Offset.Hi) Z Z zG Z) (oA Z Z (oA Z Z (eN (zR ?_)))))))
 cases a0
 exact ⟨rfl,_,(wJS rfl rfl),U,_,(ae.pick [] _ (by decide) rfl),rfl,rfl⟩
end Go.Proofs.YtlnfbjphfoipaaaGreat
namespace Go.Proofs.YtlnfbjphfoipaaaGreat
open Go.KL
set_option maxHeartbeats 4000000
theorem wHq (p0:wAA) (bs:Option Addr) (bv:Nat) (bt:Option Addr) (bw:Nat) (bu:Option Addr) (bz:Nat) (a0:Option Addr) (ba:Nat) (p1:wAH) (w:World) (U:PHeap) (hS:St0 w U []) (gx:Sl U 1 bs bv p0.Starts.length (hH KL.encI p0.Starts)) (gy:Sl U 2 bt bw p0.Splits.length (hH wAB p0.Splits)) (gz:Sl U 3 bu bz p0.Clocks.length (hH wAD p0.Clocks)) (fj:Sl U 4 a0 ba p0.Readings.length (hH wAC p0.Readings)) {r:wAE × wAE} (hm:wDO p0 p1=some r):Gv Tryz.prog 143 [.agg #[.slice bs p0.Starts.length bv,.slice bt p0.Splits.length bw,.slice bu p0.Clocks.length bz,.slice a0 p0.Readings.length ba],.agg #[jV p1.Kind,jV p1.Skier,jV p1.Index,.bool p1.Up]] w (wCs w [] U (fun U_ L_ v=>v=.tuple #[.agg #[jV r.1.skier,jV r.1.mat],.agg #[jV r.2.skier,jV r.2.mat]]/\L_=[])):=by
 unfold wDO at hm
 refine Gv.of Tryz.func143 Z Tryz.ntmps143 Tryz.results143 Z (sR gBc Z ?_)
 let B0:List Value:=[.slice bs p0.Starts.length bv,.slice bt p0.Splits.length bw,.slice bu p0.Clocks.length bz,.slice a0 p0.Readings.length ba]
 refine ZH (cs:=B0) rfl rfl rfl rfl rfl rfl (by rfl) hS ?_
 intro W1 b2 eV
 let B1:List Value:=[jV p1.Kind,jV p1.Skier,jV p1.Index,.bool p1.Up]
 refine ZH (cs:=B1) rfl rfl rfl rfl rfl rfl (by rfl) eV ?_
 intro W5 b6 fh
 let B2:List Value:=[jV 0,jV 0]
 refine zS (cs:=B2) Z Z Z Z Z ze Z fh ?_
 intro W9 ah eA
 refine zS (cs:=B2) Z Z Z Z Z ze Z eA ?_
 intro fR ai aX
 refine eN (sR (wKM gAo) Z (oR Z (zF Z Z zQ Z yO) (oL Z (aX.ldB (j:=3) Z Z Z yQ (v:=.slice a0 p0.Readings.length ba) Z) (oR Z (zF Z Z ZG Z zD) (oL Z (aX.ldB (j:=2) Z Z Z zG (v:=jV p1.Index) Z) (bnK hm fun ab bo fm=>?_))))))
 have q:=fj.el (fun _=>rfl) (wAP bo)
 obtain ⟨gi,gB,eu,ey⟩:=q
 refine oR Z (zz Z Z eu Z Zf Zl (wBG bo) (wBI bo)) (oL Z (aX.ldCA (f:=0) ey Z Z yh Zl (us:=[jV ab.Skier,jV ab.Mat,jV ab.Clock,jV ab.Time]) Z Z) (zS (cs:=[jV 0,jV 0,jV 0,jV 0]) Z Z Z Z Z Tryz.zeroValue115 Z aX ?_))
 intro fZ aa eP
 let B3:List Value:=[jV ab.Skier,jV ab.Mat,jV ab.Clock,jV ab.Time]
 refine zW (j:=0) (vs:=B3) Z Z Z Z eP Z Z Z Z Zl (zA Z) Z Z Z ?_
 intro bf eU
 have eW:sW w U U [.blk aa 115 B3,.blk ai 123 B2,.blk ah 123 B2,.blk b6 93 B1,.blk b2 27 B0] bf:=eU
 refine eN ?_
 have q:=bnd fm
 obtain ⟨⟨fK,fL⟩,ft,cr⟩:=q
 try dsimp only at cr
 let B4:List Value:=[jV ab.Skier,jV ab.Mat]
 let B5:List Value:=[jV fK,jV fL]
 refine yY (fun σ_ w_=>∃ (U_:PHeap),σ_ 4=.pointer (some ⟨ah,0,none⟩)/\σ_ 5=.pointer (some ⟨ai,0,none⟩)/\PHeap.Le U U_/\sW w U U_ [.blk aa 115 B3,.blk ai 123 B4,.blk ah 123 B5,.blk b6 93 B1,.blk b2 27 B0] w_) ?_ ?_
 refine bnK ft fun cH aW fq=>zy zu [3,1,2,3,2,3,2,3,0,0] (.fl 0 (.fl 1 (.fl 3 (.fl 5 (.fx 2 (.fx 4 gBh (.fx 6 gBi (.fx 8 (.fx 4 gAx (.fx 6 gAy .stop)) .stop))) (.fx 4 (.fx 2 gBh (.fx 6 gBf .stop)) (.fx 6 (.fx 2 gBi (.fx 4 gBf .stop)) .stop))))))) (by kernel_rfl) ?_
 have aS:=eW.drew
 generalize hw_W54:({ bf with drawn:=bf.drawn + 1 }:World)=bg at aS ⊢
 let B6:List Value:=[jV cH.skier,jV cH.mat]
 refine ZC (s:=.nil) (M:=fun σ_ w_=>∃ (U_:PHeap),σ_ 4=.pointer (some ⟨ah,0,none⟩)/\σ_ 5=.pointer (some ⟨ai,0,none⟩)/\σ_ 6=.pointer (some ⟨aa,0,none⟩)/\σ_ 13=.pointer (some ⟨aa,2,none⟩)/\σ_ 14=jV ab.Clock/\σ_ 15=.agg B6.toArray/\σ_ 16=.pointer (some ⟨aa,0,none⟩)/\σ_ 17=jV ab.Skier/\σ_ 18=.pointer (some ⟨aa,1,none⟩)/\σ_ 19=jV ab.Mat/\σ_ 20=.agg B4.toArray/\PHeap.Le U U_/\sW w U U_ [.blk aa 115 B3,.blk ai 123 B4,.blk ah 123 B6,.blk b6 93 B1,.blk b2 27 B0] w_) ?_ fun ct=>?_
 rintro gG fS ⟨cI,da,db,gj,gk,gm,gp,gq,gt,gu,gv,gw,fw,eC⟩
 refine zo ?_
 cases fq
 exact zH ⟨Z,⟨cI,da,db,fw,eC⟩⟩
 refine ZC (s:=.fx 9 .nil .stop) (M:=fun σ_ w_=>∃ (U_:PHeap),σ_ 4=.pointer (some ⟨ah,0,none⟩)/\σ_ 5=.pointer (some ⟨ai,0,none⟩)/\σ_ 6=.pointer (some ⟨aa,0,none⟩)/\σ_ 13=.pointer (some ⟨aa,2,none⟩)/\σ_ 14=jV ab.Clock/\σ_ 15=.agg B6.toArray/\σ_ 16=.pointer (some ⟨aa,0,none⟩)/\σ_ 17=jV ab.Skier/\σ_ 18=.pointer (some ⟨aa,1,none⟩)/\σ_ 19=jV ab.Mat/\σ_ 20=.agg B4.toArray/\PHeap.Le U U_/\sW w U U_ [.blk aa 115 B3,.blk ai 123 B2,.blk ah 123 B6,.blk b6 93 B1,.blk b2 27 B0] w_) ?_ fun cu=>?_
 rintro gH fT ⟨bA,de,bH,df,dg,dh,dk,dl,dm,dp,dq,bI,fy,eD⟩
 refine zW (j:=1) (vs:=B4) Z Z Z Z eD Z bH bI Z zE (zA Z) Z Z Z ?_
 intro cN eE
 have eF:sW w U bA [.blk aa 115 B3,.blk ai 123 B4,.blk ah 123 B6,.blk b6 93 B1,.blk b2 27 B0] cN:=eE
 exact ct _ _ ⟨bA,de,bH,df,dg,dh,dk,dl,dm,dp,dq,bI,fy,eF⟩
 refine ZC (s:=gAp) (M:=fun σ_ w_=>∃ (U_:PHeap),σ_ 4=.pointer (some ⟨ah,0,none⟩)/\σ_ 5=.pointer (some ⟨ai,0,none⟩)/\σ_ 6=.pointer (some ⟨aa,0,none⟩)/\σ_ 13=.pointer (some ⟨aa,2,none⟩)/\σ_ 14=jV ab.Clock/\σ_ 15=.agg B6.toArray/\σ_ 16=.pointer (some ⟨aa,0,none⟩)/\σ_ 17=jV ab.Skier/\σ_ 18=.pointer (some ⟨aa,1,none⟩)/\σ_ 19=jV ab.Mat/\σ_ 20=.agg B4.toArray/\PHeap.Le U U_/\sW w U U_ [.blk aa 115 B3,.blk ai 123 B2,.blk ah 123 B2,.blk b6 93 B1,.blk b2 27 B0] w_) ?_ fun fu=>?_
 rintro gI fU ⟨bB,bJ,dr,dt,du,dv,bK,dw,dx,dy,dz,dA,fz,eG⟩
 refine zW (j:=2) (vs:=B6) Z Z Z Z eG Z bJ bK Z zE (zA Z) Z Z Z ?_
 intro cO eH
 have eI:sW w U bB [.blk aa 115 B3,.blk ai 123 B2,.blk ah 123 B6,.blk b6 93 B1,.blk b2 27 B0] cO:=eH
 exact cu _ _ ⟨bB,bJ,dr,dt,du,dv,bK,dw,dx,dy,dz,dA,fz,eI⟩
 refine ZC (s:=gAq) (M:=fun σ_ w_=>∃ (U_:PHeap),σ_ 4=.pointer (some ⟨ah,0,none⟩)/\σ_ 5=.pointer (some ⟨ai,0,none⟩)/\σ_ 6=.pointer (some ⟨aa,0,none⟩)/\σ_ 13=.pointer (some ⟨aa,2,none⟩)/\σ_ 14=jV ab.Clock/\σ_ 15=.agg B6.toArray/\σ_ 16=.pointer (some ⟨aa,0,none⟩)/\σ_ 17=jV ab.Skier/\σ_ 18=.pointer (some ⟨aa,1,none⟩)/\σ_ 19=jV ab.Mat/\PHeap.Le U U_/\sW w U U_ [.blk aa 115 B3,.blk ai 123 B2,.blk ah 123 B6,.blk b6 93 B1,.blk b2 27 B0] w_) ?_ fun cw=>?_
 rintro gJ fV ⟨bC,dB,bL,dC,dD,dE,dF,dG,bM,dH,bN,fA,eJ⟩
 refine oR Z (ZP (pv:=[(0,jV ab.Skier),(1,jV ab.Mat)]) (z:=B2) (cs:=B4) Z (wAI bM (wAI bN wAY)) ze wBp Z Z) (zW (j:=1) (vs:=B4) Z Z Z Z eJ Z bL Z Z zE (zA Z) Z Z Z ?_)
 intro cP eK
 have eL:sW w U bC [.blk aa 115 B3,.blk ai 123 B4,.blk ah 123 B6,.blk b6 93 B1,.blk b2 27 B0] cP:=eK
 exact ct _ _ ⟨bC,dB,bL,dC,dD,dE,dF,dG,bM,dH,bN,Z,fA,eL⟩
 refine ZC (s:=gAy) (M:=fun σ_ w_=>∃ (U_:PHeap),σ_ 4=.pointer (some ⟨ah,0,none⟩)/\σ_ 5=.pointer (some ⟨ai,0,none⟩)/\σ_ 6=.pointer (some ⟨aa,0,none⟩)/\σ_ 13=.pointer (some ⟨aa,2,none⟩)/\σ_ 14=jV ab.Clock/\σ_ 15=.agg B6.toArray/\σ_ 16=.pointer (some ⟨aa,0,none⟩)/\σ_ 18=.pointer (some ⟨aa,1,none⟩)/\σ_ 19=jV ab.Mat/\PHeap.Le U U_/\sW w U U_ [.blk aa 115 B3,.blk ai 123 B2,.blk ah 123 B6,.blk b6 93 B1,.blk b2 27 B0] w_) ?_ fun cx=>?_
 rintro gK fW ⟨cJ,dI,dJ,dK,dL,dM,dN,bO,dO,dP,fB,cp⟩
 exact ZQ Z Z Z Z (cp.ldB (j:=0) Z Z bO zG (v:=jV ab.Skier) Z) (cw _ _ ⟨cJ,dI,dJ,dK,dL,dM,dN,bO,Z,dO,dP,fB,cp⟩)
 refine ZC (s:=gAx) (M:=fun σ_ w_=>∃ (U_:PHeap),σ_ 4=.pointer (some ⟨ah,0,none⟩)/\σ_ 5=.pointer (some ⟨ai,0,none⟩)/\σ_ 6=.pointer (some ⟨aa,0,none⟩)/\σ_ 13=.pointer (some ⟨aa,2,none⟩)/\σ_ 14=jV ab.Clock/\σ_ 15=.agg B6.toArray/\σ_ 16=.pointer (some ⟨aa,0,none⟩)/\σ_ 17=jV ab.Skier/\σ_ 18=.pointer (some ⟨aa,1,none⟩)/\PHeap.Le U U_/\sW w U U_ [.blk aa 115 B3,.blk ai 123 B2,.blk ah 123 B6,.blk b6 93 B1,.blk b2 27 B0] w_) ?_ fun cy=>?_
 rintro gL fY ⟨cK,dQ,dR,dS,dT,dU,dV,dW,dX,bP,fC,cq⟩
 exact ZQ Z Z Z Z (cq.ldB (j:=0) Z Z bP zG (v:=jV ab.Mat) Z) (cw _ _ ⟨cK,dQ,dR,dS,dT,dU,dV,dW,dX,bP,Z,fC,cq⟩)
 refine ZC (s:=.fl 7 gAp) (M:=fun σ_ w_=>∃ (U_:PHeap),σ_ 4=.pointer (some ⟨ah,0,none⟩)/\σ_ 5=.pointer (some ⟨ai,0,none⟩)/\σ_ 6=.pointer (some ⟨aa,0,none⟩)/\σ_ 13=.pointer (some ⟨aa,2,none⟩)/\σ_ 14=jV ab.Clock/\σ_ 15=.agg B6.toArray/\σ_ 16=.pointer (some ⟨aa,0,none⟩)/\σ_ 17=jV ab.Skier/\σ_ 18=.pointer (some ⟨aa,1,none⟩)/\σ_ 19=jV ab.Mat/\PHeap.Le U U_/\sW w U U_ [.blk aa 115 B3,.blk ai 123 B2,.blk ah 123 B2,.blk b6 93 B1,.blk b2 27 B0] w_) ?_ fun cz=>?_
 rintro gM ga ⟨bD,bQ,dY,dZ,d4,d5,bR,d6,bS,d7,bT,fD,eM⟩
 refine oR Z (ZP (pv:=[(0,jV ab.Skier),(1,jV ab.Mat)]) (z:=B2) (cs:=B4) Z (wAI bS (wAI bT wAY)) ze wBp Z Z) (zW (j:=2) (vs:=B6) Z Z Z Z eM Z bQ bR Z zE (zA Z) Z Z Z ?_)
 intro cQ eO
 have eQ:sW w U bD [.blk aa 115 B3,.blk ai 123 B2,.blk ah 123 B6,.blk b6 93 B1,.blk b2 27 B0] cQ:=eO
 exact cu _ _ ⟨bD,bQ,dY,dZ,d4,d5,bR,d6,bS,d7,bT,Z,fD,eQ⟩
 refine ZC (s:=gBf) (M:=fun σ_ w_=>∃ (U_:PHeap),σ_ 4=.pointer (some ⟨ah,0,none⟩)/\σ_ 5=.pointer (some ⟨ai,0,none⟩)/\σ_ 6=.pointer (some ⟨aa,0,none⟩)/\σ_ 13=.pointer (some ⟨aa,2,none⟩)/\σ_ 14=jV ab.Clock/\σ_ 16=.pointer (some ⟨aa,0,none⟩)/\σ_ 17=jV ab.Skier/\σ_ 18=.pointer (some ⟨aa,1,none⟩)/\σ_ 19=jV ab.Mat/\PHeap.Le U U_/\sW w U U_ [.blk aa 115 B3,.blk ai 123 B2,.blk ah 123 B2,.blk b6 93 B1,.blk b2 27 B0] w_) ?_ fun cA=>?_
 rintro gN cR ⟨cL,d8,d9,ec,ef,bU,eg,bV,eh,bW,fE,eR⟩
 refine oR Z (ZP (pv:=[(0,jV ab.Skier),(1,jV ab.Mat)]) (z:=B2) (cs:=B4) Z (wAI bV (wAI bW wAY)) ze wBp Z Z) (zI 0 Z Z Z Z (zJ Z Z Tryz.call70 (zC bU zP) Z) eR (fun hs=>wCj ab.Clock cR cL hs aW) (.inr Z) ?_)
 rintro bE fM gC cS fG eS ⟨rfl,rfl⟩
 have eT:sW w U bE [.blk aa 115 B3,.blk ai 123 B2,.blk ah 123 B2,.blk b6 93 B1,.blk b2 27 B0] cS:=eS
 exact fu _ _ ⟨bE,d8,d9,ec,ef,bU,Z,eg,bV,eh,bW,Z,(fE.trans fG),eT⟩
 refine ZC (s:=gBi) (M:=fun σ_ w_=>∃ (U_:PHeap),σ_ 4=.pointer (some ⟨ah,0,none⟩)/\σ_ 5=.pointer (some ⟨ai,0,none⟩)/\σ_ 6=.pointer (some ⟨aa,0,none⟩)/\σ_ 13=.pointer (some ⟨aa,2,none⟩)/\σ_ 14=jV ab.Clock/\σ_ 15=.agg B6.toArray/\σ_ 16=.pointer (some ⟨aa,0,none⟩)/\σ_ 18=.pointer (some ⟨aa,1,none⟩)/\σ_ 19=jV ab.Mat/\PHeap.Le U U_/\sW w U U_ [.blk aa 115 B3,.blk ai 123 B2,.blk ah 123 B2,.blk b6 93 B1,.blk b2 27 B0] w_) ?_ fun cC=>?_
 rintro gO gb ⟨bd,bh,bX,bY,bZ,b5,bi,bj,b9,cb,cE,bp⟩
 refine zl ?_ ?_
 exact ZQ Z Z Z Z (bp.ldB (j:=0) Z Z bj zG (v:=jV ab.Skier) Z) (cz _ _ ⟨bd,bh,bX,bY,bZ,b5,bi,bj,Z,b9,cb,cE,bp⟩)
 refine zW (j:=2) (vs:=B6) Z Z Z Z bp Z bh bi Z zE (zA Z) Z Z Z ?_
 intro cU eX
 have eY:sW w U bd [.blk aa 115 B3,.blk ai 123 B2,.blk ah 123 B6,.blk b6 93 B1,.blk b2 27 B0] cU:=eX
 exact cx _ _ ⟨bd,bh,bX,bY,bZ,b5,bi,bj,b9,cb,cE,eY⟩
 refine ZC (s:=gBh) (M:=fun σ_ w_=>∃ (U_:PHeap),σ_ 4=.pointer (some ⟨ah,0,none⟩)/\σ_ 5=.pointer (some ⟨ai,0,none⟩)/\σ_ 6=.pointer (some ⟨aa,0,none⟩)/\σ_ 13=.pointer (some ⟨aa,2,none⟩)/\σ_ 14=jV ab.Clock/\σ_ 15=.agg B6.toArray/\σ_ 16=.pointer (some ⟨aa,0,none⟩)/\σ_ 17=jV ab.Skier/\σ_ 18=.pointer (some ⟨aa,1,none⟩)/\PHeap.Le U U_/\sW w U U_ [.blk aa 115 B3,.blk ai 123 B2,.blk ah 123 B2,.blk b6 93 B1,.blk b2 27 B0] w_) ?_ fun cD=>?_
 rintro gP ge ⟨be,bk,cd,cf,cg,cj,bm,cm,cn,bn,cG,bq⟩
 refine zl ?_ ?_
 exact ZQ Z Z Z Z (bq.ldB (j:=0) Z Z bn zG (v:=jV ab.Mat) Z) (cz _ _ ⟨be,bk,cd,cf,cg,cj,bm,cm,cn,bn,Z,cG,bq⟩)
 refine zW (j:=2) (vs:=B6) Z Z Z Z bq Z bk bm Z zE (zA Z) Z Z Z ?_
 intro cV eZ
 have e8:sW w U be [.blk aa 115 B3,.blk ai 123 B2,.blk ah 123 B6,.blk b6 93 B1,.blk b2 27 B0] cV:=eZ
 exact cy _ _ ⟨be,bk,cd,cf,cg,cj,bm,cm,cn,bn,cG,e8⟩
 refine oR Z (zF Z Z Zn Z zD) (oL Z (aS.ldB (j:=0) Z Z Z zG (v:=jV ab.Clock) Z) (oR Z (zF Z Z Zn Z zD) (oR Z (zF Z Z Zn Z zD) (zl ?_ ?_))))
 refine zI 0 Z Z Z Z (zJ Z Z Tryz.call70 (zC Z zP) Z) aS (fun hs=>wCj ab.Clock bg U hs aW) (.inr Z) ?_
 rintro aU fN gD cW aZ e9 ⟨rfl,rfl⟩
 have aV:sW w U aU [.blk aa 115 B3,.blk ai 123 B2,.blk ah 123 B2,.blk b6 93 B1,.blk b2 27 B0] cW:=e9
 refine zl ?_ ?_
 exact ZQ Z Z Z Z (aV.ldB (j:=0) Z Z Z zG (v:=jV ab.Skier) Z) (cD _ _ ⟨aU,Z,Z,Z,Z,Z,Z,Z,Z,Z,aZ,aV⟩)
 refine zl ?_ ?_
 exact ZQ Z Z Z Z (aV.ldB (j:=0) Z Z Z zG (v:=jV ab.Mat) Z) (cC _ _ ⟨aU,Z,Z,Z,Z,Z,Z,Z,Z,Z,aZ,aV⟩)
 refine zW (j:=2) (vs:=B6) Z Z Z Z aV Z Z Z Z zE (zA Z) Z Z Z ?_
 intro cX fb
 have aY:sW w U aU [.blk aa 115 B3,.blk ai 123 B2,.blk ah 123 B6,.blk b6 93 B1,.blk b2 27 B0] cX:=fb
 refine zl ?_ ?_
 exact ZQ Z Z Z Z (aY.ldB (j:=0) Z Z Z zG (v:=jV ab.Skier) Z) (cy _ _ ⟨aU,Z,Z,Z,Z,Z,Z,Z,Z,Z,aZ,aY⟩)
 exact ZQ Z Z Z Z (aY.ldB (j:=0) Z Z Z zG (v:=jV ab.Mat) Z) (cx _ _ ⟨aU,Z,Z,Z,Z,Z,Z,Z,Z,Z,aZ,aY⟩)
 refine zl ?_ ?_
 refine ZQ Z Z Z Z (aS.ldB (j:=0) Z Z Z zG (v:=jV ab.Skier) Z) (zl ?_ ?_)
 refine zI 0 Z Z Z Z (zJ Z Z Tryz.call70 (zC Z zP) Z) aS (fun hs=>wCj ab.Clock bg U hs aW) (.inr Z) ?_
 rintro bF fO gE cY fH fc ⟨rfl,rfl⟩
 have fd:sW w U bF [.blk aa 115 B3,.blk ai 123 B2,.blk ah 123 B2,.blk b6 93 B1,.blk b2 27 B0] cY:=fc
 exact cD _ _ ⟨bF,Z,Z,Z,Z,Z,Z,Z,Z,Z,fH,fd⟩
 exact ZQ Z Z Z Z (aS.ldB (j:=0) Z Z Z zG (v:=jV ab.Mat) Z) (cA _ _ ⟨U,Z,Z,Z,Z,Z,Z,Z,Z,Z,(zM _),aS⟩)
 refine ZQ Z Z Z Z (aS.ldB (j:=0) Z Z Z zG (v:=jV ab.Mat) Z) (zl ?_ ?_)
 refine zI 0 Z Z Z Z (zJ Z Z Tryz.call70 (zC Z zP) Z) aS (fun hs=>wCj ab.Clock bg U hs aW) (.inr Z) ?_
 rintro bG fP gF cZ fJ ff ⟨rfl,rfl⟩
 have fg:sW w U bG [.blk aa 115 B3,.blk ai 123 B2,.blk ah 123 B2,.blk b6 93 B1,.blk b2 27 B0] cZ:=ff
 exact cC _ _ ⟨bG,Z,Z,Z,Z,Z,Z,Z,Z,Z,fJ,fg⟩
 exact ZQ Z Z Z Z (aS.ldB (j:=0) Z Z Z zG (v:=jV ab.Skier) Z) (cA _ _ ⟨U,Z,Z,Z,Z,Z,Z,Z,Z,Z,(zM _),aS⟩)
 rintro gQ gf ⟨cM,ej,en,gA,br⟩
 refine zR ?_
 cases cr
 exact ⟨rfl,_,(wDL (rs:=[.cell 4 123,.cell 5 123]) (vs:=[.agg B5.toArray,.agg B4.toArray]) ⟨⟨_,ej,(wCF zj zE (br.blkAt (k:=2) rfl) (vs:=B5) rfl rfl)⟩,⟨⟨_,en,(wCF zj zE (br.blkAt (k:=1) rfl) (vs:=B4) rfl rfl)⟩,trivial⟩⟩ rfl),cM,_,(br.pick [] _ (by decide) rfl),rfl,rfl⟩
theorem wHr (p0:wAA) (av:Option Addr) (aS:Nat) (az:Option Addr) (aT:Nat) (ai:Option Addr) (aj:Nat) (am:Option Addr) (ap:Nat) (p1:wAH) (w:World) (U:PHeap) (hS:St0 w U []) (bz:Sl U 1 av aS p0.Starts.length (hH KL.encI p0.Starts)) (bA:Sl U 2 az aT p0.Splits.length (hH wAB p0.Splits)) (aX:Sl U 3 ai aj p0.Clocks.length (hH wAD p0.Clocks)) (bn:Sl U 4 am ap p0.Readings.length (hH wAC p0.Readings)) {r:Int × Int} (hm:wDP p0 p1=some r):Gv Tryz.prog 144 [.agg #[.slice av p0.Starts.length aS,.slice az p0.Splits.length aT,.slice ai p0.Clocks.length aj,.slice am p0.Readings.length ap],.agg #[jV p1.Kind,jV p1.Skier,jV p1.Index,.bool p1.Up]] w (wCs w [] U (fun U_ L_ v=>v=.tuple #[jV r.1,jV r.2]/\L_=[])):=by
 unfold wDP at hm
 refine Gv.of Tryz.func144 Z Tryz.ntmps144 Tryz.results144 Z (sR gBd Z ?_)
 let B0:List Value:=[.slice av p0.Starts.length aS,.slice az p0.Splits.length aT,.slice ai p0.Clocks.length aj,.slice am p0.Readings.length ap]
 refine ZH (cs:=B0) rfl rfl rfl rfl rfl rfl (by rfl) hS ?_
 intro W1 b2 bm
 let B1:List Value:=[jV p1.Kind,jV p1.Skier,jV p1.Index,.bool p1.Up]
 refine ZH (cs:=B1) rfl rfl rfl rfl rfl rfl (by rfl) bm ?_
 intro W5 b6 ak
 refine oA Z Z (oA Z Z (eN (sR (wKM gAo) Z (oR Z (zF Z Z zQ Z yO) (oL Z (ak.ldB (j:=1) Z Z Z yQ (v:=.slice am p0.Readings.length ap) Z) (oR Z (zF Z Z ZG Z zD) (oL Z (ak.ldB (j:=0) Z Z Z zG (v:=jV p1.Index) Z) (bnK hm fun x9 au bo=>?_))))))))
 have q:=bn.el (fun _=>rfl) (wAP au)
 obtain ⟨bu,bB,bb,bf⟩:=q
 refine oR Z (zz Z Z bb Z Zf Zl (wBG au) (wBI au)) (oL Z (ak.ldCA (f:=0) bf Z Z yh Zl (us:=[jV x9.Skier,jV x9.Mat,jV x9.Clock,jV x9.Time]) Z Z) (zS (cs:=[jV 0,jV 0,jV 0,jV 0]) Z Z Z Z Z Tryz.zeroValue115 Z ak ?_))
 intro br aZ bi
 let B2:List Value:=[jV x9.Skier,jV x9.Mat,jV x9.Clock,jV x9.Time]
 refine zW (j:=0) (vs:=B2) Z Z Z Z bi Z Z Z Z Zl (zA Z) Z Z Z ?_
 intro aq bj
 have bk:sW w U U [.blk aZ 115 B2,.blk b6 93 B1,.blk b2 27 B0] aq:=bj
 refine eN (zK (zy zu [3,1,3,1,3,1,3,3,1,3,3,1,3,1,3,3,1,3,1,3,3,3] fL22 (by kernel_rfl) ?_))
 have ab:=bk.drew
 generalize hw_W24:({ aq with drawn:=aq.drawn + 1 }:World)=bs at ab ⊢
 refine oR Z (zF Z Z Zn Z zD) (oL Z (ab.ldB (j:=0) Z Z Z zG (v:=jV x9.Time) Z) (oR Z (zF Z Z zQ Z Zt) (oL Z (ab.ldB (j:=2) Z Z Z Zy (v:=.slice ai p0.Clocks.length aj) Z) (oR Z (zF Z Z Zn Z zD) (oL Z (ab.ldB (j:=0) Z Z Z zG (v:=jV x9.Clock) Z) (bnK bo fun aY ah bp=>?_))))))
 have q:=aX.el (fun _=>rfl) (wAP ah)
 obtain ⟨bv,bC,bd,bg⟩:=q
 refine oR Z (zz Z Z bd Z ZL Zo (wBG ah) (wBI ah)) (oR Z (zF Z Z ya Z zD) (oL Z (ab.ldC (f:=2) bg (v:=jV aY.Error) Z Z zG Z) (oR Z (zi Z Z Z) (oR Z (zF Z Z zQ Z Zt) (oL Z (ab.ldB (j:=2) Z Z Z Zy (v:=.slice ai p0.Clocks.length aj) Z) (oR Z (zF Z Z Zn Z zD) (oL Z (ab.ldB (j:=0) Z Z Z zG (v:=jV x9.Clock) Z) ?_)))))))
 have q:=aX.el (fun _=>rfl) (wAP ah)
 obtain ⟨bw,bD,be,bh⟩:=q
 refine oR Z (zz Z Z be Z ZL Zo (wBG ah) (wBI ah)) (oR Z (zF Z Z ya Z zD) (oL Z (ab.ldC (f:=2) bh (v:=jV aY.Error) Z Z zG Z) (oR Z (zF Z Z Zn Z zD) (oL Z (ab.ldB (j:=0) Z Z Z zG (v:=jV x9.Time) Z) (oR Z (yg Z Z Z) (oA Z Z (oA Z Z (eN (zR ?_)))))))))
 cases bp
 exact ⟨rfl,_,(wJS rfl rfl),U,_,(ab.pick [] _ (by decide) rfl),rfl,rfl⟩
theorem wBy  (w:World) (U:PHeap) (hS:St0 w U [])  {r:Unit} (hm:wCS =some r):Gv Tryz.prog 127 [] w (wCs w [] U (fun U_ L_ v=>v=.agg #[.func (.func 133) #[] #[],.func (.func 134) #[] #[],.func (.func 135) #[] #[],.func (.func 136) #[] #[],.func (.func 137) #[] #[],.func (.func 138) #[] #[],.func (.func 139) #[] #[],.func (.func 140) #[] #[],.func (.func 141) #[] #[],.func (.func 142) #[] #[],.func (.func 143) #[] #[],.func (.func 144) #[] #[]]/\L_=[])):=by
 unfold wCS at hm
 refine Gv.of Tryz.func127 Z Tryz.ntmps127 Tryz.results127 Z (sR (.fx 0 .nil .stop) Z ?_)
 let B0:List Value:=[.nilFunc,.nilFunc,.nilFunc,.nilFunc,.nilFunc,.nilFunc,.nilFunc,.nilFunc,.nilFunc,.nilFunc,.nilFunc,.nilFunc]
 refine zS (cs:=B0) Z Z Z Z Z Tryz.zeroValue201 Z hS ?_
 intro W1 b2 au
 refine eN (sR (wHz (.fx 5 .nil .stop)) Z ?_)
 let B1:List Value:=[.nilFunc,.nilFunc,.nilFunc]
 let B2:List Value:=[.func (.func 133) #[] #[],.func (.func 134) #[] #[],.func (.func 135) #[] #[]]
 refine oR Z (ZP (pv:=[(0,.func (.func 133) #[] #[]),(1,.func (.func 134) #[] #[]),(2,.func (.func 135) #[] #[])]) (z:=B1) (cs:=B2) Z (wAI Z (wAI Z (wAI Z wAY))) Zq wGK Z Z) ?_
 let B3:List Value:=[.func (.func 136) #[] #[],.func (.func 137) #[] #[],.func (.func 138) #[] #[]]
 refine oR Z (ZP (pv:=[(0,.func (.func 136) #[] #[]),(1,.func (.func 137) #[] #[]),(2,.func (.func 138) #[] #[])]) (z:=B1) (cs:=B3) Z (wAI Z (wAI Z (wAI Z wAY))) Zq wGK Z Z) ?_
 let B4:List Value:=[.func (.func 139) #[] #[],.func (.func 140) #[] #[],.func (.func 141) #[] #[]]
 refine oR Z (ZP (pv:=[(0,.func (.func 139) #[] #[]),(1,.func (.func 140) #[] #[]),(2,.func (.func 141) #[] #[])]) (z:=B1) (cs:=B4) Z (wAI Z (wAI Z (wAI Z wAY))) Zq wGK Z Z) ?_
 let B5:List Value:=[.func (.func 142) #[] #[],.func (.func 143) #[] #[],.func (.func 144) #[] #[]]
 refine oR Z (ZP (pv:=[(0,.func (.func 142) #[] #[]),(1,.func (.func 143) #[] #[]),(2,.func (.func 144) #[] #[])]) (z:=B1) (cs:=B5) Z (wAI Z (wAI Z (wAI Z wAY))) Zq wGK Z Z) ?_
 let B6:List Value:=[.func (.func 133) #[] #[],.func (.func 134) #[] #[],.func (.func 135) #[] #[],.func (.func 136) #[] #[],.func (.func 137) #[] #[],.func (.func 138) #[] #[],.func (.func 139) #[] #[],.func (.func 140) #[] #[],.func (.func 141) #[] #[],.func (.func 142) #[] #[],.func (.func 143) #[] #[],.func (.func 144) #[] #[]]
 refine oR Z (Runs.buildA (pv:=[(0,.agg B2.toArray),(1,.agg B3.toArray),(2,.agg B4.toArray),(3,.agg B5.toArray)]) (z:=B0) (cs:=B6) Z (wAI Z (wAI Z (wAI Z (wAI Z wAY)))) Tryz.zeroValue201 yA ZV Z Z) (zW (j:=0) (vs:=B6) Z Z Z Z au Z Z Z Z Tryz.sizeOf201 (zA Z) Z Z Z ?_)
 intro W5 av
 have am:sW w U U [.blk b2 201 B6] W5:=av
 refine eN (zR ?_)
 cases hm
 exact ⟨rfl,_,(wMJ (v:=.agg B6.toArray) ⟨⟨_,rfl,(wCF Tryz.isAgg201 Tryz.sizeOf201 (am.blkAt (k:=0) rfl) (vs:=B6) rfl rfl)⟩,trivial⟩),U,_,(am.pick [] _ (by decide) rfl),rfl,rfl⟩
theorem wCA (p0:wAA) (bw:Option Addr) (bC:Nat) (bz:Option Addr) (bD:Nat) (bA:Option Addr) (bE:Nat) (bB:Option Addr) (bF:Nat) (p1:wAH) (w:World) (U:PHeap) (hS:St0 w U []) (cK:Sl U 1 bw bC p0.Starts.length (hH KL.encI p0.Starts)) (cL:Sl U 2 bz bD p0.Splits.length (hH wAB p0.Splits)) (cM:Sl U 3 bA bE p0.Clocks.length (hH wAD p0.Clocks)) (cN:Sl U 4 bB bF p0.Readings.length (hH wAC p0.Readings)) {r:wAE × wAE × Int} (hm:wBY p0 p1=some r):Gv Tryz.prog 107 [.agg #[.slice bw p0.Starts.length bC,.slice bz p0.Splits.length bD,.slice bA p0.Clocks.length bE,.slice bB p0.Readings.length bF],.agg #[jV p1.Kind,jV p1.Skier,jV p1.Index,.bool p1.Up]] w (wCs w [] U (fun U_ L_ v=>v=.tuple #[.agg #[jV r.1.skier,jV r.1.mat],.agg #[jV r.2.1.skier,jV r.2.1.mat],jV r.2.2]/\L_=[])):=by
 unfold wBY at hm
 refine Gv.of Tryz.func107 Z Tryz.ntmps107 Tryz.results107 Z ?_
 by_cases c1:p1.Kind=0
 have fN:=hm;rw [if_pos c1] at fN
 refine sR gBj Z ?_
 let B0:List Value:=[.slice bw p0.Starts.length bC,.slice bz p0.Splits.length bD,.slice bA p0.Clocks.length bE,.slice bB p0.Readings.length bF]
 refine ZH (cs:=B0) rfl rfl rfl rfl rfl rfl (by rfl) hS ?_
 intro W6 b7 m0
 let B1:List Value:=[jV p1.Kind,jV p1.Skier,jV p1.Index,.bool p1.Up]
 refine ZH (cs:=B1) rfl rfl rfl rfl rfl rfl (by rfl) m0 ?_
 intro o0 bf jB
 let B2:List Value:=[jV 0,jV 0]
 refine zS (cs:=B2) Z Z Z Z Z ze Z jB ?_
 intro o5 aX jN
 refine zS (cs:=B2) Z Z Z Z Z ze Z jN ?_
 intro d7 a0 jW
 refine oA Z Z (eN ?_)
 have q:=bnd fN
 obtain ⟨⟨⟩,n8,fC⟩:=q
 try dsimp only at fC
 let B3:List Value:=[.func (.func 133) #[] #[],.func (.func 134) #[] #[],.func (.func 135) #[] #[]]
 refine yY (fun σ_ w_=>∃ (U_:PHeap) (bH:Nat),σ_ 2=.pointer (some ⟨b7,0,none⟩)/\σ_ 3=.pointer (some ⟨bf,0,none⟩)/\σ_ 4=.pointer (some ⟨aX,0,none⟩)/\σ_ 5=.pointer (some ⟨a0,0,none⟩)/\σ_ 7=.pointer (some ⟨bH,0,none⟩)/\PHeap.Le U U_/\sW w U U_ [.blk a0 123 B2,.blk aX 123 B2,.blk bf 93 B1,.blk b7 27 B0,.blk bH 200 B3] w_) ?_ ?_
 have q:=bnd n8
 obtain ⟨⟨⟩,eT,dU⟩:=q
 try dsimp only at dU
 refine zy zu [2,3,1,3,2,0] gBk (by kernel_rfl) ?_
 have cD:=jW.drew
 generalize hw_W45:({ d7 with drawn:=d7.drawn + 1 }:World)=g8 at cD ⊢
 refine oR Z (zF Z Z ZG Z Tryz.sizeOf91) (oL Z (cD.ldB (j:=2) Z Z Z Tryz.isAgg91 (v:=jV p1.Kind) Z) (zl ?_ ?_))
 refine zI 0 Z Z Z Z (zJ Z Z ye zP Z) cD (fun hs=>wBy g8 U hs eT) (.inr Z) ?_
 rintro dp oH p7 ij oh me ⟨rfl,rfl⟩
 have mf:sW w U dp [.blk a0 123 B2,.blk aX 123 B2,.blk bf 93 B1,.blk b7 27 B0] ij:=me
 refine zm rfl rfl rfl rfl (fun _=>(Runs.ixA (i:=0) rfl rfl (congrArg (jV) c1) yA ZV (by decide) (by decide) (wDC yj ZV rfl))) (zS (cs:=[.nilFunc,.nilFunc,.nilFunc]) rfl rfl rfl rfl rfl Zq rfl mf ?_)
 intro pu ey mq
 refine zW (j:=0) (vs:=B3) Z Z Z Z mq Z Z Z Z ZV (zA Z) Z Z Z ?_
 intro it my
 have mC:sW w U dp [.blk ey 200 B3,.blk a0 123 B2,.blk aX 123 B2,.blk bf 93 B1,.blk b7 27 B0] it:=my
 refine zo ?_
 cases dU
 exact zH ⟨rfl,⟨dp,ey,rfl,rfl,rfl,rfl,rfl,oh,(mC.pick [1,2,3,4,0] _ (by decide) rfl)⟩⟩
 refine zS (cs:=[.nilFunc,.nilFunc,.nilFunc]) Z Z Z Z Z Zq Z cD ?_
 intro iz dB mO
 refine zI 0 Z Z Z Z (zJ Z Z ye zP Z) mO (fun hs=>wBy iz U hs eT) (.inr Z) ?_
 rintro dt oU qd iI om mW ⟨rfl,rfl⟩
 have mX:sW w U dt [.blk dB 200 [.nilFunc,.nilFunc,.nilFunc],.blk a0 123 B2,.blk aX 123 B2,.blk bf 93 B1,.blk b7 27 B0] iI:=mW
 refine zm rfl rfl rfl rfl (fun _=>(Runs.ixA (i:=0) rfl rfl (congrArg (jV) c1) yA ZV (by decide) (by decide) (wDC yj ZV rfl))) (zW (j:=0) (vs:=B3) rfl rfl rfl rfl mX rfl rfl rfl rfl ZV (zA rfl) rfl rfl rfl ?_)
 intro iJ mY
 have mZ:sW w U dt [.blk dB 200 B3,.blk a0 123 B2,.blk aX 123 B2,.blk bf 93 B1,.blk b7 27 B0] iJ:=mY
 refine zo ?_
 cases dU
 exact zH ⟨rfl,⟨dt,dB,rfl,rfl,rfl,rfl,rfl,om,(mZ.pick [1,2,3,4,0] _ (by decide) rfl)⟩⟩
 rintro qp iK ⟨gt,bH,eL,dJ,bV,bR,eM,cW,cJ⟩
 refine sR (wEf (.fx 4 (wOy gAp) .stop)) Z (oR Z (zF Z eM yI Z Tryz.sizeOf197) (oL Z (cJ.ldB (j:=4) Z Z Z Tryz.isAgg197 (v:=.func (.func 134) #[] #[]) Z) (oL Z (cJ.ldBA (j:=3) Z Z eL ZD zr (vs:=B0) Z Z) (oL Z (cJ.ldBA (j:=2) Z Z dJ yU yF (vs:=B1) Z Z) ?_))))
 have ff:=cK.le cW
 have fg:=cL.le cW
 have fh:=cM.le cW
 have fj:=cN.le cW
 have q:=bnd fC
 obtain ⟨⟨x92,x93⟩,jv,fT⟩:=q
 try dsimp only at fT
 refine zI 0 Z Z Z Z (zJ Z Z Tryz.call134 (zC Z (zC Z zP)) Z) cJ (fun hs=>wIK p0 bw bC bz bD bA bE bB bF p1 iK gt hs ff fg fh fj jv) (.inr Z) ?_
 rintro cr oY qf iL cO jw ⟨rfl,rfl⟩
 have jx:sW w U cr [.blk a0 123 B2,.blk aX 123 B2,.blk bf 93 B1,.blk b7 27 B0,.blk bH 200 B3] iL:=jw
 refine oM Z Z (oR Z (ZB Z Z (v:=.agg #[jV x92.skier,jV x92.mat]) Z) (oR Z (ZB Z Z (v:=.agg #[jV x93.skier,jV x93.mat]) Z) ?_))
 let B4:List Value:=[jV x92.skier,jV x92.mat]
 refine zW (j:=1) (vs:=B4) Z Z Z Z jx Z bV Z Z zE (zA Z) Z Z Z ?_
 intro gu jy
 have jz:sW w U cr [.blk a0 123 B2,.blk aX 123 B4,.blk bf 93 B1,.blk b7 27 B0,.blk bH 200 B3] gu:=jy
 let B5:List Value:=[jV x93.skier,jV x93.mat]
 refine zW (j:=0) (vs:=B5) Z Z Z Z jz Z bR Z Z zE (zA Z) Z Z Z ?_
 intro d5 jA
 have cu:sW w U cr [.blk a0 123 B5,.blk aX 123 B4,.blk bf 93 B1,.blk b7 27 B0,.blk bH 200 B3] d5:=jA
 refine eN (sR (wEf (.fx 4 (wLP (.nil)) .stop)) Z (oR Z (zF Z eM yI Z Tryz.sizeOf198) (oL Z (cu.ldB (j:=4) Z Z Z Tryz.isAgg198 (v:=.func (.func 135) #[] #[]) Z) (oL Z (cu.ldBA (j:=3) Z Z eL ZD zr (vs:=B0) Z Z) (oL Z (cu.ldBA (j:=2) Z Z dJ yU yF (vs:=B1) Z Z) ?_)))))
 have i4:=ff.le cO
 have i6:=fg.le cO
 have i8:=fh.le cO
 have i9:=fj.le cO
 have q:=bnd fT
 obtain ⟨⟨dX,fZ⟩,ja,fw⟩:=q
 try dsimp only at fw
 refine zI 0 Z Z Z Z (zJ Z Z Tryz.call135 (zC Z (zC Z zP)) Z) cu (fun hs=>wIL p0 bw bC bz bD bA bE bB bF p1 d5 cr hs i4 i6 i8 i9 ja) (.inr Z) ?_
 rintro bK oq pS du pI jC ⟨rfl,rfl⟩
 have b5:sW w U bK [.blk a0 123 B5,.blk aX 123 B4,.blk bf 93 B1,.blk b7 27 B0,.blk bH 200 B3] du:=jC
 refine oM Z Z (oR Z (ZB Z Z (v:=jV dX) Z) (oR Z (ZB Z Z (v:=jV fZ) Z) (oA Z Z (oA Z Z (eN (zK (sR fL3 Z (oR Z (zF Z dJ ZG Z Zs) (oL Z (b5.ldB (j:=2) Z Z Z Zx (v:=.bool p1.Up) Z) (oR Z (Zd Z Z) (eN (ifc fw ?_ ?_))))))))))))
 intro dC m4
 refine zx (nC dC.out) (kN ?_)
 have q:=bnd m4
 obtain ⟨⟨⟩,fU,fy⟩:=q
 try dsimp only at fy
 refine yY (fun σ_ w_=>∃ (U_:PHeap),σ_ 4=.pointer (some ⟨aX,0,none⟩)/\σ_ 5=.pointer (some ⟨a0,0,none⟩)/\σ_ 6=jV dX/\PHeap.Le bK U_/\sW w U U_ [.blk a0 123 B5,.blk aX 123 B4,.blk bf 93 B1,.blk b7 27 B0,.blk bH 200 B3] w_) ?_ ?_
 refine zy zu [1,2,3,0,0,3] gBl (by kernel_rfl) ?_
 have b9:=b5.drew
 generalize hw_W136:({ du with drawn:=du.drawn + 1 }:World)=o3 at b9 ⊢
 refine oL Z (b9.ldBA (j:=1) Z Z bV zj zE (vs:=B4) Z Z) (oM Z Z (zl ?_ ?_))
 refine ZQ Z Z Z Z (b9.ldBA (j:=0) Z Z bR zj zE (vs:=B5) Z Z) (zW (j:=1) (vs:=B4) Z Z Z Z b9 Z bV Z Z zE (zA Z) Z Z Z ?_)
 intro gv jD
 have jE:sW w U bK [.blk a0 123 B5,.blk aX 123 B4,.blk bf 93 B1,.blk b7 27 B0,.blk bH 200 B3] gv:=jD
 refine zW (j:=0) (vs:=B5) Z Z Z Z jE Z bR Z Z zE (zA Z) Z Z Z ?_
 intro gw jG
 have jH:sW w U bK [.blk a0 123 B5,.blk aX 123 B4,.blk bf 93 B1,.blk b7 27 B0,.blk bH 200 B3] gw:=jG
 refine oA Z Z (zo ?_)
 cases fU
 exact zH ⟨Z,⟨bK,bV,bR,Z,(zM _),jH⟩⟩
 refine zW (j:=1) (vs:=B4) Z Z Z Z b9 Z bV Z Z zE (zA Z) Z Z Z ?_
 intro gx jJ
 have fm:sW w U bK [.blk a0 123 B5,.blk aX 123 B4,.blk bf 93 B1,.blk b7 27 B0,.blk bH 200 B3] gx:=jJ
 refine ZQ Z Z Z Z (fm.ldBA (j:=0) Z Z bR zj zE (vs:=B5) Z Z) (zW (j:=0) (vs:=B5) Z Z Z Z fm Z bR Z Z zE (zA Z) Z Z Z ?_)
 intro gy jK
 have jL:sW w U bK [.blk a0 123 B5,.blk aX 123 B4,.blk bf 93 B1,.blk b7 27 B0,.blk bH 200 B3] gy:=jK
 refine oA Z Z (zo ?_)
 cases fU
 exact zH ⟨Z,⟨bK,bV,bR,Z,(zM _),jL⟩⟩
 rintro qh o6 ⟨gf,iN,iO,iP,pJ,dK⟩
 refine zR ?_
 cases fy
 exact ⟨rfl,_,(wDL (rs:=[.cell 4 123,.cell 5 123,.tmp 6]) (vs:=[.agg B4.toArray,.agg B5.toArray,jV dX]) ⟨⟨_,iN,(wCF zj zE (dK.blkAt (k:=1) rfl) (vs:=B4) rfl rfl)⟩,⟨⟨_,iO,(wCF zj zE (dK.blkAt (k:=0) rfl) (vs:=B5) rfl rfl)⟩,⟨iP,trivial⟩⟩⟩ rfl),gf,_,(dK.pick [] _ (by decide) rfl),rfl,rfl⟩
 intro dC m5
 refine ZE (nF (dC.out)) (sR (wFK gAs) Z (oL Z (b5.ldBA (j:=0) Z Z bR zj zE (vs:=B5) Z Z) (oL Z (b5.ldBA (j:=1) Z Z bV zj zE (vs:=B4) Z Z) (oM Z Z (zW (j:=1) (vs:=B5) Z Z Z Z b5 Z bV Z Z zE (zA Z) Z Z Z ?_)))))
 intro gz jM
 have jO:sW w U bK [.blk a0 123 B5,.blk aX 123 B5,.blk bf 93 B1,.blk b7 27 B0,.blk bH 200 B3] gz:=jM
 refine zW (j:=0) (vs:=B4) Z Z Z Z jO Z bR Z Z zE (zA Z) Z Z Z ?_
 intro gA jP
 have dL:sW w U bK [.blk a0 123 B4,.blk aX 123 B5,.blk bf 93 B1,.blk b7 27 B0,.blk bH 200 B3] gA:=jP
 refine oA Z Z (eN (zR (zN ?_)))
 cases m5
 exact ⟨rfl,_,(wDL (rs:=[.cell 4 123,.cell 5 123,.tmp 6]) (vs:=[.agg B5.toArray,.agg B4.toArray,jV fZ]) ⟨⟨_,bV,(wCF zj zE (dL.blkAt (k:=1) rfl) (vs:=B5) rfl rfl)⟩,⟨⟨_,bR,(wCF zj zE (dL.blkAt (k:=0) rfl) (vs:=B4) rfl rfl)⟩,⟨rfl,trivial⟩⟩⟩ rfl),bK,_,(dL.pick [] _ (by decide) rfl),rfl,rfl⟩
 by_cases c2:p1.Kind=1
 have fz:=hm;rw [if_neg c1,if_pos c2] at fz
 refine sR gBj Z ?_
 let B6:List Value:=[.slice bw p0.Starts.length bC,.slice bz p0.Splits.length bD,.slice bA p0.Clocks.length bE,.slice bB p0.Readings.length bF]
 refine ZH (cs:=B6) rfl rfl rfl rfl rfl rfl (by rfl) hS ?_
 intro o7 bg jQ
 let B7:List Value:=[jV p1.Kind,jV p1.Skier,jV p1.Index,.bool p1.Up]
 refine ZH (cs:=B7) rfl rfl rfl rfl rfl rfl (by rfl) jQ ?_
 intro o8 bh jR
 let B8:List Value:=[jV 0,jV 0]
 refine zS (cs:=B8) Z Z Z Z Z ze Z jR ?_
 intro o9 aY jS
 refine zS (cs:=B8) Z Z Z Z Z ze Z jS ?_
 intro d6 aZ jU
 refine oA Z Z (eN ?_)
 have q:=bnd fz
 obtain ⟨⟨⟩,n7,fA⟩:=q
 try dsimp only at fA
 let B9:List Value:=[.func (.func 136) #[] #[],.func (.func 137) #[] #[],.func (.func 138) #[] #[]]
 refine yY (fun σ_ w_=>∃ (U_:PHeap) (bG:Nat),σ_ 2=.pointer (some ⟨bg,0,none⟩)/\σ_ 3=.pointer (some ⟨bh,0,none⟩)/\σ_ 4=.pointer (some ⟨aY,0,none⟩)/\σ_ 5=.pointer (some ⟨aZ,0,none⟩)/\σ_ 7=.pointer (some ⟨bG,0,none⟩)/\PHeap.Le U U_/\sW w U U_ [.blk aZ 123 B8,.blk aY 123 B8,.blk bh 93 B7,.blk bg 27 B6,.blk bG 200 B9] w_) ?_ ?_
 have q:=bnd n7
 obtain ⟨⟨⟩,eO,dS⟩:=q
 try dsimp only at dS
 refine zy zu [2,3,1,3,2,0] gBk (by kernel_rfl) ?_
 have cw:=jU.drew
 generalize hw_W204:({ d6 with drawn:=d6.drawn + 1 }:World)=gB at cw ⊢
 refine oR Z (zF Z Z ZG Z Tryz.sizeOf91) (oL Z (cw.ldB (j:=2) Z Z Z Tryz.isAgg91 (v:=jV p1.Kind) Z) (zl ?_ ?_))
 refine zI 0 Z Z Z Z (zJ Z Z ye zP Z) cw (fun hs=>wBy gB U hs eO) (.inr Z) ?_
 rintro dh ot pT gC oc jX ⟨rfl,rfl⟩
 have jY:sW w U dh [.blk aZ 123 B8,.blk aY 123 B8,.blk bh 93 B7,.blk bg 27 B6] gC:=jX
 refine zm rfl rfl rfl rfl (fun _=>(Runs.ixA (i:=1) rfl rfl (congrArg (jV) c2) yA ZV (by decide) (by decide) (wDC yj ZV rfl))) (zS (cs:=[.nilFunc,.nilFunc,.nilFunc]) rfl rfl rfl rfl rfl Zq rfl jY ?_)
 intro pe ej jZ
 refine zW (j:=0) (vs:=B9) Z Z Z Z jZ Z Z Z Z ZV (zA Z) Z Z Z ?_
 intro gD j0
 have j5:sW w U dh [.blk ej 200 B9,.blk aZ 123 B8,.blk aY 123 B8,.blk bh 93 B7,.blk bg 27 B6] gD:=j0
 refine zo ?_
 cases dS
 exact zH ⟨rfl,⟨dh,ej,rfl,rfl,rfl,rfl,rfl,oc,(j5.pick [1,2,3,4,0] _ (by decide) rfl)⟩⟩
 refine zS (cs:=[.nilFunc,.nilFunc,.nilFunc]) Z Z Z Z Z Zq Z cw ?_
 intro gE dy j6
 refine zI 0 Z Z Z Z (zJ Z Z ye zP Z) j6 (fun hs=>wBy gE U hs eO) (.inr Z) ?_
 rintro dk ou pU gF od j7 ⟨rfl,rfl⟩
 have j8:sW w U dk [.blk dy 200 [.nilFunc,.nilFunc,.nilFunc],.blk aZ 123 B8,.blk aY 123 B8,.blk bh 93 B7,.blk bg 27 B6] gF:=j7
 refine zm rfl rfl rfl rfl (fun _=>(Runs.ixA (i:=1) rfl rfl (congrArg (jV) c2) yA ZV (by decide) (by decide) (wDC yj ZV rfl))) (zW (j:=0) (vs:=B9) rfl rfl rfl rfl j8 rfl rfl rfl rfl ZV (zA rfl) rfl rfl rfl ?_)
 intro gG j9
 have k9:sW w U dk [.blk dy 200 B9,.blk aZ 123 B8,.blk aY 123 B8,.blk bh 93 B7,.blk bg 27 B6] gG:=j9
 refine zo ?_
 cases dS
 exact zH ⟨rfl,⟨dk,dy,rfl,rfl,rfl,rfl,rfl,od,(k9.pick [1,2,3,4,0] _ (by decide) rfl)⟩⟩
 rintro qi gH ⟨gg,bG,eF,dG,bS,bO,eG,cP,cx⟩
 refine sR (wEf (.fx 4 (wOy gAp) .stop)) Z (oR Z (zF Z eG yI Z Tryz.sizeOf197) (oL Z (cx.ldB (j:=4) Z Z Z Tryz.isAgg197 (v:=.func (.func 137) #[] #[]) Z) (oL Z (cx.ldBA (j:=3) Z Z eF ZD zr (vs:=B6) Z Z) (oL Z (cx.ldBA (j:=2) Z Z dG yU yF (vs:=B7) Z Z) ?_))))
 have eP:=cK.le cP
 have eQ:=cL.le cP
 have eR:=cM.le cP
 have eS:=cN.le cP
 have q:=bnd fA
 obtain ⟨⟨cX,cY⟩,jb,fB⟩:=q
 try dsimp only at fB
 refine zI 0 Z Z Z Z (zJ Z Z Tryz.call137 (zC Z (zC Z zP)) Z) cx (fun hs=>wIM p0 bw bC bz bD bA bE bB bF p1 gH gg hs eP eQ eR eS jb) (.inr Z) ?_
 rintro cn ow pV gI cQ lf ⟨rfl,rfl⟩
 have lg:sW w U cn [.blk aZ 123 B8,.blk aY 123 B8,.blk bh 93 B7,.blk bg 27 B6,.blk bG 200 B9] gI:=lf
 refine oM Z Z (oR Z (ZB Z Z (v:=.agg #[jV cX.skier,jV cX.mat]) Z) (oR Z (ZB Z Z (v:=.agg #[jV cY.skier,jV cY.mat]) Z) ?_))
 let ap:List Value:=[jV cX.skier,jV cX.mat]
 refine zW (j:=1) (vs:=ap) Z Z Z Z lg Z bS Z Z zE (zA Z) Z Z Z ?_
 intro gJ lh
 have li:sW w U cn [.blk aZ 123 B8,.blk aY 123 ap,.blk bh 93 B7,.blk bg 27 B6,.blk bG 200 B9] gJ:=lh
 let ae:List Value:=[jV cY.skier,jV cY.mat]
 refine zW (j:=0) (vs:=ae) Z Z Z Z li Z bO Z Z zE (zA Z) Z Z Z ?_
 intro d8 lj
 have cy:sW w U cn [.blk aZ 123 ae,.blk aY 123 ap,.blk bh 93 B7,.blk bg 27 B6,.blk bG 200 B9] d8:=lj
 refine eN (sR (wEf (.fx 4 (wLP (.nil)) .stop)) Z (oR Z (zF Z eG yI Z Tryz.sizeOf198) (oL Z (cy.ldB (j:=4) Z Z Z Tryz.isAgg198 (v:=.func (.func 138) #[] #[]) Z) (oL Z (cy.ldBA (j:=3) Z Z eF ZD zr (vs:=B6) Z Z) (oL Z (cy.ldBA (j:=2) Z Z dG yU yF (vs:=B7) Z Z) ?_)))))
 have jc:=eP.le cQ
 have jd:=eQ.le cQ
 have je:=eR.le cQ
 have jf:=eS.le cQ
 have q:=bnd fB
 obtain ⟨⟨dY,ga⟩,jg,fD⟩:=q
 try dsimp only at fD
 refine zI 0 Z Z Z Z (zJ Z Z Tryz.call138 (zC Z (zC Z zP)) Z) cy (fun hs=>wIN p0 bw bC bz bD bA bE bB bF p1 d8 cn hs jc jd je jf jg) (.inr Z) ?_
 rintro bL ox pW dv pK lm ⟨rfl,rfl⟩
 have cb:sW w U bL [.blk aZ 123 ae,.blk aY 123 ap,.blk bh 93 B7,.blk bg 27 B6,.blk bG 200 B9] dv:=lm
 refine oM Z Z (oR Z (ZB Z Z (v:=jV dY) Z) (oR Z (ZB Z Z (v:=jV ga) Z) (oA Z Z (oA Z Z (eN (zK (sR fL3 Z (oR Z (zF Z dG ZG Z Zs) (oL Z (cb.ldB (j:=2) Z Z Z Zx (v:=.bool p1.Up) Z) (oR Z (Zd Z Z) (eN (ifc fD ?_ ?_))))))))))))
 intro dD m6
 refine zx (nC dD.out) (kN ?_)
 have q:=bnd m6
 obtain ⟨⟨⟩,fV,fE⟩:=q
 try dsimp only at fE
 refine yY (fun σ_ w_=>∃ (U_:PHeap),σ_ 4=.pointer (some ⟨aY,0,none⟩)/\σ_ 5=.pointer (some ⟨aZ,0,none⟩)/\σ_ 6=jV dY/\PHeap.Le bL U_/\sW w U U_ [.blk aZ 123 ae,.blk aY 123 ap,.blk bh 93 B7,.blk bg 27 B6,.blk bG 200 B9] w_) ?_ ?_
 refine zy zu [1,2,3,0,0,3] gBl (by kernel_rfl) ?_
 have cd:=cb.drew
 generalize hw_W295:({ dv with drawn:=dv.drawn + 1 }:World)=pf at cd ⊢
 refine oL Z (cd.ldBA (j:=1) Z Z bS zj zE (vs:=ap) Z Z) (oM Z Z (zl ?_ ?_))
 refine ZQ Z Z Z Z (cd.ldBA (j:=0) Z Z bO zj zE (vs:=ae) Z Z) (zW (j:=1) (vs:=ap) Z Z Z Z cd Z bS Z Z zE (zA Z) Z Z Z ?_)
 intro gK ln
 have lp:sW w U bL [.blk aZ 123 ae,.blk aY 123 ap,.blk bh 93 B7,.blk bg 27 B6,.blk bG 200 B9] gK:=ln
 refine zW (j:=0) (vs:=ae) Z Z Z Z lp Z bO Z Z zE (zA Z) Z Z Z ?_
 intro gL ls
 have lu:sW w U bL [.blk aZ 123 ae,.blk aY 123 ap,.blk bh 93 B7,.blk bg 27 B6,.blk bG 200 B9] gL:=ls
 refine oA Z Z (zo ?_)
 cases fV
 exact zH ⟨Z,⟨bL,bS,bO,Z,(zM _),lu⟩⟩
 refine zW (j:=1) (vs:=ap) Z Z Z Z cd Z bS Z Z zE (zA Z) Z Z Z ?_
 intro gM lv
 have fq:sW w U bL [.blk aZ 123 ae,.blk aY 123 ap,.blk bh 93 B7,.blk bg 27 B6,.blk bG 200 B9] gM:=lv
 refine ZQ Z Z Z Z (fq.ldBA (j:=0) Z Z bO zj zE (vs:=ae) Z Z) (zW (j:=0) (vs:=ae) Z Z Z Z fq Z bO Z Z zE (zA Z) Z Z Z ?_)
 intro gN lw
 have lx:sW w U bL [.blk aZ 123 ae,.blk aY 123 ap,.blk bh 93 B7,.blk bg 27 B6,.blk bG 200 B9] gN:=lw
 refine oA Z Z (zo ?_)
 cases fV
 exact zH ⟨Z,⟨bL,bS,bO,Z,(zM _),lx⟩⟩
 rintro qj pg ⟨gh,iQ,iR,iT,pL,dM⟩
 refine zR ?_
 cases fE
 exact ⟨rfl,_,(wDL (rs:=[.cell 4 123,.cell 5 123,.tmp 6]) (vs:=[.agg ap.toArray,.agg ae.toArray,jV dY]) ⟨⟨_,iQ,(wCF zj zE (dM.blkAt (k:=1) rfl) (vs:=ap) rfl rfl)⟩,⟨⟨_,iR,(wCF zj zE (dM.blkAt (k:=0) rfl) (vs:=ae) rfl rfl)⟩,⟨iT,trivial⟩⟩⟩ rfl),gh,_,(dM.pick [] _ (by decide) rfl),rfl,rfl⟩
 intro dD m7
 refine ZE (nF (dD.out)) (sR (wFK gAs) Z (oL Z (cb.ldBA (j:=0) Z Z bO zj zE (vs:=ae) Z Z) (oL Z (cb.ldBA (j:=1) Z Z bS zj zE (vs:=ap) Z Z) (oM Z Z (zW (j:=1) (vs:=ae) Z Z Z Z cb Z bS Z Z zE (zA Z) Z Z Z ?_)))))
 intro gO ly
 have lz:sW w U bL [.blk aZ 123 ae,.blk aY 123 ae,.blk bh 93 B7,.blk bg 27 B6,.blk bG 200 B9] gO:=ly
 refine zW (j:=0) (vs:=ap) Z Z Z Z lz Z bO Z Z zE (zA Z) Z Z Z ?_
 intro gP lA
 have dN:sW w U bL [.blk aZ 123 ap,.blk aY 123 ae,.blk bh 93 B7,.blk bg 27 B6,.blk bG 200 B9] gP:=lA
 refine oA Z Z (eN (zR (zN ?_)))
 cases m7
 exact ⟨rfl,_,(wDL (rs:=[.cell 4 123,.cell 5 123,.tmp 6]) (vs:=[.agg ae.toArray,.agg ap.toArray,jV ga]) ⟨⟨_,bS,(wCF zj zE (dN.blkAt (k:=1) rfl) (vs:=ae) rfl rfl)⟩,⟨⟨_,bO,(wCF zj zE (dN.blkAt (k:=0) rfl) (vs:=ap) rfl rfl)⟩,⟨rfl,trivial⟩⟩⟩ rfl),bL,_,(dN.pick [] _ (by decide) rfl),rfl,rfl⟩
 by_cases c3:p1.Kind=2
 have fG:=hm;rw [if_neg c1,if_neg c2,if_pos c3] at fG
 refine sR gBj Z ?_
 let aq:List Value:=[.slice bw p0.Starts.length bC,.slice bz p0.Splits.length bD,.slice bA p0.Clocks.length bE,.slice bB p0.Readings.length bF]
 refine ZH (cs:=aq) rfl rfl rfl rfl rfl rfl (by rfl) hS ?_
 intro ph bi lB
 let au:List Value:=[jV p1.Kind,jV p1.Skier,jV p1.Index,.bool p1.Up]
 refine ZH (cs:=au) rfl rfl rfl rfl rfl rfl (by rfl) lB ?_
 intro pj bj lD
 let bs:List Value:=[jV 0,jV 0]
 refine zS (cs:=bs) Z Z Z Z Z ze Z lD ?_
 intro pk ba lE
 refine zS (cs:=bs) Z Z Z Z Z ze Z lE ?_
 intro d9 bb lF
 refine oA Z Z (eN ?_)
 have q:=bnd fG
 obtain ⟨⟨⟩,n9,fH⟩:=q
 try dsimp only at fH
 let bo:List Value:=[.func (.func 139) #[] #[],.func (.func 140) #[] #[],.func (.func 141) #[] #[]]
 refine yY (fun σ_ w_=>∃ (U_:PHeap) (bI:Nat),σ_ 2=.pointer (some ⟨bi,0,none⟩)/\σ_ 3=.pointer (some ⟨bj,0,none⟩)/\σ_ 4=.pointer (some ⟨ba,0,none⟩)/\σ_ 5=.pointer (some ⟨bb,0,none⟩)/\σ_ 7=.pointer (some ⟨bI,0,none⟩)/\PHeap.Le U U_/\sW w U U_ [.blk bb 123 bs,.blk ba 123 bs,.blk bj 93 au,.blk bi 27 aq,.blk bI 200 bo] w_) ?_ ?_
 have q:=bnd n9
 obtain ⟨⟨⟩,eU,dT⟩:=q
 try dsimp only at dT
 refine zy zu [2,3,1,3,2,0] gBk (by kernel_rfl) ?_
 have cz:=lF.drew
 generalize hw_W363:({ d9 with drawn:=d9.drawn + 1 }:World)=gQ at cz ⊢
 refine oR Z (zF Z Z ZG Z Tryz.sizeOf91) (oL Z (cz.ldB (j:=2) Z Z Z Tryz.isAgg91 (v:=jV p1.Kind) Z) (zl ?_ ?_))
 refine zI 0 Z Z Z Z (zJ Z Z ye zP Z) cz (fun hs=>wBy gQ U hs eU) (.inr Z) ?_
 rintro dl oy pX gR oe lG ⟨rfl,rfl⟩
 have lH:sW w U dl [.blk bb 123 bs,.blk ba 123 bs,.blk bj 93 au,.blk bi 27 aq] gR:=lG
 refine zm rfl rfl rfl rfl (fun _=>(Runs.ixA (i:=2) rfl rfl (congrArg (jV) c3) yA ZV (by decide) (by decide) (wDC yj ZV rfl))) (zS (cs:=[.nilFunc,.nilFunc,.nilFunc]) rfl rfl rfl rfl rfl Zq rfl lH ?_)
 intro pm en lI
 refine zW (j:=0) (vs:=bo) Z Z Z Z lI Z Z Z Z ZV (zA Z) Z Z Z ?_
 intro gS lJ
 have lK:sW w U dl [.blk en 200 bo,.blk bb 123 bs,.blk ba 123 bs,.blk bj 93 au,.blk bi 27 aq] gS:=lJ
 refine zo ?_
 cases dT
 exact zH ⟨rfl,⟨dl,en,rfl,rfl,rfl,rfl,rfl,oe,(lK.pick [1,2,3,4,0] _ (by decide) rfl)⟩⟩
 refine zS (cs:=[.nilFunc,.nilFunc,.nilFunc]) Z Z Z Z Z Zq Z cz ?_
 intro gT dz lL
 refine zI 0 Z Z Z Z (zJ Z Z ye zP Z) lL (fun hs=>wBy gT U hs eU) (.inr Z) ?_
 rintro dm oz pY gU og lM ⟨rfl,rfl⟩
 have lN:sW w U dm [.blk dz 200 [.nilFunc,.nilFunc,.nilFunc],.blk bb 123 bs,.blk ba 123 bs,.blk bj 93 au,.blk bi 27 aq] gU:=lM
 refine zm rfl rfl rfl rfl (fun _=>(Runs.ixA (i:=2) rfl rfl (congrArg (jV) c3) yA ZV (by decide) (by decide) (wDC yj ZV rfl))) (zW (j:=0) (vs:=bo) rfl rfl rfl rfl lN rfl rfl rfl rfl ZV (zA rfl) rfl rfl rfl ?_)
 intro gW lO
 have lP:sW w U dm [.blk dz 200 bo,.blk bb 123 bs,.blk ba 123 bs,.blk bj 93 au,.blk bi 27 aq] gW:=lO
 refine zo ?_
 cases dT
 exact zH ⟨rfl,⟨dm,dz,rfl,rfl,rfl,rfl,rfl,og,(lP.pick [1,2,3,4,0] _ (by decide) rfl)⟩⟩
 rintro qk gX ⟨gi,bI,eH,dH,bT,bP,eI,cR,cA⟩
 refine sR (wEf (.fx 4 (wOy gAp) .stop)) Z (oR Z (zF Z eI yI Z Tryz.sizeOf197) (oL Z (cA.ldB (j:=4) Z Z Z Tryz.isAgg197 (v:=.func (.func 140) #[] #[]) Z) (oL Z (cA.ldBA (j:=3) Z Z eH ZD zr (vs:=aq) Z Z) (oL Z (cA.ldBA (j:=2) Z Z dH yU yF (vs:=au) Z Z) ?_))))
 have eV:=cK.le cR
 have eW:=cL.le cR
 have eX:=cM.le cR
 have eY:=cN.le cR
 have q:=bnd fH
 obtain ⟨⟨cZ,da⟩,jh,fJ⟩:=q
 try dsimp only at fJ
 refine zI 0 Z Z Z Z (zJ Z Z Tryz.call140 (zC Z (zC Z zP)) Z) cA (fun hs=>wIO p0 bw bC bz bD bA bE bB bF p1 gX gi hs eV eW eX eY jh) (.inr Z) ?_
 rintro cp oB pZ gZ cS lQ ⟨rfl,rfl⟩
 have lR:sW w U cp [.blk bb 123 bs,.blk ba 123 bs,.blk bj 93 au,.blk bi 27 aq,.blk bI 200 bo] gZ:=lQ
 refine oM Z Z (oR Z (ZB Z Z (v:=.agg #[jV cZ.skier,jV cZ.mat]) Z) (oR Z (ZB Z Z (v:=.agg #[jV da.skier,jV da.mat]) Z) ?_))
 let av:List Value:=[jV cZ.skier,jV cZ.mat]
 refine zW (j:=1) (vs:=av) Z Z Z Z lR Z bT Z Z zE (zA Z) Z Z Z ?_
 intro g7 lS
 have lT:sW w U cp [.blk bb 123 bs,.blk ba 123 av,.blk bj 93 au,.blk bi 27 aq,.blk bI 200 bo] g7:=lS
 let ah:List Value:=[jV da.skier,jV da.mat]
 refine zW (j:=0) (vs:=ah) Z Z Z Z lT Z bP Z Z zE (zA Z) Z Z Z ?_
 intro ec lU
 have cC:sW w U cp [.blk bb 123 ah,.blk ba 123 av,.blk bj 93 au,.blk bi 27 aq,.blk bI 200 bo] ec:=lU
 refine eN (sR (wEf (.fx 4 (wLP (.nil)) .stop)) Z (oR Z (zF Z eI yI Z Tryz.sizeOf198) (oL Z (cC.ldB (j:=4) Z Z Z Tryz.isAgg198 (v:=.func (.func 141) #[] #[]) Z) (oL Z (cC.ldBA (j:=3) Z Z eH ZD zr (vs:=aq) Z Z) (oL Z (cC.ldBA (j:=2) Z Z dH yU yF (vs:=au) Z Z) ?_)))))
 have ji:=eV.le cS
 have jj:=eW.le cS
 have jk:=eX.le cS
 have jl:=eY.le cS
 have q:=bnd fJ
 obtain ⟨⟨dZ,gb⟩,jm,fK⟩:=q
 try dsimp only at fK
 refine zI 0 Z Z Z Z (zJ Z Z Tryz.call141 (zC Z (zC Z zP)) Z) cC (fun hs=>wIP p0 bw bC bz bD bA bE bB bF p1 ec cp hs ji jj jk jl jm) (.inr Z) ?_
 rintro bM oG p6 dw pM lV ⟨rfl,rfl⟩
 have cf:sW w U bM [.blk bb 123 ah,.blk ba 123 av,.blk bj 93 au,.blk bi 27 aq,.blk bI 200 bo] dw:=lV
 refine oM Z Z (oR Z (ZB Z Z (v:=jV dZ) Z) (oR Z (ZB Z Z (v:=jV gb) Z) (oA Z Z (oA Z Z (eN (zK (sR fL3 Z (oR Z (zF Z dH ZG Z Zs) (oL Z (cf.ldB (j:=2) Z Z Z Zx (v:=.bool p1.Up) Z) (oR Z (Zd Z Z) (eN (ifc fK ?_ ?_))))))))))))
 intro dE m8
 refine zx (nC dE.out) (kN ?_)
 have q:=bnd m8
 obtain ⟨⟨⟩,fW,fL⟩:=q
 try dsimp only at fL
 refine yY (fun σ_ w_=>∃ (U_:PHeap),σ_ 4=.pointer (some ⟨ba,0,none⟩)/\σ_ 5=.pointer (some ⟨bb,0,none⟩)/\σ_ 6=jV dZ/\PHeap.Le bM U_/\sW w U U_ [.blk bb 123 ah,.blk ba 123 av,.blk bj 93 au,.blk bi 27 aq,.blk bI 200 bo] w_) ?_ ?_
 refine zy zu [1,2,3,0,0,3] gBl (by kernel_rfl) ?_
 have cg:=cf.drew
 generalize hw_W454:({ dw with drawn:=dw.drawn + 1 }:World)=pn at cg ⊢
 refine oL Z (cg.ldBA (j:=1) Z Z bT zj zE (vs:=av) Z Z) (oM Z Z (zl ?_ ?_))
 refine ZQ Z Z Z Z (cg.ldBA (j:=0) Z Z bP zj zE (vs:=ah) Z Z) (zW (j:=1) (vs:=av) Z Z Z Z cg Z bT Z Z zE (zA Z) Z Z Z ?_)
 intro g9 lW
 have lX:sW w U bM [.blk bb 123 ah,.blk ba 123 av,.blk bj 93 au,.blk bi 27 aq,.blk bI 200 bo] g9:=lW
 refine zW (j:=0) (vs:=ah) Z Z Z Z lX Z bP Z Z zE (zA Z) Z Z Z ?_
 intro ib lY
 have lZ:sW w U bM [.blk bb 123 ah,.blk ba 123 av,.blk bj 93 au,.blk bi 27 aq,.blk bI 200 bo] ib:=lY
 refine oA Z Z (zo ?_)
 cases fW
 exact zH ⟨Z,⟨bM,bT,bP,Z,(zM _),lZ⟩⟩
 refine zW (j:=1) (vs:=av) Z Z Z Z cg Z bT Z Z zE (zA Z) Z Z Z ?_
 intro ic l3
 have ft:sW w U bM [.blk bb 123 ah,.blk ba 123 av,.blk bj 93 au,.blk bi 27 aq,.blk bI 200 bo] ic:=l3
 refine ZQ Z Z Z Z (ft.ldBA (j:=0) Z Z bP zj zE (vs:=ah) Z Z) (zW (j:=0) (vs:=ah) Z Z Z Z ft Z bP Z Z zE (zA Z) Z Z Z ?_)
 intro ie l4
 have l5:sW w U bM [.blk bb 123 ah,.blk ba 123 av,.blk bj 93 au,.blk bi 27 aq,.blk bI 200 bo] ie:=l4
 refine oA Z Z (zo ?_)
 cases fW
 exact zH ⟨Z,⟨bM,bT,bP,Z,(zM _),l5⟩⟩
 rintro qm po ⟨gj,iU,iV,iW,pN,dO⟩
 refine zR ?_
 cases fL
 exact ⟨rfl,_,(wDL (rs:=[.cell 4 123,.cell 5 123,.tmp 6]) (vs:=[.agg av.toArray,.agg ah.toArray,jV dZ]) ⟨⟨_,iU,(wCF zj zE (dO.blkAt (k:=1) rfl) (vs:=av) rfl rfl)⟩,⟨⟨_,iV,(wCF zj zE (dO.blkAt (k:=0) rfl) (vs:=ah) rfl rfl)⟩,⟨iW,trivial⟩⟩⟩ rfl),gj,_,(dO.pick [] _ (by decide) rfl),rfl,rfl⟩
 intro dE m9
 refine ZE (nF (dE.out)) (sR (wFK gAs) Z (oL Z (cf.ldBA (j:=0) Z Z bP zj zE (vs:=ah) Z Z) (oL Z (cf.ldBA (j:=1) Z Z bT zj zE (vs:=av) Z Z) (oM Z Z (zW (j:=1) (vs:=ah) Z Z Z Z cf Z bT Z Z zE (zA Z) Z Z Z ?_)))))
 intro ig l6
 have l7:sW w U bM [.blk bb 123 ah,.blk ba 123 ah,.blk bj 93 au,.blk bi 27 aq,.blk bI 200 bo] ig:=l6
 refine zW (j:=0) (vs:=av) Z Z Z Z l7 Z bP Z Z zE (zA Z) Z Z Z ?_
 intro ii l8
 have dP:sW w U bM [.blk bb 123 av,.blk ba 123 ah,.blk bj 93 au,.blk bi 27 aq,.blk bI 200 bo] ii:=l8
 refine oA Z Z (eN (zR (zN ?_)))
 cases m9
 exact ⟨rfl,_,(wDL (rs:=[.cell 4 123,.cell 5 123,.tmp 6]) (vs:=[.agg ah.toArray,.agg av.toArray,jV gb]) ⟨⟨_,bT,(wCF zj zE (dP.blkAt (k:=1) rfl) (vs:=ah) rfl rfl)⟩,⟨⟨_,bP,(wCF zj zE (dP.blkAt (k:=0) rfl) (vs:=av) rfl rfl)⟩,⟨rfl,trivial⟩⟩⟩ rfl),bM,_,(dP.pick [] _ (by decide) rfl),rfl,rfl⟩
 by_cases c4:p1.Kind=3
 have fM:=hm;rw [if_neg c1,if_neg c2,if_neg c3,if_pos c4] at fM
 refine sR gBj Z ?_
 let az:List Value:=[.slice bw p0.Starts.length bC,.slice bz p0.Splits.length bD,.slice bA p0.Clocks.length bE,.slice bB p0.Readings.length bF]
 refine ZH (cs:=az) rfl rfl rfl rfl rfl rfl (by rfl) hS ?_
 intro pp bk ma
 let aS:List Value:=[jV p1.Kind,jV p1.Skier,jV p1.Index,.bool p1.Up]
 refine ZH (cs:=aS) rfl rfl rfl rfl rfl rfl (by rfl) ma ?_
 intro pq bm mb
 let bu:List Value:=[jV 0,jV 0]
 refine zS (cs:=bu) Z Z Z Z Z ze Z mb ?_
 intro pt bd mc
 refine zS (cs:=bu) Z Z Z Z Z ze Z mc ?_
 intro ef be md
 refine oA Z Z (eN ?_)
 have q:=bnd fM
 obtain ⟨⟨⟩,oa,fO⟩:=q
 try dsimp only at fO
 let bp:List Value:=[.func (.func 142) #[] #[],.func (.func 143) #[] #[],.func (.func 144) #[] #[]]
 refine yY (fun σ_ w_=>∃ (U_:PHeap) (bJ:Nat),σ_ 2=.pointer (some ⟨bk,0,none⟩)/\σ_ 3=.pointer (some ⟨bm,0,none⟩)/\σ_ 4=.pointer (some ⟨bd,0,none⟩)/\σ_ 5=.pointer (some ⟨be,0,none⟩)/\σ_ 7=.pointer (some ⟨bJ,0,none⟩)/\PHeap.Le U U_/\sW w U U_ [.blk be 123 bu,.blk bd 123 bu,.blk bm 93 aS,.blk bk 27 az,.blk bJ 200 bp] w_) ?_ ?_
 have q:=bnd oa
 obtain ⟨⟨⟩,eZ,dV⟩:=q
 try dsimp only at dV
 refine zy zu [2,3,1,3,2,0] gBk (by kernel_rfl) ?_
 have cE:=md.drew
 generalize hw_W522:({ ef with drawn:=ef.drawn + 1 }:World)=ik at cE ⊢
 refine oR Z (zF Z Z ZG Z Tryz.sizeOf91) (oL Z (cE.ldB (j:=2) Z Z Z Tryz.isAgg91 (v:=jV p1.Kind) Z) (zl ?_ ?_))
 refine zI 0 Z Z Z Z (zJ Z Z ye zP Z) cE (fun hs=>wBy ik U hs eZ) (.inr Z) ?_
 rintro dq oI p8 il oi mg ⟨rfl,rfl⟩
 have mh:sW w U dq [.blk be 123 bu,.blk bd 123 bu,.blk bm 93 aS,.blk bk 27 az] il:=mg
 refine zm rfl rfl rfl rfl (fun _=>(Runs.ixA (i:=3) rfl rfl (congrArg (jV) c4) yA ZV (by decide) (by decide) (wDC yj ZV rfl))) (zS (cs:=[.nilFunc,.nilFunc,.nilFunc]) rfl rfl rfl rfl rfl Zq rfl mh ?_)
 intro py eu mi
 refine zW (j:=0) (vs:=bp) Z Z Z Z mi Z Z Z Z ZV (zA Z) Z Z Z ?_
 intro im mj
 have ml:sW w U dq [.blk eu 200 bp,.blk be 123 bu,.blk bd 123 bu,.blk bm 93 aS,.blk bk 27 az] im:=mj
 refine zo ?_
 cases dV
 exact zH ⟨rfl,⟨dq,eu,rfl,rfl,rfl,rfl,rfl,oi,(ml.pick [1,2,3,4,0] _ (by decide) rfl)⟩⟩
 refine zS (cs:=[.nilFunc,.nilFunc,.nilFunc]) Z Z Z Z Z Zq Z cE ?_
 intro io dA mn
 refine zI 0 Z Z Z Z (zJ Z Z ye zP Z) mn (fun hs=>wBy io U hs eZ) (.inr Z) ?_
 rintro dr oK p9 ip oj mo ⟨rfl,rfl⟩
 have mp:sW w U dr [.blk dA 200 [.nilFunc,.nilFunc,.nilFunc],.blk be 123 bu,.blk bd 123 bu,.blk bm 93 aS,.blk bk 27 az] ip:=mo
 refine zm rfl rfl rfl rfl (fun _=>(Runs.ixA (i:=3) rfl rfl (congrArg (jV) c4) yA ZV (by decide) (by decide) (wDC yj ZV rfl))) (zW (j:=0) (vs:=bp) rfl rfl rfl rfl mp rfl rfl rfl rfl ZV (zA rfl) rfl rfl rfl ?_)
 intro iq mr
 have ms:sW w U dr [.blk dA 200 bp,.blk be 123 bu,.blk bd 123 bu,.blk bm 93 aS,.blk bk 27 az] iq:=mr
 refine zo ?_
 cases dV
 exact zH ⟨rfl,⟨dr,dA,rfl,rfl,rfl,rfl,rfl,oj,(ms.pick [1,2,3,4,0] _ (by decide) rfl)⟩⟩
 rintro qn ir ⟨gk,bJ,eJ,dI,bU,bQ,eK,cU,cG⟩
 refine sR (wEf (.fx 4 (wOy gAp) .stop)) Z (oR Z (zF Z eK yI Z Tryz.sizeOf197) (oL Z (cG.ldB (j:=4) Z Z Z Tryz.isAgg197 (v:=.func (.func 143) #[] #[]) Z) (oL Z (cG.ldBA (j:=3) Z Z eJ ZD zr (vs:=az) Z Z) (oL Z (cG.ldBA (j:=2) Z Z dI yU yF (vs:=aS) Z Z) ?_))))
 have e8:=cK.le cU
 have e9:=cL.le cU
 have fb:=cM.le cU
 have fc:=cN.le cU
 have q:=bnd fO
 obtain ⟨⟨db,de⟩,jo,fP⟩:=q
 try dsimp only at fP
 refine zI 0 Z Z Z Z (zJ Z Z Tryz.call143 (zC Z (zC Z zP)) Z) cG (fun hs=>wHq p0 bw bC bz bD bA bE bB bF p1 ir gk hs e8 e9 fb fc jo) (.inr Z) ?_
 rintro cq oO qa iu cV mu ⟨rfl,rfl⟩
 have mw:sW w U cq [.blk be 123 bu,.blk bd 123 bu,.blk bm 93 aS,.blk bk 27 az,.blk bJ 200 bp] iu:=mu
 refine oM Z Z (oR Z (ZB Z Z (v:=.agg #[jV db.skier,jV db.mat]) Z) (oR Z (ZB Z Z (v:=.agg #[jV de.skier,jV de.mat]) Z) ?_))
 let aT:List Value:=[jV db.skier,jV db.mat]
 refine zW (j:=1) (vs:=aT) Z Z Z Z mw Z bU Z Z zE (zA Z) Z Z Z ?_
 intro iv mz
 have mA:sW w U cq [.blk be 123 bu,.blk bd 123 aT,.blk bm 93 aS,.blk bk 27 az,.blk bJ 200 bp] iv:=mz
 let ai:List Value:=[jV de.skier,jV de.mat]
 refine zW (j:=0) (vs:=ai) Z Z Z Z mA Z bQ Z Z zE (zA Z) Z Z Z ?_
 intro eg mB
 have cH:sW w U cq [.blk be 123 ai,.blk bd 123 aT,.blk bm 93 aS,.blk bk 27 az,.blk bJ 200 bp] eg:=mB
 refine eN (sR (wEf (.fx 4 (wLP (.nil)) .stop)) Z (oR Z (zF Z eK yI Z Tryz.sizeOf198) (oL Z (cH.ldB (j:=4) Z Z Z Tryz.isAgg198 (v:=.func (.func 144) #[] #[]) Z) (oL Z (cH.ldBA (j:=3) Z Z eJ ZD zr (vs:=az) Z Z) (oL Z (cH.ldBA (j:=2) Z Z dI yU yF (vs:=aS) Z Z) ?_)))))
 have jp:=e8.le cV
 have jq:=e9.le cV
 have jr:=fb.le cV
 have jt:=fc.le cV
 have q:=bnd fP
 obtain ⟨⟨d4,ge⟩,ju,fQ⟩:=q
 try dsimp only at fQ
 refine zI 0 Z Z Z Z (zJ Z Z Tryz.call144 (zC Z (zC Z zP)) Z) cH (fun hs=>wHr p0 bw bC bz bD bA bE bB bF p1 eg cq hs jp jq jr jt ju) (.inr Z) ?_
 rintro bN oP qb dx pO mD ⟨rfl,rfl⟩
 have cj:sW w U bN [.blk be 123 ai,.blk bd 123 aT,.blk bm 93 aS,.blk bk 27 az,.blk bJ 200 bp] dx:=mD
 refine oM Z Z (oR Z (ZB Z Z (v:=jV d4) Z) (oR Z (ZB Z Z (v:=jV ge) Z) (oA Z Z (oA Z Z (eN (zK (sR fL3 Z (oR Z (zF Z dI ZG Z Zs) (oL Z (cj.ldB (j:=2) Z Z Z Zx (v:=.bool p1.Up) Z) (oR Z (Zd Z Z) (eN (ifc fQ ?_ ?_))))))))))))
 intro dF n5
 refine zx (nC dF.out) (kN ?_)
 have q:=bnd n5
 obtain ⟨⟨⟩,fY,fR⟩:=q
 try dsimp only at fR
 refine yY (fun σ_ w_=>∃ (U_:PHeap),σ_ 4=.pointer (some ⟨bd,0,none⟩)/\σ_ 5=.pointer (some ⟨be,0,none⟩)/\σ_ 6=jV d4/\PHeap.Le bN U_/\sW w U U_ [.blk be 123 ai,.blk bd 123 aT,.blk bm 93 aS,.blk bk 27 az,.blk bJ 200 bp] w_) ?_ ?_
 refine zy zu [1,2,3,0,0,3] gBl (by kernel_rfl) ?_
 have cm:=cj.drew
 generalize hw_W613:({ dx with drawn:=dx.drawn + 1 }:World)=pB at cm ⊢
 refine oL Z (cm.ldBA (j:=1) Z Z bU zj zE (vs:=aT) Z Z) (oM Z Z (zl ?_ ?_))
 refine ZQ Z Z Z Z (cm.ldBA (j:=0) Z Z bQ zj zE (vs:=ai) Z Z) (zW (j:=1) (vs:=aT) Z Z Z Z cm Z bU Z Z zE (zA Z) Z Z Z ?_)
 intro iw mE
 have mF:sW w U bN [.blk be 123 ai,.blk bd 123 aT,.blk bm 93 aS,.blk bk 27 az,.blk bJ 200 bp] iw:=mE
 refine zW (j:=0) (vs:=ai) Z Z Z Z mF Z bQ Z Z zE (zA Z) Z Z Z ?_
 intro iy mG
 have mH:sW w U bN [.blk be 123 ai,.blk bd 123 aT,.blk bm 93 aS,.blk bk 27 az,.blk bJ 200 bp] iy:=mG
 refine oA Z Z (zo ?_)
 cases fY
 exact zH ⟨Z,⟨bN,bU,bQ,Z,(zM _),mH⟩⟩
 refine zW (j:=1) (vs:=aT) Z Z Z Z cm Z bU Z Z zE (zA Z) Z Z Z ?_
 intro iA mI
 have fu:sW w U bN [.blk be 123 ai,.blk bd 123 aT,.blk bm 93 aS,.blk bk 27 az,.blk bJ 200 bp] iA:=mI
 refine ZQ Z Z Z Z (fu.ldBA (j:=0) Z Z bQ zj zE (vs:=ai) Z Z) (zW (j:=0) (vs:=ai) Z Z Z Z fu Z bQ Z Z zE (zA Z) Z Z Z ?_)
 intro iB mJ
 have mK:sW w U bN [.blk be 123 ai,.blk bd 123 aT,.blk bm 93 aS,.blk bk 27 az,.blk bJ 200 bp] iB:=mJ
 refine oA Z Z (zo ?_)
 cases fY
 exact zH ⟨Z,⟨bN,bU,bQ,Z,(zM _),mK⟩⟩
 rintro qo pC ⟨gm,iX,iY,iZ,pP,dQ⟩
 refine zR ?_
 cases fR
 exact ⟨rfl,_,(wDL (rs:=[.cell 4 123,.cell 5 123,.tmp 6]) (vs:=[.agg aT.toArray,.agg ai.toArray,jV d4]) ⟨⟨_,iX,(wCF zj zE (dQ.blkAt (k:=1) rfl) (vs:=aT) rfl rfl)⟩,⟨⟨_,iY,(wCF zj zE (dQ.blkAt (k:=0) rfl) (vs:=ai) rfl rfl)⟩,⟨iZ,trivial⟩⟩⟩ rfl),gm,_,(dQ.pick [] _ (by decide) rfl),rfl,rfl⟩
 intro dF n6
 refine ZE (nF (dF.out)) (sR (wFK gAs) Z (oL Z (cj.ldBA (j:=0) Z Z bQ zj zE (vs:=ai) Z Z) (oL Z (cj.ldBA (j:=1) Z Z bU zj zE (vs:=aT) Z Z) (oM Z Z (zW (j:=1) (vs:=ai) Z Z Z Z cj Z bU Z Z zE (zA Z) Z Z Z ?_)))))
 intro iC mL
 have mM:sW w U bN [.blk be 123 ai,.blk bd 123 ai,.blk bm 93 aS,.blk bk 27 az,.blk bJ 200 bp] iC:=mL
 refine zW (j:=0) (vs:=aT) Z Z Z Z mM Z bQ Z Z zE (zA Z) Z Z Z ?_
 intro iD mN
 have dR:sW w U bN [.blk be 123 aT,.blk bd 123 ai,.blk bm 93 aS,.blk bk 27 az,.blk bJ 200 bp] iD:=mN
 refine oA Z Z (eN (zR (zN ?_)))
 cases n6
 exact ⟨rfl,_,(wDL (rs:=[.cell 4 123,.cell 5 123,.tmp 6]) (vs:=[.agg ai.toArray,.agg aT.toArray,jV ge]) ⟨⟨_,bU,(wCF zj zE (dR.blkAt (k:=1) rfl) (vs:=ai) rfl rfl)⟩,⟨⟨_,bQ,(wCF zj zE (dR.blkAt (k:=0) rfl) (vs:=aT) rfl rfl)⟩,⟨rfl,trivial⟩⟩⟩ rfl),bN,_,(dR.pick [] _ (by decide) rfl),rfl,rfl⟩
 have fS:=hm;rw [if_neg c1,if_neg c2,if_neg c3,if_neg c4] at fS
 refine sR gBj Z ?_
 let df:List Value:=[.slice bw p0.Starts.length bC,.slice bz p0.Splits.length bD,.slice bA p0.Clocks.length bE,.slice bB p0.Readings.length bF]
 refine ZH (cs:=df) rfl rfl rfl rfl rfl rfl (by rfl) hS ?_
 intro pD eA mP
 let dg:List Value:=[jV p1.Kind,jV p1.Skier,jV p1.Index,.bool p1.Up]
 refine ZH (cs:=dg) rfl rfl rfl rfl rfl rfl (by rfl) mP ?_
 intro pE eC mQ
 let bX:List Value:=[jV 0,jV 0]
 refine zS (cs:=bX) Z Z Z Z Z ze Z mQ ?_
 intro pF eD mR
 refine zS (cs:=bX) Z Z Z Z Z ze Z mR ?_
 intro eh eE mS
 refine oA Z Z (eN (zK ?_))
 have q:=bnd fS
 obtain ⟨⟨⟩,fd,dW⟩:=q
 try dsimp only at dW
 refine zy zu [2,3,1,3,2,0] gBk (by kernel_rfl) ?_
 have cI:=mS.drew
 generalize hw_W669:({ eh with drawn:=eh.drawn + 1 }:World)=iE at cI ⊢
 refine oR Z (zF Z Z ZG Z Tryz.sizeOf91) (oL Z (cI.ldB (j:=2) Z Z Z Tryz.isAgg91 (v:=jV p1.Kind) Z) (zl ?_ ?_))
 refine zI 0 Z Z Z Z (zJ Z Z ye zP Z) cI (fun hs=>wBy iE U hs fd) (.inr Z) ?_
 rintro gp oW qc iF pQ mT ⟨rfl,rfl⟩
 have pG:sW w U gp [.blk eE 123 bX,.blk eD 123 bX,.blk eC 93 dg,.blk eA 27 df] iF:=mT
 cases dW
 refine zS (cs:=[.nilFunc,.nilFunc,.nilFunc]) Z Z Z Z Z Zq Z cI ?_
 intro iG iM mU
 refine zI 0 Z Z Z Z (zJ Z Z ye zP Z) mU (fun hs=>wBy iG U hs fd) (.inr Z) ?_
 rintro gq oX qe iH pR mV ⟨rfl,rfl⟩
 have pH:sW w U gq [.blk iM 200 [.nilFunc,.nilFunc,.nilFunc],.blk eE 123 bX,.blk eD 123 bX,.blk eC 93 dg,.blk eA 27 df] iH:=mV
 cases dW
end Go.Proofs.YtlnfbjphfoipaaaGreat
