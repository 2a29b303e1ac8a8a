import Derived.Test.YtadbejldcmkokaaGreatA6
set_option linter.all false
open List renaming flatMap->nA
open Option.some renaming inj->nB
open Go.Value renaming bool->nD
open Bool renaming eq_false_iff->nE
open Prod.mk renaming injEq->nG
open Nat renaming blt->nH,le_of_ble_eq_true->nI
namespace Go.Proofs.YtadbejldcmkokaaGreat
open Go.KL
def gAa:Sch:=.fl 1 (.fl 2 .nil)
def gAb:Sch:=.fl 2 (.fl 3 .nil)
def gAc:Sch:=.fl 3 (.fl 4 .nil)
def gAd:Sch:=.fl 4 (.fl 5 .nil)
def gAe:Sch:=.fl 7 (.fl 8 .nil)
def gAf:Sch:=.fl 14 (.fl 15 .nil)
def gAg:Sch:=.fl 15 (.fl 16 .nil)
def gAh:Sch:=.fx 1 (.fl 2 .nil) .stop
def gAi:Sch:=.fx 2 (.fx 3 .nil .stop) .stop
def gAj:Sch:=.fx 3 (.fl 4 .nil) .stop
def gAk:Sch:=.fx 17 (.fl 18 .nil) .stop
def gAl:Sch:=.fx 0 (.fl 1 .nil) .stop
def gAm:Sch:=.fx 4 (.fx 5 .nil .stop) .stop
def gAn:Sch:=.fx 6 (.fx 7 .nil .stop) .stop
def gAo:Sch:=.fx 8 (.fx 9 .nil .stop) .stop
def gAp:Sch:=.fx 4 (.fl 5 .nil) .stop
def gAq:Sch:=.fx 6 gAe .stop
def gAr:Sch:=.fx 1 gAb .stop
def gAs:Sch:=.fl 0 gAh
def gAt:Sch:=.fx 2 gAj .stop
def gAu:Sch:=.fx 15 gAk .stop
def gAv:Sch:=.fx 15 (.fl 16 (.fx 18 .nil .stop)) .stop
def gAw:Sch:=.fx 3 gAd .stop
def gAx:Sch:=.fx 13 gAf .stop
def gAy:Sch:=.fx 3 gAp .stop
def gAz:Sch:=.fl 0 (.fl 1 (.fx 2 (.fl 3 .nil) .stop))
def gBa:Sch:=.fl 0 (.fl 1 gAi)
def gBb:Sch:=.fx 14 gAu .stop
def gBc:Sch:=.fx 10 gAv .stop
def gBd:Sch:=.fx 0 (.fx 1 gAi .stop) .stop
def gBe:Sch:=.fx 0 gAr .stop
def gBf:Sch:=.fl 0 (.fl 1 gAt)
def gBg:Sch:=.fx 13 gBb .stop
def gBh:Sch:=.fl 0 (.fl 1 (.fx 2 gAc .stop))
def gBi:Sch:=.fx 0 (.fx 1 gAt .stop) .stop
def gBj:Sch:=.fx 12 gBg .stop
def gBk:Sch:=.fx 9 gBg .stop
def gBl:Sch:=.fx 4 (.fl 16 gBg) .stop
def gBm:Sch:=.fl 1 (.fl 2 (.fx 0 (.fl 3 gAm) (.fx 4 (.fx 0 (.fl 3 (.fx 5 .nil .stop)) .stop) .stop)))
def gBn:Sch:=.fl 0 (.fl 2 (.fx 1 gAy (.fx 3 (.fx 1 gAp .stop) .stop)))
def gBo:Sch:=.fx 3 gBl .stop
def gBp:Sch:=.fx 4 (.fl 16 gBj) (.fx 12 gBl .stop)
def gBq:Sch:=.fx 4 (.fl 16 gBk) (.fx 9 gBl .stop)
set_option maxHeartbeats 4000000
theorem Z {α:Type} {a:α}:a=a:=rfl
section
variable {r:Option Nat} {N:Nat} {P:Program} {l:List Oper} {Q:wDx} {D:List Deferred} {ks:List Nat} {σ:Env} {w:World} {i d j e:Nat} {s:Sch} {o:Oper} {b:Bool} {x:Operand} {v:Value} {p:Prop} {inst:Decidable p} {K:List Deferred->Env->World->Prop} {c1 c2:Code}
abbrev jV (n:Int):Value:=.int .i64 n
abbrev SW (w:World) (X:List Res) (U U':PHeap) (L:List Res) (w':World):Prop:=St ⟨w,X,U⟩ U' L w'
abbrev sW (w:World) (U U':PHeap) (L:List Res) (w':World):Prop:=St ⟨w,[],U⟩ U' L w'
abbrev St0 (w:World) (U:PHeap) (L:List Res):Prop:=St ⟨w,L,U⟩ U L w
theorem ifc {α:Type} {G p:Prop} {inst:Decidable p} {a b r:α} (h:@ite α p inst a b=r) (h1:Hid p->a=r->G) (h2:Hid (¬ p)->b=r->G):G:=by
 by_cases c:p
 rw [if_pos c] at h;exact h1 ⟨c⟩ h
 rw [if_neg c] at h;exact h2 ⟨c⟩ h
theorem bnK {α β:Type} {G:Prop} {o:Option α} {f:α->Option β} {r:β} (h:o.bind f=some r) (k:∀ x,o=some x->f x=some r->G):G:=by
 obtain ⟨x,h1,h2⟩:=bnd h
 exact k x h1 h2
theorem oR (h:(l[i]?,o.dst,nH d N,wanted l σ o)=(some o,some d,true,true)) (hr:∀ {w'},Runs P σ w' o v w') (k:OKS N P l Q D ks s (upd σ d v) w):OKS N P l Q D ks (.fl i s) σ w:=by
 simp only [nG] at h;exact OKS.r h.1 h.2.1 h.2.2.1 h.2.2.2 (fun _=>hr) k
theorem oL (h:(l[i]?,o.dst,nH d N,wanted l σ o,wUm (kOf ks i))=(some o,some d,true,true,false)) (hr:RunsK P σ w o v) (k:OKS N P l Q D ks s (upd σ d v) w):OKS N P l Q D ks (.fl i s) σ w:=by
 simp only [nG] at h;exact OKS.m h.1 h.2.1 h.2.2.1 h.2.2.2.1 hr h.2.2.2.2 k
theorem oM (h:(l[i]?,o.dst,nH d N,wanted l σ o,o.op)=(some o,some d,true,true,.move x)) (hx:ev σ x=v) (k:OKS N P l Q D ks s (upd σ d v) w):OKS N P l Q D ks (.fl i s) σ w:=by
 simp only [nG] at h;exact OKS.rm h.1 h.2.1 h.2.2.1 h.2.2.2.1 h.2.2.2.2 hx k
theorem oA (h:(l[i]?,o.dst,nH d N,wanted l σ o,o.op)=(some o,some d,true,true,.assign x)) (hx:ev σ x=v) (k:OKS N P l Q D ks s (upd σ d v) w):OKS N P l Q D ks (.fl i s) σ w:=by
 simp only [nG] at h;exact OKS.ra h.1 h.2.1 h.2.2.1 h.2.2.2.1 h.2.2.2.2 hx k
theorem oF (h:(l[i]?,o.dst,nH d N,o.guard,(l[j]?).bind (·.dst),σ e,false == b)=(some o,some d,true,some (j,b),some e,.bool (decide p),false)) (c:Hid (¬ p)) (k:OKS N P l Q D ks s (upd σ d undef) w):OKS N P l Q D ks (.fl i s) σ w:=by
 simp only [nG] at h;exact OKS.p h.1 h.2.1 h.2.2.1 (wIF h.2.2.2.1 h.2.2.2.2.1 (h.2.2.2.2.2.1.trans (wUk c.out)) h.2.2.2.2.2.2) k
theorem oT (h:(l[i]?,o.dst,nH d N,o.guard,(l[j]?).bind (·.dst),σ e,true == b)=(some o,some d,true,some (j,b),some e,.bool (decide p),false)) (c:Hid p) (k:OKS N P l Q D ks s (upd σ d undef) w):OKS N P l Q D ks (.fl i s) σ w:=by
 simp only [nG] at h;exact OKS.p h.1 h.2.1 h.2.2.1 (wIF h.2.2.2.1 h.2.2.2.2.1 (h.2.2.2.2.2.1.trans (wUj c.out)) h.2.2.2.2.2.2) k
theorem oN {b2:Bool} (h:(l[i]?,o.dst,nH d N,o.guard,(l[j]?).bind (·.dst),σ e,b2 == b)=(some o,some d,true,some (j,b),some e,.bool b2,false)) (k:OKS N P l Q D ks s (upd σ d undef) w):OKS N P l Q D ks (.fl i s) σ w:=by
 simp only [nG] at h;exact OKS.p h.1 h.2.1 h.2.2.1 (wIF h.2.2.2.1 h.2.2.2.2.1 h.2.2.2.2.2.1 h.2.2.2.2.2.2) k
theorem nC {a b:Bool} (h:a=b):nD (!a)=nD (!b):=h ▸ rfl
theorem nF {a:Bool} (h:¬ a=true):nD (!a)=nD (!false):=nC (nE.2 h)
theorem wT (h:(o.guard,(l[j]?).bind (·.dst),σ e)=(some (j,true),some e,.bool (decide p))) (c:Hid p):wanted l σ o=true:=by
 simp only [nG] at h;exact wJj h.1 h.2.1 (h.2.2.trans (wUj c.out))
theorem wF (h:(o.guard,(l[j]?).bind (·.dst),σ e)=(some (j,false),some e,.bool (decide p))) (c:Hid (¬ p)):wanted l σ o=true:=by
 simp only [nG] at h;exact wJj h.1 h.2.1 (h.2.2.trans (wUk c.out))
theorem rU (h:(l[i]?,o.dst,nH d N)=(some o,some d,true)) (hw:wanted l σ o=true) (hr:∀ {w'},Runs P σ w' o v w') (k:OKS N P l Q D ks s (upd σ d v) w):OKS N P l Q D ks (.fl i s) σ w:=by
 simp only [nG] at h;exact OKS.r h.1 h.2.1 h.2.2 hw (fun _=>hr) k
theorem sR {id:Nat} (s:Sch) (hs:inOrder 0 s l.length=true) (h:OKS N P l (wGx (fun D σ w=>CK r N P c2 Q D σ w) Q) D [] s σ w):CK r N P (.seq (.region id l.toArray false) c2) Q D σ w:=CK.seq (CK.reg s hs h)
theorem rR {id:Nat} (s:Sch) (hs:inOrder 0 s l.length=true) (h:OKS N P l Q D [] s σ w):CK r N P (.region id l.toArray false) Q D σ w:=CK.reg s hs h
theorem eN (h:K D σ w):OKS N P l (wGx K Q) D ks .nil σ w:=OKS.e (wJf h)
theorem cT (hz:ev σ x=.bool (decide p)) (c:Hid p) (h:CK r N P c1 Q D σ w):CK r N P (.cond x c1 c2) Q D σ w:=CK.condT (hz.trans (wUj c.out)) h
theorem cF (hz:ev σ x=.bool (decide p)) (c:Hid (¬ p)) (h:CK r N P c2 Q D σ w):CK r N P (.cond x c1 c2) Q D σ w:=CK.condF (hz.trans (wUk c.out)) h
theorem kN (h:K D σ w):CK r N P .skip (wGx K Q) D σ w:=CK.skip (wJf h)
end
def fL1:Sch:=.fl 0 .nil
def fL2:Sch:=.fl 0 (.fl 1 .nil)
def fL3:Sch:=.fl 0 gAa
def fL4:Sch:=.fl 0 (.fl 1 gAb)
def fL5:Sch:=.fl 0 (.fl 1 (.fl 2 gAc))
def fL6:Sch:=.fl 0 (.fl 1 (.fl 2 (.fl 3 gAd)))
def fL7:Sch:=.fl 0 (.fl 1 (.fl 2 (.fl 3 (.fl 4 (.fl 5 (.fl 6 .nil))))))
def fL8:Sch:=.fl 0 (.fl 1 (.fl 2 (.fl 3 (.fl 4 (.fl 5 (.fl 6 (.fl 7 .nil)))))))
def fL9:Sch:=.fl 0 (.fl 1 (.fl 2 (.fl 3 (.fl 4 (.fl 5 (.fl 6 gAe))))))
def fL10:Sch:=.fl 0 (.fl 1 (.fl 2 (.fl 3 (.fl 4 (.fl 5 (.fl 6 (.fl 7 (.fl 8 (.fl 9 .nil)))))))))
def wWK:Sch:=.fl 0 (.fl 1 (.fl 2 (.fl 3 (.fl 4 (.fl 5 (.fl 6 (.fl 7 (.fl 8 (.fl 9 (.fl 10 .nil))))))))))
def fL12:Sch:=.fl 0 (.fl 1 (.fl 2 (.fl 3 (.fl 4 (.fl 5 (.fl 6 (.fl 7 (.fl 8 (.fl 9 (.fl 10 (.fl 11 .nil)))))))))))
def fL15:Sch:=.fl 0 (.fl 1 (.fl 2 (.fl 3 (.fl 4 (.fl 5 (.fl 6 (.fl 7 (.fl 8 (.fl 9 (.fl 10 (.fl 11 (.fl 12 (.fl 13 (.fl 14 .nil))))))))))))))
def fL16:Sch:=.fl 0 (.fl 1 (.fl 2 (.fl 3 (.fl 4 (.fl 5 (.fl 6 (.fl 7 (.fl 8 (.fl 9 (.fl 10 (.fl 11 (.fl 12 (.fl 13 gAf)))))))))))))
def fL17:Sch:=.fl 0 (.fl 1 (.fl 2 (.fl 3 (.fl 4 (.fl 5 (.fl 6 (.fl 7 (.fl 8 (.fl 9 (.fl 10 (.fl 11 (.fl 12 (.fl 13 (.fl 14 gAg))))))))))))))
def fL18:Sch:=.fl 0 (.fl 1 (.fl 2 (.fl 3 (.fl 4 (.fl 5 (.fl 6 (.fl 7 (.fl 8 (.fl 9 (.fl 10 (.fl 11 (.fl 12 (.fl 13 (.fl 14 (.fl 15 (.fl 16 (.fl 17 .nil)))))))))))))))))
def fL19:Sch:=.fl 0 (.fl 1 (.fl 2 (.fl 3 (.fl 4 (.fl 5 (.fl 6 (.fl 7 (.fl 8 (.fl 9 (.fl 10 (.fl 11 (.fl 12 (.fl 13 (.fl 14 (.fl 15 (.fl 16 (.fl 17 (.fl 18 .nil))))))))))))))))))
def fL22:Sch:=.fl 0 (.fl 1 (.fl 2 (.fl 3 (.fl 4 (.fl 5 (.fl 6 (.fl 7 (.fl 8 (.fl 9 (.fl 10 (.fl 11 (.fl 12 (.fl 13 (.fl 14 (.fl 15 (.fl 16 (.fl 17 (.fl 18 (.fl 19 (.fl 20 (.fl 21 .nil)))))))))))))))))))))
def fL28:Sch:=.fl 0 (.fl 1 (.fl 2 (.fl 3 (.fl 4 (.fl 5 (.fl 6 (.fl 7 (.fl 8 (.fl 9 (.fl 10 (.fl 11 (.fl 12 (.fl 13 (.fl 14 (.fl 15 (.fl 16 (.fl 17 (.fl 18 (.fl 19 (.fl 20 (.fl 21 (.fl 22 (.fl 23 (.fl 24 (.fl 25 (.fl 26 (.fl 27 .nil)))))))))))))))))))))))))))
def fL30:Sch:=.fl 0 (.fl 1 (.fl 2 (.fl 3 (.fl 4 (.fl 5 (.fl 6 (.fl 7 (.fl 8 (.fl 9 (.fl 10 (.fl 11 (.fl 12 (.fl 13 (.fl 14 (.fl 15 (.fl 16 (.fl 17 (.fl 18 (.fl 19 (.fl 20 (.fl 21 (.fl 22 (.fl 23 (.fl 24 (.fl 25 (.fl 26 (.fl 27 (.fl 28 (.fl 29 .nil)))))))))))))))))))))))))))))
def fL36:Sch:=.fl 0 (.fl 1 (.fl 2 (.fl 3 (.fl 4 (.fl 5 (.fl 6 (.fl 7 (.fl 8 (.fl 9 (.fl 10 (.fl 11 (.fl 12 (.fl 13 (.fl 14 (.fl 15 (.fl 16 (.fl 17 (.fl 18 (.fl 19 (.fl 20 (.fl 21 (.fl 22 (.fl 23 (.fl 24 (.fl 25 (.fl 26 (.fl 27 (.fl 28 (.fl 29 (.fl 30 (.fl 31 (.fl 32 (.fl 33 (.fl 34 (.fl 35 .nil)))))))))))))))))))))))))))))))))))
def wEQ (s:Sch):Sch:=.fl 0 (.fl 1 (.fl 2 (s)))
def wDo (s:Sch):Sch:=.fl 0 (.fl 1 (.fl 2 (.fl 3 (s))))
def wGw (s:Sch):Sch:=.fl 0 (.fl 1 (.fl 2 (.fl 3 (.fl 4 (s)))))
def wJO (s:Sch):Sch:=.fl 0 (.fl 1 (.fl 2 (.fl 3 (.fl 4 (.fl 5 (s))))))
def wMT (s:Sch):Sch:=.fl 0 (.fl 1 (.fl 2 (.fl 3 (.fl 4 (.fl 5 (.fl 6 (s)))))))
def wUR (s:Sch):Sch:=.fl 0 (.fl 1 (.fl 2 (.fl 3 (.fl 4 (.fl 5 (.fl 6 (.fl 7 (.fl 8 (s)))))))))
def wRU (s:Sch):Sch:=.fl 0 (.fl 1 (.fl 2 (.fl 3 (.fl 4 (.fl 5 (.fl 6 (.fl 7 (.fl 8 (.fl 9 (s))))))))))
def wSK (s:Sch):Sch:=.fl 0 (.fl 1 (.fl 2 (.fl 3 (.fl 4 (.fl 5 (.fl 6 (.fl 7 (.fl 8 (.fl 9 (.fl 10 (s)))))))))))
def wSL (s:Sch):Sch:=.fl 0 (.fl 1 (.fl 2 (.fl 3 (.fl 4 (.fl 5 (.fl 6 (.fl 7 (.fl 8 (.fl 9 (.fl 10 (.fl 11 (.fl 12 (.fl 13 (s))))))))))))))
def wQN (s:Sch):Sch:=.fl 0 (.fl 1 (.fl 2 (.fl 3 (.fl 4 (.fl 5 (.fl 6 (.fl 7 (.fl 8 (.fl 9 (.fl 10 (.fl 11 (.fl 12 (.fl 13 (.fl 14 (s)))))))))))))))
def wWL (s:Sch):Sch:=.fl 0 (.fl 1 (.fl 2 (.fl 3 (.fl 4 (.fl 5 (.fl 6 (.fl 7 (.fl 8 (.fl 9 (.fl 10 (.fl 11 (.fl 12 (.fl 13 (.fl 14 (.fl 15 (s))))))))))))))))
def wWM (s:Sch):Sch:=.fl 0 (.fl 1 (.fl 2 (.fl 3 (.fl 4 (.fl 5 (.fl 6 (.fl 7 (.fl 8 (.fl 9 (.fl 10 (.fl 11 (.fl 12 (.fl 13 (.fl 14 (.fl 15 (.fl 16 (.fl 17 (.fl 18 (s)))))))))))))))))))
def wWN (s:Sch):Sch:=.fl 2 (.fl 3 (.fl 4 (s)))
def fC2_5 (s:Sch):Sch:=.fl 2 (.fl 3 (.fl 4 (.fl 5 (s))))
def wRV (s:Sch):Sch:=.fl 2 (.fl 3 (.fl 4 (.fl 5 (.fl 6 (s)))))
def wRW (s:Sch):Sch:=.fl 3 (.fl 4 (.fl 5 (s)))
def wNw (s:Sch):Sch:=.fl 3 (.fl 4 (.fl 5 (.fl 6 (s))))
def wQO (s:Sch):Sch:=.fl 3 (.fl 4 (.fl 5 (.fl 6 (.fl 7 (s)))))
def wWO (s:Sch):Sch:=.fl 4 (.fl 5 (.fl 6 (s)))
def fC4_8 (s:Sch):Sch:=.fl 4 (.fl 5 (.fl 6 (.fl 7 (.fl 8 (s)))))
def wWP (s:Sch):Sch:=.fl 4 (.fl 5 (.fl 6 (.fl 7 (.fl 8 (.fl 9 (.fl 10 (.fl 11 (s))))))))
def wWQ (s:Sch):Sch:=.fl 4 (.fl 5 (.fl 6 (.fl 7 (.fl 8 (.fl 9 (.fl 10 (.fl 11 (.fl 12 (.fl 13 (.fl 14 (.fl 15 (.fl 16 (s)))))))))))))
def wWR (s:Sch):Sch:=.fl 4 (.fl 5 (.fl 6 (.fl 7 (.fl 8 (.fl 9 (.fl 10 (.fl 11 (.fl 12 (.fl 13 (.fl 14 (.fl 15 (.fl 16 (.fl 17 (.fl 18 (.fl 19 (.fl 20 (.fl 21 (.fl 22 (.fl 23 (s))))))))))))))))))))
def wRX (s:Sch):Sch:=.fl 5 (.fl 6 (.fl 7 (s)))
def wWS (s:Sch):Sch:=.fl 5 (.fl 6 (.fl 7 (.fl 8 (s))))
def wQP (s:Sch):Sch:=.fl 5 (.fl 6 (.fl 7 (.fl 8 (.fl 9 (s)))))
def wSM (s:Sch):Sch:=.fl 5 (.fl 6 (.fl 7 (.fl 8 (.fl 9 (.fl 10 (.fl 11 (.fl 12 (.fl 13 (.fl 14 (.fl 15 (s)))))))))))
def fC6_8 (s:Sch):Sch:=.fl 6 (.fl 7 (.fl 8 (s)))
def wWT (s:Sch):Sch:=.fl 6 (.fl 7 (.fl 8 (.fl 9 (.fl 10 (s)))))
def wSN (s:Sch):Sch:=.fl 6 (.fl 7 (.fl 8 (.fl 9 (.fl 10 (.fl 11 (.fl 12 (s)))))))
def wSO (s:Sch):Sch:=.fl 7 (.fl 8 (.fl 9 (.fl 10 (s))))
def wWU (s:Sch):Sch:=.fl 7 (.fl 8 (.fl 9 (.fl 10 (.fl 11 (.fl 12 (s))))))
def wSP (s:Sch):Sch:=.fl 7 (.fl 8 (.fl 9 (.fl 10 (.fl 11 (.fl 12 (.fl 13 (s)))))))
def wSQ (s:Sch):Sch:=.fl 8 (.fl 9 (.fl 10 (s)))
def wWV (s:Sch):Sch:=.fl 8 (.fl 9 (.fl 10 (.fl 11 (.fl 12 (s)))))
def wWW (s:Sch):Sch:=.fl 8 (.fl 9 (.fl 10 (.fl 11 (.fl 12 (.fl 13 (.fl 14 (s)))))))
def wUS (s:Sch):Sch:=.fl 10 (.fl 11 (.fl 12 (.fl 13 (s))))
def wUT (s:Sch):Sch:=.fl 10 (.fl 11 (.fl 12 (.fl 13 (.fl 14 (.fl 15 (.fl 16 (.fl 17 (.fl 18 (s)))))))))
def wUU (s:Sch):Sch:=.fl 11 (.fl 12 (.fl 13 (.fl 14 (s))))
def wUV (s:Sch):Sch:=.fl 12 (.fl 13 (.fl 14 (s)))
def wQQ (s:Sch):Sch:=.fl 12 (.fl 13 (.fl 14 (.fl 15 (.fl 16 (s)))))
def wUW (s:Sch):Sch:=.fl 14 (.fl 15 (.fl 16 (s)))
def wUX (s:Sch):Sch:=.fl 16 (.fl 17 (.fl 18 (s)))
def wUY (s:Sch):Sch:=.fl 18 (.fl 19 (.fl 20 (s)))
def wUZ (s:Sch):Sch:=.fl 20 (.fl 21 (.fl 22 (s)))
theorem zA:type_of% @nI:=@nI
theorem zB:type_of% @wOC:=@wOC
theorem zC:type_of% @Tryz.sizeOf3:=@Tryz.sizeOf3
theorem zD:type_of% @Tryz.runUnderlying23:=@Tryz.runUnderlying23
theorem zF:type_of% @Runs.fa:=@Runs.fa
theorem zG:type_of% @Tryz.isAgg3:=@Tryz.isAgg3
theorem zH:type_of% @Hid.mk:=@Hid.mk
theorem zI:type_of% @wJf:=@wJf
theorem zJ:type_of% @CK.seq:=@CK.seq
theorem zK:type_of% @Enters.mk:=@Enters.mk
theorem zL:type_of% @OKS.callH:=@OKS.callH
theorem zM:type_of% @wRY:=@wRY
theorem zN:type_of% @PHeap.Le.refl:=@PHeap.Le.refl
theorem zO:type_of% @Tryz.sizeOf111:=@Tryz.sizeOf111
theorem zP:type_of% @CK.ret:=@CK.ret
theorem zQ:type_of% @wJj:=@wJj
theorem zR:type_of% @wOB:=@wOB
theorem zS:type_of% @CK.block:=@CK.block
theorem zU:type_of% @Runs.addw:=@Runs.addw
theorem zV:type_of% @Runs.lss:=@Runs.lss
theorem zW:type_of% @Tryz.runUnderlying28:=@Tryz.runUnderlying28
theorem zX:type_of% @OKS.rm:=@OKS.rm
theorem zY:type_of% @OKS.r:=@OKS.r
theorem zZ:type_of% @wOA:=@wOA
theorem za:type_of% @wMV:=@wMV
theorem zb:type_of% @Runs.pickT:=@Runs.pickT
theorem zd:type_of% @OKS.e:=@OKS.e
theorem ze:type_of% @wIF:=@wIF
theorem zf:type_of% @wMU:=@wMU
theorem zg:type_of% @OKS.alloc:=@OKS.alloc
theorem zh:type_of% @OKS.st:=@OKS.st
theorem zi:type_of% @Runs.pickF:=@Runs.pickF
theorem zj:type_of% @Tryz.isAgg111:=@Tryz.isAgg111
theorem zk:type_of% @Tryz.sizeOf23:=@Tryz.sizeOf23
theorem zm:type_of% @res1:=@res1
theorem zn:type_of% @Runs.len:=@Runs.len
theorem zo:type_of% @CK.condT:=@CK.condT
theorem zq:type_of% @OKS.box:=@OKS.box
theorem zr:type_of% @Tryz.isAgg23:=@Tryz.isAgg23
theorem zt:type_of% @Runs.to:=@Runs.to
theorem zu:type_of% @CK.condF:=@CK.condF
theorem zw:type_of% @Runs.ext:=@Runs.ext
theorem zx:type_of% @wJg:=@wJg
theorem zy:type_of% @Tryz.zeroValue111:=@Tryz.zeroValue111
theorem zz:type_of% @Tryz.mixed:=@Tryz.mixed
theorem ZA:type_of% @Runs.iaI:=@Runs.iaI
theorem ZB:type_of% @Runs.notT:=@Runs.notT
theorem ZC:type_of% @OKS.m:=@OKS.m
theorem ZD:type_of% @Tryz.runUnderlying149:=@Tryz.runUnderlying149
theorem ZE:type_of% @Tryz.runUnderlying123:=@Tryz.runUnderlying123
theorem ZF:type_of% @Tryz.runUnderlying37:=@Tryz.runUnderlying37
theorem ZG:type_of% @OKS.p:=@OKS.p
theorem ZH:type_of% @CK.exit:=@CK.exit
theorem ZI:type_of% @Tryz.runUnderlying55:=@Tryz.runUnderlying55
theorem ZJ:type_of% @Tryz.runUnderlying51:=@Tryz.runUnderlying51
theorem ZK:type_of% @Tryz.runUnderlying29:=@Tryz.runUnderlying29
theorem ZL:type_of% @OKS.buildSlice:=@OKS.buildSlice
theorem ZM:type_of% @Tryz.runUnderlying64:=@Tryz.runUnderlying64
theorem ZN:type_of% @Runs.build:=@Runs.build
theorem ZO:type_of% @CK.anyOrd:=@CK.anyOrd
theorem ZP:type_of% @Tryz.runUnderlying45:=@Tryz.runUnderlying45
theorem ZQ:type_of% @Tryz.sizeOf28:=@Tryz.sizeOf28
theorem ZR:type_of% @Tryz.sizeOf233:=@Tryz.sizeOf233
theorem ZS:type_of% @Tryz.runUnderlying107:=@Tryz.runUnderlying107
theorem ZT:type_of% @wUk:=@wUk
theorem ZU:type_of% @wUj:=@wUj
theorem ZV:type_of% @Runs.iaN:=@Runs.iaN
theorem ZW:type_of% @Tryz.zeroValue3:=@Tryz.zeroValue3
theorem ZX:type_of% @Tryz.runUnderlying105:=@Tryz.runUnderlying105
theorem ZY:type_of% @Tryz.runUnderlying24:=@Tryz.runUnderlying24
theorem ZZ:type_of% @Tryz.runUnderlying25:=@Tryz.runUnderlying25
theorem Za:type_of% @Tryz.sizeOf55:=@Tryz.sizeOf55
theorem Zb:type_of% @Tryz.isAgg28:=@Tryz.isAgg28
theorem Zc:type_of% @Tryz.sizeOf86:=@Tryz.sizeOf86
theorem Zd:type_of% @Runs.nilp:=@Runs.nilp
theorem Ze:type_of% @CK.skip:=@CK.skip
theorem Zf:type_of% @Tryz.runUnderlying34:=@Tryz.runUnderlying34
theorem Zg:type_of% @Tryz.sizeOf37:=@Tryz.sizeOf37
theorem Zh:type_of% @Tryz.sizeOf51:=@Tryz.sizeOf51
theorem Zi:type_of% @Tryz.runUnderlying67:=@Tryz.runUnderlying67
theorem Zj:type_of% @Tryz.runUnderlying35:=@Tryz.runUnderlying35
theorem Zk:type_of% @Runs.subw:=@Runs.subw
theorem Zl:type_of% @OKS.mx2:=@OKS.mx2
theorem Zm:type_of% @Tryz.runUnderlying102:=@Tryz.runUnderlying102
theorem Zn:type_of% @Tryz.sizeOf123:=@Tryz.sizeOf123
theorem Zo:type_of% @Tryz.zeroValue233:=@Tryz.zeroValue233
theorem Zp:type_of% @Tryz.runUnderlying39:=@Tryz.runUnderlying39
theorem Zq:type_of% @OKS.append:=@OKS.append
theorem Zr:type_of% @OKS.px:=@OKS.px
theorem Zs:type_of% @Tryz.sizeOf25:=@Tryz.sizeOf25
theorem Zt:type_of% @Tryz.sizeOf64:=@Tryz.sizeOf64
theorem Zu:type_of% @Tryz.sizeOf39:=@Tryz.sizeOf39
theorem Zv:type_of% @Tryz.runUnderlying89:=@Tryz.runUnderlying89
theorem Zw:type_of% @OKS.ra:=@OKS.ra
theorem Zx:type_of% @Tryz.sizeOf62:=@Tryz.sizeOf62
theorem Zy:type_of% @Tryz.zeroValue64:=@Tryz.zeroValue64
theorem Zz:type_of% @Runs.neq:=@Runs.neq
theorem yA:type_of% @Tryz.runUnderlying234:=@Tryz.runUnderlying234
theorem yB:type_of% @Tryz.call14:=@Tryz.call14
theorem yC:type_of% @OKS.both:=@OKS.both
theorem yD:type_of% @Tryz.runUnderlying62:=@Tryz.runUnderlying62
theorem yE:type_of% @Tryz.runUnderlying86:=@Tryz.runUnderlying86
theorem yF:type_of% @Tryz.underlying23:=@Tryz.underlying23
theorem yG:type_of% @Runs.gtr:=@Runs.gtr
theorem yH:type_of% @Tryz.runUnderlying233:=@Tryz.runUnderlying233
theorem yI:type_of% @OKS.callV:=@OKS.callV
theorem yJ:type_of% @Runs.mkf:=@Runs.mkf
theorem yK:type_of% @Tryz.sizeOf24:=@Tryz.sizeOf24
theorem yL:type_of% @Tryz.sizeOf34:=@Tryz.sizeOf34
theorem yM:type_of% @Tryz.isAgg35:=@Tryz.isAgg35
theorem yN:type_of% @Tryz.sizeOf149:=@Tryz.sizeOf149
theorem yO:type_of% @Runs.eql:=@Runs.eql
theorem yP:type_of% @CK.cut:=@CK.cut
theorem yQ:type_of% @CK.forN:=@CK.forN
theorem yR:type_of% @Tryz.zeroValue55:=@Tryz.zeroValue55
theorem yS:type_of% @Tryz.isAgg37:=@Tryz.isAgg37
theorem yU:type_of% @Tryz.call86:=@Tryz.call86
theorem yV:type_of% @Tryz.sizeOf35:=@Tryz.sizeOf35
theorem yW:type_of% @Tryz.runUnderlying26:=@Tryz.runUnderlying26
theorem yX:type_of% @Tryz.sizeOf102:=@Tryz.sizeOf102
theorem yY:type_of% @Tryz.runUnderlying3:=@Tryz.runUnderlying3
theorem yZ:type_of% @Tryz.isAgg25:=@Tryz.isAgg25
theorem ya:type_of% @Tryz.isAgg149:=@Tryz.isAgg149
theorem yb:type_of% @Tryz.isAgg102:=@Tryz.isAgg102
theorem yc:type_of% @Tryz.sizeOf107:=@Tryz.sizeOf107
theorem yd:type_of% @OKS.stR:=@OKS.stR
theorem ye:type_of% @Tryz.runUnderlying151:=@Tryz.runUnderlying151
theorem yf:type_of% @Tryz.isAgg24:=@Tryz.isAgg24
theorem yg:type_of% @Tryz.call160:=@Tryz.call160
theorem yh:type_of% @Tryz.isAgg34:=@Tryz.isAgg34
theorem yi:type_of% @Tryz.sizeOf26:=@Tryz.sizeOf26
theorem yj:type_of% @Tryz.sizeOf29:=@Tryz.sizeOf29
theorem yk:type_of% @Tryz.zeroValue62:=@Tryz.zeroValue62
theorem yl:type_of% @Tryz.zeroValue37:=@Tryz.zeroValue37
theorem ym:type_of% @Tryz.isAgg29:=@Tryz.isAgg29
theorem yn:type_of% @Tryz.runUnderlying136:=@Tryz.runUnderlying136
theorem yo:type_of% @Runs.leq:=@Runs.leq
theorem yp:type_of% @Tryz.isAgg233:=@Tryz.isAgg233
theorem yq:type_of% @Tryz.isAgg123:=@Tryz.isAgg123
theorem yr:type_of% @CK.iter:=@CK.iter
theorem yt:type_of% @Tryz.sizeOf121:=@Tryz.sizeOf121
theorem yu:type_of% @CK.fresh:=@CK.fresh
theorem yv:type_of% @OKS.cutD:=@OKS.cutD
theorem yw:type_of% @Runs.geq:=@Runs.geq
theorem yy:type_of% @Tryz.isAgg68:=@Tryz.isAgg68
theorem yz:type_of% @Runs.iaA:=@Runs.iaA
theorem YA:type_of% @Tryz.isAgg51:=@Tryz.isAgg51
theorem YB:type_of% @Tryz.isAgg121:=@Tryz.isAgg121
theorem YC:type_of% @OKS.callHT:=@OKS.callHT
set_option maxHeartbeats 4000000
theorem wIe (p0:List Int) (ab:Option Addr) (ae:Nat) (w:World) (U:PHeap) (hS:St0 w U []) (ak:Sl U 1 ab ae p0.length (nA KL.encB8 p0)) {r:wAE} (hm:wEC p0=some r):Gv Tryz.prog 5 [.slice ab p0.length ae] w (wBc w [] U (fun U_ L_ v=>∃ (b0:Nat) (A0p0:Option Addr) (c0p0:Nat),v=.pointer (some ⟨b0,0,none⟩)/\L_=[.blk b0 67 [.slice A0p0 r.bytes.length c0p0,jV r.next,.int .u32 r.state]]/\Sl U_ 1 A0p0 c0p0 r.bytes.length (nA KL.encB8 r.bytes))):=by
 unfold wEC at hm
 refine Gv.of Tryz.func5 Z Tryz.ntmps5 Tryz.results5 Z (sR fL1 Z (oA Z Z (eN (sR gAz Z (oM Z Z ?_)))))
 let B0:List Value:=[.slice ab p0.length ae,jV 0,.int .u32 17]
 refine zY rfl rfl rfl rfl (fun _=>ZN (pv:=[(0,.slice ab p0.length ae),(2,.int .u32 17)]) (z:=[.slice none 0 0,jV 0,.int .u32 0]) (cs:=B0) rfl (wAG rfl (wAG rfl wAZ)) Tryz.zeroValue67 wRD rfl rfl) (zq (cs:=B0) rfl rfl rfl rfl rfl rfl (by rfl) hS ?_)
 intro W1 b2 aj
 refine oA Z Z (eN (zP ?_))
 cases hm
 exact ⟨Z,_,(zm Z),U,_,aj,b2,ab,ae,Z,Z,ak⟩
theorem wAV (p0:wAE) (ai:Nat) (ae:Option Addr) (ag:Nat) (p1:Int) (w:World) (U:PHeap) (hS:St0 w U [.blk ai 67 [.slice ae p0.bytes.length ag,jV p0.next,.int .u32 p0.state]]) (ak:Sl U 1 ae ag p0.bytes.length (nA KL.encB8 p0.bytes)) {r:Int × wAE} (hm:wAR p0 p1=some r):Gv Tryz.prog 14 [.pointer (some ⟨ai,0,none⟩),jV p1] w (wBc w [.blk ai 67 [.slice ae p0.bytes.length ag,jV p0.next,.int .u32 p0.state]] U (fun U_ L_ v=>∃ (aX:Option Addr) (aZ:Nat),v=jV r.1/\L_=[.blk ai 67 [.slice aX r.2.bytes.length aZ,jV r.2.next,.int .u32 r.2.state]]/\Sl U_ 1 aX aZ r.2.bytes.length (nA KL.encB8 r.2.bytes))):=by
 unfold wAR at hm
 refine Gv.of Tryz.func14 Z Tryz.ntmps14 Tryz.results14 Z (sR fL1 Z (oA Z Z (eN (zJ (sR fL10 Z (oM Z Z (oR Z (yo Z Z Z) (oM Z Z ?_))))))))
 by_cases c2:p1 <= 1
 have be:=hm;rw [if_pos c2] at be;replace c2:=zH c2
 refine oT Z c2 (oT Z c2 (oT Z c2 (oT Z c2 (oT Z c2 (oT Z c2 (oR Z (zb Z (ZU c2.out) Z) (eN (zo Z (sR fL1 Z (oA Z Z (eN (zP (zR ?_)))))))))))))
 cases be
 exact ⟨Z,_,(zm Z),U,_,hS,ae,ag,Z,Z,ak⟩
 have bg:=hm;rw [if_neg c2] at bg;replace c2:=zH c2
 refine zX Z Z Z (wF Z c2) Z Z (rU Z (wF Z c2) (Zd Z Z) (rU Z (wF Z c2) (zF Z Z Zi Z Tryz.sizeOf22) (ZC Z Z Z (wF Z c2) (hS.ldB (j:=0) Z Z Z Tryz.isAgg22 (v:=.slice ae p0.bytes.length ag) Z) Z (rU Z (wF Z c2) (zn Z Z Tryz.runUnderlying22) (rU Z (wF Z c2) (yO Z Z Z) (oR Z (zi Z (ZT c2.out) Z) (eN (ifc bg ?_ ?_))))))))
 intro c5 bL
 refine cT Z c5 (sR fL1 Z (oA Z Z (eN (zP (zR ?_)))))
 cases bL
 exact ⟨Z,_,(zm Z),U,_,hS,ae,ag,Z,Z,ak⟩
 intro c5 bM
 refine cF Z c5 (kN (zJ (ZO zz [3,3,3,1,3,3,3,1,3,3,3,1,3,3,3,1,3,3,3,3,1,3,3,3,1,3,3,3,3,3] fL30 (by kernel_rfl) ?_)))
 have ah:=hS.drew
 generalize hw_W9:({ w with drawn:=w.drawn + 1 }:World)=W9 at ah ⊢
 refine oM Z Z (oR Z (Zd Z Z) (oR Z (zF Z Z Zi Z Tryz.sizeOf22) (oL Z (ah.ldB (j:=0) Z Z Z Tryz.isAgg22 (v:=.slice ae p0.bytes.length ag) Z) (oM Z Z (oR Z (Zd Z Z) (oR Z (zF Z Z Zi Z zC) (oL Z (ah.ldB (j:=0) Z Z Z zG (v:=jV p0.next) Z) (oM Z Z (oR Z (Zd Z Z) (oR Z (zF Z Z Zi Z Tryz.sizeOf22) (oL Z (ah.ldB (j:=0) Z Z Z Tryz.isAgg22 (v:=.slice ae p0.bytes.length ag) Z) (oR Z (zn Z Z Tryz.runUnderlying22) (bnK bM fun x10 bk bA=>oR Z (Runs.rem Z Z Z bk) (bnK bA fun bh aW bB=>?_))))))))))))))
 have q:=ak.el (fun _=>rfl) (wAj aW)
 obtain ⟨bP,bQ,bs,bu⟩:=q
 refine oR Z (ZA Z Z bs Z Tryz.runUnderlying22 Tryz.sizeOf5 (wCO aW) (wCX aW)) (oL Z (ah.ldC (f:=0) bu (v:=.int .u8 bh) Z Z Tryz.isAgg5 Z) (oR Z (Runs.cvu Z Z Tryz.runUnderlying5 Tryz.runUnderlying65 Z Z) (oM Z Z (oR Z (Zd Z Z) (oR Z (zF Z Z Zi Z zC) (oL Z (ah.ldB (j:=0) Z Z Z zG (v:=jV p0.next) Z) (oM Z Z (oR Z (Zd Z Z) (oR Z (zF Z Z Zi Z Tryz.sizeOf22) (oL Z (ah.ldB (j:=0) Z Z Z Tryz.isAgg22 (v:=.slice ae p0.bytes.length ag) Z) (oR Z (zn Z Z Tryz.runUnderlying22) (bnK bB fun bN bm bC=>oR Z (Runs.quo Z Z Z bm) (oR Z (Runs.cvu Z Z yY Tryz.runUnderlying65 Z Z) (oA Z Z (oA Z Z (eN (zJ (yu fun av ao=>?_))))))))))))))))))
 have am:av 0=.pointer (some ⟨ai,0,none⟩):=(ao 0).trans rfl
 have ap:av 1=jV p1:=(ao 1).trans rfl
 have aq:av 5=.int .u32 (wFv bh):=(ao 5).trans rfl
 have ba:av 6=.int .u32 (wFv bN):=(ao 6).trans rfl
 clear ao
 refine rR (wMT (.fx 7 .nil .stop)) Z (oM Z am (oR Z (Zd Z Z) (oR Z (zF Z Z Zi Z zC) (oL Z (ah.ldB (j:=0) Z Z Z zG (v:=jV p0.next) Z) (oR Z (zU Z Z Z) (oR Z (Zd Z Z) (oR Z (zF Z Z Zi Z zC) (zh (j:=0) (vs:=[jV (w64 (p0.next + 1))]) Z Z Z Z ah Z Z Z Z zC (zA Z) Z Z Z ?_))))))))
 intro bi bw
 let B0:Res:=.blk ai 67 [.slice ae p0.bytes.length ag,jV p0.next,.int .u32 p0.state]
 have bb:SW w [B0] U U [.blk ai 67 [.slice ae p0.bytes.length ag,jV (w64 (p0.next + 1)),.int .u32 p0.state]] bi:=bw
 refine eN (sR (wQN (.fx 15 .nil .stop)) Z (oM Z am (oM Z am (oR Z (Zd Z Z) (oR Z (zF Z Z Zi Z Tryz.sizeOf65) (oL Z (bb.ldB (j:=0) Z Z Z Tryz.isAgg65 (v:=.int .u32 p0.state) Z) (oR Z (Runs.mulu Z Z Z) (oM Z aq (oR Z (Runs.addu Z Z Z) (oM Z ba (oR Z (Runs.mulu Z Z Z) (oR Z (Runs.addu Z Z Z) (oR Z (Runs.addu Z Z Z) (bnK bC fun x32 bn bD=>oR Z (Runs.rem Z Z Z bn) (oR Z (Zd Z Z) (oR Z (zF Z Z Zi Z Tryz.sizeOf65) (zh (j:=0) (vs:=[.int .u32 x32]) Z Z Z Z bb Z Z Z Z Tryz.sizeOf65 (zA Z) Z Z Z ?_)))))))))))))))))
 intro bj bz
 have an:SW w [B0] U U [.blk ai 67 [.slice ae p0.bytes.length ag,jV (w64 (p0.next + 1)),.int .u32 x32]] bj:=bz
 refine eN (zJ (sR fL6 Z (oM Z ba (oR Z (yO Z Z Z) (oM Z Z (ifc bD ?_ ?_))))))
 intro aj bE
 refine zX Z Z Z (wT Z aj) Z ap (rU Z (wT Z aj) (yo Z Z Z) (oR Z (zb Z (ZU aj.out) Z) (eN (ifc bE ?_ ?_))))
 intro az bF
 refine cT Z az (sR fL5 Z (oM Z aq (oR Z (Runs.cvw Z Z Tryz.runUnderlying65 yY Z Z) (oM Z ap (bnK bF fun x42 bp bG=>oR Z (Runs.rem Z Z Z bp) (oA Z Z (eN (zP (zR ?_)))))))))
 cases bG
 exact ⟨Z,_,(zm Z),U,_,an,ae,ag,Z,Z,ak⟩
 intro az bH
 refine cF Z az (kN (sR wWK Z (oM Z am (oR Z (Zd Z Z) (oR Z (zF Z Z Zi Z Tryz.sizeOf65) (oL Z (an.ldB (j:=0) Z Z Z Tryz.isAgg65 (v:=.int .u32 x32) Z) (oR Z (Runs.mulu Z Z Z) (oM Z aq (oR Z (Runs.addu Z Z Z) (oR Z (Runs.cvw Z Z Tryz.runUnderlying65 yY Z Z) (oM Z ap (bnK bH fun x46 bq bI=>oR Z (Runs.rem Z Z Z bq) (oA Z Z (eN (zP ?_)))))))))))))))
 cases bI
 exact ⟨Z,_,(zm Z),U,_,an,ae,ag,Z,Z,ak⟩
 intro aj bJ
 refine oF Z aj (oF Z aj (oR Z (zi Z (ZT aj.out) Z) (eN (zu Z (kN (sR wWK Z (oM Z am (oR Z (Zd Z Z) (oR Z (zF Z Z Zi Z Tryz.sizeOf65) (oL Z (an.ldB (j:=0) Z Z Z Tryz.isAgg65 (v:=.int .u32 x32) Z) (oR Z (Runs.mulu Z Z Z) (oM Z aq (oR Z (Runs.addu Z Z Z) (oR Z (Runs.cvw Z Z Tryz.runUnderlying65 yY Z Z) (oM Z ap (bnK bJ fun x50 br bK=>oR Z (Runs.rem Z Z Z br) (oA Z Z (eN (zP ?_)))))))))))))))))))
 cases bK
 exact ⟨Z,_,(zm Z),U,_,an,ae,ag,Z,Z,ak⟩
theorem wAt (p0:wAE) (ab:Nat) (ae:Option Addr) (ag:Nat) (p1:Int) (p2:Int) (w:World) (U:PHeap) (hS:St0 w U [.blk ab 67 [.slice ae p0.bytes.length ag,jV p0.next,.int .u32 p0.state]]) (aX:Sl U 1 ae ag p0.bytes.length (nA KL.encB8 p0.bytes)) {r:Int × wAE} (hm:wAS p0 p1 p2=some r):Gv Tryz.prog 13 [.pointer (some ⟨ab,0,none⟩),jV p1,jV p2] w (wBc w [.blk ab 67 [.slice ae p0.bytes.length ag,jV p0.next,.int .u32 p0.state]] U (fun U_ L_ v=>∃ (am:Option Addr) (ap:Nat),v=jV r.1/\L_=[.blk ab 67 [.slice am r.2.bytes.length ap,jV r.2.next,.int .u32 r.2.state]]/\Sl U_ 1 am ap r.2.bytes.length (nA KL.encB8 r.2.bytes))):=by
 unfold wAS at hm
 refine Gv.of Tryz.func13 Z Tryz.ntmps13 Tryz.results13 Z (sR fL1 Z (oA Z Z (eN (sR (wJO gAq) Z (oM Z Z (oM Z Z (oM Z Z (oM Z Z (oR Z (Zk Z Z Z) (oR Z (zU Z Z Z) ?_))))))))))
 have q:=bnd hm
 obtain ⟨⟨x2,x3⟩,h4,aq⟩:=q
 try dsimp only at aq
 refine zL 1 Z Z Z Z (zK Z Z yB (zB Z (zB Z zM)) Z) hS (fun hs=>wAV p0 ab ae ag (w64 ((w64 (p2 - p1)) + 1)) w U hs aX h4) (.inl Z) ?_
 rintro U6 L7 v8 W9 aZ aV ⟨ak,ao,rfl,rfl,av⟩
 have aW:SW w [.blk ab 67 [.slice ae p0.bytes.length ag,jV p0.next,.int .u32 p0.state]] U U6 [.blk ab 67 [.slice ak x3.bytes.length ao,jV x3.next,.int .u32 x3.state]] W9:=aV
 refine oR Z (zU Z Z Z) (oA Z Z (eN (zP ?_)))
 cases aq
 exact ⟨Z,_,(zm Z),U6,_,aW,ak,ao,Z,Z,av⟩
theorem wGm (p0:wAE) (ab:Nat) (fq:Option Addr) (ft:Nat) (p1:Int) (p2:Int) (p3:Int) (w:World) (U:PHeap) (hS:St0 w U [.blk ab 67 [.slice fq p0.bytes.length ft,jV p0.next,.int .u32 p0.state]]) (Fv:Sl U 1 fq ft p0.bytes.length (nA KL.encB8 p0.bytes)) {r:wAF × (List (List Int)) × (List Int) × wAE} (hm:wCG p0 p1 p2 p3=some r):Gv Tryz.prog 4 [.pointer (some ⟨ab,0,none⟩),jV p1,jV p2,jV p3] w (wBc w [.blk ab 67 [.slice fq p0.bytes.length ft,jV p0.next,.int .u32 p0.state]] U (fun U_ L_ v=>∃ (j6:Option Addr) (m7:Nat) (j7:Option Addr) (m8:Nat) (j8:Option Addr) (m9:Nat) (j9:Option Addr) (n5:Nat) (A1:Option Addr) (c1:Nat) (A2:Option Addr) (c2:Nat) (lM:Option Addr) (o9:Nat),v=.tuple #[.agg #[.slice j6 r.1.Starts.length m7,.slice j7 r.1.Splits.length m8,.slice j8 r.1.Clocks.length m9,.slice j9 r.1.Readings.length n5],.slice A1 r.2.1.length c1,.slice A2 r.2.2.1.length c2]/\L_=[.row j6 m7 3 1 (nA KL.encI r.1.Starts),.row j7 m8 55 2 (nA wAP r.1.Splits),.row j8 m9 62 3 (nA wAB r.1.Clocks),.row j9 n5 64 4 (nA wAM r.1.Readings),.row A2 c2 3 1 (nA KL.encI r.2.2.1),.blk ab 67 [.slice lM r.2.2.2.bytes.length o9,jV r.2.2.2.next,.int .u32 r.2.2.2.state]]/\SlR U_ wHx A1 c1 r.2.1/\Sl U_ 1 lM o9 r.2.2.2.bytes.length (nA KL.encB8 r.2.2.2.bytes))):=by
 unfold wCG at hm
 refine Gv.of Tryz.func4 Z Tryz.ntmps4 Tryz.results4 Z (sR (.fx 0 gAa .stop) Z ?_)
 let B0:List Value:=[.slice none 0 0,.slice none 0 0,.slice none 0 0,.slice none 0 0]
 refine zg (cs:=B0) Z Z Z Z Z Tryz.zeroValue28 Z hS ?_
 intro W2 b3 EI
 refine oA Z Z (oA Z Z (eN (sR (.fx 0 .nil .stop) Z (zg (cs:=B0) Z Z Z Z Z Tryz.zeroValue28 Z EI ?_))))
 intro W6 b7 E5
 refine eN (sR fL1 Z (oA Z Z (eN (sR fL1 Z (oA Z Z (eN (zJ (sR gAz Z (oM Z Z (oM Z Z ?_))))))))))
 have q:=bnd hm
 obtain ⟨⟨x10,x11⟩,Bq,rq⟩:=q
 try dsimp only at rq
 let B1:Res:=.blk ab 67 [.slice fq p0.bytes.length ft,jV p0.next,.int .u32 p0.state]
 have C6:SW w [B1] U U [B1,.blk b7 28 B0,.blk b3 28 B0] W6:=E5.pick [2,0,1] _ (by decide) rfl
 refine zL 1 Z Z Z Z (zK Z Z Tryz.call13 (zB Z (zB Z (zB Z zM))) Z) C6 (fun hs=>wAt p0 ab fq ft 1 p1 W6 U hs Fv Bq) (.inl Z) ?_
 rintro iC Ht IS th IG DJ ⟨lw,oB,rfl,rfl,Ca⟩
 have Ev:SW w [B1] U iC [.blk ab 67 [.slice lw x11.bytes.length oB,jV x11.next,.int .u32 x11.state],.blk b7 28 B0,.blk b3 28 B0] th:=DJ
 refine oM Z Z (eN (zS ?_))
 have q:=bnd rq
 obtain ⟨⟨Hk,Hl,Hm,aW⟩,FE,rN⟩:=q
 try dsimp only at rN
 have q:=wBM FE
 obtain ⟨jK,FF⟩:=q
 replace jK:=zH jK
 refine CK.forN' (fun fd (fj,x56,x57,cP) σ_ w_=>∃ (U_:PHeap) (fR:Option Addr) (gA:Nat) (c8:Option Addr) (dr:Nat),σ_ 28=jV (↑fd:Int)/\σ_ 0=.pointer (some ⟨ab,0,none⟩)/\σ_ 2=jV p2/\σ_ 3=jV p3/\σ_ 8=.pointer (some ⟨b3,0,none⟩)/\σ_ 11=.pointer (some ⟨b7,0,none⟩)/\σ_ 12=.slice none 0 0/\σ_ 13=.slice none 0 0/\σ_ 27=jV x10/\PHeap.Le iC U_/\SW w [B1] U U_ [.blk ab 67 [.slice fR fj.length gA,jV x56,.int .u32 x57],.row c8 dr 3 1 (nA KL.encI cP),.blk b7 28 [.slice c8 cP.length dr,.slice none 0 0,.slice none 0 0,.slice none 0 0],.blk b3 28 B0] w_/\Sl U_ 1 fR gA fj.length (nA KL.encB8 fj)) FF ?_ ?_ ?_
 have EZ:=Ev.nilrow 3 1
 exact ⟨iC,lw,oB,none,0,rfl,rfl,rfl,rfl,rfl,rfl,rfl,rfl,rfl,(zN _),(EZ.pick [1,0,2,3] _ (by decide) rfl),Ca⟩
 rintro fd ⟨fj,x56,x57,cP⟩ Jk JN mU jC ⟨sP,fR,gA,c8,dr,qJ,jg,Be,Bf,Bg,jh,Bh,Bi,qH,GS,E9,CJ⟩ r8
 try dsimp only at r8
 have o8:Hid ((↑fd:Int) < x10):=zH (wBG jC)
 replace jC:=zH jC
 have FR:Hid (w64 ((↑fd:Int) + 1)=(↑(fd + 1):Int)):=zH (by have h1:=jK.out;have h2:=o8.out;rw [wAX] <;> omega)
 refine sR fL1 rfl (zY rfl rfl rfl rfl (fun _=>zV rfl qJ qH) (eN (zJ (cT Z o8 (kN (zJ (zS (ZO zz [3,1004,3,1005,3,3,1005,3,2,0,3,0,ab] (wEQ (.fl 5 (.fx 3 (.fl 4 (.fx 6 (.fl 7 (.fx 8 (.fx 9 (.fl 10 (.fx 11 .nil .stop)) .stop) .stop)) .stop)) .stop))) (by kernel_rfl) ?_))))))))
 have jr:=E9.drew
 generalize hw_W140:({ mU with drawn:=mU.drawn + 1 }:World)=sX at jr ⊢
 refine oR Z (zF Z jh zW Z zk) ?_
 let B2:Res:=.blk b7 28 [.slice c8 cP.length dr,.slice none 0 0,.slice none 0 0,.slice none 0 0]
 let B3:Res:=.row c8 dr 3 1 (nA KL.encI cP)
 refine OKS.mt (T:=[ab]) [0] [1,2,3] [B3,B2,.blk b3 28 B0] rfl rfl rfl rfl jr rfl ⟨⟨0,by decide,_,rfl,rfl⟩,trivial⟩ (by decide) rfl (by decide) (fun _ Fj=>(Fj.ldB (j:=1) rfl rfl rfl zr (v:=.slice c8 cP.length dr) rfl)) rfl (zX rfl rfl rfl rfl rfl jg (zX rfl rfl rfl rfl rfl jg ?_))
 have q:=bnd r8
 obtain ⟨⟨fu,gU⟩,By,rx⟩:=q
 try dsimp only at rx
 refine YC 1 rfl rfl rfl rfl (zK rfl rfl yB (zB rfl (zB rfl zM)) rfl) jr (fun hs=>wAV (⟨fj,x56,x57⟩:wAE) ab fR gA 4 sX sP hs CJ By) rfl (T:=[ab]) rfl ⟨fun b h=>(by cases h;exact .head _),trivial⟩ ?_
 rintro mq Hs IQ mH Gw Db ⟨lf,od,rfl,rfl,BA⟩
 have De:SW w [B1] U mq [.blk ab 67 [.slice lf gU.bytes.length od,jV gU.next,.int .u32 gU.state],B3,B2,.blk b3 28 B0] mH:=Db
 refine oR Z (Runs.mulw Z Z Z) ?_
 have q:=bnd rx
 obtain ⟨⟨x156,x157⟩,BB,ry⟩:=q
 try dsimp only at ry
 refine YC 1 rfl rfl rfl rfl (zK rfl rfl yB (zB rfl (zB rfl zM)) rfl) De (fun hs=>wAV gU ab lf od 3 mH mq hs BA BB) rfl (T:=[ab]) rfl ⟨fun b h=>(by cases h;exact .head _),trivial⟩ ?_
 rintro d5 Hu IR s7 Gz Dk ⟨li,oh,rfl,rfl,BC⟩
 let B4:Res:=.blk ab 67 [.slice li x157.bytes.length oh,jV x157.next,.int .u32 x157.state]
 have Dp:SW w [B1] U d5 [B4,B3,B2,.blk b3 28 B0] s7:=Dk
 refine oR Z (zU Z Z Z) (ZL (pv:=[(0,jV (w64 ((w64 (300 * fu)) + x156)))]) (zs:=[jV 0]) (cs:=[jV (w64 ((w64 (300 * fu)) + x156))]) Z Z Z Z Z (wAG Z wAZ) zD zC ZW Z Z Z Z Z Dp ?_)
 intro te ua Du
 let B5:Res:=.row (some ⟨ua,0,none⟩) 1 3 1 (nA KL.encI [w64 ((w64 (300 * fu)) + x156)])
 have qY:SW w [B1] U d5 [B5,B4,B3,B2,.blk b3 28 B0] te:=Du
 refine bnK ry fun gW BG FS=>Zq (j:=2) (enc:=KL.encI) (xs:=cP) (ys:=[w64 ((w64 (300 * fu)) + x156)]) (zs:=gW) rfl rfl rfl rfl rfl yF wId rfl rfl rfl rfl rfl rfl qY rfl rfl rfl (qY.srcR (j:=0) rfl (by decide) (wAC (f:=KL.encI) (sz:=1) (fun _=>rfl) [w64 ((w64 (300 * fu)) + x156)])) (fun _=>rfl) (fun _=>rfl) BG rfl ?_
 intro fK gq tj DA
 let B6:Res:=.row fK gq 3 1 (nA KL.encI gW)
 have DB:SW w [B1] U d5 [B5,B4,B6,B2,.blk b3 28 B0] tj:=DA
 refine oR Z (zF Z jh zW Z zk) (zh (j:=3) (vs:=[.slice fK gW.length gq]) Z Z Z Z DB Z Z Z Z zk (zA Z) Z Z Z ?_)
 intro tm DE
 have DF:SW w [B1] U d5 [B5,B4,B6,.blk b7 28 [.slice fK gW.length gq,.slice none 0 0,.slice none 0 0,.slice none 0 0],.blk b3 28 B0] tm:=DE
 refine zd (zf (zI (rR fL2 Z (oR Z (zt (zU Z qJ Z) (congrArg (jV) FR.out)) (oM Z Z (zd ?_))))))
 cases FS
 exact zI ⟨rfl,⟨d5,li,oh,fK,gq,rfl,jg,Be,Bf,Bg,jh,Bh,Bi,qH,((GS.trans Gw).trans Gz),(DF.pick [1,2,3,4] _ (by decide) rfl),BC⟩⟩
 rintro JE tn ⟨sM,sE,uj,bj,bk,Bk,qq,z7,z8,Ad,Ae,Af,Ag,Ah,IH,Ec,BT⟩
 have uk:Hid (¬ ((↑((x10:Int) - 0).toNat:Int) < x10)):=zH (wAq)
 refine sR fL1 Z (oR Z (zV Z Bk Ah) (eN (zJ (cF Z uk (ZH (zZ (zZ (zx (zI (zJ (sR gAz Z (oM Z qq (oM Z z7 ?_)))))))))))))
 have q:=bnd rN
 obtain ⟨⟨gY,jR⟩,BX,rG⟩:=q
 try dsimp only at rG
 refine zL 1 Z Z Z Z (zK Z Z yB (zB Z (zB Z zM)) Z) Ec (fun hs=>wAV (⟨Hk,Hl,Hm⟩:wAE) ab sE uj p2 tn sM hs BT BX) (.inl Z) ?_
 rintro iK HI I6 tG II Es ⟨lB,oG,rfl,rfl,Cc⟩
 let B7:Res:=.row bj bk 3 1 (nA KL.encI aW)
 have Et:SW w [B1] U iK [.blk ab 67 [.slice lB jR.bytes.length oG,jV jR.next,.int .u32 jR.state],B7,.blk b7 28 [.slice bj aW.length bk,.slice none 0 0,.slice none 0 0,.slice none 0 0],.blk b3 28 B0] tG:=Es
 refine oM Z Z (eN (zS ?_))
 have q:=bnd rG
 obtain ⟨⟨Jm,Jn,Jo,aX⟩,Fy,rH⟩:=q
 try dsimp only at rH
 have q:=wBM Fy
 obtain ⟨jG,Fz⟩:=q
 replace jG:=zH jG
 refine CK.forN' (fun fc (ff,jU,jW,cO) σ_ w_=>∃ (U_:PHeap) (fO:Option Addr) (gw:Nat) (cZ:Option Addr) (dq:Nat),σ_ 45=jV (↑fc:Int)/\σ_ 0=.pointer (some ⟨ab,0,none⟩)/\σ_ 3=jV p3/\σ_ 8=.pointer (some ⟨b3,0,none⟩)/\σ_ 11=.pointer (some ⟨b7,0,none⟩)/\σ_ 12=.slice none 0 0/\σ_ 13=.slice none 0 0/\σ_ 44=jV gY/\PHeap.Le iK U_/\SW w [B1] U U_ [.blk ab 67 [.slice fO ff.length gw,jV jU,.int .u32 jW],B7,.row cZ dq 55 2 (nA wAP cO),.blk b7 28 [.slice bj aW.length bk,.slice cZ cO.length dq,.slice none 0 0,.slice none 0 0],.blk b3 28 B0] w_/\Sl U_ 1 fO gw ff.length (nA KL.encB8 ff)) Fz ?_ ?_ ?_
 have Ew:=Et.nilrow 55 2
 exact ⟨iK,lB,oG,none,0,rfl,qq,z8,Ad,Ae,Af,Ag,rfl,(zN _),(Ew.pick [1,2,0,3,4] _ (by decide) rfl),Cc⟩
 rintro fc ⟨ff,jU,jW,cO⟩ Jh JH tK jz ⟨sN,fO,gw,cZ,dq,qI,je,Am,An,jf,Ao,Ap,qy,GL,Ey,Cf⟩ rZ
 try dsimp only at rZ
 have oI:Hid ((↑fc:Int) < gY):=zH (wBG jz)
 replace jz:=zH jz
 have FN:Hid (w64 ((↑fc:Int) + 1)=(↑(fc + 1):Int)):=zH (by have h1:=jG.out;have h2:=oI.out;rw [wAX] <;> omega)
 refine sR fL1 Z (oR Z (zV Z qI qy) (eN (zJ (cT Z oI (kN (zJ (zS (sR (.fl 0 gAr) Z (oM Z je ?_)))))))))
 have q:=bnd rZ
 obtain ⟨⟨bU,g6⟩,Cg,rI⟩:=q
 try dsimp only at rI
 refine zL 1 Z Z Z Z (zK Z Z Tryz.call13 (zB Z (zB Z (zB Z zM))) Z) Ey (fun hs=>wAt (⟨ff,jU,jW⟩:wAE) ab fO gw 3 9 tK sN hs Cf Cg) (.inl Z) ?_
 rintro mB HJ I7 iP GM Ez ⟨lD,oK,rfl,rfl,Ch⟩
 let B8:Res:=.blk b7 28 [.slice bj aW.length bk,.slice cZ cO.length dq,.slice none 0 0,.slice none 0 0]
 let B9:Res:=.row cZ dq 55 2 (nA wAP cO)
 have EA:SW w [B1] U mB [.blk ab 67 [.slice lD g6.bytes.length oK,jV g6.next,.int .u32 g6.state],B7,B9,B8,.blk b3 28 B0] iP:=Ez
 refine zY rfl rfl rfl rfl (fun _=>Runs.mulw rfl rfl rfl) (Zw rfl rfl rfl rfl rfl rfl (eN (ZO zz [3,1004,3,3,3,1005,3,3,3,2,0,3,0,ab] (wGw (.fx 5 (fC6_8 (.fx 9 (.fx 10 (.fl 11 (.fx 12 .nil .stop)) .stop) .stop)) .stop)) (by kernel_rfl) ?_)))
 have jt:=EA.drew
 generalize hw_W351:({ iP with drawn:=iP.drawn + 1 }:World)=tL at jt ⊢
 refine zY rfl rfl rfl rfl (fun _=>zF rfl jf zW rfl yK) (OKS.mt (T:=[ab]) [0] [1,2,3,4] [B7,B9,B8,.blk b3 28 B0] rfl rfl rfl rfl jt rfl ⟨⟨0,by decide,_,rfl,rfl⟩,trivial⟩ (by decide) rfl (by decide) (fun _ Fu=>(Fu.ldB (j:=2) rfl rfl rfl yf (v:=.slice cZ cO.length dq) rfl)) rfl (zX rfl rfl rfl rfl rfl rfl (zX rfl rfl rfl rfl rfl rfl (zX rfl rfl rfl rfl rfl je ?_))))
 have q:=bnd rI
 obtain ⟨⟨fz,jX⟩,Ci,rJ⟩:=q
 try dsimp only at rJ
 refine YC 1 rfl rfl rfl rfl (zK rfl rfl yB (zB rfl (zB rfl zM)) rfl) jt (fun hs=>wAV g6 ab lD oK 30 tL mB hs Ch Ci) rfl (T:=[ab]) rfl ⟨fun b h=>(by cases h;exact .head _),trivial⟩ ?_
 rintro d7 HK I8 tM GN EB ⟨lE,oO,rfl,rfl,Cj⟩
 let fT:Res:=.blk ab 67 [.slice lE jX.bytes.length oO,jV jX.next,.int .u32 jX.state]
 have EC:SW w [B1] U d7 [fT,B7,B9,B8,.blk b3 28 B0] tM:=EB
 refine oR Z (Runs.mulw Z Z Z) (oR Z (zU Z Z Z) ?_)
 let iq:List Value:=[jV (w64 (100 * bU)),jV (w64 ((w64 (100 * bU)) + (w64 (10 * fz))))]
 refine oR Z (ZN (pv:=[(0,jV (w64 (100 * bU))),(1,jV (w64 ((w64 (100 * bU)) + (w64 (10 * fz)))))]) (z:=[jV 0,jV 0]) (cs:=iq) Z (wAG Z (wAG Z wAZ)) yR wKG Z Z) (ZL (pv:=[(0,.agg iq.toArray)]) (zs:=[jV 0,jV 0]) (cs:=iq) Z Z Z Z Z (wAG Z wAZ) ZY Za yR Z Z Z Z Z EC ?_)
 intro tO ue ED
 let ir:Res:=.row (some ⟨ue,0,none⟩) 1 55 2 (nA wAP [(⟨w64 (100 * bU),w64 ((w64 (100 * bU)) + (w64 (10 * fz)))⟩:wAI)])
 have rj:SW w [B1] U d7 [ir,fT,B7,B9,B8,.blk b3 28 B0] tO:=ED
 refine bnK rJ fun g7 Ck F2=>Zq (j:=3) (enc:=wAP) (xs:=cO) (ys:=[(⟨w64 (100 * bU),w64 ((w64 (100 * bU)) + (w64 (10 * fz)))⟩:wAI)]) (zs:=g7) rfl rfl rfl rfl rfl Tryz.underlying24 wSC rfl rfl rfl rfl rfl rfl rj rfl rfl rfl (rj.srcR (j:=0) rfl (by decide) (wAC (f:=wAP) (sz:=2) (fun _=>rfl) [(⟨w64 (100 * bU),w64 ((w64 (100 * bU)) + (w64 (10 * fz)))⟩:wAI)])) (fun _=>rfl) (fun _=>rfl) Ck rfl ?_
 intro fP gy tP EE
 let lN:Res:=.row fP gy 55 2 (nA wAP g7)
 have EF:SW w [B1] U d7 [ir,fT,B7,lN,B8,.blk b3 28 B0] tP:=EE
 refine oR Z (zF Z jf zW Z yK) (zh (j:=4) (vs:=[.slice fP g7.length gy]) Z Z Z Z EF Z Z Z Z yK (zA Z) Z Z Z ?_)
 intro tQ EG
 have EH:SW w [B1] U d7 [ir,fT,B7,lN,.blk b7 28 [.slice bj aW.length bk,.slice fP g7.length gy,.slice none 0 0,.slice none 0 0],.blk b3 28 B0] tQ:=EG
 refine zd (zf (zI (rR fL2 Z (oR Z (zt (zU Z qI Z) (congrArg (jV) FN.out)) (oM Z Z (zd ?_))))))
 cases F2
 exact zI ⟨rfl,⟨d7,lE,oO,fP,gy,rfl,je,Am,An,jf,Ao,Ap,qy,((GL.trans GM).trans GN),(EH.pick [1,2,3,4,5] _ (by decide) rfl),Cj⟩⟩
 rintro JI H9 ⟨mC,sF,um,br,bs,Bm,Aq,Ar,As,qz,Au,Av,Aw,IJ,rk,Cm⟩
 have uo:Hid (¬ ((↑((gY:Int) - 0).toNat:Int) < gY)):=zH (wAq)
 refine sR fL1 Z (oR Z (zV Z Bm Aw) (eN (zJ (cF Z uo (ZH (zZ (zZ (zx (zI (zJ (sR fL4 Z (oR Z (zF Z qz zW Z zk) (oL Z (rk.ldB (j:=3) Z Z Z zr (v:=.slice bj aW.length bk) Z) (oR Z (zn Z Z zD) (oM Z Z (eN (zS ?_)))))))))))))))))
 have q:=bnd rH
 obtain ⟨⟨Hc,He,Hf,bA⟩,FA,rK⟩:=q
 try dsimp only at rK
 have q:=wBM FA
 obtain ⟨jH,FB⟩:=q
 replace jH:=zH jH
 let bJ:Res:=.blk b7 28 [.slice bj aW.length bk,.slice br aX.length bs,.slice none 0 0,.slice none 0 0]
 refine CK.forN' (fun cm (fg,jY,jZ,fh) σ_ w_=>∃ (U_:PHeap) (dT:Option Addr) (eO:Nat) (dU:Option Addr) (eQ:Nat) (gC:List Value),σ_ 66=jV (↑cm:Int)/\σ_ 0=.pointer (some ⟨ab,0,none⟩)/\σ_ 3=jV p3/\σ_ 8=.pointer (some ⟨b3,0,none⟩)/\σ_ 11=.pointer (some ⟨b7,0,none⟩)/\σ_ 12=.slice dU fh.length eQ/\σ_ 13=.slice none 0 0/\σ_ 64=.slice bj aW.length bk/\σ_ 65=jV (↑aW.length:Int)/\PHeap.Le mC U_/\SW w [B1] U U_ [.blk ab 67 [.slice dT fg.length eO,jV jY,.int .u32 jZ],.row bj bk 3 1 (nA KL.encI aW),.row br bs 55 2 (nA wAP aX),bJ,.blk b3 28 B0,.row dU eQ 23 1 gC] w_/\Sl U_ 1 dT eO fg.length (nA KL.encB8 fg)/\RlL U_ wHx fh gC) FB ?_ ?_ ?_
 have EJ:=rk.nilrow 23 1
 exact ⟨mC,sF,um,none,0,[],rfl,Aq,Ar,As,qz,Au,Av,rfl,rfl,(zN _),(EJ.pick [1,2,3,4,5,0] _ (by decide) rfl),Cm,RlL.nil⟩
 rintro cm ⟨fg,jY,jZ,fh⟩ Ji JJ Ia jA ⟨iL,dT,eO,dU,eQ,gC,ji,Ax,Ay,Az,qA,AA,AD,qB,qC,GO,ju,Cn,Co⟩ r6
 try dsimp only at r6
 have oP:Hid ((↑cm:Int) < (↑aW.length:Int)):=zH (wBG jA)
 replace jA:=zH jA
 have FO:Hid (w64 ((↑cm:Int) + 1)=(↑(cm + 1):Int)):=zH (by have h1:=jH.out;have h2:=oP.out;rw [wAX] <;> omega)
 refine sR fL1 Z (oR Z (zV Z ji qC) (eN (zJ (cT Z oP (kN (zJ (zS (sR fL3 Z (bnK r6 fun _ jm F3=>?_)))))))))
 have q:=ju.rowSome (j:=1) rfl (by rw [wAC (f:=KL.encI) (sz:=1) (fun _=>rfl) aW];have hz:=wAT jm;omega)
 obtain ⟨Ij,qS⟩:=q
 refine oR Z (ZV Z qB qS ji zD zC (wAT jm)) ?_
 have FL:=wBb (xs:=aW) (wAT jm)
 refine ZC rfl rfl rfl rfl (ju.ldR (j:=1) rfl qS rfl rfl zG (wAa (sz:=1) (fun _=>rfl) _ _ 0 _ FL (by first | omega | rfl | simp) rfl)) rfl (Zw rfl rfl rfl rfl rfl rfl (eN (sR gAs rfl (zX rfl rfl rfl rfl rfl rfl (ZL (pv:=[(0,jV (gd aW cm))]) (zs:=[jV 0]) (cs:=[jV (gd aW cm)]) rfl rfl rfl rfl rfl (wAG rfl wAZ) zD zC ZW rfl rfl rfl rfl rfl ju ?_)))))
 intro tR m6 EK
 let bQ:Res:=.row br bs 55 2 (nA wAP aX)
 let bW:Res:=.row dU eQ 23 1 gC
 have rn:SW w [B1] U iL [.row (some ⟨m6,0,none⟩) 1 3 1 (nA KL.encI [(gd aW cm)]),.blk ab 67 [.slice dT fg.length eO,jV jY,.int .u32 jZ],B7,bQ,bJ,.blk b3 28 B0,bW] tR:=EK
 refine oA Z Z (eN (zJ (sR fL4 Z (oR Z (zF Z qA zW Z yK) (oL Z (rn.ldB (j:=4) Z Z Z yf (v:=.slice br aX.length bs) Z) (oR Z (zn Z Z ZY) (oM Z Z (eN (zS ?_)))))))))
 have q:=bnd F3
 obtain ⟨⟨Hg,Hh,Hj,Jp,cU⟩,FC,rL⟩:=q
 try dsimp only at rL
 have q:=wBM FC
 obtain ⟨jJ,FD⟩:=q
 replace jJ:=zH jJ
 refine CK.forN' (fun bO (dz,g8,g9,cR,fk) σ_ w_=>∃ (U_:PHeap) (dV:Option Addr) (eU:Nat) (fQ:Option Addr) (gz:Nat),σ_ 75=jV (↑bO:Int)/\σ_ 0=.pointer (some ⟨ab,0,none⟩)/\σ_ 3=jV p3/\σ_ 8=.pointer (some ⟨b3,0,none⟩)/\σ_ 11=.pointer (some ⟨b7,0,none⟩)/\σ_ 12=.slice dU fh.length eQ/\σ_ 13=.slice none 0 0/\σ_ 16=jV cR/\σ_ 17=.slice fQ fk.length gz/\σ_ 64=.slice bj aW.length bk/\σ_ 65=jV (↑aW.length:Int)/\σ_ 66=jV (↑cm:Int)/\σ_ 73=.slice br aX.length bs/\σ_ 74=jV (↑aX.length:Int)/\PHeap.Le iL U_/\SW w [B1] U U_ [.blk ab 67 [.slice dV dz.length eU,jV g8,.int .u32 g9],B7,bQ,bJ,.blk b3 28 B0,bW,.row fQ gz 3 1 (nA KL.encI fk)] w_/\Sl U_ 1 dV eU dz.length (nA KL.encB8 dz)) FD ?_ ?_ ?_
 exact ⟨iL,dT,eO,(some ⟨m6,0,none⟩),1,rfl,Ax,Ay,Az,qA,AA,AD,rfl,rfl,qB,qC,ji,rfl,rfl,(zN _),(rn.pick [1,2,3,4,5,6,0] _ (by decide) rfl),Cn⟩
 rintro bO ⟨dz,g8,g9,cR,fk⟩ Jj JK Ib jB ⟨iM,dV,eU,fQ,gz,jj,qD,AE,AG,AI,AJ,AK,AL,AM,AN,AP,AQ,qE,qF,GP,jv,Cp⟩ r7
 try dsimp only at r7
 have oU:Hid ((↑bO:Int) < (↑aX.length:Int)):=zH (wBG jB)
 replace jB:=zH jB
 have FP:Hid (w64 ((↑bO:Int) + 1)=(↑(bO + 1):Int)):=zH (by have h1:=jJ.out;have h2:=oU.out;rw [wAX] <;> omega)
 refine sR fL1 Z (oR Z (zV Z jj qF) (eN (zJ (cT Z oU (kN (zJ (zS (sR gBa Z (bnK r7 fun _ jo F5=>?_)))))))))
 have q:=jv.rowSome (j:=2) rfl (by rw [wAC (f:=wAP) (sz:=2) (fun _=>rfl) aX];have hz:=wAT jo;omega)
 obtain ⟨Ik,qT⟩:=q
 refine oR Z (ZV Z qE qT jj ZY Za (wAT jo)) ?_
 have FM:=wBb (xs:=aX) (wAT jo)
 let cE:List Value:=[jV ((gd aX bO).Lo),jV ((gd aX bO).Hi)]
 refine ZC rfl rfl rfl rfl (jv.ldRA (j:=2) rfl qT rfl rfl Tryz.isAgg55 Za (vs:=cE) (wET (sz:=2) (fun _=>rfl) _ _ _ FM (by first | omega | rfl | simp) rfl) rfl) rfl (zg (cs:=[jV 0,jV 0]) rfl rfl rfl rfl rfl yR rfl jv ?_)
 intro Ic en EL
 refine zh (j:=0) (vs:=cE) Z Z Z Z EL Z Z Z Z Za (zA Z) Z Z Z ?_
 intro iQ EM
 let fU:Res:=.row fQ gz 3 1 (nA KL.encI fk)
 let lO:Res:=.blk ab 67 [.slice dV dz.length eU,jV g8,.int .u32 g9]
 have jw:SW w [B1] U iM [.blk en 55 cE,lO,B7,bQ,bJ,.blk b3 28 B0,bW,fU] iQ:=EM
 refine eN (sR (wJO gAq) Z (oM Z AL (oM Z qD (oR Z (zF Z Z ZI Z zC) (oL Z (jw.ldB (j:=0) Z Z Z zG (v:=jV ((gd aX bO).Lo)) Z) (oR Z (zF Z Z ZI Z zC) (oL Z (jw.ldB (j:=0) Z Z Z zG (v:=jV ((gd aX bO).Hi)) Z) ?_)))))))
 have q:=bnd F5
 obtain ⟨⟨fA,j0⟩,Cq,rM⟩:=q
 try dsimp only at rM
 have EN:SW w [B1] U iM [lO,.blk en 55 cE,B7,bQ,bJ,.blk b3 28 B0,bW,fU] iQ:=jw.pick [1,0,2,3,4,5,6,7] _ (by decide) rfl
 refine zL 1 Z Z Z Z (zK Z Z Tryz.call13 (zB Z (zB Z (zB Z zM))) Z) EN (fun hs=>wAt (⟨dz,g8,g9⟩:wAE) ab dV eU ((gd aX bO).Lo) ((gd aX bO).Hi) iQ iM hs Cp Cq) (.inl Z) ?_
 rintro ga HM I9 tS GQ EO ⟨lF,oW,rfl,rfl,Cr⟩
 let it:Res:=.blk ab 67 [.slice lF j0.bytes.length oW,jV j0.next,.int .u32 j0.state]
 have EP:SW w [B1] U ga [it,.blk en 55 cE,B7,bQ,bJ,.blk b3 28 B0,bW,fU] tS:=EO
 refine oR Z (zU Z Z Z) (oA Z Z (eN (rR gBf Z (oM Z AM (oM Z Z (ZL (pv:=[(0,jV (w64 (cR + fA)))]) (zs:=[jV 0]) (cs:=[jV (w64 (cR + fA))]) Z Z Z Z Z (wAG Z wAZ) zD zC ZW Z Z Z Z Z EP ?_))))))
 intro tT uf EQ
 let lP:Res:=.row (some ⟨uf,0,none⟩) 1 3 1 (nA KL.encI [w64 (cR + fA)])
 have ro:SW w [B1] U ga [lP,it,.blk en 55 cE,B7,bQ,bJ,.blk b3 28 B0,bW,fU] tT:=EQ
 refine bnK rM fun sB Cs F6=>Zq (j:=8) (enc:=KL.encI) (xs:=fk) (ys:=[w64 (cR + fA)]) (zs:=sB) rfl rfl rfl rfl rfl yF wId rfl rfl rfl rfl rfl rfl ro rfl rfl rfl (ro.srcR (j:=0) rfl (by decide) (wAC (f:=KL.encI) (sz:=1) (fun _=>rfl) [w64 (cR + fA)])) (fun _=>rfl) (fun _=>rfl) Cs rfl ?_
 intro lG oX tU ER
 have ES:SW w [B1] U ga [lP,it,.blk en 55 cE,B7,bQ,bJ,.blk b3 28 B0,bW,.row lG oX 3 1 (nA KL.encI sB)] tU:=ER
 refine oA Z Z (zd (zf (zI (rR fL2 Z (oR Z (zt (zU Z jj Z) (congrArg (jV) FP.out)) (oM Z Z (zd ?_)))))))
 cases F6
 exact zI ⟨rfl,⟨ga,lF,oW,lG,oX,rfl,qD,AE,AG,AI,AJ,AK,rfl,rfl,AN,AP,AQ,qE,qF,(GP.trans GQ),(ES.pick [1,3,4,5,6,7,8] _ (by decide) rfl),Cr⟩⟩
 rintro JL tV ⟨HS,lH,oY,io,i4,Bn,AS,AT,AU,AW,AX,AY,ID,AZ,A3,A4,A5,IE,A6,sn,ET,Ct⟩
 have uq:Hid (¬ ((↑(((↑aX.length:Int):Int) - 0).toNat:Int) < (↑aX.length:Int))):=zH (wAq)
 refine sR fL1 Z (oR Z (zV Z Bn A6) (eN (zJ (cF Z uq (ZH (zZ (zZ (zx (zI (rR gBf Z (oM Z AX (oM Z AZ ?_))))))))))))
 have q:=ET.freezeR (k:=6) (n:=cU.length) rfl (wAC (f:=KL.encI) (sz:=1) (fun _=>rfl) cU) (by decide)
 obtain ⟨d9,jO,Gd,EV⟩:=q
 let iu:Res:=.blk ab 67 [.slice lH Hg.length oY,jV Hh,.int .u32 Hj]
 have EW:SW w [B1] U d9 [iu,B7,bQ,bJ,.blk b3 28 B0,bW] tV:=EV
 let fV:List Value:=[.slice io cU.length i4]
 refine ZL (pv:=[(0,.slice io cU.length i4)]) (zs:=[.slice none 0 0]) (cs:=fV) Z Z Z Z Z (wAG Z wAZ) ZK zk Tryz.zeroValue23 Z Z Z Z Z EW ?_
 intro tW ug EU
 have rW:RlL d9 wHx [cU] fV:=(RlL.cons (R:=wHx) (x:=cU) (vs:=fV) ⟨io,i4,rfl,Gd⟩ RlL.nil)
 let lQ:Res:=.row (some ⟨ug,0,none⟩) 1 23 1 fV
 have rp:SW w [B1] U d9 [lQ,iu,B7,bQ,bJ,.blk b3 28 B0,bW] tW:=EU
 refine bnK rL fun GZ Cu F7=>?_
 have Cv:=Co.le sn
 have Cw:=Cv.le jO
 refine OKS.appendR (R:=wHx) (j:=6) (xs:=fh) (ys:=[cU]) (zs:=GZ) rfl rfl rfl rfl rfl Tryz.underlying29 wSA rfl rfl rfl rfl rfl rfl rfl rp rfl rfl rfl Cw rW (rp.srcR (j:=0) rfl (by decide) (RlL.len rW)) Cu rfl ?_
 intro lI o0 pd tX EX Gc
 have EY:SW w [B1] U d9 [lQ,iu,B7,bQ,bJ,.blk b3 28 B0,.row lI o0 23 1 pd] tX:=EX
 refine oA Z Z (zd (zf (zI (rR fL2 Z (oR Z (zt (zU Z A5 Z) (congrArg (jV) FO.out)) (oM Z Z (zd ?_)))))))
 cases F7
 have Cx:=Ct.le jO
 exact zI ⟨rfl,⟨d9,lH,oY,lI,o0,pd,rfl,AS,AT,AU,AW,rfl,AY,A3,A4,((GO.trans sn).trans jO),(EY.pick [1,2,3,4,5,6] _ (by decide) rfl),Cx,Gc⟩⟩
 rintro JM tY ⟨sO,sG,ur,bp,bq,ut,Bo,qG,A7,A8,A9,Ba,Bc,IF,Bd,IK,E2,Cy,Cz⟩
 have uu:Hid (¬ ((↑(((↑aW.length:Int):Int) - 0).toNat:Int) < (↑aW.length:Int))):=zH (wAq)
 refine sR fL1 Z (oR Z (zV Z Bo Bd) (eN (zJ (cF Z uu (ZH (zZ (zZ (zx (zI (zJ (sR gAs Z (oM Z qG ?_))))))))))))
 have q:=bnd rK
 obtain ⟨⟨bC,j3⟩,CA,rO⟩:=q
 try dsimp only at rO
 refine zL 1 Z Z Z Z (zK Z Z Tryz.call13 (zB Z (zB Z (zB Z zM))) Z) E2 (fun hs=>wAt (⟨Hc,He,Hf⟩:wAE) ab sG ur 1 3 tY sO hs Cy CA) (.inl Z) ?_
 rintro iN HO Ja tZ GR E3 ⟨lJ,o3,rfl,rfl,CB⟩
 let ak:Res:=.row br bs 55 2 (nA wAP aX)
 let au:Res:=.row bp bq 23 1 ut
 have E4:SW w [B1] U iN [.blk ab 67 [.slice lJ j3.bytes.length o3,jV j3.next,.int .u32 j3.state],B7,ak,bJ,.blk b3 28 B0,au] tZ:=E3
 refine oM Z Z (eN (zS ?_))
 have q:=bnd rO
 obtain ⟨⟨Hn,Ho,Hp,bB,bF⟩,FG,rP⟩:=q
 try dsimp only at rP
 have q:=wBM FG
 obtain ⟨jL,FH⟩:=q
 replace jL:=zH jL
 refine CK.forN' (fun bu (fm,j4,j5,bE,bg) σ_ w_=>∃ (U_:PHeap) (fS:Option Addr) (gB:Nat) (bP:Option Addr) (bR:Nat) (bh:Option Addr) (bi:Nat),σ_ 99=jV (↑bu:Int)/\σ_ 0=.pointer (some ⟨ab,0,none⟩)/\σ_ 3=jV p3/\σ_ 8=.pointer (some ⟨b3,0,none⟩)/\σ_ 11=.pointer (some ⟨b7,0,none⟩)/\σ_ 12=.slice bp bA.length bq/\σ_ 13=.slice bh bg.length bi/\σ_ 98=jV bC/\PHeap.Le iN U_/\SW w [B1] U U_ [.blk ab 67 [.slice fS fm.length gB,jV j4,.int .u32 j5],B7,ak,.row bP bR 62 3 (nA wAB bE),.blk b7 28 [.slice bj aW.length bk,.slice br aX.length bs,.slice bP bE.length bR,.slice none 0 0],.blk b3 28 B0,au,.row bh bi 3 1 (nA KL.encI bg)] w_/\Sl U_ 1 fS gB fm.length (nA KL.encB8 fm)) FH ?_ ?_ ?_
 have E6:=E4.nilrow 62 3
 have E7:=E6.nilrow 3 1
 exact ⟨iN,lJ,o3,none,0,none,0,rfl,qG,A7,A8,A9,Ba,Bc,rfl,(zN _),(E7.pick [2,3,4,1,5,6,7,0] _ (by decide) rfl),CB⟩
 rintro bu ⟨fm,j4,j5,bE,bg⟩ Jl JO t7 jD ⟨sQ,fS,gB,bP,bR,bh,bi,ci,bL,cw,cx,bS,cy,cd,cg,GT,E8,CD⟩ r9
 try dsimp only at r9
 have o5:Hid ((↑bu:Int) < bC):=zH (wBG jD)
 replace jD:=zH jD
 have FQ:Hid (w64 ((↑bu:Int) + 1)=(↑(bu + 1):Int)):=zH (by have h1:=jL.out;have h2:=o5.out;rw [wAX] <;> omega)
 refine sR fL1 Z (oR Z (zV Z ci cg) (eN (zJ (cT Z o5 (kN (zJ (zS (sR gAs Z (oM Z bL ?_)))))))))
 have q:=bnd r9
 obtain ⟨⟨aa,ib⟩,CE,rQ⟩:=q
 try dsimp only at rQ
 refine zL 1 Z Z Z Z (zK Z Z Tryz.call13 (zB Z (zB Z (zB Z zM))) Z) E8 (fun hs=>wAt (⟨fm,j4,j5⟩:wAE) ab fS gB (-60) 20 t7 sQ hs CD CE) (.inl Z) ?_
 rintro mD HP Jb mV GU Fa ⟨lK,o6,rfl,rfl,CF⟩
 let aY:Res:=.blk b7 28 [.slice bj aW.length bk,.slice br aX.length bs,.slice bP bE.length bR,.slice none 0 0]
 let bb:Res:=.row bh bi 3 1 (nA KL.encI bg)
 let bK:Res:=.row bP bR 62 3 (nA wAB bE)
 have Fb:SW w [B1] U mD [.blk ab 67 [.slice lK ib.bytes.length o6,jV ib.next,.int .u32 ib.state],B7,ak,bK,aY,.blk b3 28 B0,au,bb] mV:=Fa
 refine oA Z Z (eN (sR (wEQ (.fx 3 (wWO (.fx 7 (.fl 8 (.fx 9 (.fx 10 .nil .stop) .stop)) .stop)) .stop)) Z (oM Z Z (oM Z Z (oM Z bL ?_)))))
 have q:=bnd rQ
 obtain ⟨⟨am,ic⟩,CG,rS⟩:=q
 try dsimp only at rS
 refine zL 1 Z Z Z Z (zK Z Z yB (zB Z (zB Z zM)) Z) Fb (fun hs=>wAV ib ab lK o6 50 mV mD hs CF CG) (.inl Z) ?_
 rintro mE HQ Jc mW GV Fc ⟨lL,o7,rfl,rfl,CH⟩
 have Fd:SW w [B1] U mE [.blk ab 67 [.slice lL ic.bytes.length o7,jV ic.next,.int .u32 ic.state],B7,ak,bK,aY,.blk b3 28 B0,au,bb] mW:=Fc
 refine oR Z (zU Z Z Z) ?_
 let lR:List Value:=[jV aa,jV (w64 (aa + am))]
 refine oR Z (ZN (pv:=[(0,jV aa),(1,jV (w64 (aa + am)))]) (z:=[jV 0,jV 0]) (cs:=lR) Z (wAG Z (wAG Z wAZ)) yR wKG Z Z) (oM Z bL ?_)
 have q:=bnd rS
 obtain ⟨⟨ap,fB⟩,CI,rT⟩:=q
 try dsimp only at rT
 refine zL 1 Z Z Z Z (zK Z Z yB (zB Z (zB Z zM)) Z) Fd (fun hs=>wAV ic ab lL o7 6 mW mE hs CH CI) (.inl Z) ?_
 rintro be HR Jd t8 GW Fe ⟨ip,i5,rfl,rfl,qP⟩
 let bm:Res:=.blk ab 67 [.slice ip fB.bytes.length i5,jV fB.next,.int .u32 fB.state]
 have Ff:SW w [B1] U be [bm,B7,ak,bK,aY,.blk b3 28 B0,au,bb] t8:=Fe
 let ao:List Value:=[jV aa,jV (w64 (aa + am)),jV ap]
 let da:List Value:=[jV 0,jV 0,jV 0]
 refine oR Z (ZN (pv:=[(0,.agg lR.toArray),(1,jV ap)]) (z:=da) (cs:=ao) Z (wAG Z (wAG Z wAZ)) yk wRC Z Z) (zg (cs:=da) Z Z Z Z Z yk Z Ff ?_)
 intro Ie ah Fg
 refine zh (j:=0) (vs:=ao) Z Z Z Z Fg Z Z Z Z Zx (zA Z) Z Z Z ?_
 intro iR Fh
 have Fi:SW w [B1] U be [.blk ah 62 ao,bm,B7,ak,bK,aY,.blk b3 28 B0,au,bb] iR:=Fh
 refine eN (bnK rT fun aV gK F8=>?_)
 have q:=bnd F8
 obtain ⟨⟨bz,aq⟩,qQ,rV⟩:=q
 try dsimp only at rV
 refine bnK rV fun cS CL F9=>ZO zz [3,1,1,2,0,3,3,3,3,2,3,3,2,0,2,0,3,0,3] (wEQ (wWS (.fl 10 (.fl 11 (.fx 3 (.fx 4 (.fl 16 (.fx 9 gBj (.fx 12 gBk .stop))) (.fx 9 gBp (.fx 12 gBq .stop))) (.fx 9 (.fx 3 gBp (.fx 12 gBo .stop)) (.fx 12 (.fx 3 gBq (.fx 9 gBo .stop)) .stop))))))) (by kernel_rfl) ?_
 have bM:=Fi.drew
 generalize hw_W1000:({ iR with drawn:=iR.drawn + 1 }:World)=HT at bM ⊢
 refine yv (s:=.fl 18 .nil) (M:=fun σ_ w_=>∃ (U_:PHeap) (fC:Option Addr) (gf:Nat) (dC:Option Addr) (er:Nat) (ie:Option Addr) (iT:Nat) (ig:Option Addr) (iU:Nat) (fD:Option Addr) (gg:Nat),σ_ 0=.pointer (some ⟨ab,0,none⟩)/\σ_ 3=jV p3/\σ_ 8=.pointer (some ⟨b3,0,none⟩)/\σ_ 11=.pointer (some ⟨b7,0,none⟩)/\σ_ 12=.slice bp bA.length bq/\σ_ 21=.pointer (some ⟨ah,0,none⟩)/\σ_ 98=jV bC/\σ_ 99=jV (↑bu:Int)/\σ_ 112=.pointer (some ⟨b7,2,none⟩)/\σ_ 114=.agg ao.toArray/\σ_ 115=.slice ie ([(⟨(⟨aa,w64 (aa + am)⟩:wAI),ap⟩:wAK)].length) iT/\σ_ 116=.slice dC aV.length er/\σ_ 118=.pointer (some ⟨ab,0,none⟩)/\σ_ 119=.pointer (some ⟨ah,0,none⟩)/\σ_ 120=.pointer (some ⟨ah,0,none⟩)/\σ_ 121=jV aa/\σ_ 122=.pointer (some ⟨ah,0,none⟩)/\σ_ 123=.pointer (some ⟨ah,1,none⟩)/\σ_ 124=jV (w64 (aa + am))/\σ_ 125=jV bz/\σ_ 126=.slice ig ([bz].length) iU/\σ_ 127=.slice fD cS.length gg/\σ_ 128=.pointer (some ⟨b7,2,none⟩)/\PHeap.Le be U_/\SW w [B1] U U_ [.blk ab 67 [.slice fC aq.bytes.length gf,jV aq.next,.int .u32 aq.state],.blk ah 62 ao,B7,ak,.row dC er 62 3 (nA wAB aV),.blk b7 28 [.slice bj aW.length bk,.slice br aX.length bs,.slice dC aV.length er,.slice none 0 0],.blk b3 28 B0,au,.row ie iT 62 3 (nA wAB [(⟨(⟨aa,w64 (aa + am)⟩:wAI),ap⟩:wAK)]),.row ig iU 3 1 (nA KL.encI [bz]),.row fD gg 3 1 (nA KL.encI cS)] w_/\Sl U_ 1 fC gf aq.bytes.length (nA KL.encB8 aq.bytes)) ?_ fun Gf=>?_
 rintro Jq HU ⟨sH,fC,gf,dC,er,ie,iT,ig,iU,fD,gg,uv,uw,ux,uy,uz,Il,uA,uB,Im,Io,Ip,Iq,Ir,Is,It,Iu,Iv,Iw,Ix,Iy,Iz,uC,IA,Gm,CT,Bp⟩
 refine oA Z uC (zd (zf (zI (rR fL2 Z (oR Z (zt (zU Z uB Z) (congrArg (jV) FQ.out)) (oM Z Z (zd ?_)))))))
 cases F9
 exact zI ⟨rfl,⟨sH,fC,gf,dC,er,fD,gg,rfl,uv,uw,ux,uy,uz,rfl,uA,((((GT.trans GU).trans GV).trans GW).trans Gm),(CT.pick [0,2,3,4,5,6,7,10] _ (by decide) rfl),Bp⟩⟩
 refine yv (s:=gAk) (M:=fun σ_ w_=>∃ (U_:PHeap) (dD:Option Addr) (eu:Nat) (dE:Option Addr) (ew:Nat) (cD:Option Addr) (cH:Nat) (dF:Option Addr) (ey:Nat) (dG:Option Addr) (ez:Nat),σ_ 0=.pointer (some ⟨ab,0,none⟩)/\σ_ 3=jV p3/\σ_ 8=.pointer (some ⟨b3,0,none⟩)/\σ_ 11=.pointer (some ⟨b7,0,none⟩)/\σ_ 12=.slice bp bA.length bq/\σ_ 21=.pointer (some ⟨ah,0,none⟩)/\σ_ 98=jV bC/\σ_ 99=jV (↑bu:Int)/\σ_ 112=.pointer (some ⟨b7,2,none⟩)/\σ_ 114=.agg ao.toArray/\σ_ 115=.slice dE ([(⟨(⟨aa,w64 (aa + am)⟩:wAI),ap⟩:wAK)].length) ew/\σ_ 116=.slice cD aV.length cH/\σ_ 118=.pointer (some ⟨ab,0,none⟩)/\σ_ 119=.pointer (some ⟨ah,0,none⟩)/\σ_ 120=.pointer (some ⟨ah,0,none⟩)/\σ_ 121=jV aa/\σ_ 122=.pointer (some ⟨ah,0,none⟩)/\σ_ 123=.pointer (some ⟨ah,1,none⟩)/\σ_ 124=jV (w64 (aa + am))/\σ_ 125=jV bz/\σ_ 126=.slice dF ([bz].length) ey/\σ_ 127=.slice dG cS.length ez/\σ_ 128=.pointer (some ⟨b7,2,none⟩)/\PHeap.Le be U_/\SW w [B1] U U_ [.blk ab 67 [.slice dD aq.bytes.length eu,jV aq.next,.int .u32 aq.state],.blk ah 62 ao,B7,ak,aY,.blk b3 28 B0,au,.row dE ew 62 3 (nA wAB [(⟨(⟨aa,w64 (aa + am)⟩:wAI),ap⟩:wAK)]),.row cD cH 62 3 (nA wAB aV),.row dF ey 3 1 (nA KL.encI [bz]),.row dG ez 3 1 (nA KL.encI cS)] w_/\Sl U_ 1 dD eu aq.bytes.length (nA KL.encB8 aq.bytes)) ?_ fun Gg=>?_
 rintro Jr HV ⟨mf,dD,eu,dE,ew,cD,cH,dF,ey,dG,ez,uD,uE,uF,uG,uH,uI,uJ,uK,uL,uM,uN,pe,uO,uP,uQ,uR,uS,uT,uU,uV,uW,uX,pf,Gn,CU,Br⟩
 refine zh (j:=4) (vs:=[.slice cD aV.length cH]) Z Z Z Z CU Z pf pe Z Zs (zA Z) Z Z Z ?_
 intro sS CV
 have CW:SW w [B1] U mf [.blk ab 67 [.slice dD aq.bytes.length eu,jV aq.next,.int .u32 aq.state],.blk ah 62 ao,B7,ak,.blk b7 28 [.slice bj aW.length bk,.slice br aX.length bs,.slice cD aV.length cH,.slice none 0 0],.blk b3 28 B0,au,.row dE ew 62 3 (nA wAB [(⟨(⟨aa,w64 (aa + am)⟩:wAI),ap⟩:wAK)]),.row cD cH 62 3 (nA wAB aV),.row dF ey 3 1 (nA KL.encI [bz]),.row dG ez 3 1 (nA KL.encI cS)] sS:=CV
 exact Gf _ _ ⟨mf,dD,eu,cD,cH,dE,ew,dF,ey,dG,ez,uD,uE,uF,uG,uH,uI,uJ,uK,uL,uM,uN,pe,uO,uP,uQ,uR,uS,uT,uU,uV,uW,uX,pf,Gn,(CW.pick [0,1,2,3,8,4,5,6,7,9,10] _ (by decide) rfl),Br⟩
 refine yv (s:=gAu) (M:=fun σ_ w_=>∃ (U_:PHeap) (dH:Option Addr) (eA:Nat) (dI:Option Addr) (eB:Nat) (dJ:Option Addr) (eD:Nat) (dK:Option Addr) (eE:Nat),σ_ 0=.pointer (some ⟨ab,0,none⟩)/\σ_ 3=jV p3/\σ_ 8=.pointer (some ⟨b3,0,none⟩)/\σ_ 11=.pointer (some ⟨b7,0,none⟩)/\σ_ 12=.slice bp bA.length bq/\σ_ 13=.slice bh bg.length bi/\σ_ 21=.pointer (some ⟨ah,0,none⟩)/\σ_ 98=jV bC/\σ_ 99=jV (↑bu:Int)/\σ_ 112=.pointer (some ⟨b7,2,none⟩)/\σ_ 114=.agg ao.toArray/\σ_ 115=.slice dI ([(⟨(⟨aa,w64 (aa + am)⟩:wAI),ap⟩:wAK)].length) eB/\σ_ 116=.slice dJ aV.length eD/\σ_ 117=.slice bh bg.length bi/\σ_ 118=.pointer (some ⟨ab,0,none⟩)/\σ_ 119=.pointer (some ⟨ah,0,none⟩)/\σ_ 120=.pointer (some ⟨ah,0,none⟩)/\σ_ 121=jV aa/\σ_ 122=.pointer (some ⟨ah,0,none⟩)/\σ_ 123=.pointer (some ⟨ah,1,none⟩)/\σ_ 124=jV (w64 (aa + am))/\σ_ 125=jV bz/\σ_ 126=.slice dK ([bz].length) eE/\σ_ 128=.pointer (some ⟨b7,2,none⟩)/\PHeap.Le be U_/\SW w [B1] U U_ [.blk ab 67 [.slice dH aq.bytes.length eA,jV aq.next,.int .u32 aq.state],.blk ah 62 ao,B7,ak,aY,.blk b3 28 B0,au,bb,.row dI eB 62 3 (nA wAB [(⟨(⟨aa,w64 (aa + am)⟩:wAI),ap⟩:wAK)]),.row dJ eD 62 3 (nA wAB aV),.row dK eE 3 1 (nA KL.encI [bz])] w_/\Sl U_ 1 dH eA aq.bytes.length (nA KL.encB8 aq.bytes)) ?_ fun Gi=>?_
 rintro Js HW ⟨mg,dH,eA,dI,eB,dJ,eD,dK,eE,uY,uZ,u0,u3,u4,IB,u5,u6,u7,u9,va,vc,vd,ve,vg,vh,vi,vj,vk,vm,vo,vp,pg,vq,Gp,qU,Bs⟩
 refine Zq (j:=7) (enc:=KL.encI) (xs:=bg) (ys:=[bz]) (zs:=cS) rfl rfl rfl rfl rfl yF wId rfl rfl rfl rfl rfl rfl qU rfl ve pg (qU.srcR (j:=10) rfl (by decide) (wAC (f:=KL.encI) (sz:=1) (fun _=>rfl) [bz])) (fun _=>rfl) (fun _=>rfl) CL rfl ?_
 intro k8 n8 sT CX
 have CY:SW w [B1] U mg [.blk ab 67 [.slice dH aq.bytes.length eA,jV aq.next,.int .u32 aq.state],.blk ah 62 ao,B7,ak,aY,.blk b3 28 B0,au,.row k8 n8 3 1 (nA KL.encI cS),.row dI eB 62 3 (nA wAB [(⟨(⟨aa,w64 (aa + am)⟩:wAI),ap⟩:wAK)]),.row dJ eD 62 3 (nA wAB aV),.row dK eE 3 1 (nA KL.encI [bz])] sT:=CX
 exact Gg _ _ ⟨mg,dH,eA,dI,eB,dJ,eD,dK,eE,k8,n8,uY,uZ,u0,u3,u4,u5,u6,u7,u9,va,vc,vd,vg,vh,vi,vj,vk,vm,vo,vp,pg,rfl,vq,Gp,(CY.pick [0,1,2,3,4,5,6,8,9,10,7] _ (by decide) rfl),Bs⟩
 refine yv (s:=gBb) (M:=fun σ_ w_=>∃ (U_:PHeap) (dL:Option Addr) (eF:Nat) (dM:Option Addr) (eG:Nat) (dN:Option Addr) (eH:Nat),σ_ 0=.pointer (some ⟨ab,0,none⟩)/\σ_ 3=jV p3/\σ_ 8=.pointer (some ⟨b3,0,none⟩)/\σ_ 11=.pointer (some ⟨b7,0,none⟩)/\σ_ 12=.slice bp bA.length bq/\σ_ 13=.slice bh bg.length bi/\σ_ 21=.pointer (some ⟨ah,0,none⟩)/\σ_ 98=jV bC/\σ_ 99=jV (↑bu:Int)/\σ_ 112=.pointer (some ⟨b7,2,none⟩)/\σ_ 114=.agg ao.toArray/\σ_ 115=.slice dM ([(⟨(⟨aa,w64 (aa + am)⟩:wAI),ap⟩:wAK)].length) eG/\σ_ 116=.slice dN aV.length eH/\σ_ 117=.slice bh bg.length bi/\σ_ 118=.pointer (some ⟨ab,0,none⟩)/\σ_ 119=.pointer (some ⟨ah,0,none⟩)/\σ_ 120=.pointer (some ⟨ah,0,none⟩)/\σ_ 121=jV aa/\σ_ 122=.pointer (some ⟨ah,0,none⟩)/\σ_ 123=.pointer (some ⟨ah,1,none⟩)/\σ_ 124=jV (w64 (aa + am))/\σ_ 125=jV bz/\σ_ 128=.pointer (some ⟨b7,2,none⟩)/\PHeap.Le be U_/\SW w [B1] U U_ [.blk ab 67 [.slice dL aq.bytes.length eF,jV aq.next,.int .u32 aq.state],.blk ah 62 ao,B7,ak,aY,.blk b3 28 B0,au,bb,.row dM eG 62 3 (nA wAB [(⟨(⟨aa,w64 (aa + am)⟩:wAI),ap⟩:wAK)]),.row dN eH 62 3 (nA wAB aV)] w_/\Sl U_ 1 dL eF aq.bytes.length (nA KL.encB8 aq.bytes)) ?_ fun sa=>?_
 rintro Jt HX ⟨mh,dL,eF,dM,eG,dN,eH,vr,vt,vu,vv,vw,vy,vz,vA,vB,vC,vD,vE,vF,vG,vH,vJ,vK,vL,vM,vN,vO,ph,vP,Gq,CZ,Bt⟩
 refine ZL (pv:=[(0,jV bz)]) (zs:=[jV 0]) (cs:=[jV bz]) Z Z Z Z Z (wAG ph wAZ) zD zC ZW Z Z Z Z Z CZ ?_
 intro sU mX C0
 have C1:SW w [B1] U mh [.row (some ⟨mX,0,none⟩) 1 3 1 (nA KL.encI [bz]),.blk ab 67 [.slice dL aq.bytes.length eF,jV aq.next,.int .u32 aq.state],.blk ah 62 ao,B7,ak,aY,.blk b3 28 B0,au,bb,.row dM eG 62 3 (nA wAB [(⟨(⟨aa,w64 (aa + am)⟩:wAI),ap⟩:wAK)]),.row dN eH 62 3 (nA wAB aV)] sU:=C0
 exact Gi _ _ ⟨mh,dL,eF,dM,eG,dN,eH,(some ⟨mX,0,none⟩),1,vr,vt,vu,vv,vw,vy,vz,vA,vB,vC,vD,vE,vF,vG,vH,vJ,vK,vL,vM,vN,vO,ph,rfl,vP,Gq,(C1.pick [1,2,3,4,5,6,7,8,9,10,0] _ (by decide) rfl),Bt⟩
 refine yv (s:=gBg) (M:=fun σ_ w_=>∃ (U_:PHeap) (dO:Option Addr) (eI:Nat) (dP:Option Addr) (eJ:Nat),σ_ 0=.pointer (some ⟨ab,0,none⟩)/\σ_ 3=jV p3/\σ_ 8=.pointer (some ⟨b3,0,none⟩)/\σ_ 11=.pointer (some ⟨b7,0,none⟩)/\σ_ 12=.slice bp bA.length bq/\σ_ 13=.slice bh bg.length bi/\σ_ 21=.pointer (some ⟨ah,0,none⟩)/\σ_ 98=jV bC/\σ_ 99=jV (↑bu:Int)/\σ_ 112=.pointer (some ⟨b7,2,none⟩)/\σ_ 114=.agg ao.toArray/\σ_ 115=.slice dO ([(⟨(⟨aa,w64 (aa + am)⟩:wAI),ap⟩:wAK)].length) eI/\σ_ 116=.slice dP aV.length eJ/\σ_ 117=.slice bh bg.length bi/\σ_ 118=.pointer (some ⟨ab,0,none⟩)/\σ_ 119=.pointer (some ⟨ah,0,none⟩)/\σ_ 120=.pointer (some ⟨ah,0,none⟩)/\σ_ 121=jV aa/\σ_ 122=.pointer (some ⟨ah,0,none⟩)/\σ_ 123=.pointer (some ⟨ah,1,none⟩)/\σ_ 124=jV (w64 (aa + am))/\σ_ 128=.pointer (some ⟨b7,2,none⟩)/\PHeap.Le be U_/\SW w [B1] U U_ [.blk ah 62 ao,bm,B7,ak,aY,.blk b3 28 B0,au,bb,.row dO eI 62 3 (nA wAB [(⟨(⟨aa,w64 (aa + am)⟩:wAI),ap⟩:wAK)]),.row dP eJ 62 3 (nA wAB aV)] w_) ?_ fun gO=>?_
 rintro Ju mF ⟨mi,dO,eI,dP,eJ,vQ,vR,vS,vT,vU,vV,vW,vX,vY,vZ,wa,wb,wc,wd,pj,we,wg,pk,wh,wi,pn,wj,sf,C2⟩
 have Bu:=qP.le sf
 let lS:Res:=.row dO eI 62 3 (nA wAB [(⟨(⟨aa,w64 (aa + am)⟩:wAI),ap⟩:wAK)])
 let lT:Res:=.row dP eJ 62 3 (nA wAB aV)
 have C3:SW w [B1] U mi [bm,.blk ah 62 ao,B7,ak,aY,.blk b3 28 B0,au,bb,lS,lT] mF:=C2.pick [1,0,2,3,4,5,6,7,8,9] _ (by decide) rfl
 refine zL 1 Z Z Z Z (zK Z Z Tryz.call13 (zB pj (zB pk (zB pn zM))) Z) C3 (fun hs=>wAt fB ab ip i5 aa (w64 (aa + am)) mF mi hs Bu qQ) (.inl Z) ?_
 rintro mj Hq IN sV Gr C4 ⟨k9,n9,rfl,rfl,Bv⟩
 have C5:SW w [B1] U mj [.blk ab 67 [.slice k9 aq.bytes.length n9,jV aq.next,.int .u32 aq.state],.blk ah 62 ao,B7,ak,aY,.blk b3 28 B0,au,bb,lS,lT] sV:=C4
 exact sa _ _ ⟨mj,k9,n9,dO,eI,dP,eJ,vQ,vR,vS,vT,vU,vV,vW,vX,vY,vZ,wa,wb,wc,wd,pj,we,wg,pk,wh,wi,pn,Z,wj,(sf.trans Gr),C5,Bv⟩
 refine yv (s:=.fl 16 gBg) (M:=fun σ_ w_=>∃ (U_:PHeap) (dQ:Option Addr) (eK:Nat) (dR:Option Addr) (eL:Nat),σ_ 0=.pointer (some ⟨ab,0,none⟩)/\σ_ 3=jV p3/\σ_ 8=.pointer (some ⟨b3,0,none⟩)/\σ_ 11=.pointer (some ⟨b7,0,none⟩)/\σ_ 12=.slice bp bA.length bq/\σ_ 13=.slice bh bg.length bi/\σ_ 21=.pointer (some ⟨ah,0,none⟩)/\σ_ 98=jV bC/\σ_ 99=jV (↑bu:Int)/\σ_ 112=.pointer (some ⟨b7,2,none⟩)/\σ_ 114=.agg ao.toArray/\σ_ 115=.slice dQ ([(⟨(⟨aa,w64 (aa + am)⟩:wAI),ap⟩:wAK)].length) eK/\σ_ 116=.slice dR aV.length eL/\σ_ 117=.slice bh bg.length bi/\σ_ 118=.pointer (some ⟨ab,0,none⟩)/\σ_ 119=.pointer (some ⟨ah,0,none⟩)/\σ_ 120=.pointer (some ⟨ah,0,none⟩)/\σ_ 121=jV aa/\σ_ 122=.pointer (some ⟨ah,0,none⟩)/\σ_ 123=.pointer (some ⟨ah,1,none⟩)/\σ_ 124=jV (w64 (aa + am))/\PHeap.Le be U_/\SW w [B1] U U_ [.blk ah 62 ao,bm,B7,ak,aY,.blk b3 28 B0,au,bb,.row dQ eK 62 3 (nA wAB [(⟨(⟨aa,w64 (aa + am)⟩:wAI),ap⟩:wAK)]),.row dR eL 62 3 (nA wAB aV)] w_) ?_ fun Gj=>?_
 rintro Jv mG ⟨mn,dQ,eK,dR,eL,wk,wm,wn,po,wo,wp,wq,wr,wu,wv,ww,wx,wy,wz,pp,wA,wB,pq,wC,wD,pu,sg,C7⟩
 refine oR Z (zF Z po zW Z Zs) ?_
 have Bw:=qP.le sg
 let lU:Res:=.row dQ eK 62 3 (nA wAB [(⟨(⟨aa,w64 (aa + am)⟩:wAI),ap⟩:wAK)])
 let lV:Res:=.row dR eL 62 3 (nA wAB aV)
 have C8:SW w [B1] U mn [bm,.blk ah 62 ao,B7,ak,aY,.blk b3 28 B0,au,bb,lU,lV] mG:=C7.pick [1,0,2,3,4,5,6,7,8,9] _ (by decide) rfl
 refine zL 1 Z Z Z Z (zK Z Z Tryz.call13 (zB pp (zB pq (zB pu zM))) Z) C8 (fun hs=>wAt fB ab ip i5 aa (w64 (aa + am)) mG mn hs Bw qQ) (.inl Z) ?_
 rintro mo Hr IP sY Gs C9 ⟨lc,oa,rfl,rfl,Bz⟩
 have Da:SW w [B1] U mo [.blk ab 67 [.slice lc aq.bytes.length oa,jV aq.next,.int .u32 aq.state],.blk ah 62 ao,B7,ak,aY,.blk b3 28 B0,au,bb,lU,lV] sY:=C9
 exact sa _ _ ⟨mo,lc,oa,dQ,eK,dR,eL,wk,wm,wn,po,wo,wp,wq,wr,wu,wv,ww,wx,wy,wz,pp,wA,wB,pq,wC,wD,pu,Z,Z,(sg.trans Gs),Da,Bz⟩
 refine yv (s:=.fl 16 gBk) (M:=fun σ_ w_=>∃ (U_:PHeap) (fE:Option Addr) (gh:Nat) (fG:Option Addr) (gi:Nat),σ_ 0=.pointer (some ⟨ab,0,none⟩)/\σ_ 3=jV p3/\σ_ 8=.pointer (some ⟨b3,0,none⟩)/\σ_ 11=.pointer (some ⟨b7,0,none⟩)/\σ_ 12=.slice bp bA.length bq/\σ_ 13=.slice bh bg.length bi/\σ_ 21=.pointer (some ⟨ah,0,none⟩)/\σ_ 98=jV bC/\σ_ 99=jV (↑bu:Int)/\σ_ 112=.pointer (some ⟨b7,2,none⟩)/\σ_ 114=.agg ao.toArray/\σ_ 115=.slice fE ([(⟨(⟨aa,w64 (aa + am)⟩:wAI),ap⟩:wAK)].length) gh/\σ_ 116=.slice fG aV.length gi/\σ_ 117=.slice bh bg.length bi/\σ_ 118=.pointer (some ⟨ab,0,none⟩)/\σ_ 119=.pointer (some ⟨ah,0,none⟩)/\σ_ 120=.pointer (some ⟨ah,0,none⟩)/\σ_ 122=.pointer (some ⟨ah,0,none⟩)/\σ_ 123=.pointer (some ⟨ah,1,none⟩)/\σ_ 124=jV (w64 (aa + am))/\PHeap.Le be U_/\SW w [B1] U U_ [.blk ah 62 ao,bm,B7,ak,aY,.blk b3 28 B0,au,bb,.row fE gh 62 3 (nA wAB [(⟨(⟨aa,w64 (aa + am)⟩:wAI),ap⟩:wAK)]),.row fG gi 62 3 (nA wAB aV)] w_) ?_ fun Gk=>?_
 rintro Jw HZ ⟨sI,fE,gh,fG,gi,wE,wG,wH,py,wI,wJ,wK,wL,wM,wN,wO,wP,wQ,wR,wS,wU,pz,wV,wW,wX,Gt,qV⟩
 exact oR Z (zF Z py zW Z Zs) (Zl Z Z Z Z (qV.ldB (j:=0) Z Z pz zG (v:=jV aa) Z) (gO _ _ ⟨sI,fE,gh,fG,gi,wE,wG,wH,py,wI,wJ,wK,wL,wM,wN,wO,wP,wQ,wR,wS,wU,pz,Z,wV,wW,wX,Z,Gt,qV⟩))
 refine yv (s:=gBl) (M:=fun σ_ w_=>∃ (U_:PHeap) (dS:Option Addr) (eM:Nat),σ_ 0=.pointer (some ⟨ab,0,none⟩)/\σ_ 3=jV p3/\σ_ 8=.pointer (some ⟨b3,0,none⟩)/\σ_ 11=.pointer (some ⟨b7,0,none⟩)/\σ_ 12=.slice bp bA.length bq/\σ_ 13=.slice bh bg.length bi/\σ_ 21=.pointer (some ⟨ah,0,none⟩)/\σ_ 98=jV bC/\σ_ 99=jV (↑bu:Int)/\σ_ 112=.pointer (some ⟨b7,2,none⟩)/\σ_ 113=.slice bP bE.length bR/\σ_ 114=.agg ao.toArray/\σ_ 115=.slice dS ([(⟨(⟨aa,w64 (aa + am)⟩:wAI),ap⟩:wAK)].length) eM/\σ_ 117=.slice bh bg.length bi/\σ_ 118=.pointer (some ⟨ab,0,none⟩)/\σ_ 119=.pointer (some ⟨ah,0,none⟩)/\σ_ 120=.pointer (some ⟨ah,0,none⟩)/\σ_ 121=jV aa/\σ_ 122=.pointer (some ⟨ah,0,none⟩)/\σ_ 123=.pointer (some ⟨ah,1,none⟩)/\σ_ 124=jV (w64 (aa + am))/\PHeap.Le be U_/\SW w [B1] U U_ [.blk ah 62 ao,bm,B7,ak,bK,aY,.blk b3 28 B0,au,bb,.row dS eM 62 3 (nA wAB [(⟨(⟨aa,w64 (aa + am)⟩:wAI),ap⟩:wAK)])] w_) ?_ fun jM=>?_
 rintro Jx H0 ⟨mr,dS,eM,wY,wZ,w5,w6,w7,w8,w9,xa,xb,xc,xd,xe,pB,xf,xg,xh,xi,xj,xk,xl,xm,Gu,qW⟩
 refine Zq (j:=4) (enc:=wAB) (xs:=bE) (ys:=[(⟨(⟨aa,w64 (aa + am)⟩:wAI),ap⟩:wAK)]) (zs:=aV) rfl rfl rfl rfl rfl Tryz.underlying25 wMr rfl rfl rfl rfl rfl rfl qW rfl xd pB (qW.srcR (j:=9) rfl (by decide) (wAC (f:=wAB) (sz:=3) (fun _=>rfl) [(⟨(⟨aa,w64 (aa + am)⟩:wAI),ap⟩:wAK)])) (fun _=>rfl) (fun _=>rfl) gK rfl ?_
 intro lg oc sZ Dc
 have Dd:SW w [B1] U mr [.blk ah 62 ao,bm,B7,ak,.row lg oc 62 3 (nA wAB aV),aY,.blk b3 28 B0,au,bb,.row dS eM 62 3 (nA wAB [(⟨(⟨aa,w64 (aa + am)⟩:wAI),ap⟩:wAK)])] sZ:=Dc
 exact Gj _ _ ⟨mr,dS,eM,lg,oc,wY,wZ,w5,w6,w7,w8,w9,xa,xb,xc,xe,pB,rfl,xf,xg,xh,xi,xj,xk,xl,xm,Gu,(Dd.pick [0,1,2,3,5,6,7,8,9,4] _ (by decide) rfl)⟩
 refine yv (s:=.fl 16 gBj) (M:=fun σ_ w_=>∃ (U_:PHeap) (fH:Option Addr) (gj:Nat) (fJ:Option Addr) (gm:Nat),σ_ 0=.pointer (some ⟨ab,0,none⟩)/\σ_ 3=jV p3/\σ_ 8=.pointer (some ⟨b3,0,none⟩)/\σ_ 11=.pointer (some ⟨b7,0,none⟩)/\σ_ 12=.slice bp bA.length bq/\σ_ 13=.slice bh bg.length bi/\σ_ 21=.pointer (some ⟨ah,0,none⟩)/\σ_ 98=jV bC/\σ_ 99=jV (↑bu:Int)/\σ_ 112=.pointer (some ⟨b7,2,none⟩)/\σ_ 114=.agg ao.toArray/\σ_ 115=.slice fH ([(⟨(⟨aa,w64 (aa + am)⟩:wAI),ap⟩:wAK)].length) gj/\σ_ 116=.slice fJ aV.length gm/\σ_ 117=.slice bh bg.length bi/\σ_ 118=.pointer (some ⟨ab,0,none⟩)/\σ_ 119=.pointer (some ⟨ah,0,none⟩)/\σ_ 120=.pointer (some ⟨ah,0,none⟩)/\σ_ 121=jV aa/\σ_ 122=.pointer (some ⟨ah,0,none⟩)/\σ_ 123=.pointer (some ⟨ah,1,none⟩)/\PHeap.Le be U_/\SW w [B1] U U_ [.blk ah 62 ao,bm,B7,ak,aY,.blk b3 28 B0,au,bb,.row fH gj 62 3 (nA wAB [(⟨(⟨aa,w64 (aa + am)⟩:wAI),ap⟩:wAK)]),.row fJ gm 62 3 (nA wAB aV)] w_) ?_ fun Gl=>?_
 rintro Jy H1 ⟨sJ,fH,gj,fJ,gm,xn,xo,xp,pC,xq,xr,xt,xu,xw,xx,xz,xA,xB,xC,xD,xE,xF,xG,xH,pD,Gx,qX⟩
 exact oR Z (zF Z pC zW Z Zs) (Zl Z Z Z Z (qX.ldB (j:=0) Z Z pD zG (v:=jV (w64 (aa + am))) Z) (gO _ _ ⟨sJ,fH,gj,fJ,gm,xn,xo,xp,pC,xq,xr,xt,xu,xw,xx,xz,xA,xB,xC,xD,xE,xF,xG,xH,pD,Z,Z,Gx,qX⟩))
 refine yv (s:=gBo) (M:=fun σ_ w_=>∃ (U_:PHeap),σ_ 0=.pointer (some ⟨ab,0,none⟩)/\σ_ 3=jV p3/\σ_ 8=.pointer (some ⟨b3,0,none⟩)/\σ_ 11=.pointer (some ⟨b7,0,none⟩)/\σ_ 12=.slice bp bA.length bq/\σ_ 13=.slice bh bg.length bi/\σ_ 21=.pointer (some ⟨ah,0,none⟩)/\σ_ 98=jV bC/\σ_ 99=jV (↑bu:Int)/\σ_ 112=.pointer (some ⟨b7,2,none⟩)/\σ_ 113=.slice bP bE.length bR/\σ_ 114=.agg ao.toArray/\σ_ 117=.slice bh bg.length bi/\σ_ 118=.pointer (some ⟨ab,0,none⟩)/\σ_ 119=.pointer (some ⟨ah,0,none⟩)/\σ_ 120=.pointer (some ⟨ah,0,none⟩)/\σ_ 121=jV aa/\σ_ 122=.pointer (some ⟨ah,0,none⟩)/\σ_ 123=.pointer (some ⟨ah,1,none⟩)/\σ_ 124=jV (w64 (aa + am))/\PHeap.Le be U_/\SW w [B1] U U_ [.blk ah 62 ao,bm,B7,ak,bK,aY,.blk b3 28 B0,au,bb] w_) ?_ fun sb=>?_
 rintro Jz H2 ⟨ms,xI,xJ,xK,xL,xM,xN,xO,xP,xR,xS,xT,pE,xU,xV,xW,xX,xY,xZ,x7,y4,Gy,Df⟩
 refine ZL (pv:=[(0,.agg ao.toArray)]) (zs:=da) (cs:=ao) Z Z Z Z Z (wAG pE wAZ) ZZ Zx yk Z Z Z Z Z Df ?_
 intro s5 mY Dg
 have Dh:SW w [B1] U ms [.row (some ⟨mY,0,none⟩) 1 62 3 (nA wAB [(⟨(⟨aa,w64 (aa + am)⟩:wAI),ap⟩:wAK)]),.blk ah 62 ao,bm,B7,ak,bK,aY,.blk b3 28 B0,au,bb] s5:=Dg
 exact jM _ _ ⟨ms,(some ⟨mY,0,none⟩),1,xI,xJ,xK,xL,xM,xN,xO,xP,xR,xS,xT,pE,rfl,xU,xV,xW,xX,xY,xZ,x7,y4,Gy,(Dh.pick [1,2,3,4,5,6,7,8,9,0] _ (by decide) rfl)⟩
 refine yv (s:=gBq) (M:=fun σ_ w_=>∃ (U_:PHeap) (cV:Option Addr) (dg:Nat),σ_ 0=.pointer (some ⟨ab,0,none⟩)/\σ_ 3=jV p3/\σ_ 8=.pointer (some ⟨b3,0,none⟩)/\σ_ 11=.pointer (some ⟨b7,0,none⟩)/\σ_ 12=.slice bp bA.length bq/\σ_ 13=.slice bh bg.length bi/\σ_ 21=.pointer (some ⟨ah,0,none⟩)/\σ_ 98=jV bC/\σ_ 99=jV (↑bu:Int)/\σ_ 112=.pointer (some ⟨b7,2,none⟩)/\σ_ 113=.slice bP bE.length bR/\σ_ 114=.agg ao.toArray/\σ_ 115=.slice cV ([(⟨(⟨aa,w64 (aa + am)⟩:wAI),ap⟩:wAK)].length) dg/\σ_ 117=.slice bh bg.length bi/\σ_ 118=.pointer (some ⟨ab,0,none⟩)/\σ_ 119=.pointer (some ⟨ah,0,none⟩)/\σ_ 120=.pointer (some ⟨ah,0,none⟩)/\σ_ 122=.pointer (some ⟨ah,0,none⟩)/\σ_ 123=.pointer (some ⟨ah,1,none⟩)/\σ_ 124=jV (w64 (aa + am))/\PHeap.Le be U_/\SW w [B1] U U_ [.blk ah 62 ao,bm,B7,ak,bK,aY,.blk b3 28 B0,au,bb,.row cV dg 62 3 (nA wAB [(⟨(⟨aa,w64 (aa + am)⟩:wAI),ap⟩:wAK)])] w_) ?_ fun sc=>?_
 rintro JA H3 ⟨iD,cV,dg,pF,pG,pH,pI,pJ,pK,pL,pM,pN,pO,pP,pQ,i6,pR,pS,pT,i7,pU,pV,pY,sh,gM⟩
 refine yC ?_ ?_
 refine Zq (j:=4) (enc:=wAB) (xs:=bE) (ys:=[(⟨(⟨aa,w64 (aa + am)⟩:wAI),ap⟩:wAK)]) (zs:=aV) rfl rfl rfl rfl rfl Tryz.underlying25 wMr rfl rfl rfl rfl rfl rfl gM rfl pP i6 (gM.srcR (j:=9) rfl (by decide) (wAC (f:=wAB) (sz:=3) (fun _=>rfl) [(⟨(⟨aa,w64 (aa + am)⟩:wAI),ap⟩:wAK)])) (fun _=>rfl) (fun _=>rfl) gK rfl ?_
 intro lh oe s6 Di
 have Dj:SW w [B1] U iD [.blk ah 62 ao,bm,B7,ak,.row lh oe 62 3 (nA wAB aV),aY,.blk b3 28 B0,au,bb,.row cV dg 62 3 (nA wAB [(⟨(⟨aa,w64 (aa + am)⟩:wAI),ap⟩:wAK)])] s6:=Di
 exact Gk _ _ ⟨iD,cV,dg,lh,oe,pF,pG,pH,pI,pJ,pK,pL,pM,pN,pO,pQ,i6,rfl,pR,pS,pT,i7,pU,pV,pY,sh,(Dj.pick [0,1,2,3,5,6,7,8,9,4] _ (by decide) rfl)⟩
 exact Zl Z Z Z Z (gM.ldB (j:=0) Z Z i7 zG (v:=jV aa) Z) (jM _ _ ⟨iD,cV,dg,pF,pG,pH,pI,pJ,pK,pL,pM,pN,pO,pP,pQ,i6,pR,pS,pT,i7,Z,pU,pV,pY,sh,gM⟩)
 refine yv (s:=gBp) (M:=fun σ_ w_=>∃ (U_:PHeap) (cW:Option Addr) (dh:Nat),σ_ 0=.pointer (some ⟨ab,0,none⟩)/\σ_ 3=jV p3/\σ_ 8=.pointer (some ⟨b3,0,none⟩)/\σ_ 11=.pointer (some ⟨b7,0,none⟩)/\σ_ 12=.slice bp bA.length bq/\σ_ 13=.slice bh bg.length bi/\σ_ 21=.pointer (some ⟨ah,0,none⟩)/\σ_ 98=jV bC/\σ_ 99=jV (↑bu:Int)/\σ_ 112=.pointer (some ⟨b7,2,none⟩)/\σ_ 113=.slice bP bE.length bR/\σ_ 114=.agg ao.toArray/\σ_ 115=.slice cW ([(⟨(⟨aa,w64 (aa + am)⟩:wAI),ap⟩:wAK)].length) dh/\σ_ 117=.slice bh bg.length bi/\σ_ 118=.pointer (some ⟨ab,0,none⟩)/\σ_ 119=.pointer (some ⟨ah,0,none⟩)/\σ_ 120=.pointer (some ⟨ah,0,none⟩)/\σ_ 121=jV aa/\σ_ 122=.pointer (some ⟨ah,0,none⟩)/\σ_ 123=.pointer (some ⟨ah,1,none⟩)/\PHeap.Le be U_/\SW w [B1] U U_ [.blk ah 62 ao,bm,B7,ak,bK,aY,.blk b3 28 B0,au,bb,.row cW dh 62 3 (nA wAB [(⟨(⟨aa,w64 (aa + am)⟩:wAI),ap⟩:wAK)])] w_) ?_ fun sd=>?_
 rintro JB H4 ⟨iE,cW,dh,pZ,p6,p7,p8,p9,qa,qb,qc,qd,qe,qf,qh,i8,qi,qj,qk,qm,qn,qo,i9,sj,gN⟩
 refine yC ?_ ?_
 refine Zq (j:=4) (enc:=wAB) (xs:=bE) (ys:=[(⟨(⟨aa,w64 (aa + am)⟩:wAI),ap⟩:wAK)]) (zs:=aV) rfl rfl rfl rfl rfl Tryz.underlying25 wMr rfl rfl rfl rfl rfl rfl gN rfl qf i8 (gN.srcR (j:=9) rfl (by decide) (wAC (f:=wAB) (sz:=3) (fun _=>rfl) [(⟨(⟨aa,w64 (aa + am)⟩:wAI),ap⟩:wAK)])) (fun _=>rfl) (fun _=>rfl) gK rfl ?_
 intro lj og s8 Dl
 have Dm:SW w [B1] U iE [.blk ah 62 ao,bm,B7,ak,.row lj og 62 3 (nA wAB aV),aY,.blk b3 28 B0,au,bb,.row cW dh 62 3 (nA wAB [(⟨(⟨aa,w64 (aa + am)⟩:wAI),ap⟩:wAK)])] s8:=Dl
 exact Gl _ _ ⟨iE,cW,dh,lj,og,pZ,p6,p7,p8,p9,qa,qb,qc,qd,qe,qh,i8,rfl,qi,qj,qk,qm,qn,qo,i9,sj,(Dm.pick [0,1,2,3,5,6,7,8,9,4] _ (by decide) rfl)⟩
 exact Zl Z Z Z Z (gN.ldB (j:=0) Z Z i9 zG (v:=jV (w64 (aa + am))) Z) (jM _ _ ⟨iE,cW,dh,pZ,p6,p7,p8,p9,qa,qb,qc,qd,qe,qf,qh,i8,qi,qj,qk,qm,qn,qo,i9,Z,sj,gN⟩)
 refine oR Z (zF Z bS zW Z Zs) (oL Z (bM.ldB (j:=5) Z Z Z yZ (v:=.slice bP bE.length bR) Z) (oL Z (bM.ldBA (j:=0) Z Z Z Tryz.isAgg62 Zx (vs:=ao) Z Z) (oM Z cd (oM Z bL (oR Z (zF Z Z yD Z Za) (oR Z (zF Z Z ZI Z zC) (oR Z (zF Z Z yD Z Za) (oR Z (zF Z Z ZI Z zC) (yC ?_ ?_)))))))))
 refine ZL (pv:=[(0,.agg ao.toArray)]) (zs:=da) (cs:=ao) Z Z Z Z Z (wAG Z wAZ) ZZ Zx yk Z Z Z Z Z bM ?_
 intro ta ef Dn
 let lW:Res:=.row (some ⟨ef,0,none⟩) 1 62 3 (nA wAB [(⟨(⟨aa,w64 (aa + am)⟩:wAI),ap⟩:wAK)])
 have dw:SW w [B1] U be [lW,.blk ah 62 ao,bm,B7,ak,bK,aY,.blk b3 28 B0,au,bb] ta:=Dn
 refine yC ?_ ?_
 refine Zq (j:=5) (enc:=wAB) (xs:=bE) (ys:=[(⟨(⟨aa,w64 (aa + am)⟩:wAI),ap⟩:wAK)]) (zs:=aV) rfl rfl rfl rfl rfl Tryz.underlying25 wMr rfl rfl rfl rfl rfl rfl dw rfl rfl rfl (dw.srcR (j:=0) rfl (by decide) (wAC (f:=wAB) (sz:=3) (fun _=>rfl) [(⟨(⟨aa,w64 (aa + am)⟩:wAI),ap⟩:wAK)])) (fun _=>rfl) (fun _=>rfl) gK rfl ?_
 intro ii iV tc Do
 have dx:SW w [B1] U be [lW,.blk ah 62 ao,bm,B7,ak,.row ii iV 62 3 (nA wAB aV),aY,.blk b3 28 B0,au,bb] tc:=Do
 refine oR Z (zF Z bS zW Z Zs) (yC ?_ ?_)
 exact Zl rfl rfl rfl rfl (dx.ldB (j:=1) rfl rfl rfl zG (v:=jV aa) rfl) (Zl rfl rfl rfl rfl (dx.ldB (j:=1) rfl rfl rfl zG (v:=jV (w64 (aa + am))) rfl) (gO _ _ ⟨be,(some ⟨ef,0,none⟩),1,ii,iV,bL,cw,cx,bS,cy,cd,rfl,cg,ci,rfl,rfl,rfl,rfl,rfl,rfl,rfl,rfl,rfl,rfl,rfl,rfl,rfl,(zN _),(dx.pick [1,2,3,4,6,7,8,9,0,5] _ (by decide) rfl)⟩))
 exact Zl rfl rfl rfl rfl (dx.ldB (j:=1) rfl rfl rfl zG (v:=jV (w64 (aa + am))) rfl) (Zl rfl rfl rfl rfl (dx.ldB (j:=1) rfl rfl rfl zG (v:=jV aa) rfl) (gO _ _ ⟨be,(some ⟨ef,0,none⟩),1,ii,iV,bL,cw,cx,bS,cy,cd,rfl,cg,ci,rfl,rfl,rfl,rfl,rfl,rfl,rfl,rfl,rfl,rfl,rfl,rfl,rfl,(zN _),(dx.pick [1,2,3,4,6,7,8,9,0,5] _ (by decide) rfl)⟩))
 refine yC ?_ ?_
 exact Zl rfl rfl rfl rfl (dw.ldB (j:=1) rfl rfl rfl zG (v:=jV aa) rfl) (sd _ _ ⟨be,(some ⟨ef,0,none⟩),1,bL,cw,cx,bS,cy,cd,rfl,cg,ci,rfl,rfl,rfl,rfl,rfl,rfl,rfl,rfl,rfl,rfl,rfl,(zN _),(dw.pick [1,2,3,4,5,6,7,8,9,0] _ (by decide) rfl)⟩)
 exact Zl rfl rfl rfl rfl (dw.ldB (j:=1) rfl rfl rfl zG (v:=jV (w64 (aa + am))) rfl) (sc _ _ ⟨be,(some ⟨ef,0,none⟩),1,bL,cw,cx,bS,cy,cd,rfl,cg,ci,rfl,rfl,rfl,rfl,rfl,rfl,rfl,rfl,rfl,rfl,rfl,(zN _),(dw.pick [1,2,3,4,5,6,7,8,9,0] _ (by decide) rfl)⟩)
 refine yC ?_ ?_
 refine Zl Z Z Z Z (bM.ldB (j:=0) Z Z Z zG (v:=jV aa) Z) (yC ?_ ?_)
 refine ZL (pv:=[(0,.agg ao.toArray)]) (zs:=da) (cs:=ao) Z Z Z Z Z (wAG Z wAZ) ZZ Zx yk Z Z Z Z Z bM ?_
 intro td mZ Dq
 have Dr:SW w [B1] U be [.row (some ⟨mZ,0,none⟩) 1 62 3 (nA wAB [(⟨(⟨aa,w64 (aa + am)⟩:wAI),ap⟩:wAK)]),.blk ah 62 ao,bm,B7,ak,bK,aY,.blk b3 28 B0,au,bb] td:=Dq
 exact sd _ _ ⟨be,(some ⟨mZ,0,none⟩),1,bL,cw,cx,bS,cy,cd,rfl,cg,ci,rfl,rfl,rfl,rfl,rfl,rfl,rfl,rfl,rfl,rfl,rfl,(zN _),(Dr.pick [1,2,3,4,5,6,7,8,9,0] _ (by decide) rfl)⟩
 exact Zl Z Z Z Z (bM.ldB (j:=0) Z Z Z zG (v:=jV (w64 (aa + am))) Z) (sb _ _ ⟨be,bL,cw,cx,bS,cy,cd,Z,cg,ci,Z,Z,Z,Z,Z,Z,Z,Z,Z,Z,Z,(zN _),bM⟩)
 refine Zl Z Z Z Z (bM.ldB (j:=0) Z Z Z zG (v:=jV (w64 (aa + am))) Z) (yC ?_ ?_)
 refine ZL (pv:=[(0,.agg ao.toArray)]) (zs:=da) (cs:=ao) Z Z Z Z Z (wAG Z wAZ) ZZ Zx yk Z Z Z Z Z bM ?_
 intro tf m4 Ds
 have Dt:SW w [B1] U be [.row (some ⟨m4,0,none⟩) 1 62 3 (nA wAB [(⟨(⟨aa,w64 (aa + am)⟩:wAI),ap⟩:wAK)]),.blk ah 62 ao,bm,B7,ak,bK,aY,.blk b3 28 B0,au,bb] tf:=Ds
 exact sc _ _ ⟨be,(some ⟨m4,0,none⟩),1,bL,cw,cx,bS,cy,cd,rfl,cg,ci,rfl,rfl,rfl,rfl,rfl,rfl,rfl,rfl,rfl,rfl,rfl,(zN _),(Dt.pick [1,2,3,4,5,6,7,8,9,0] _ (by decide) rfl)⟩
 exact Zl Z Z Z Z (bM.ldB (j:=0) Z Z Z zG (v:=jV aa) Z) (sb _ _ ⟨be,bL,cw,cx,bS,cy,cd,Z,cg,ci,Z,Z,Z,Z,Z,Z,Z,Z,Z,Z,Z,(zN _),bM⟩)
 rintro JC tg ⟨sK,sD,uh,bV,bY,cX,dm,Bj,qp,y5,y6,y7,y8,y9,z6,GA,Dv,BD⟩
 have ui:Hid (¬ ((↑((bC:Int) - 0).toNat:Int) < bC)):=zH (wAq)
 refine sR fL1 Z (oR Z (zV Z Bj z6) (eN (zJ (cF Z ui (ZH (zZ (zZ (zx (zI (zJ (sR (wEQ gAj) Z (oM Z qp (oM Z y5 (oR Z (zU Z Z Z) ?_))))))))))))))
 have q:=bnd rP
 obtain ⟨⟨dA,jQ⟩,BE,rA⟩:=q
 try dsimp only at rA
 refine zL 1 Z Z Z Z (zK Z Z yB (zB Z (zB Z zM)) Z) Dv (fun hs=>wAV (⟨Hn,Ho,Hp⟩:wAE) ab sD uh (w64 (p3 + 1)) tg sK hs BD BE) (.inl Z) ?_
 rintro sL Hv IT mI GB Dw ⟨lm,oi,rfl,rfl,BF⟩
 let av:Res:=.row bV bY 62 3 (nA wAB bB)
 let az:Res:=.row cX dm 3 1 (nA KL.encI bF)
 let lY:Res:=.blk b7 28 [.slice bj aW.length bk,.slice br aX.length bs,.slice bV bB.length bY,.slice none 0 0]
 let lZ:Res:=.blk ab 67 [.slice lm jQ.bytes.length oi,jV jQ.next,.int .u32 jQ.state]
 have Dx:SW w [B1] U sL [lZ,B7,ak,av,lY,.blk b3 28 B0,au,az] mI:=Dw
 refine oM Z Z (eN (zS ?_))
 have BH:=Cz.le GR
 have BI:=BH.le GA
 have BJ:=BI.le GB
 have q:=Dx.freezeRR (R:=wHx) (k:=6) rfl BJ rfl (by decide)
 obtain ⟨iF,GC,rX,Dy⟩:=q
 have Dz:SW w [B1] U iF [lZ,B7,ak,av,lY,.blk b3 28 B0,az] mI:=Dy
 have q:=bnd rA
 obtain ⟨⟨G0,Ha,Hb,sC⟩,Fw,rB⟩:=q
 try dsimp only at rB
 have q:=wBM Fw
 obtain ⟨jE,Fx⟩:=q
 replace jE:=zH jE
 refine CK.forN' (fun cL (cM,fw,fy,cN) σ_ w_=>∃ (U_:PHeap) (cY:Option Addr) (dp:Nat) (cr:Option Addr) (cu:Nat),σ_ 134=jV (↑cL:Int)/\σ_ 0=.pointer (some ⟨ab,0,none⟩)/\σ_ 8=.pointer (some ⟨b3,0,none⟩)/\σ_ 11=.pointer (some ⟨b7,0,none⟩)/\σ_ 12=.slice bp bA.length bq/\σ_ 13=.slice cX bF.length dm/\σ_ 133=jV dA/\PHeap.Le iF U_/\SW w [B1] U U_ [.blk ab 67 [.slice cY cM.length dp,jV fw,.int .u32 fy],B7,ak,av,.row cr cu 64 4 (nA wAM cN),.blk b7 28 [.slice bj aW.length bk,.slice br aX.length bs,.slice bV bB.length bY,.slice cr cN.length cu],.blk b3 28 B0,az] w_/\Sl U_ 1 cY dp cM.length (nA KL.encB8 cM)) Fx ?_ ?_ ?_
 have DC:=Dz.nilrow 64 4
 have BK:=BF.le GC
 exact ⟨iF,lm,oi,none,0,rfl,qp,y6,y7,y8,y9,rfl,(zN _),(DC.pick [1,2,3,4,0,5,6,7] _ (by decide) rfl),BK⟩
 rintro cL ⟨cM,fw,fy,cN⟩ Jg JD mJ jy ⟨f5,cY,dp,cr,cu,eY,cI,gD,cJ,gE,gF,eV,gQ,DD,qK⟩ rY
 try dsimp only at rY
 have oj:Hid ((↑cL:Int) < dA):=zH (wBG jy)
 replace jy:=zH jy
 have jx:Hid (w64 ((↑cL:Int) + 1)=(↑(cL + 1):Int)):=zH (by have h1:=jE.out;have h2:=oj.out;rw [wAX] <;> omega)
 refine sR fL1 Z (oR Z (zV Z eY eV) (eN (zJ (cT Z oj (kN (zJ (zS ?_)))))))
 have q:=bnd rY
 obtain ⟨⟨gP,sw,sA,cn,cQ,bw⟩,Ge,rC⟩:=q
 try dsimp only at rC
 let aZ:Res:=.blk b7 28 [.slice bj aW.length bk,.slice br aX.length bs,.slice bV bB.length bY,.slice cr cN.length cu]
 let ba:Res:=.row cr cu 64 4 (nA wAM cN)
 let ct:List Value:=[jV cn,jV cQ,jV bw,jV 0]
 refine yP (fun σ_ w_=>∃ (U_:PHeap) (fL:Option Addr) (gt:Nat) (bD:Nat),σ_ 0=.pointer (some ⟨ab,0,none⟩)/\σ_ 8=.pointer (some ⟨b3,0,none⟩)/\σ_ 11=.pointer (some ⟨b7,0,none⟩)/\σ_ 12=.slice bp bA.length bq/\σ_ 13=.slice cX bF.length dm/\σ_ 22=.pointer (some ⟨bD,0,none⟩)/\σ_ 133=jV dA/\σ_ 134=jV (↑cL:Int)/\PHeap.Le f5 U_/\SW w [B1] U U_ [.blk ab 67 [.slice fL gP.length gt,jV sw,.int .u32 sA],B7,ak,av,ba,aZ,.blk b3 28 B0,az,.blk bD 64 ct] w_/\Sl U_ 1 fL gt gP.length (nA KL.encB8 gP)) ?_ ?_
 have q:=bnd Ge
 obtain ⟨⟨cz,cp⟩,qL,rD⟩:=q
 try dsimp only at rD
 have q:=bnd rD
 obtain ⟨⟨cA,bI⟩,jk,rE⟩:=q
 try dsimp only at rE
 have q:=bnd rE
 obtain ⟨⟨cB,bN⟩,gI,fb⟩:=q
 try dsimp only at fb
 refine ZO zz [3,3,1,3,1005,3,3,1004,3,3,1005,3,3,1004,3,0,3,2,0,ab] (wDo (wQP (wUU (.fx 4 (.fx 10 (.fx 15 (.fl 16 (.fx 17 (.fx 18 .nil .stop) .stop)) (.fx 17 gAv .stop)) (.fx 17 gBc .stop)) (.fx 17 (.fx 4 gBc .stop) .stop))))) (by kernel_rfl) ?_
 have dy:=DD.drew
 generalize hw_W1963:({ mJ with drawn:=mJ.drawn + 1 }:World)=tp at dy ⊢
 refine zX rfl rfl rfl rfl rfl cI (zY rfl rfl rfl rfl (fun _=>zF rfl cJ zW rfl zk) (ZC rfl rfl rfl rfl (dy.ldB (j:=5) rfl rfl rfl zr (v:=.slice bj aW.length bk) rfl) rfl (zY rfl rfl rfl rfl (fun _=>zn rfl rfl zD) (zX rfl rfl rfl rfl rfl cI (zY rfl rfl rfl rfl (fun _=>zF rfl cJ zW rfl yK) (OKS.mt (T:=[ab]) [0] [1,2,3,4,5,6,7] [B7,ak,av,ba,aZ,.blk b3 28 B0,az] rfl rfl rfl rfl dy rfl ⟨⟨0,by decide,_,rfl,rfl⟩,trivial⟩ (by decide) rfl (by decide) (fun _ Fk=>(Fk.ldB (j:=4) rfl rfl rfl yf (v:=.slice br aX.length bs) rfl)) rfl (zY rfl rfl rfl rfl (fun _=>zn rfl rfl ZY) (zY rfl rfl rfl rfl (fun _=>zU rfl rfl rfl) (zX rfl rfl rfl rfl rfl cI (zY rfl rfl rfl rfl (fun _=>zF rfl cJ zW rfl Zs) (OKS.mt (T:=[ab]) [0] [1,2,3,4,5,6,7] [B7,ak,av,ba,aZ,.blk b3 28 B0,az] rfl rfl rfl rfl dy rfl ⟨⟨0,by decide,_,rfl,rfl⟩,trivial⟩ (by decide) rfl (by decide) (fun _ Fm=>(Fm.ldB (j:=4) rfl rfl rfl yZ (v:=.slice bV bB.length bY) rfl)) rfl (zY rfl rfl rfl rfl (fun _=>zn rfl rfl ZZ) (yC ?_ ?_)))))))))))))
 refine YC 1 rfl rfl rfl rfl (zK rfl rfl yB (zB rfl (zB rfl zM)) rfl) dy (fun hs=>wAV (⟨cM,fw,fy⟩:wAE) ab cY dp (↑aW.length:Int) tp f5 hs qK qL) rfl (T:=[ab]) rfl ⟨fun b h=>(by cases h;exact .head _),trivial⟩ ?_
 rintro f7 Hw IU mK jN DG ⟨ij,iW,rfl,rfl,qM⟩
 let l3:Res:=.blk ab 67 [.slice ij cp.bytes.length iW,jV cp.next,.int .u32 cp.state]
 have qZ:SW w [B1] U f7 [l3,B7,ak,av,ba,aZ,.blk b3 28 B0,az] mK:=DG
 refine yC ?_ ?_
 refine YC 1 rfl rfl rfl rfl (zK rfl rfl yB (zB rfl (zB rfl zM)) rfl) qZ (fun hs=>wAV cp ab ij iW (w64 ((↑aX.length:Int) + 1)) mK f7 hs qM jk) rfl (T:=[ab]) rfl ⟨fun b h=>(by cases h;exact .head _),trivial⟩ ?_
 rintro f9 Hx IV mL sm DH ⟨il,iX,rfl,rfl,qN⟩
 let l4:Res:=.blk ab 67 [.slice il bI.bytes.length iX,jV bI.next,.int .u32 bI.state]
 have rc:SW w [B1] U f9 [l4,B7,ak,av,ba,aZ,.blk b3 28 B0,az] mL:=DH
 refine yC ?_ ?_
 refine zL 1 Z Z Z Z (zK Z Z yB (zB Z (zB Z zM)) Z) rc (fun hs=>wAV bI ab il iX (↑bB.length:Int) mL f9 hs qN gI) (.inl Z) ?_
 rintro iG Hy IW tq GD DI ⟨ln,ol,rfl,rfl,BL⟩
 let l5:Res:=.blk ab 67 [.slice ln bN.bytes.length ol,jV bN.next,.int .u32 bN.state]
 have DK:SW w [B1] U iG [l5,B7,ak,av,ba,aZ,.blk b3 28 B0,az] tq:=DI
 let iv:List Value:=[jV cz,jV cA,jV cB,jV 0]
 let l6:List Value:=[jV 0,jV 0,jV 0,jV 0]
 refine oR Z (ZN (pv:=[(0,jV cz),(1,jV cA),(2,jV cB)]) (z:=l6) (cs:=iv) Z (wAG Z (wAG Z (wAG Z wAZ))) Zy wHy Z Z) (zg (cs:=l6) Z Z Z Z Z Zy Z DK ?_)
 intro H6 m5 DL
 refine zh (j:=0) (vs:=iv) Z Z Z Z DL Z Z Z Z Zt (zA Z) Z Z Z ?_
 intro tu DM
 have DN:SW w [B1] U iG [.blk m5 64 iv,l5,B7,ak,av,ba,aZ,.blk b3 28 B0,az] tu:=DM
 refine zd ?_
 cases fb
 exact zI ⟨rfl,⟨iG,ln,ol,m5,cI,gD,cJ,gE,gF,rfl,eV,eY,((jN.trans sm).trans GD),(DN.pick [1,2,3,4,5,6,7,8,0] _ (by decide) rfl),BL⟩⟩
 let fZ:List Value:=[jV 0,jV 0,jV 0,jV 0]
 refine zg (cs:=fZ) Z Z Z Z Z Zy Z rc ?_
 intro mM ge DO
 have DP:SW w [B1] U f9 [l4,.blk ge 64 fZ,B7,ak,av,ba,aZ,.blk b3 28 B0,az] mM:=DO.pick [1,0,2,3,4,5,6,7,8] _ (by decide) rfl
 refine zL 1 Z Z Z Z (zK Z Z yB (zB Z (zB Z zM)) Z) DP (fun hs=>wAV bI ab il iX (↑bB.length:Int) mM f9 hs qN gI) (.inl Z) ?_
 rintro iH Hz IX tv GE DQ ⟨ls,oq,rfl,rfl,BM⟩
 let l7:Res:=.blk ab 67 [.slice ls bN.bytes.length oq,jV bN.next,.int .u32 bN.state]
 have DR:SW w [B1] U iH [l7,.blk ge 64 fZ,B7,ak,av,ba,aZ,.blk b3 28 B0,az] tv:=DQ
 let iy:List Value:=[jV cz,jV cA,jV cB,jV 0]
 refine oR Z (ZN (pv:=[(0,jV cz),(1,jV cA),(2,jV cB)]) (z:=fZ) (cs:=iy) Z (wAG Z (wAG Z (wAG Z wAZ))) Zy wHy Z Z) (zh (j:=1) (vs:=iy) Z Z Z Z DR Z Z Z Z Zt (zA Z) Z Z Z ?_)
 intro tw DS
 have DT:SW w [B1] U iH [l7,.blk ge 64 iy,B7,ak,av,ba,aZ,.blk b3 28 B0,az] tw:=DS
 refine zd ?_
 cases fb
 exact zI ⟨rfl,⟨iH,ls,oq,ge,cI,gD,cJ,gE,gF,rfl,eV,eY,((jN.trans sm).trans GE),(DT.pick [0,2,3,4,5,6,7,8,1] _ (by decide) rfl),BM⟩⟩
 let dX:List Value:=[jV 0,jV 0,jV 0,jV 0]
 refine zg (cs:=dX) Z Z Z Z Z Zy Z qZ ?_
 intro mN eh DU
 have DV:SW w [B1] U f7 [l3,.blk eh 64 dX,B7,ak,av,ba,aZ,.blk b3 28 B0,az] mN:=DU.pick [1,0,2,3,4,5,6,7,8] _ (by decide) rfl
 refine YC 1 rfl rfl rfl rfl (zK rfl rfl yB (zB rfl (zB rfl zM)) rfl) DV (fun hs=>wAV cp ab ij iW (w64 ((↑aX.length:Int) + 1)) mN f7 hs qM jk) rfl (T:=[ab]) rfl ⟨fun b h=>(by cases h;exact .head _),trivial⟩ ?_
 rintro mu HA IY mO GF DW ⟨lu,ot,rfl,rfl,BN⟩
 have DX:SW w [B1] U mu [.blk ab 67 [.slice lu bI.bytes.length ot,jV bI.next,.int .u32 bI.state],.blk eh 64 dX,B7,ak,av,ba,aZ,.blk b3 28 B0,az] mO:=DW
 refine zL 1 Z Z Z Z (zK Z Z yB (zB Z (zB Z zM)) Z) DX (fun hs=>wAV bI ab lu ot (↑bB.length:Int) mO mu hs BN gI) (.inl Z) ?_
 rintro iI HB IZ tz GG DY ⟨lv,ou,rfl,rfl,BO⟩
 let ma:Res:=.blk ab 67 [.slice lv bN.bytes.length ou,jV bN.next,.int .u32 bN.state]
 have DZ:SW w [B1] U iI [ma,.blk eh 64 dX,B7,ak,av,ba,aZ,.blk b3 28 B0,az] tz:=DY
 let iz:List Value:=[jV cz,jV cA,jV cB,jV 0]
 refine oR Z (ZN (pv:=[(0,jV cz),(1,jV cA),(2,jV cB)]) (z:=dX) (cs:=iz) Z (wAG Z (wAG Z (wAG Z wAZ))) Zy wHy Z Z) (zh (j:=1) (vs:=iz) Z Z Z Z DZ Z Z Z Z Zt (zA Z) Z Z Z ?_)
 intro tA D0
 have D5:SW w [B1] U iI [ma,.blk eh 64 iz,B7,ak,av,ba,aZ,.blk b3 28 B0,az] tA:=D0
 refine zd ?_
 cases fb
 exact zI ⟨rfl,⟨iI,lv,ou,eh,cI,gD,cJ,gE,gF,rfl,eV,eY,((jN.trans GF).trans GG),(D5.pick [0,2,3,4,5,6,7,8,1] _ (by decide) rfl),BO⟩⟩
 let db:List Value:=[jV 0,jV 0,jV 0,jV 0]
 refine zg (cs:=db) Z Z Z Z Z Zy Z dy ?_
 intro mP df D6
 have D7:SW w [B1] U f5 [.blk ab 67 [.slice cY cM.length dp,jV fw,.int .u32 fy],.blk df 64 db,B7,ak,av,ba,aZ,.blk b3 28 B0,az] mP:=D6.pick [1,0,2,3,4,5,6,7,8] _ (by decide) rfl
 refine YC 1 rfl rfl rfl rfl (zK rfl rfl yB (zB rfl (zB rfl zM)) rfl) D7 (fun hs=>wAV (⟨cM,fw,fy⟩:wAE) ab cY dp (↑aW.length:Int) mP f5 hs qK qL) rfl (T:=[ab]) rfl ⟨fun b h=>(by cases h;exact .head _),trivial⟩ ?_
 rintro mw HD I0 mQ GH D8 ⟨lx,ow,rfl,rfl,BP⟩
 have D9:SW w [B1] U mw [.blk ab 67 [.slice lx cp.bytes.length ow,jV cp.next,.int .u32 cp.state],.blk df 64 db,B7,ak,av,ba,aZ,.blk b3 28 B0,az] mQ:=D8
 refine YC 1 rfl rfl rfl rfl (zK rfl rfl yB (zB rfl (zB rfl zM)) rfl) D9 (fun hs=>wAV cp ab lx ow (w64 ((↑aX.length:Int) + 1)) mQ mw hs BP jk) rfl (T:=[ab]) rfl ⟨fun b h=>(by cases h;exact .head _),trivial⟩ ?_
 rintro my HF I3 mR GI Ea ⟨ly,oy,rfl,rfl,BQ⟩
 have Eb:SW w [B1] U my [.blk ab 67 [.slice ly bI.bytes.length oy,jV bI.next,.int .u32 bI.state],.blk df 64 db,B7,ak,av,ba,aZ,.blk b3 28 B0,az] mR:=Ea
 refine zL 1 Z Z Z Z (zK Z Z yB (zB Z (zB Z zM)) Z) Eb (fun hs=>wAV bI ab ly oy (↑bB.length:Int) mR my hs BQ gI) (.inl Z) ?_
 rintro iJ HG I4 tB GJ Ee ⟨lz,oz,rfl,rfl,BR⟩
 let mb:Res:=.blk ab 67 [.slice lz bN.bytes.length oz,jV bN.next,.int .u32 bN.state]
 have Ef:SW w [B1] U iJ [mb,.blk df 64 db,B7,ak,av,ba,aZ,.blk b3 28 B0,az] tB:=Ee
 let iA:List Value:=[jV cz,jV cA,jV cB,jV 0]
 refine oR Z (ZN (pv:=[(0,jV cz),(1,jV cA),(2,jV cB)]) (z:=db) (cs:=iA) Z (wAG Z (wAG Z (wAG Z wAZ))) Zy wHy Z Z) (zh (j:=1) (vs:=iA) Z Z Z Z Ef Z Z Z Z Zt (zA Z) Z Z Z ?_)
 intro tC Eg
 have Eh:SW w [B1] U iJ [mb,.blk df 64 iA,B7,ak,av,ba,aZ,.blk b3 28 B0,az] tC:=Eg
 refine zd ?_
 cases fb
 exact zI ⟨rfl,⟨iJ,lz,oz,df,cI,gD,cJ,gE,gF,rfl,eV,eY,((GH.trans GI).trans GJ),(Eh.pick [0,2,3,4,5,6,7,8,1] _ (by decide) rfl),BR⟩⟩
 rintro JF mS ⟨mz,fL,gt,bD,qr,Aa,qt,qu,qv,dt,Ab,Ac,gR,eZ,BS⟩
 refine sR fL8 Z (oR Z (zF Z qt zW Z Zs) (oL Z (eZ.ldB (j:=5) Z Z Z yZ (v:=.slice bV bB.length bY) Z) (oR Z (zF Z dt ZM Z zC) (oL Z (eZ.ldB (j:=8) Z Z Z zG (v:=jV bw) Z) (bnK rC fun _ gJ FT=>?_)))))
 have q:=eZ.rowSome (j:=3) rfl (by rw [wAC (f:=wAB) (sz:=3) (fun _=>rfl) bB];have hz:=wAT gJ;omega)
 obtain ⟨If,qR⟩:=q
 refine oR Z (ZA Z Z qR Z ZZ Zx (wBP gJ) (wBQ gJ)) (oR Z (zF Z Z yD Z zC) ?_)
 have FI:=wBb (xs:=bB) (wAT gJ)
 refine ZC rfl rfl rfl rfl (eZ.ldR (j:=3) rfl qR rfl rfl zG (wAa (sz:=3) (fun _=>rfl) _ _ 2 _ FI (by first | omega | rfl | simp) rfl)) rfl (Zw rfl rfl rfl rfl rfl rfl (eN (zJ (ZO zz [3,3,1004,3,1004,3,1004,3,1004,3,3,1004,3,1004,3,3,3,3,3,1005,3,3,3,0,ab] (wWM (.fx 19 (wUZ (.fx 23 .nil .stop)) .stop)) (by kernel_rfl) ?_))))
 have cj:=eZ.drew
 generalize hw_W2214:({ mS with drawn:=mS.drawn + 1 }:World)=tD at cj ⊢
 refine zX rfl rfl rfl rfl rfl qu (zY rfl rfl rfl rfl (fun _=>zF rfl dt ZM rfl zC) (OKS.mt (T:=[ab]) [0] [1,2,3,4,5,6,7,8] [B7,ak,av,ba,aZ,.blk b3 28 B0,az,.blk bD 64 ct] rfl rfl rfl rfl cj rfl ⟨⟨0,by decide,_,rfl,rfl⟩,trivial⟩ (by decide) rfl (by decide) (fun _ Fo=>(Fo.ldB (j:=7) rfl rfl rfl zG (v:=jV cn) rfl)) rfl (bnK FT fun gX du FU=>?_)))
 have BU:=rX.le gQ
 have qO:=BU.le gR
 have q:=qO.el (wAj du)
 obtain ⟨ub,GX,Je,CM,jp,Ga⟩:=q
 obtain ⟨sq,su,rfl,BV⟩:=Ga
 replace jp:Cl mz ub (GX + cn.toNat * 1) [.slice sq gX.length su]:=jp
 refine zY rfl rfl rfl rfl (fun _=>ZA rfl rfl CM rfl ZK zk (wCO du) (wCX du)) (OKS.mt (T:=[ab]) [0] [1,2,3,4,5,6,7,8] [B7,ak,av,ba,aZ,.blk b3 28 B0,az,.blk bD 64 ct] rfl rfl rfl rfl cj rfl ⟨⟨0,by decide,_,rfl,rfl⟩,trivial⟩ (by decide) rfl (by decide) (fun _ Fp=>(Fp.ldC (f:=0) jp (v:=.slice sq gX.length su) rfl rfl zr rfl)) rfl (zY rfl rfl rfl rfl (fun _=>zF rfl dt ZM rfl zC) (OKS.mt (T:=[ab]) [0] [1,2,3,4,5,6,7,8] [B7,ak,av,ba,aZ,.blk b3 28 B0,az,.blk bD 64 ct] rfl rfl rfl rfl cj rfl ⟨⟨0,by decide,_,rfl,rfl⟩,trivial⟩ (by decide) rfl (by decide) (fun _ Fq=>(Fq.ldB (j:=7) rfl rfl rfl zG (v:=jV cQ) rfl)) rfl (bnK FU fun cC dv FV=>?_))))
 have q:=BV.el (fun _=>rfl) (wAj dv)
 obtain ⟨Ig,IL,CN,CQ⟩:=q
 refine zY rfl rfl rfl rfl (fun _=>ZA rfl rfl CN rfl zD zC (wCO dv) (wCX dv)) (OKS.mt (T:=[ab]) [0] [1,2,3,4,5,6,7,8] [B7,ak,av,ba,aZ,.blk b3 28 B0,az,.blk bD 64 ct] rfl rfl rfl rfl cj rfl ⟨⟨0,by decide,_,rfl,rfl⟩,trivial⟩ (by decide) rfl (by decide) (fun _ Fr=>(Fr.ldC (f:=0) CQ (v:=jV cC) rfl rfl zG rfl)) rfl (zX rfl rfl rfl rfl rfl qv (zY rfl rfl rfl rfl (fun _=>zF rfl dt ZM rfl zC) (OKS.mt (T:=[ab]) [0] [1,2,3,4,5,6,7,8] [B7,ak,av,ba,aZ,.blk b3 28 B0,az,.blk bD 64 ct] rfl rfl rfl rfl cj rfl ⟨⟨0,by decide,_,rfl,rfl⟩,trivial⟩ (by decide) rfl (by decide) (fun _ Fs=>(Fs.ldB (j:=7) rfl rfl rfl zG (v:=jV bw) rfl)) rfl (bnK FV fun _ cK FW=>?_)))))
 have q:=cj.rowSome (j:=7) rfl (by rw [wAC (f:=KL.encI) (sz:=1) (fun _=>rfl) bF];have hz:=wAT cK;omega)
 obtain ⟨Ih,gL⟩:=q
 refine oR Z (ZA Z Z gL Z zD zC (wBP cK) (wBQ cK)) ?_
 have FJ:=wBb (xs:=bF) (wAT cK)
 refine OKS.mt (T:=[ab]) [0] [1,2,3,4,5,6,7,8] [B7,ak,av,ba,aZ,.blk b3 28 B0,az,.blk bD 64 ct] rfl rfl rfl rfl cj rfl ⟨⟨0,by decide,_,rfl,rfl⟩,trivial⟩ (by decide) rfl (by decide) (fun _ Ft=>(Ft.ldR (j:=6) rfl gL rfl rfl zG (wAa (sz:=1) (fun _=>rfl) _ _ 0 _ FJ (by first | omega | rfl | simp) rfl))) rfl (zY rfl rfl rfl rfl (fun _=>zU rfl rfl rfl) (zX rfl rfl rfl rfl rfl qr (zX rfl rfl rfl rfl rfl rfl (zY rfl rfl rfl rfl (fun _=>Runs.negw rfl rfl) (zX rfl rfl rfl rfl rfl rfl ?_)))))
 have q:=bnd FW
 obtain ⟨⟨dB,jS⟩,BW,rF⟩:=q
 try dsimp only at rF
 refine YC 1 rfl rfl rfl rfl (zK rfl rfl Tryz.call13 (zB rfl (zB rfl (zB rfl zM))) rfl) cj (fun hs=>wAt (⟨gP,sw,sA⟩:wAE) ab fL gt (w64 (-((gd bB bw.toNat).Error))) ((gd bB bw.toNat).Error) tD mz hs BS BW) rfl (T:=[ab]) rfl ⟨fun b h=>(by cases h;exact .head _),trivial⟩ ?_
 rintro bX HH I5 tE gS Ei ⟨fM,gu,rfl,rfl,jl⟩
 let dY:Res:=.blk ab 67 [.slice fM jS.bytes.length gu,jV jS.next,.int .u32 jS.state]
 have Ej:SW w [B1] U bX [dY,B7,ak,av,ba,aZ,.blk b3 28 B0,az,.blk bD 64 ct] tE:=Ei
 refine oR Z (zU Z Z Z) (oR Z (Runs.max Z Z Z) (oR Z (zF Z dt ZM Z zC) (zh (j:=8) (vs:=[jV (max 0 (w64 ((w64 (cC + (gd bF bw.toNat))) + dB)))]) Z Z Z Z Ej Z Z Z Z zC (zA Z) Z Z Z ?_)))
 intro iO Ek
 let cG:List Value:=[jV cn,jV cQ,jV bw,jV (max 0 (w64 ((w64 (cC + (gd bF bw.toNat))) + dB)))]
 have El:SW w [B1] U bX [dY,B7,ak,av,ba,aZ,.blk b3 28 B0,az,.blk bD 64 cG] iO:=Ek
 refine eN (zJ (yu fun cq bT=>?_))
 have ja:cq 0=.pointer (some ⟨ab,0,none⟩):=(bT 0).trans qr
 have jb:cq 8=.pointer (some ⟨b3,0,none⟩):=(bT 8).trans Aa
 have eW:cq 11=.pointer (some ⟨b7,0,none⟩):=(bT 11).trans qt
 have gG:cq 12=.slice bp bA.length bq:=(bT 12).trans qu
 have gH:cq 13=.slice cX bF.length dm:=(bT 13).trans qv
 have eX:cq 22=.pointer (some ⟨bD,0,none⟩):=(bT 22).trans dt
 have qw:cq 23=jV ((gd bB bw.toNat).Error):=(bT 23).trans rfl
 have jc:cq 133=jV dA:=(bT 133).trans Ab
 have jd:cq 134=jV (↑cL:Int):=(bT 134).trans Ac
 clear bT
 refine ZO zz [3,1,3,3,1,3,1,3,1,3,1,3,3,3,1,3,1,3,3] fL19 (by kernel_rfl) ?_
 have bG:=El.drew
 generalize hw_W2276:({ iO with drawn:=iO.drawn + 1 }:World)=H7 at bG ⊢
 refine oR Z (zF Z eX ZM Z zC) (oL Z (bG.ldB (j:=8) Z Z Z zG (v:=jV (max 0 (w64 ((w64 (cC + (gd bF bw.toNat))) + dB)))) Z) (oM Z gG (oR Z (zF Z eX ZM Z zC) (oL Z (bG.ldB (j:=8) Z Z Z zG (v:=jV cn) Z) ?_))))
 have BY:=qO.le gS
 have q:=BY.el (wAj du)
 obtain ⟨uc,GY,Jf,CO,jq,Gb⟩:=q
 obtain ⟨ss,sv,rfl,BZ⟩:=Gb
 replace jq:Cl bX uc (GY + cn.toNat * 1) [.slice ss gX.length sv]:=jq
 refine oR Z (ZA Z Z CO Z ZK zk (wCO du) (wCX du)) (oL Z (bG.ldC (f:=0) jq (v:=.slice ss gX.length sv) Z Z zr Z) (oR Z (zF Z eX ZM Z zC) (oL Z (bG.ldB (j:=8) Z Z Z zG (v:=jV cQ) Z) ?_)))
 have q:=BZ.el (fun _=>rfl) (wAj dv)
 obtain ⟨Ii,IM,CP,CR⟩:=q
 refine oR Z (ZA Z Z CP Z zD zC (wCO dv) (wCX dv)) (oL Z (bG.ldC (f:=0) CR (v:=jV cC) Z Z zG Z) (oR Z (Zk Z Z Z) (oM Z gH (oR Z (zF Z eX ZM Z zC) (oL Z (bG.ldB (j:=8) Z Z Z zG (v:=jV bw) Z) (oR Z (ZA Z Z gL Z zD zC (wBP cK) (wBQ cK)) ?_))))))
 have FK:=wBb (xs:=bF) (wAT cK)
 refine ZC rfl rfl rfl rfl (bG.ldR (j:=7) rfl gL rfl rfl zG (wAa (sz:=1) (fun _=>rfl) _ _ 0 _ FK (by first | omega | rfl | simp) rfl)) rfl (zY rfl rfl rfl rfl (fun _=>Zk rfl rfl rfl) (Zw rfl rfl rfl rfl rfl rfl (eN (sR fL9 rfl (zX rfl rfl rfl rfl rfl rfl (zX rfl rfl rfl rfl rfl qw (zY rfl rfl rfl rfl (fun _=>Runs.negw rfl rfl) (zY rfl rfl rfl rfl (fun _=>yw rfl rfl rfl) (zX rfl rfl rfl rfl rfl rfl (ifc rF ?_ ?_))))))))))
 intro bZ FX
 refine zX Z Z Z (wT Z bZ) Z Z (zX Z Z Z (wT Z bZ) Z qw (rU Z (wT Z bZ) (yo Z Z Z) (oR Z (zb Z (ZU bZ.out) Z) (eN (ifc FX ?_ ?_)))))
 intro iY FY
 refine cT Z iY (rR (wEQ (.fx 3 (.fx 4 (.fl 5 (.fx 6 .nil .stop)) .stop) .stop)) Z (oR Z (zF Z eW zW Z yi) (oL Z (bG.ldB (j:=5) Z Z Z Tryz.isAgg26 (v:=.slice cr cN.length cu) Z) (oL Z (bG.ldBA (j:=8) Z Z eX Tryz.isAgg64 Zt (vs:=cG) Z Z) (ZL (pv:=[(0,.agg cG.toArray)]) (zs:=[jV 0,jV 0,jV 0,jV 0]) (cs:=cG) Z Z Z Z Z (wAG Z wAZ) yW Zt Zy Z Z Z Z Z bG ?_)))))
 intro tF ud Em
 let iB:Res:=.row (some ⟨ud,0,none⟩) 1 64 4 (nA wAM [(⟨cn,cQ,bw,max 0 (w64 ((w64 (cC + (gd bF bw.toNat))) + dB))⟩:wAY)])
 have rd:SW w [B1] U bX [iB,dY,B7,ak,av,ba,aZ,.blk b3 28 B0,az,.blk bD 64 cG] tF:=Em
 refine bnK FY fun gZ Cb FZ=>Zq (j:=5) (enc:=wAM) (xs:=cN) (ys:=[(⟨cn,cQ,bw,max 0 (w64 ((w64 (cC + (gd bF bw.toNat))) + dB))⟩:wAY)]) (zs:=gZ) rfl rfl rfl rfl rfl Tryz.underlying26 wVs rfl rfl rfl rfl rfl rfl rd rfl rfl rfl (rd.srcR (j:=0) rfl (by decide) (wAC (f:=wAM) (sz:=4) (fun _=>rfl) [(⟨cn,cQ,bw,max 0 (w64 ((w64 (cC + (gd bF bw.toNat))) + dB))⟩:wAY)])) (fun _=>rfl) (fun _=>rfl) Cb rfl ?_
 intro fN gv tH En
 let me:Res:=.row fN gv 64 4 (nA wAM gZ)
 have Eo:SW w [B1] U bX [iB,dY,B7,ak,av,me,aZ,.blk b3 28 B0,az,.blk bD 64 cG] tH:=En
 refine oR Z (zF Z eW zW Z yi) (zh (j:=6) (vs:=[.slice fN gZ.length gv]) Z Z Z Z Eo Z Z Z Z yi (zA Z) Z Z Z ?_)
 intro tI Ep
 have Er:SW w [B1] U bX [iB,dY,B7,ak,av,me,.blk b7 28 [.slice bj aW.length bk,.slice br aX.length bs,.slice bV bB.length bY,.slice fN gZ.length gv],.blk b3 28 B0,az,.blk bD 64 cG] tI:=Ep
 refine zd (zf (zI (rR fL2 Z (oR Z (zt (zU Z jd Z) (congrArg (jV) jx.out)) (oM Z Z (zd ?_))))))
 cases FZ
 exact zI ⟨rfl,⟨bX,fM,gu,fN,gv,rfl,ja,jb,eW,gG,gH,jc,((gQ.trans gR).trans gS),(Er.pick [1,2,3,4,5,6,7,8] _ (by decide) rfl),jl⟩⟩
 intro iY F0
 refine cF Z iY (Ze (zf (zI (rR fL2 Z (oR Z (zt (zU Z jd Z) (congrArg (jV) jx.out)) (oM Z Z (zd ?_)))))))
 cases F0
 exact zI ⟨rfl,⟨bX,fM,gu,cr,cu,rfl,ja,jb,eW,gG,gH,jc,((gQ.trans gR).trans gS),(bG.pick [0,1,2,3,4,5,6,7] _ (by decide) rfl),jl⟩⟩
 intro bZ F1
 refine oF Z bZ (oF Z bZ (oF Z bZ (oR Z (zi Z (ZT bZ.out) Z) (eN (zu Z (Ze (zf (zI (rR fL2 Z (oR Z (zt (zU Z jd Z) (congrArg (jV) jx.out)) (oM Z Z (zd ?_))))))))))))
 cases F1
 exact zI ⟨rfl,⟨bX,fM,gu,cr,cu,rfl,ja,jb,eW,gG,gH,jc,((gQ.trans gR).trans gS),(bG.pick [0,1,2,3,4,5,6,7] _ (by decide) rfl),jl⟩⟩
 rintro JG H8 ⟨mA,lC,oH,im,iZ,Bl,IC,qx,Ai,Aj,Ak,Al,GK,re,Cd⟩
 have ul:Hid (¬ ((↑((dA:Int) - 0).toNat:Int) < dA)):=zH (wAq)
 refine sR fL1 Z (oR Z (zV Z Bl Al) (eN (zJ (cF Z ul (ZH (zZ (zZ (zx (zI (sR (wEQ gAw) Z ?_))))))))))
 let de:List Value:=[.slice bj aW.length bk,.slice br aX.length bs,.slice bV bB.length bY,.slice im sC.length iZ]
 refine oL Z (re.ldBA (j:=5) Z Z Ai Zb ZQ (vs:=de) Z Z) (oM Z Aj (oM Z Ak (zh (j:=6) (vs:=de) Z Z Z Z re Z qx Z Z ZQ (zA Z) Z Z Z ?_)))
 intro tJ Eu
 have ri:SW w [B1] U mA [.blk ab 67 [.slice lC G0.length oH,jV Ha,.int .u32 Hb],B7,ak,av,.row im iZ 64 4 (nA wAM sC),.blk b7 28 de,.blk b3 28 de,az] tJ:=Eu
 refine oA Z Z (oA Z Z (eN (zP ?_)))
 have Ce:=rX.le GK
 cases rB
 exact ⟨rfl,_,(wFc (rs:=[.cell 8 28,.tmp 9,.tmp 10]) (vs:=[.agg de.toArray,.slice bp bA.length bq,.slice cX bF.length dm]) ⟨⟨_,qx,(wBo Zb ZQ (ri.blkAt (k:=6) rfl) (vs:=de) rfl rfl)⟩,⟨rfl,⟨rfl,trivial⟩⟩⟩ rfl),mA,_,(ri.pick [1,2,3,4,7,0] _ (by decide) rfl),bj,bk,br,bs,bV,bY,im,iZ,bp,bq,cX,dm,lC,oH,rfl,rfl,Ce,Cd⟩
set_option maxHeartbeats 4000000
theorem wFI (p0:Int) (p1:Int) (p2:Int) (w:World) (U:PHeap) (hS:St0 w U [])  {r:Bool} (hm:wDI p0 p1 p2=some r):Gv Tryz.prog 84 [jV p0,jV p1,jV p2] w (wBc w [] U (fun U_ L_ v=>v=.bool r/\L_=[])):=by
 unfold wDI at hm
 refine Gv.of Tryz.func84 Z Tryz.ntmps84 Tryz.results84 Z (sR fL1 Z (oA Z Z (eN (sR fL9 Z (oM Z Z (oM Z Z (oR Z (yw Z Z Z) (oM Z Z ?_))))))))
 by_cases c1:p1 <= p0
 have ab:=hm;rw [if_pos c1] at ab;replace c1:=zH c1
 refine zX Z Z Z (wT Z c1) Z Z (zX Z Z Z (wT Z c1) Z Z (rU Z (wT Z c1) (yo Z Z Z) (oR Z (zb Z (ZU c1.out) Z) (oA Z Z (eN (zP ?_))))))
 first | (obtain rfl:=nB ab) | cases ab
 exact ⟨Z,_,(zm Z),U,_,hS,Z,Z⟩
 have ah:=hm;rw [if_neg c1] at ah;replace c1:=zH c1
 refine oF Z c1 (oF Z c1 (oF Z c1 (oR Z (zi Z (ZT c1.out) Z) (oA Z Z (eN (zP ?_))))))
 have hE:=nB ah;first | subst r | cases hE
 exact ⟨Z,_,(zm Z),U,_,hS,Z,Z⟩
theorem wHe (p0:List Int) (an:Option Addr) (ao:Nat) (p1:(Int->Option Bool)) (ap:Value) (w:World) (U:PHeap) (hS:St0 w U []) (bu:Sl U 1 an ao p0.length (nA KL.encI p0)) (bw:FnOK Tryz.prog U ap wIa wIb p1) {r:Bool} (hm:wCa p0 p1=some r):Gv Tryz.prog 118 [.slice an p0.length ao,ap] w (wBc w [] U (fun U_ L_ v=>v=.bool r/\L_=[])):=by
 unfold wCa at hm
 refine Gv.of Tryz.func118 Z Tryz.ntmps118 Tryz.results118 Z (sR fL1 Z (oA Z Z (eN (zJ (sR fL3 Z (oM Z Z (oR Z (zn Z Z zD) (oM Z Z (eN (zS ?_))))))))))
 have q:=wCT hm
 obtain ⟨r3,ai⟩:=q
 have q:=wCS ai
 obtain ⟨ak,bB⟩:=q
 replace ak:=zH ak
 refine yQ (fun k2 _ σ_ w_=>∃ (U_:PHeap),σ_ 9=jV (↑k2:Int)/\σ_ 1=ap/\σ_ 7=.slice an p0.length ao/\σ_ 8=jV (↑p0.length:Int)/\PHeap.Le U U_/\sW w U U_ [] w_) bB ?_ ?_ ?_
 exact ⟨U,Z,Z,Z,Z,(zN _),hS⟩
 rintro k2 ⟨⟩ bW bY W8 aj ⟨bL,ah,au,av,az,am,aW⟩ aZ bz
 try dsimp only at aZ
 have aq:Hid ((↑k2:Int) < (↑p0.length:Int)):=zH (wBG aj)
 replace aj:=zH aj
 have bC:Hid (w64 ((↑k2:Int) + 1)=(↑(k2 + 1):Int)):=zH (by have h1:=ak.out;have h2:=aq.out;rw [wAX] <;> omega)
 refine sR fL1 Z (oR Z (zV Z ah az) (eN (zJ (cT Z aq (kN (zJ (zS (sR fL3 Z (bnK aZ fun x22 aV bD=>?_)))))))))
 have bk:=bu.le am
 have q:=bk.el (fun _=>rfl) (wAj aV)
 obtain ⟨bO,bS,bp,bq⟩:=q
 refine oR Z (ZV Z av bp ah zD zC (wCZ aV)) (oL Z (aW.ldC (f:=0) bq (v:=jV x22) Z Z zG Z) (oA Z Z (eN (sR gAz Z (oM Z au (oM Z Z (bnK bD fun bV bm bE=>?_)))))))
 have bn:=bw.le am
 refine yI (a:=x22) Z Z Z Z Z Z (zB Z zM) aW bn Z bm ?_
 rintro ae bK bU be bI br ⟨rfl,rfl⟩
 have aX:sW w U ae [] be:=br
 refine oR Z (ZB Z Z) (eN (ifc bE ?_ ?_))
 intro ag bF
 refine zu (nC ag.out) (Ze (zf (zI (rR fL2 Z (oR Z (zt (zU Z ah Z) (congrArg (jV) bC.out)) (oM Z Z (zd ?_)))))))
 have q:=nB bF
 obtain rfl:=q
 exact zI ⟨Z,_,Z,⟨ae,Z,au,av,az,(am.trans bI),aX⟩⟩
 intro ag bG
 refine zo (nF (ag.out)) (sR fL1 Z (oA Z Z (eN (zP (za (zR ?_))))))
 have q:=wAc bG
 obtain ⟨bJ,bH,bh⟩:=q
 have q:=wBn hm ai (bz bJ bh)
 obtain rfl:=q
 refine zR (za (zR ?_))
 have hE:=nB bH;first | subst r | cases hE
 exact ⟨Z,_,(zm Z),ae,_,aX,Z,Z⟩
 rintro ⟨⟩ bX bM ⟨bb,bj,bP,bQ,bi,bR,bs⟩ bA
 have aY:=wDe hm ai bA
 try dsimp only at aY
 have bg:Hid (¬ ((↑(((↑p0.length:Int):Int) - 0).toNat:Int) < (↑p0.length:Int))):=zH (wAq)
 refine sR fL1 Z (oR Z (zV Z bj bi) (eN (zJ (cF Z bg (ZH (zZ (zZ (zx (zI (sR fL1 Z (oA Z Z (eN (zP ?_)))))))))))))
 have hE:=nB aY;first | subst r | cases hE
 exact ⟨Z,_,(zm Z),bb,_,bs,Z,Z⟩
theorem wIx (p0:Int) (w:World) (U:PHeap) (hS:St0 w U [])  {r:Bool} (hm:wCw p0=some r):Gv Tryz.prog 119 [jV p0] w (wBc w [] U (fun U_ L_ v=>v=.bool r/\L_=[])):=by
 unfold wCw at hm
 refine Gv.of Tryz.func119 Z Tryz.ntmps119 Tryz.results119 Z (sR fL1 Z (oA Z Z (eN (sR gAs Z (oM Z Z (bnK hm fun x1 h2 aj=>zL 0 Z Z Z Z (zK Z Z Tryz.call84 (zB Z (zB Z (zB Z zM))) Z) hS (fun hs=>wFI p0 0 360000 w U hs h2) (.inr Z) ?_))))))
 rintro U4 L5 v6 W7 am ai ⟨rfl,rfl⟩
 have ah:sW w U U4 [] W7:=ai
 refine oA Z Z (eN (zP ?_))
 have hE:=nB aj;first | subst r | cases hE
 exact ⟨Z,_,(zm Z),U4,_,ah,Z,Z⟩
theorem wFq (p0:List wAI) (ao:Option Addr) (ap:Nat) (p1:(wAI->Option Bool)) (aq:Value) (w:World) (U:PHeap) (hS:St0 w U []) (bE:Sl U 2 ao ap p0.length (nA wAP p0)) (bF:FnOK Tryz.prog U aq wVi wVj p1) {r:Bool} (hm:wBk p0 p1=some r):Gv Tryz.prog 120 [.slice ao p0.length ap,aq] w (wBc w [] U (fun U_ L_ v=>v=.bool r/\L_=[])):=by
 unfold wBk at hm
 refine Gv.of Tryz.func120 Z Tryz.ntmps120 Tryz.results120 Z (sR fL1 Z (oA Z Z (eN (zJ (sR fL3 Z (oM Z Z (oR Z (zn Z Z ZY) (oM Z Z (eN (zS ?_))))))))))
 have q:=wCT hm
 obtain ⟨r3,aj⟩:=q
 have q:=wCS aj
 obtain ⟨am,bI⟩:=q
 replace am:=zH am
 refine yQ (fun k2 _ σ_ w_=>∃ (U_:PHeap),σ_ 9=jV (↑k2:Int)/\σ_ 1=aq/\σ_ 7=.slice ao p0.length ap/\σ_ 8=jV (↑p0.length:Int)/\PHeap.Le U U_/\sW w U U_ [] w_) bI ?_ ?_ ?_
 exact ⟨U,Z,Z,Z,Z,(zN _),hS⟩
 rintro k2 ⟨⟩ ci cm W8 ak ⟨bh,ai,az,aV,aW,an,aY⟩ be bG
 try dsimp only at be
 have av:Hid ((↑k2:Int) < (↑p0.length:Int)):=zH (wBG ak)
 replace ak:=zH ak
 have bJ:Hid (w64 ((↑k2:Int) + 1)=(↑(k2 + 1):Int)):=zH (by have h1:=am.out;have h2:=av.out;rw [wAX] <;> omega)
 refine sR fL1 Z (oR Z (zV Z ai aW) (eN (zJ (cT Z av (kN (zJ (zS (sR gBa Z (bnK be fun x22 aX bK=>?_)))))))))
 have br:=bE.le an
 have q:=br.el (fun _=>rfl) (wAj aX)
 obtain ⟨bV,bZ,bw,bz⟩:=q
 refine oR Z (ZV Z aV bw ai ZY Za (wCZ aX)) (oL Z (aY.ldCA (f:=0) bz Z Z Tryz.isAgg55 Za (us:=[jV x22.Lo,jV x22.Hi]) Z Z) (zg (cs:=[jV 0,jV 0]) Z Z Z Z Z yR Z aY ?_))
 intro bS au bA
 let B0:List Value:=[jV x22.Lo,jV x22.Hi]
 refine zh (j:=0) (vs:=B0) Z Z Z Z bA Z Z Z Z Za (zA Z) Z Z Z ?_
 intro bj bB
 have aZ:sW w U bh [.blk au 55 B0] bj:=bB
 refine eN (sR gAz Z (oM Z az (oL Z (aZ.ldBA (j:=0) Z Z Z Tryz.isAgg55 Za (vs:=B0) Z Z) (bnK bK fun x37 bs bL=>?_))))
 have bu:=bF.le an
 refine yI (a:=x22) Z Z Z Z Z Z (zB Z zM) aZ bu Z bs ?_
 rintro ag bR cg bk bP bC ⟨rfl,rfl⟩
 have ba:sW w U ag [.blk au 55 B0] bk:=bC
 refine oR Z (ZB Z Z) (eN (ifc bL ?_ ?_))
 intro ah bM
 refine zu (nC ah.out) (Ze (zf (zI (rR fL2 Z (oR Z (zt (zU Z ai Z) (congrArg (jV) bJ.out)) (oM Z Z (zd ?_)))))))
 have q:=nB bM
 obtain rfl:=q
 exact zI ⟨rfl,_,rfl,⟨ag,rfl,az,aV,aW,(an.trans bP),(ba.pick [] _ (by decide) rfl)⟩⟩
 intro ah bN
 refine zo (nF (ah.out)) (sR fL1 Z (oA Z Z (eN (zP (za (zR ?_))))))
 have q:=wAc bN
 obtain ⟨bQ,bO,bn⟩:=q
 have q:=wBn hm aj (bG bQ bn)
 obtain rfl:=q
 refine zR (za (zR ?_))
 have hE:=nB bO;first | subst r | cases hE
 exact ⟨rfl,_,(zm rfl),ag,_,(ba.pick [] _ (by decide) rfl),rfl,rfl⟩
 rintro ⟨⟩ cj bT ⟨bi,bq,bW,bX,bp,bY,bD⟩ bH
 have bb:=wDe hm aj bH
 try dsimp only at bb
 have bm:Hid (¬ ((↑(((↑p0.length:Int):Int) - 0).toNat:Int) < (↑p0.length:Int))):=zH (wAq)
 refine sR fL1 Z (oR Z (zV Z bq bp) (eN (zJ (cF Z bm (ZH (zZ (zZ (zx (zI (sR fL1 Z (oA Z Z (eN (zP ?_)))))))))))))
 have hE:=nB bb;first | subst r | cases hE
 exact ⟨Z,_,(zm Z),bi,_,bD,Z,Z⟩
theorem wGX (p0:wAI) (p1:Int) (p2:Int) (w:World) (U:PHeap) (hS:St0 w U [])  {r:Bool} (hm:wCx p0 p1 p2=some r):Gv Tryz.prog 122 [.agg #[jV p0.Lo,jV p0.Hi],jV p1,jV p2] w (wBc w [] U (fun U_ L_ v=>v=.bool r/\L_=[])):=by
 unfold wCx at hm
 refine Gv.of Tryz.func122 rfl Tryz.ntmps122 Tryz.results122 rfl (sR gAl rfl (zq (cs:=[jV p0.Lo,jV p0.Hi]) rfl rfl rfl rfl rfl rfl (by rfl) hS ?_))
 intro W1 b2 ag
 refine oA Z Z (eN (sR fL18 Z (oR Z (zF Z Z ZI Z zC) (oL Z (ag.ldB (j:=0) Z Z Z zG (v:=jV p0.Lo) Z) (oR Z (zF Z Z ZI Z zC) (oL Z (ag.ldB (j:=0) Z Z Z zG (v:=jV p0.Hi) Z) (oR Z (yo Z Z Z) (oM Z Z ?_))))))))
 by_cases c5:p0.Lo <= p0.Hi
 have ai:=hm;rw [if_pos c5] at ai;replace c5:=zH c5
 refine rU Z (wT Z c5) (zF Z Z ZI Z zC) (ZC Z Z Z (wT Z c5) (ag.ldB (j:=0) Z Z Z zG (v:=jV p0.Lo) Z) Z (zX Z Z Z (wT Z c5) Z Z (rU Z (wT Z c5) (yw Z Z Z) (oR Z (zb Z (ZU c5.out) Z) (oM Z Z (ifc ai ?_ ?_))))))
 intro c7 aj
 refine rU Z (wT Z c7) (zF Z Z ZI Z zC) (ZC Z Z Z (wT Z c7) (ag.ldB (j:=0) Z Z Z zG (v:=jV p0.Hi) Z) Z (zX Z Z Z (wT Z c7) Z Z (rU Z (wT Z c7) (yo Z Z Z) (oR Z (zb Z (ZU c7.out) Z) (oA Z Z (eN (zP ?_)))))))
 first | (obtain rfl:=nB aj) | cases aj
 exact ⟨rfl,_,(zm rfl),U,_,(ag.pick [] _ (by decide) rfl),rfl,rfl⟩
 intro c7 an
 refine oF Z c7 (oF Z c7 (oF Z c7 (oF Z c7 (oR Z (zi Z (ZT c7.out) Z) (oA Z Z (eN (zP ?_)))))))
 have hE:=nB an;first | subst r | cases hE
 exact ⟨rfl,_,(zm rfl),U,_,(ag.pick [] _ (by decide) rfl),rfl,rfl⟩
 have ah:=hm;rw [if_neg c5] at ah;replace c5:=zH c5
 refine oF Z c5 (oF Z c5 (oF Z c5 (oF Z c5 (oR Z (zi Z (ZT c5.out) Z) (oM Z Z (oN Z (oN Z (oN Z (oN Z (oR Z (zi Z Z Z) (oA Z Z (eN (zP ?_)))))))))))))
 have hE:=nB ah;first | subst r | cases hE
 exact ⟨rfl,_,(zm rfl),U,_,(ag.pick [] _ (by decide) rfl),rfl,rfl⟩
theorem wIy (p0:wAI) (w:World) (U:PHeap) (hS:St0 w U [])  {r:Bool} (hm:wCy p0=some r):Gv Tryz.prog 121 [.agg #[jV p0.Lo,jV p0.Hi]] w (wBc w [] U (fun U_ L_ v=>v=.bool r/\L_=[])):=by
 unfold wCy at hm
 refine Gv.of Tryz.func121 Z Tryz.ntmps121 Tryz.results121 Z (sR gAl Z ?_)
 let B0:List Value:=[jV p0.Lo,jV p0.Hi]
 refine zq (cs:=B0) rfl rfl rfl rfl rfl rfl (by rfl) hS ?_
 intro W1 b2 ag
 refine oA Z Z (eN (sR gAs Z (oL Z (ag.ldBA (j:=0) Z Z Z Tryz.isAgg55 Za (vs:=B0) Z Z) (bnK hm fun x5 h6 ao=>zL 0 Z Z Z Z (zK Z Z Tryz.call122 (zB Z (zB Z (zB Z zM))) Z) ag (fun hs=>wGX p0 0 360000 W1 U hs h6) (.inr Z) ?_))))
 rintro U8 L9 au ai aq am ⟨rfl,rfl⟩
 have an:sW w U U8 [.blk b2 55 B0] ai:=am
 refine oA Z Z (eN (zP ?_))
 have hE:=nB ao;first | subst r | cases hE
 exact ⟨rfl,_,(zm rfl),U8,_,(an.pick [] _ (by decide) rfl),rfl,rfl⟩
theorem wFZ (p0:List wAK) (ao:Option Addr) (ap:Nat) (p1:(wAK->Option Bool)) (aq:Value) (w:World) (U:PHeap) (hS:St0 w U []) (bE:Sl U 3 ao ap p0.length (nA wAB p0)) (bF:FnOK Tryz.prog U aq wVk wVl p1) {r:Bool} (hm:wBe p0 p1=some r):Gv Tryz.prog 123 [.slice ao p0.length ap,aq] w (wBc w [] U (fun U_ L_ v=>v=.bool r/\L_=[])):=by
 unfold wBe at hm
 refine Gv.of Tryz.func123 Z Tryz.ntmps123 Tryz.results123 Z (sR fL1 Z (oA Z Z (eN (zJ (sR fL3 Z (oM Z Z (oR Z (zn Z Z ZZ) (oM Z Z (eN (zS ?_))))))))))
 have q:=wCT hm
 obtain ⟨r3,aj⟩:=q
 have q:=wCS aj
 obtain ⟨am,bI⟩:=q
 replace am:=zH am
 refine yQ (fun k2 _ σ_ w_=>∃ (U_:PHeap),σ_ 9=jV (↑k2:Int)/\σ_ 1=aq/\σ_ 7=.slice ao p0.length ap/\σ_ 8=jV (↑p0.length:Int)/\PHeap.Le U U_/\sW w U U_ [] w_) bI ?_ ?_ ?_
 exact ⟨U,Z,Z,Z,Z,(zN _),hS⟩
 rintro k2 ⟨⟩ ci cm W8 ak ⟨bh,ai,az,aV,aW,an,aY⟩ be bG
 try dsimp only at be
 have av:Hid ((↑k2:Int) < (↑p0.length:Int)):=zH (wBG ak)
 replace ak:=zH ak
 have bJ:Hid (w64 ((↑k2:Int) + 1)=(↑(k2 + 1):Int)):=zH (by have h1:=am.out;have h2:=av.out;rw [wAX] <;> omega)
 refine sR fL1 Z (oR Z (zV Z ai aW) (eN (zJ (cT Z av (kN (zJ (zS (sR gBa Z (bnK be fun x22 aX bK=>?_)))))))))
 have br:=bE.le an
 have q:=br.el (fun _=>rfl) (wAj aX)
 obtain ⟨bV,bZ,bw,bz⟩:=q
 refine oR Z (ZV Z aV bw ai ZZ Zx (wCZ aX)) (oL Z (aY.ldCA (f:=0) bz Z Z Tryz.isAgg62 Zx (us:=[jV x22.Offset.Lo,jV x22.Offset.Hi,jV x22.Error]) Z Z) (zg (cs:=[jV 0,jV 0,jV 0]) Z Z Z Z Z yk Z aY ?_))
 intro bS au bA
 let B0:List Value:=[jV x22.Offset.Lo,jV x22.Offset.Hi,jV x22.Error]
 refine zh (j:=0) (vs:=B0) Z Z Z Z bA Z Z Z Z Zx (zA Z) Z Z Z ?_
 intro bj bB
 have aZ:sW w U bh [.blk au 62 B0] bj:=bB
 refine eN (sR gAz Z (oM Z az (oL Z (aZ.ldBA (j:=0) Z Z Z Tryz.isAgg62 Zx (vs:=B0) Z Z) (bnK bK fun x37 bs bL=>?_))))
 have bu:=bF.le an
 refine yI (a:=x22) Z Z Z Z Z Z (zB Z zM) aZ bu Z bs ?_
 rintro ag bR cg bk bP bC ⟨rfl,rfl⟩
 have ba:sW w U ag [.blk au 62 B0] bk:=bC
 refine oR Z (ZB Z Z) (eN (ifc bL ?_ ?_))
 intro ah bM
 refine zu (nC ah.out) (Ze (zf (zI (rR fL2 Z (oR Z (zt (zU Z ai Z) (congrArg (jV) bJ.out)) (oM Z Z (zd ?_)))))))
 have q:=nB bM
 obtain rfl:=q
 exact zI ⟨rfl,_,rfl,⟨ag,rfl,az,aV,aW,(an.trans bP),(ba.pick [] _ (by decide) rfl)⟩⟩
 intro ah bN
 refine zo (nF (ah.out)) (sR fL1 Z (oA Z Z (eN (zP (za (zR ?_))))))
 have q:=wAc bN
 obtain ⟨bQ,bO,bn⟩:=q
 have q:=wBn hm aj (bG bQ bn)
 obtain rfl:=q
 refine zR (za (zR ?_))
 have hE:=nB bO;first | subst r | cases hE
 exact ⟨rfl,_,(zm rfl),ag,_,(ba.pick [] _ (by decide) rfl),rfl,rfl⟩
 rintro ⟨⟩ cj bT ⟨bi,bq,bW,bX,bp,bY,bD⟩ bH
 have bb:=wDe hm aj bH
 try dsimp only at bb
 have bm:Hid (¬ ((↑(((↑p0.length:Int):Int) - 0).toNat:Int) < (↑p0.length:Int))):=zH (wAq)
 refine sR fL1 Z (oR Z (zV Z bq bp) (eN (zJ (cF Z bm (ZH (zZ (zZ (zx (zI (sR fL1 Z (oA Z Z (eN (zP ?_)))))))))))))
 have hE:=nB bb;first | subst r | cases hE
 exact ⟨Z,_,(zm Z),bi,_,bD,Z,Z⟩
theorem wIz (p0:wAK) (w:World) (U:PHeap) (hS:St0 w U [])  {r:Bool} (hm:wCz p0=some r):Gv Tryz.prog 124 [.agg #[jV p0.Offset.Lo,jV p0.Offset.Hi,jV p0.Error]] w (wBc w [] U (fun U_ L_ v=>v=.bool r/\L_=[])):=by
 unfold wCz at hm
 refine Gv.of Tryz.func124 Z Tryz.ntmps124 Tryz.results124 Z (sR gAl Z ?_)
 let B0:List Value:=[jV p0.Offset.Lo,jV p0.Offset.Hi,jV p0.Error]
 refine zq (cs:=B0) rfl rfl rfl rfl rfl rfl (by rfl) hS ?_
 intro W1 b2 am
 refine oA Z Z (eN (sR (.fl 0 (.fl 1 (.fx 2 (wRW gAq) .stop))) Z (oR Z (zF Z Z yD Z Za) (oL Z (am.ldBA (j:=0) Z Z Z Tryz.isAgg55 Za (vs:=[jV p0.Offset.Lo,jV p0.Offset.Hi]) Z Z) (bnK hm fun x5 h6 aY=>zL 0 Z Z Z Z (zK Z Z Tryz.call122 (zB Z (zB Z (zB Z zM))) Z) am (fun hs=>wGX p0.Offset (-36000) 36000 W1 U hs h6) (.inr Z) ?_)))))
 rintro U8 L9 bg aj bb au ⟨rfl,rfl⟩
 have ah:sW w U U8 [.blk b2 62 B0] aj:=au
 refine oM Z Z (ifc aY ?_ ?_)
 intro ab aV
 refine zY Z Z Z (zQ Z Z (congrArg nD ab.out)) (fun _=>zF Z Z yD Z zC) (ZC Z Z Z (zQ Z Z (congrArg nD ab.out)) (ah.ldB (j:=0) Z Z Z zG (v:=jV p0.Error) Z) Z (bnK aV fun x17 ap aW=>zL 0 Z Z Z (zQ Z Z (congrArg nD ab.out)) (zK Z Z Tryz.call84 (zB Z (zB Z (zB Z zM))) Z) ah (fun hs=>wFI p0.Error 0 600 aj U8 hs ap) (.inr Z) ?_))
 rintro ai aZ bh ao be av ⟨rfl,rfl⟩
 have az:sW w U ai [.blk b2 62 B0] ao:=av
 refine oR Z (zb Z (congrArg nD ab.out) Z) (oA Z Z (eN (zP ?_)))
 have hE:=nB aW;first | subst r | cases hE
 exact ⟨rfl,_,(zm rfl),ai,_,(az.pick [] _ (by decide) rfl),rfl,rfl⟩
 intro ab aX
 refine ZG Z Z Z (ze Z Z (congrArg nD (nE.2 ab.out)) Z) (ZG Z Z Z (ze Z Z (congrArg nD (nE.2 ab.out)) Z) (Zr Z Z Z (ze Z Z (congrArg nD (nE.2 ab.out)) Z) (oR Z (zi Z (congrArg nD (nE.2 ab.out)) Z) (oA Z Z (eN (zP ?_))))))
 have hE:=nB aX;first | subst r | cases hE
 exact ⟨rfl,_,(zm rfl),U8,_,(ah.pick [] _ (by decide) rfl),rfl,rfl⟩
theorem wDb (p0:List wAY) (ao:Option Addr) (ap:Nat) (p1:(wAY->Option Bool)) (aq:Value) (w:World) (U:PHeap) (hS:St0 w U []) (bE:Sl U 4 ao ap p0.length (nA wAM p0)) (bF:FnOK Tryz.prog U aq wTi wTj p1) {r:Bool} (hm:wBC p0 p1=some r):Gv Tryz.prog 125 [.slice ao p0.length ap,aq] w (wBc w [] U (fun U_ L_ v=>v=.bool r/\L_=[])):=by
 unfold wBC at hm
 refine Gv.of Tryz.func125 Z Tryz.ntmps125 Tryz.results125 Z (sR fL1 Z (oA Z Z (eN (zJ (sR fL3 Z (oM Z Z (oR Z (zn Z Z yW) (oM Z Z (eN (zS ?_))))))))))
 have q:=wCT hm
 obtain ⟨r3,aj⟩:=q
 have q:=wCS aj
 obtain ⟨am,bI⟩:=q
 replace am:=zH am
 refine yQ (fun k2 _ σ_ w_=>∃ (U_:PHeap),σ_ 9=jV (↑k2:Int)/\σ_ 1=aq/\σ_ 7=.slice ao p0.length ap/\σ_ 8=jV (↑p0.length:Int)/\PHeap.Le U U_/\sW w U U_ [] w_) bI ?_ ?_ ?_
 exact ⟨U,Z,Z,Z,Z,(zN _),hS⟩
 rintro k2 ⟨⟩ ci cm W8 ak ⟨bh,ai,az,aV,aW,an,aY⟩ be bG
 try dsimp only at be
 have av:Hid ((↑k2:Int) < (↑p0.length:Int)):=zH (wBG ak)
 replace ak:=zH ak
 have bJ:Hid (w64 ((↑k2:Int) + 1)=(↑(k2 + 1):Int)):=zH (by have h1:=am.out;have h2:=av.out;rw [wAX] <;> omega)
 refine sR fL1 Z (oR Z (zV Z ai aW) (eN (zJ (cT Z av (kN (zJ (zS (sR gBa Z (bnK be fun x22 aX bK=>?_)))))))))
 have br:=bE.le an
 have q:=br.el (fun _=>rfl) (wAj aX)
 obtain ⟨bV,bZ,bw,bz⟩:=q
 refine oR Z (ZV Z aV bw ai yW Zt (wCZ aX)) (oL Z (aY.ldCA (f:=0) bz Z Z Tryz.isAgg64 Zt (us:=[jV x22.Skier,jV x22.Mat,jV x22.Clock,jV x22.Time]) Z Z) (zg (cs:=[jV 0,jV 0,jV 0,jV 0]) Z Z Z Z Z Zy Z aY ?_))
 intro bS au bA
 let B0:List Value:=[jV x22.Skier,jV x22.Mat,jV x22.Clock,jV x22.Time]
 refine zh (j:=0) (vs:=B0) Z Z Z Z bA Z Z Z Z Zt (zA Z) Z Z Z ?_
 intro bj bB
 have aZ:sW w U bh [.blk au 64 B0] bj:=bB
 refine eN (sR gAz Z (oM Z az (oL Z (aZ.ldBA (j:=0) Z Z Z Tryz.isAgg64 Zt (vs:=B0) Z Z) (bnK bK fun x37 bs bL=>?_))))
 have bu:=bF.le an
 refine yI (a:=x22) Z Z Z Z Z Z (zB Z zM) aZ bu Z bs ?_
 rintro ag bR cg bk bP bC ⟨rfl,rfl⟩
 have ba:sW w U ag [.blk au 64 B0] bk:=bC
 refine oR Z (ZB Z Z) (eN (ifc bL ?_ ?_))
 intro ah bM
 refine zu (nC ah.out) (Ze (zf (zI (rR fL2 Z (oR Z (zt (zU Z ai Z) (congrArg (jV) bJ.out)) (oM Z Z (zd ?_)))))))
 have q:=nB bM
 obtain rfl:=q
 exact zI ⟨rfl,_,rfl,⟨ag,rfl,az,aV,aW,(an.trans bP),(ba.pick [] _ (by decide) rfl)⟩⟩
 intro ah bN
 refine zo (nF (ah.out)) (sR fL1 Z (oA Z Z (eN (zP (za (zR ?_))))))
 have q:=wAc bN
 obtain ⟨bQ,bO,bn⟩:=q
 have q:=wBn hm aj (bG bQ bn)
 obtain rfl:=q
 refine zR (za (zR ?_))
 have hE:=nB bO;first | subst r | cases hE
 exact ⟨rfl,_,(zm rfl),ag,_,(ba.pick [] _ (by decide) rfl),rfl,rfl⟩
 rintro ⟨⟩ cj bT ⟨bi,bq,bW,bX,bp,bY,bD⟩ bH
 have bb:=wDe hm aj bH
 try dsimp only at bb
 have bm:Hid (¬ ((↑(((↑p0.length:Int):Int) - 0).toNat:Int) < (↑p0.length:Int))):=zH (wAq)
 refine sR fL1 Z (oR Z (zV Z bq bp) (eN (zJ (cF Z bm (ZH (zZ (zZ (zx (zI (sR fL1 Z (oA Z Z (eN (zP ?_)))))))))))))
 have hE:=nB bb;first | subst r | cases hE
 exact ⟨Z,_,(zm Z),bi,_,bD,Z,Z⟩
theorem wJA (p0:wAY) (w:World) (U:PHeap) (hS:St0 w U [])  {r:Bool} (hm:wDA p0=some r):Gv Tryz.prog 126 [.agg #[jV p0.Skier,jV p0.Mat,jV p0.Clock,jV p0.Time]] w (wBc w [] U (fun U_ L_ v=>v=.bool r/\L_=[])):=by
 unfold wDA at hm
 refine Gv.of Tryz.func126 Z Tryz.ntmps126 Tryz.results126 Z (sR gAl Z ?_)
 let B0:List Value:=[jV p0.Skier,jV p0.Mat,jV p0.Clock,jV p0.Time]
 refine zq (cs:=B0) rfl rfl rfl rfl rfl rfl (by rfl) hS ?_
 intro W1 b2 ag
 refine oA Z Z (eN (sR gAz Z (oR Z (zF Z Z ZM Z zC) (oL Z (ag.ldB (j:=0) Z Z Z zG (v:=jV p0.Time) Z) (bnK hm fun x5 h6 ao=>zL 0 Z Z Z Z (zK Z Z Tryz.call84 (zB Z (zB Z (zB Z zM))) Z) ag (fun hs=>wFI p0.Time 0 360000 W1 U hs h6) (.inr Z) ?_)))))
 rintro U8 L9 au ai aq am ⟨rfl,rfl⟩
 have an:sW w U U8 [.blk b2 64 B0] ai:=am
 refine oA Z Z (eN (zP ?_))
 have hE:=nB ao;first | subst r | cases hE
 exact ⟨rfl,_,(zm rfl),U8,_,(an.pick [] _ (by decide) rfl),rfl,rfl⟩
theorem wEv (p0:wAF) (ah:Option Addr) (aj:Nat) (ai:Option Addr) (ak:Nat) (aq:Option Addr) (av:Nat) (au:Option Addr) (az:Nat) (p1:wAk) (w:World) (U:PHeap) (hS:St0 w U []) (bu:Sl U 1 ah aj p0.Starts.length (nA KL.encI p0.Starts)) (bw:Sl U 2 ai ak p0.Splits.length (nA wAP p0.Splits)) (bz:Sl U 3 aq av p0.Clocks.length (nA wAB p0.Clocks)) (bA:Sl U 4 au az p0.Readings.length (nA wAM p0.Readings)) {r:Bool} (hm:wBE p0 p1=some r):Gv Tryz.prog 53 [.agg #[.slice ah p0.Starts.length aj,.slice ai p0.Splits.length ak,.slice aq p0.Clocks.length av,.slice au p0.Readings.length az],.agg #[jV p1.Skier,jV p1.Mat]] w (wBc w [] U (fun U_ L_ v=>v=.bool r/\L_=[])):=by
 unfold wBE at hm
 refine Gv.of Tryz.func53 Z Tryz.ntmps53 Tryz.results53 Z (sR (.fx 0 gAh .stop) Z ?_)
 let B0:List Value:=[.slice ah p0.Starts.length aj,.slice ai p0.Splits.length ak,.slice aq p0.Clocks.length av,.slice au p0.Readings.length az]
 refine zq (cs:=B0) rfl rfl rfl rfl rfl rfl (by rfl) hS ?_
 intro W1 b2 bi
 let B1:List Value:=[jV p1.Skier,jV p1.Mat]
 refine zq (cs:=B1) rfl rfl rfl rfl rfl rfl (by rfl) bi ?_
 intro W5 b6 ap
 refine oA Z Z (eN (sR (wJO (.fx 6 (wWU gAx) .stop)) Z (oR Z (zF Z Z Tryz.runUnderlying101 Z zC) (oL Z (ap.ldB (j:=0) Z Z Z zG (v:=jV p1.Skier) Z) (oR Z (zF Z Z zW Z zk) (oL Z (ap.ldB (j:=1) Z Z Z zr (v:=.slice ah p0.Starts.length aj) Z) (oR Z (zn Z Z zD) (oR Z (Zk Z Z Z) (bnK hm fun x9 bb bk=>zL 0 Z Z Z Z (zK Z Z Tryz.call84 (zB Z (zB Z (zB Z zM))) Z) ap (fun hs=>wFI p1.Skier 0 (w64 ((↑p0.Starts.length:Int) - 1)) W5 U hs bb) (.inr Z) ?_)))))))))
 rintro ao bq bD aW bB bg ⟨rfl,rfl⟩
 have ag:sW w U ao [.blk b6 101 B1,.blk b2 28 B0] aW:=bg
 refine oM Z Z (ifc bk ?_ ?_)
 intro ab bm
 refine zY Z Z Z (zQ Z Z (congrArg nD ab.out)) (fun _=>zF Z Z Tryz.runUnderlying101 Z zC) (ZC Z Z Z (zQ Z Z (congrArg nD ab.out)) (ag.ldB (j:=0) Z Z Z zG (v:=jV p1.Mat) Z) Z (zY Z Z Z (zQ Z Z (congrArg nD ab.out)) (fun _=>zF Z Z zW Z yK) (ZC Z Z Z (zQ Z Z (congrArg nD ab.out)) (ag.ldB (j:=1) Z Z Z yf (v:=.slice ai p0.Splits.length ak) Z) Z (zY Z Z Z (zQ Z Z (congrArg nD ab.out)) (fun _=>zn Z Z ZY) (bnK bm fun bF be bn=>zL 0 Z Z Z (zQ Z Z (congrArg nD ab.out)) (zK Z Z Tryz.call84 (zB Z (zB Z (zB Z zM))) Z) ag (fun hs=>wFI p1.Mat 0 (↑p0.Splits.length:Int) aW ao hs be) (.inr Z) ?_)))))
 rintro aV br bE aZ bC bh ⟨rfl,rfl⟩
 have bj:sW w U aV [.blk b6 101 B1,.blk b2 28 B0] aZ:=bh
 refine oR Z (zb Z (congrArg nD ab.out) Z) (oA Z Z (eN (zP ?_)))
 have hE:=nB bn;first | subst r | cases hE
 exact ⟨rfl,_,(zm rfl),aV,_,(bj.pick [] _ (by decide) rfl),rfl,rfl⟩
 intro ab bp
 refine ZG Z Z Z (ze Z Z (congrArg nD (nE.2 ab.out)) Z) (ZG Z Z Z (ze Z Z (congrArg nD (nE.2 ab.out)) Z) (ZG Z Z Z (ze Z Z (congrArg nD (nE.2 ab.out)) Z) (ZG Z Z Z (ze Z Z (congrArg nD (nE.2 ab.out)) Z) (ZG Z Z Z (ze Z Z (congrArg nD (nE.2 ab.out)) Z) (Zr Z Z Z (ze Z Z (congrArg nD (nE.2 ab.out)) Z) (oR Z (zi Z (congrArg nD (nE.2 ab.out)) Z) (oA Z Z (eN (zP ?_)))))))))
 have hE:=nB bp;first | subst r | cases hE
 exact ⟨rfl,_,(zm rfl),ao,_,(ag.pick [] _ (by decide) rfl),rfl,rfl⟩
theorem wJB (p0:wAY) (p1:wAF) (aY:Nat) (ak:Option Addr) (ao:Nat) (am:Option Addr) (ap:Nat) (ag:Option Addr) (ah:Nat) (an:Option Addr) (aq:Nat) (w:World) (U:PHeap) (hS:St0 w U []) (aX:Cl U aY 0 [.slice ak p1.Starts.length ao,.slice am p1.Splits.length ap,.slice ag p1.Clocks.length ah,.slice an p1.Readings.length aq]) (bk:Sl U 1 ak ao p1.Starts.length (nA KL.encI p1.Starts)) (bm:Sl U 2 am ap p1.Splits.length (nA wAP p1.Splits)) (bn:Sl U 3 ag ah p1.Clocks.length (nA wAB p1.Clocks)) (bp:Sl U 4 an aq p1.Readings.length (nA wAM p1.Readings)) {r:Bool} (hm:wDB p0 p1=some r):Gv Tryz.prog 127 [.agg #[jV p0.Skier,jV p0.Mat,jV p0.Clock,jV p0.Time],.pointer (some ⟨aY,0,none⟩)] w (wBc w [] U (fun U_ L_ v=>v=.bool r/\L_=[])):=by
 unfold wDB at hm
 refine Gv.of Tryz.func127 Z Tryz.ntmps127 Tryz.results127 Z (sR gAl Z ?_)
 let B0:List Value:=[jV p0.Skier,jV p0.Mat,jV p0.Clock,jV p0.Time]
 refine zq (cs:=B0) rfl rfl rfl rfl rfl rfl (by rfl) hS ?_
 intro W1 b2 aj
 refine oA Z Z (eN (sR (wJO (.fx 6 (wSP (.fx 14 gAg .stop)) .stop)) Z (oL Z (aj.ldCA (f:=0) aX Z Z Zb ZQ (us:=[.slice ak p1.Starts.length ao,.slice am p1.Splits.length ap,.slice ag p1.Clocks.length ah,.slice an p1.Readings.length aq]) Z Z) (oR Z (zF Z Z ZM Z zC) (oL Z (aj.ldB (j:=0) Z Z Z zG (v:=jV p0.Skier) Z) (oR Z (zF Z Z ZM Z zC) (oL Z (aj.ldB (j:=0) Z Z Z zG (v:=jV p0.Mat) Z) (oR Z (ZN (pv:=[(0,jV p0.Skier),(1,jV p0.Mat)]) (z:=[jV 0,jV 0]) (cs:=[jV p0.Skier,jV p0.Mat]) Z (wAG Z (wAG Z wAZ)) Tryz.zeroValue101 wLE Z Z) (bnK hm fun x5 h6 bu=>zL 0 Z Z Z Z (zK Z Z Tryz.call53 (zB Z (zB Z zM)) Z) aj (fun hs=>wEv p1 ak ao am ap ag ah an aq (⟨p0.Skier,p0.Mat⟩:wAk) W1 U hs bk bm bn bp h6) (.inr Z) ?_)))))))))
 rintro U8 L9 bC aV bw bh ⟨rfl,rfl⟩
 have ai:sW w U U8 [.blk b2 64 B0] aV:=bh
 refine oM Z Z (ifc bu ?_ ?_)
 intro ae bq
 refine zY Z Z Z (zQ Z Z (congrArg nD ae.out)) (fun _=>zF Z Z ZM Z zC) (ZC Z Z Z (zQ Z Z (congrArg nD ae.out)) (ai.ldB (j:=0) Z Z Z zG (v:=jV p0.Clock) Z) Z (zY Z Z Z (zQ Z Z (congrArg nD ae.out)) (fun _=>zF Z Z zW Z Zs) ?_))
 have bb:=aX.le bw
 refine ZC Z Z Z (zQ Z Z (congrArg nD ae.out)) (ai.ldC (f:=2) bb (v:=.slice ag p1.Clocks.length ah) Z Z yZ Z) Z (zY Z Z Z (zQ Z Z (congrArg nD ae.out)) (fun _=>zn Z Z ZZ) (zY Z Z Z (zQ Z Z (congrArg nD ae.out)) (fun _=>Zk Z Z Z) (bnK bq fun bE be br=>zL 0 Z Z Z (zQ Z Z (congrArg nD ae.out)) (zK Z Z Tryz.call84 (zB Z (zB Z (zB Z zM))) Z) ai (fun hs=>wFI p0.Clock 0 (w64 ((↑p1.Clocks.length:Int) - 1)) aV U8 hs be) (.inr Z) ?_)))
 rintro az bz bD ba bB bi ⟨rfl,rfl⟩
 have bj:sW w U az [.blk b2 64 B0] ba:=bi
 refine oR Z (zb Z (congrArg nD ae.out) Z) (oA Z Z (eN (zP ?_)))
 have hE:=nB br;first | subst r | cases hE
 exact ⟨rfl,_,(zm rfl),az,_,(bj.pick [] _ (by decide) rfl),rfl,rfl⟩
 intro ae bs
 refine ZG Z Z Z (ze Z Z (congrArg nD (nE.2 ae.out)) Z) (ZG Z Z Z (ze Z Z (congrArg nD (nE.2 ae.out)) Z) (ZG Z Z Z (ze Z Z (congrArg nD (nE.2 ae.out)) Z) (ZG Z Z Z (ze Z Z (congrArg nD (nE.2 ae.out)) Z) (ZG Z Z Z (ze Z Z (congrArg nD (nE.2 ae.out)) Z) (ZG Z Z Z (ze Z Z (congrArg nD (nE.2 ae.out)) Z) (Zr Z Z Z (ze Z Z (congrArg nD (nE.2 ae.out)) Z) (oR Z (zi Z (congrArg nD (nE.2 ae.out)) Z) (oA Z Z (eN (zP ?_))))))))))
 have hE:=nB bs;first | subst r | cases hE
 exact ⟨rfl,_,(zm rfl),U8,_,(ai.pick [] _ (by decide) rfl),rfl,rfl⟩
theorem wLF (p0:wAF) (ap:Option Addr) (av:Nat) (aq:Option Addr) (az:Nat) (au:Option Addr) (aV:Nat) (ak:Option Addr) (am:Nat) (w:World) (U:PHeap) (hS:St0 w U []) (cX:Sl U 1 ap av p0.Starts.length (nA KL.encI p0.Starts)) (cY:Sl U 2 aq az p0.Splits.length (nA wAP p0.Splits)) (cZ:Sl U 3 au aV p0.Clocks.length (nA wAB p0.Clocks)) (c8:Sl U 4 ak am p0.Readings.length (nA wAM p0.Readings)) {r:Int} (hm:wEm p0=some r):Gv Tryz.prog 82 [.agg #[.slice ap p0.Starts.length av,.slice aq p0.Splits.length az,.slice au p0.Clocks.length aV,.slice ak p0.Readings.length am]] w (wBc w [] U (fun U_ L_ v=>v=jV r/\L_=[])):=by
 unfold wEm at hm
 refine Gv.of Tryz.func82 Z Tryz.ntmps82 Tryz.results82 Z (sR gAl Z ?_)
 let B0:List Value:=[.slice ap p0.Starts.length av,.slice aq p0.Splits.length az,.slice au p0.Clocks.length aV,.slice ak p0.Readings.length am]
 refine zq (cs:=B0) rfl rfl rfl rfl rfl rfl (by rfl) hS ?_
 intro W1 b2 cR
 have q:=cR.freeze (k:=0) rfl
 obtain ⟨U5,bm,aX,cW⟩:=q
 replace aX:=Cl.of aX
 have bV:sW w U U5 [] W1:=cW
 replace aX:Cl U5 b2 0 B0:=aX
 refine oA Z Z (eN (zJ (zS (sR (wEQ (.fx 3 (wWR (.nil)) .stop)) Z (oR Z (zF Z Z zW Z zk) (oL Z (bV.ldC (f:=0) aX (v:=.slice ap p0.Starts.length av) Z Z zr Z) (oR Z (zn Z Z zD) (bnK hm fun x10 ci de=>zL 0 Z Z Z Z (zK Z Z Tryz.call84 (zB Z (zB Z (zB Z zM))) Z) bV (fun hs=>wFI (↑p0.Starts.length:Int) 1 8 W1 U5 hs ci) (.inr Z) ?_))))))))
 rintro ao dJ dQ bG aZ cQ ⟨rfl,rfl⟩
 have aj:sW w U ao [] bG:=cQ
 refine oR Z (ZB Z Z) (oM Z Z (ifc de ?_ ?_))
 intro ab dt
 refine zY Z Z Z (zQ Z Z (nC ab.out)) (fun _=>zF Z Z zW Z yK) ?_
 have aY:=aX.le aZ
 refine ZC Z Z Z (zQ Z Z (nC ab.out)) (aj.ldC (f:=1) aY (v:=.slice aq p0.Splits.length az) Z Z yf Z) Z (zY Z Z Z (zQ Z Z (nC ab.out)) (fun _=>zn Z Z ZY) (zY Z Z Z (zQ Z Z (nC ab.out)) (fun _=>yG Z Z Z) (oR Z (zi Z (nC ab.out) Z) (oM Z Z (ifc dt ?_ ?_)))))
 intro ae du
 refine oT Z ae (oT Z ae (oT Z ae (oT Z ae (oR Z (zb Z (ZU ae.out) Z) (oM Z Z (oN Z (oN Z (oN Z (oN Z (oR Z (zb Z Z Z) (oA Z Z (eN (zo Z (sR fL1 Z (oA Z Z (eN (zP (za (zR ?_)))))))))))))))))))
 cases du
 exact ⟨Z,_,(zm Z),ao,_,aj,Z,Z⟩
 intro ae dv
 refine rU Z (wF Z ae) (zF Z Z zW Z Zs) (ZC Z Z Z (wF Z ae) (aj.ldC (f:=2) aY (v:=.slice au p0.Clocks.length aV) Z Z yZ Z) Z (rU Z (wF Z ae) (zn Z Z ZZ) (rU Z (wF Z ae) (yG Z Z Z) (oR Z (zi Z (ZT ae.out) Z) (oM Z Z (ifc dv ?_ ?_))))))
 intro ag dw
 refine oT Z ag (oT Z ag (oT Z ag (oT Z ag (oR Z (zb Z (ZU ag.out) Z) (oA Z Z (eN (zo Z (sR fL1 Z (oA Z Z (eN (zP (za (zR ?_)))))))))))))
 cases dw
 exact ⟨Z,_,(zm Z),ao,_,aj,Z,Z⟩
 intro ag dx
 refine rU Z (wF Z ag) (zF Z Z zW Z yi) (ZC Z Z Z (wF Z ag) (aj.ldC (f:=3) aY (v:=.slice ak p0.Readings.length am) Z Z Tryz.isAgg26 Z) Z (rU Z (wF Z ag) (zn Z Z yW) (rU Z (wF Z ag) (yG Z Z Z) (oR Z (zi Z (ZT ag.out) Z) (oA Z Z (eN (ifc dx ?_ ?_)))))))
 intro bs dy
 refine cT Z bs (sR fL1 Z (oA Z Z (eN (zP (za (zR ?_))))))
 cases dy
 exact ⟨Z,_,(zm Z),ao,_,aj,Z,Z⟩
 intro bs dz
 refine cF Z bs (sR (.fl 0 (.fl 1 (.fx 2 (wNw (.fx 7 (wSQ (.nil)) .stop)) .stop))) Z (oR Z (zF Z Z zW Z zk) (oL Z (aj.ldC (f:=0) aY (v:=.slice ap p0.Starts.length av) Z Z zr Z) ?_)))
 have ct:=cX.le bm
 have bN:=ct.le aZ
 have cK:FnOK Tryz.prog ao (.func (.func 119) #[] #[]) wIa wIb wCw:=⟨119,[],[],rfl,Tryz.call119,fun U1 w1 x y vs le hs ha hm=>by obtain rfl:=ha;exact wIx x w1 U1 hs  hm⟩
 refine bnK dz fun dV cu dA=>zL 0 Z Z Z Z (zK Z Z Tryz.call118 (zB Z (zB Z zM)) Z) aj (fun hs=>wHe p0.Starts ap av wCw (.func (.func 119) #[] #[]) bG ao hs bN cK cu) (.inr Z) ?_
 rintro bh dK dR bH ba cS ⟨rfl,rfl⟩
 have bB:sW w U bh [] bH:=cS
 refine oR Z (ZB Z Z) (oM Z Z (ifc dA ?_ ?_))
 intro ah dB
 refine zY Z Z Z (zQ Z Z (nC ah.out)) (fun _=>zF Z Z zW Z yK) ?_
 have bO:=aY.le ba
 refine ZC Z Z Z (zQ Z Z (nC ah.out)) (bB.ldC (f:=1) bO (v:=.slice aq p0.Splits.length az) Z Z yf Z) Z ?_
 have cw:=cY.le bm
 have cx:=cw.le aZ
 have bP:=cx.le ba
 have cL:FnOK Tryz.prog bh (.func (.func 121) #[] #[]) wVi wVj wCy:=⟨121,[],[],rfl,Tryz.call121,fun U1 w1 x y vs le hs ha hm=>by obtain rfl:=ha;exact wIy x w1 U1 hs  hm⟩
 refine bnK dB fun dW cy dC=>zL 0 Z Z Z (zQ Z Z (nC ah.out)) (zK Z Z Tryz.call120 (zB Z (zB Z zM)) Z) bB (fun hs=>wFq p0.Splits aq az wCy (.func (.func 121) #[] #[]) bH bh hs bP cL cy) (.inr Z) ?_
 rintro bi dL dS bI bb cU ⟨rfl,rfl⟩
 have bC:sW w U bi [] bI:=cU
 refine zY Z Z Z (zQ Z Z (nC ah.out)) (fun _=>ZB Z Z) (oR Z (zi Z (nC ah.out) Z) (oA Z Z (eN (ifc dC ?_ ?_))))
 intro bu dD
 refine zu (nC bu.out) (sR gBh Z (oR Z (zF Z Z zW Z Zs) ?_))
 have bQ:=bO.le bb
 refine oL Z (bC.ldC (f:=2) bQ (v:=.slice au p0.Clocks.length aV) Z Z yZ Z) ?_
 have cz:=cZ.le bm
 have cA:=cz.le aZ
 have cB:=cA.le ba
 have bR:=cB.le bb
 have cM:FnOK Tryz.prog bi (.func (.func 124) #[] #[]) wVk wVl wCz:=⟨124,[],[],rfl,Tryz.call124,fun U1 w1 x y vs le hs ha hm=>by obtain rfl:=ha;exact wIz x w1 U1 hs  hm⟩
 refine bnK dD fun x70 cC dE=>zL 0 Z Z Z Z (zK Z Z Tryz.call123 (zB Z (zB Z zM)) Z) bC (fun hs=>wFZ p0.Clocks au aV wCz (.func (.func 124) #[] #[]) bI bi hs bR cM cC) (.inr Z) ?_
 rintro bj dM dT bJ be cV ⟨rfl,rfl⟩
 have bD:sW w U bj [] bJ:=cV
 refine oR Z (ZB Z Z) (oA Z Z (eN (ifc dE ?_ ?_)))
 intro bw dF
 refine zu (nC bw.out) (zJ (yu fun dH bW=>?_))
 have bz:dH 1=.pointer (some ⟨b2,0,none⟩):=(bW 1).trans rfl
 clear bW
 refine rR gBh Z (oR Z (zF Z bz zW Z yi) ?_)
 have bS:=bQ.le be
 refine oL Z (bD.ldC (f:=3) bS (v:=.slice ak p0.Readings.length am) Z Z Tryz.isAgg26 Z) ?_
 have cD:=c8.le bm
 have cE:=cD.le aZ
 have cG:=cE.le ba
 have cH:=cG.le bb
 have bT:=cH.le be
 have cN:FnOK Tryz.prog bj (.func (.func 126) #[] #[]) wTi wTj wDA:=⟨126,[],[],rfl,Tryz.call126,fun U1 w1 x y vs le hs ha hm=>by obtain rfl:=ha;exact wJA x w1 U1 hs  hm⟩
 refine bnK dF fun x92 cI dG=>zL 0 Z Z Z Z (zK Z Z Tryz.call125 (zB Z (zB Z zM)) Z) bD (fun hs=>wDb p0.Readings ak am wDA (.func (.func 126) #[] #[]) bJ bj hs bT cN cI) (.inr Z) ?_
 rintro bk dN dU bK bg cO ⟨rfl,rfl⟩
 have bA:sW w U bk [] bK:=cO
 refine oR Z (ZB Z Z) (oA Z Z (eN (ifc dG ?_ ?_)))
 intro bq da
 refine zu (nC bq.out) (sR (wEQ gAw) Z (oR Z (zF Z bz zW Z yi) ?_))
 have bL:=bS.le bg
 refine oL Z (bA.ldC (f:=3) bL (v:=.slice ak p0.Readings.length am) Z Z Tryz.isAgg26 Z) (oR Z (yJ Z zM (zB bz zM)) ?_)
 have bM:=bT.le bg
 have bY:=bN.le ba
 have bZ:=bY.le bb
 have cd:=bZ.le be
 have cg:=cd.le bg
 have cj:=bP.le bb
 have cm:=cj.le be
 have cn:=cm.le bg
 have cp:=bR.le be
 have cq:=cp.le bg
 have cJ:FnOK Tryz.prog bk (.func (.func 127) #[] #[.pointer (some ⟨b2,0,none⟩)]) wTi wTj (fun x=>wDB x p0):=⟨127,[],[.pointer (some ⟨b2,0,none⟩)],rfl,Tryz.call127,fun U1 w1 x y vs le hs ha hm=>by obtain rfl:=ha;exact wJB x p0 b2 ap av aq az au aV ak am w1 U1 hs (bL.le le) (cg.le le) (cn.le le) (cq.le le) (bM.le le) hm⟩
 refine bnK da fun x116 cr db=>zL 0 Z Z Z Z (zK Z Z Tryz.call125 (zB Z (zB Z zM)) Z) bA (fun hs=>wDb p0.Readings ak am (fun x=>wDB x p0) (.func (.func 127) #[] #[.pointer (some ⟨b2,0,none⟩)]) bK bk hs bM cJ cr) (.inr Z) ?_
 rintro bn dI dP bX dO cP ⟨rfl,rfl⟩
 have bU:sW w U bn [] bX:=cP
 refine oR Z (ZB Z Z) (oA Z Z (eN (ifc db ?_ ?_)))
 intro br df
 refine zu (nC br.out) (Ze (zf (zI (sR fL1 Z (oA Z Z (eN (zP ?_)))))))
 cases df
 exact ⟨Z,_,(zm Z),bn,_,bU,Z,Z⟩
 intro br dg
 refine zo (nF (br.out)) (sR fL1 Z (oA Z Z (eN (zP (za (zR ?_))))))
 cases dg
 exact ⟨Z,_,(zm Z),bn,_,bU,Z,Z⟩
 intro bq dh
 refine zo (nF (bq.out)) (sR fL1 Z (oA Z Z (eN (zP (za (zR ?_))))))
 cases dh
 exact ⟨Z,_,(zm Z),bk,_,bA,Z,Z⟩
 intro bw dm
 refine zo (nF (bw.out)) (sR fL1 Z (oA Z Z (eN (zP (za (zR ?_))))))
 cases dm
 exact ⟨Z,_,(zm Z),bj,_,bD,Z,Z⟩
 intro bu dp
 refine zo (nF (bu.out)) (sR fL1 Z (oA Z Z (eN (zP (za (zR ?_))))))
 cases dp
 exact ⟨Z,_,(zm Z),bi,_,bC,Z,Z⟩
 intro ah dq
 refine ZG Z Z Z (ze Z Z (nF (ah.out)) Z) (ZG Z Z Z (ze Z Z (nF (ah.out)) Z) (Zr Z Z Z (ze Z Z (nF (ah.out)) Z) (ZG Z Z Z (ze Z Z (nF (ah.out)) Z) (oR Z (zb Z (nF (ah.out)) Z) (oA Z Z (eN (zo Z (sR fL1 Z (oA Z Z (eN (zP (za (zR ?_)))))))))))))
 cases dq
 exact ⟨Z,_,(zm Z),bh,_,bB,Z,Z⟩
 intro ab dr
 refine ZG Z Z Z (ze Z Z (nF (ab.out)) Z) (ZG Z Z Z (ze Z Z (nF (ab.out)) Z) (ZG Z Z Z (ze Z Z (nF (ab.out)) Z) (ZG Z Z Z (ze Z Z (nF (ab.out)) Z) (oR Z (zb Z (nF (ab.out)) Z) (oM Z Z (oN Z (oN Z (oN Z (oN Z (oR Z (zb Z Z Z) (oM Z Z (oN Z (oN Z (oN Z (oN Z (oR Z (zb Z Z Z) (oA Z Z (eN (zo Z (sR fL1 Z (oA Z Z (eN (zP (za (zR ?_)))))))))))))))))))))))))
 cases dr
 exact ⟨Z,_,(zm Z),ao,_,aj,Z,Z⟩
set_option maxHeartbeats 4000000
theorem wGn  (w:World) (U:PHeap) (hS:St0 w U [])  {r:wAJ} (hm:wDk =some r):Gv Tryz.prog 128 [] w (wBc w [] U (fun U_ L_ v=>v=.agg #[jV r.skier,jV r.mat]/\L_=[])):=by
 unfold wDk at hm
 refine Gv.of Tryz.func128 Z Tryz.ntmps128 Tryz.results128 Z (sR (.fx 0 .nil .stop) Z (zg (cs:=[jV 0,jV 0]) Z Z Z Z Z zy Z hS ?_))
 intro W1 b2 ah
 refine eN (sR (.fl 0 (.fx 1 .nil .stop)) Z ?_)
 let B0:List Value:=[jV (-1),jV 0]
 refine oR Z (ZN (pv:=[(0,jV (-1)),(1,jV 0)]) (z:=[jV 0,jV 0]) (cs:=B0) Z (wAG Z (wAG Z wAZ)) zy wEq Z Z) (zh (j:=0) (vs:=B0) Z Z Z Z ah Z Z Z Z zO (zA Z) Z Z Z ?_)
 intro W5 ai
 have ab:sW w U U [.blk b2 111 B0] W5:=ai
 refine eN (zP ?_)
 cases hm
 exact ⟨rfl,_,(wLc (v:=.agg B0.toArray) ⟨⟨_,rfl,(wBo zj zO (ab.blkAt (k:=0) rfl) (vs:=B0) rfl rfl)⟩,trivial⟩),U,_,(ab.pick [] _ (by decide) rfl),rfl,rfl⟩
theorem wGo {S E:Type} (PY:S->PHeap->List Res->Prop) (PE:E->PHeap->List Res->Prop) (f:S->wAN->Option (S ⊕ E)) (y:Nat) (s0:S) (p1:wAF) (ak:Nat) (cu:Option Addr) (cz:Nat) (cw:Option Addr) (cA:Nat) (cx:Option Addr) (cB:Nat) (cy:Option Addr) (cC:Nat) (w:World) (L:List Res) (U:PHeap) (hS:St ⟨w,L,U⟩ U L w) (hP:PY s0 U L) (hY:YOK Tryz.prog y wVm PY PE f U) (bk:Cl U ak 0 [.slice cu p1.Starts.length cz,.slice cw p1.Splits.length cA,.slice cx p1.Clocks.length cB,.slice cy p1.Readings.length cC]) (jL:Sl U 1 cu cz p1.Starts.length (nA KL.encI p1.Starts)) (jM:Sl U 2 cw cA p1.Splits.length (nA wAP p1.Splits)) (jN:Sl U 3 cx cB p1.Clocks.length (nA wAB p1.Clocks)) (jO:Sl U 4 cy cC p1.Readings.length (nA wAM p1.Readings)) {r:S ⊕ E} (hm:wCH f s0 p1=some r):Gv Tryz.prog 159 [.func (.yield y) #[] #[],.pointer (some ⟨ak,0,none⟩)] w (ItS w L U PY PE r):=by
 unfold wCH at hm
 refine Gv.of Tryz.func159 Z Tryz.ntmps159 Tryz.results159 Z (sR wWK Z (oR Z (zF Z Z zW Z yK) (oL Z (hS.ldC (f:=1) bk (v:=.slice cw p1.Splits.length cA) Z Z yf Z) (oR Z (zn Z Z ZY) (oR Z (zF Z Z zW Z Zs) (oL Z (hS.ldC (f:=2) bk (v:=.slice cx p1.Clocks.length cB) Z Z yZ Z) (oR Z (zn Z Z ZZ) (oR Z (zF Z Z zW Z yi) (oL Z (hS.ldC (f:=3) bk (v:=.slice cy p1.Readings.length cC) Z Z Tryz.isAgg26 Z) (oR Z (zn Z Z yW) ?_))))))))))
 let B0:List Value:=[jV 1,jV (↑p1.Splits.length:Int),jV (↑p1.Clocks.length:Int),jV (↑p1.Readings.length:Int)]
 refine oR Z (Runs.buildA (pv:=[(0,jV 1),(1,jV (↑p1.Splits.length:Int)),(2,jV (↑p1.Clocks.length:Int)),(3,jV (↑p1.Readings.length:Int))]) (z:=[jV 0,jV 0,jV 0,jV 0]) (cs:=B0) Z (wAG Z (wAG Z (wAG Z (wAG Z wAZ)))) Tryz.zeroValue228 Tryz.runUnderlying228 zC Z Z) (oM Z Z (eN (zS ?_)))
 have q:=wCT hm
 obtain ⟨jR,ao⟩:=q
 have q:=wCS ao
 obtain ⟨ci,gU⟩:=q
 replace ci:=zH ci
 refine yQ (fun ab dJ σ_ w_=>∃ (U_:PHeap) (aq:List Res),σ_ 18=jV (↑ab:Int)/\σ_ 0=.func (.yield y) #[] #[]/\σ_ 1=.pointer (some ⟨ak,0,none⟩)/\σ_ 17=.agg B0.toArray/\PHeap.Le U U_/\St ⟨w,L,U⟩ U_ aq w_/\PY dJ U_ aq) gU ?_ ?_ ?_
 exact ⟨U,L,Z,Z,Z,Z,(zN _),hS,hP⟩
 rintro ab dJ jY k6 jk bX ⟨bF,aq,av,cX,bL,bM,an,bV,dp⟩ iI bm
 have cS:Hid ((↑ab:Int) < 4):=zH (wBG bX)
 replace bX:=zH bX
 have dB:Hid (w64 ((↑ab:Int) + 1)=(↑(ab + 1):Int)):=zH (by have h1:=ci.out;have h2:=cS.out;rw [wAX] <;> omega)
 refine sR fL1 Z (oR Z (zV Z av Z) (eN (zJ (cT Z cS (kN (zJ (zS (sR fL4 Z (oM Z av (bnK iI fun x33 bU iq=>oR Z (Runs.ixA (cs:=nA KL.encI ([1,(↑p1.Splits.length:Int),(↑p1.Clocks.length:Int),(↑p1.Readings.length:Int)]:List Int)) Z bM av Tryz.runUnderlying228 zC (wCO bU) (wCX bU) (wFx zG (wES (sz:=1) (fun _=>Z) _ _ 0 _ _ (wAj bU) Z))) (oA Z Z (oA Z Z (eN (sR fL4 Z (oR Z (zF Z bL zW Z zk) ?_)))))))))))))))
 have gq:=bk.le an
 refine oL Z (bV.ldC (f:=0) gq (v:=.slice cu p1.Starts.length cz) Z Z zr Z) (oR Z (zn Z Z zD) (oA Z Z (eN (zJ ?_))))
 have q:=bnd iq
 obtain ⟨⟨dX,iV⟩,dF,dC⟩:=q
 try dsimp only at dC
 refine yP (fun σ_ w_=>∃ (U_:PHeap) (au:List Res),σ_ 0=.func (.yield y) #[] #[]/\σ_ 1=.pointer (some ⟨ak,0,none⟩)/\σ_ 3=jV (↑ab:Int)/\σ_ 4=jV x33/\σ_ 5=jV (↑p1.Starts.length:Int)/\σ_ 17=.agg B0.toArray/\σ_ 18=jV (↑ab:Int)/\σ_ 30=.bool dX/\PHeap.Le bF U_/\St ⟨w,L,U⟩ U_ au w_/\PY iV U_ au) ?_ ?_
 refine rR fL6 Z (oM Z Z (oR Z (yO Z Z Z) (oM Z Z ?_)))
 by_cases ah:(↑ab:Int)=2
 have dD:=dF;rw [if_pos ah] at dD;replace ah:=zH ah
 refine oT Z ah (oT Z ah (oR Z (zb Z (ZU ah.out) Z) (zd ?_)))
 cases dD
 exact zI ⟨Z,⟨bF,aq,cX,bL,Z,Z,Z,bM,av,Z,(zN _),bV,dp⟩⟩
 have dE:=dF;rw [if_neg ah] at dE;replace ah:=zH ah
 refine zX Z Z Z (wF Z ah) Z Z (rU Z (wF Z ah) (yO Z Z Z) (oR Z (zi Z (ZT ah.out) Z) (zd ?_)))
 cases dE
 exact zI ⟨Z,⟨bF,aq,cX,bL,Z,Z,Z,bM,av,Z,(zN _),bV,dp⟩⟩
 rintro lj ju ⟨aY,au,cZ,c8,da,db,fQ,de,df,dg,ap,dw,dq⟩
 refine ifc dC ?_ ?_
 intro bH bu
 refine zo (dg.trans (congrArg nD bH.out)) (rR fL1 Z (oA Z Z (eN (sR fL2 Z (oM Z Z (oM Z Z (eN (zS ?_))))))))
 have q:=wCT bu
 obtain ⟨jW,bj⟩:=q
 have q:=wCS bj
 obtain ⟨cn,gY⟩:=q
 replace cn:=zH cn
 refine yQ (fun ag dN σ_ w_=>∃ (U_:PHeap) (aV:List Res),σ_ 32=jV (↑ag:Int)/\σ_ 0=.func (.yield y) #[] #[]/\σ_ 1=.pointer (some ⟨ak,0,none⟩)/\σ_ 3=jV (↑ab:Int)/\σ_ 4=jV x33/\σ_ 17=.agg B0.toArray/\σ_ 18=jV (↑ab:Int)/\σ_ 31=jV 1/\PHeap.Le aY U_/\St ⟨w,L,U⟩ U_ aV w_/\PY dN U_ aV) gY ?_ ?_ ?_
 exact ⟨aY,au,Z,cZ,c8,da,db,de,df,Z,(zN _),dw,dq⟩
 rintro ag dN j3 lm jv cd ⟨cJ,aV,bT,fR,fS,fT,dh,fU,fV,dm,ct,gN,f7⟩ bz dA
 have cO:Hid ((↑ag:Int) < 1):=zH (wBG cd)
 replace cd:=zH cd
 have gZ:Hid (w64 ((↑ag:Int) + 1)=(↑(ag + 1):Int)):=zH (by have h1:=cn.out;have h2:=cO.out;rw [wAX] <;> omega)
 refine sR fL1 Z (oR Z (zV Z bT dm) (eN (zJ (cT Z cO (kN (zJ (zS (sR fL2 Z (oM Z bT (oA Z Z (eN (sR fL2 Z (oM Z dh (oM Z Z (eN (zS ?_))))))))))))))))
 have q:=wCT bz
 obtain ⟨jQ,bg⟩:=q
 have q:=wCS bg
 obtain ⟨cg,gT⟩:=q
 replace cg:=zH cg
 refine yQ (fun ai dK σ_ w_=>∃ (U_:PHeap) (bA:List Res),σ_ 36=jV (↑ai:Int)/\σ_ 0=.func (.yield y) #[] #[]/\σ_ 1=.pointer (some ⟨ak,0,none⟩)/\σ_ 3=jV (↑ab:Int)/\σ_ 4=jV x33/\σ_ 6=jV (↑ag:Int)/\σ_ 17=.agg B0.toArray/\σ_ 18=jV (↑ab:Int)/\σ_ 31=jV 1/\σ_ 32=jV (↑ag:Int)/\σ_ 35=jV x33/\PHeap.Le cJ U_/\St ⟨w,L,U⟩ U_ bA w_/\PY dK U_ bA) gT ?_ ?_ ?_
 exact ⟨cJ,aV,Z,fR,fS,fT,dh,Z,fU,fV,dm,bT,Z,(zN _),gN,f7⟩
 rintro ai dK jX j9 jj bW ⟨jh,bA,bQ,bI,eF,bJ,eG,bK,eH,eI,eJ,eK,cU,cp,gw,f9⟩ iH dx
 have cP:Hid ((↑ai:Int) < x33):=zH (wBG bW)
 replace bW:=zH bW
 have g6:Hid (w64 ((↑ai:Int) + 1)=(↑(ai + 1):Int)):=zH (by have h1:=cg.out;have h2:=cP.out;rw [wAX] <;> omega)
 refine sR fL1 Z (oR Z (zV Z bQ cU) (eN (zJ (cT Z cP (kN (zJ (zS (sR fL2 Z (oM Z bQ (oA Z Z (eN (sR (wGw (.fx 5 (wSN gAx) .stop)) Z (oM Z bI (oM Z bJ (oM Z bK (oM Z Z ?_))))))))))))))))
 let B1:List Value:=[jV 0,jV 0,jV 0,.bool false]
 refine oR Z (ZN (pv:=[(0,jV (↑ab:Int)),(1,jV (↑ag:Int)),(2,jV (↑ai:Int)),(3,.bool true)]) (z:=B1) (cs:=[jV (↑ab:Int),jV (↑ag:Int),jV (↑ai:Int),.bool true]) Z (wAG Z (wAG Z (wAG Z (wAG Z wAZ)))) Tryz.zeroValue149 wHM Z Z) (bnK iH fun jc ga bn=>OKS.yieldT 0 (a:=(⟨(↑ab:Int),(↑ag:Int),(↑ai:Int),true⟩:wAN)) Z Z Z Z Z Z (zB Z zM) gw hY (((an.trans ap).trans ct).trans cp) f9 Z ga Z ?_)
 rintro bE cG jw cK dG dr aZ
 rcases jc with iQ | iQ
 try dsimp only at bn aZ
 obtain ⟨rfl,iz⟩:=aZ
 have gy:St ⟨w,L,U⟩ bE cG cK:=dr
 refine oR Z (ZB Z Z) (oM Z Z (zX Z Z Z (zQ Z Z Z) Z bI (zX Z Z Z (zQ Z Z Z) Z bJ (zX Z Z Z (zQ Z Z Z) Z bK (zX Z Z Z (zQ Z Z Z) Z Z (zY Z Z Z (zQ Z Z Z) (fun _=>ZN (pv:=[(0,jV (↑ab:Int)),(1,jV (↑ag:Int)),(2,jV (↑ai:Int)),(3,.bool false)]) (z:=B1) (cs:=[jV (↑ab:Int),jV (↑ag:Int),jV (↑ai:Int),.bool false]) Z (wAG Z (wAG Z (wAG Z (wAG Z wAZ)))) Tryz.zeroValue149 wHM Z Z) (bnK bn fun jd ge bp=>OKS.yieldT 0 (a:=(⟨(↑ab:Int),(↑ag:Int),(↑ai:Int),false⟩:wAN)) Z Z Z (zQ Z Z Z) Z Z (zB Z zM) gy hY ((((an.trans ap).trans ct).trans cp).trans dG) iz Z ge Z ?_)))))))
 rintro aW bB jx cL iK dt ba
 rcases jd with iR | iR
 try dsimp only at bp ba
 obtain ⟨rfl,iA⟩:=ba
 have gz:St ⟨w,L,U⟩ aW bB cL:=dt
 refine zY Z Z Z (zQ Z Z Z) (fun _=>ZB Z Z) (oR Z (zi Z Z Z) (eN (zu Z (Ze (zf (zI (rR fL2 Z (oR Z (zt (zU Z bQ Z) (congrArg (jV) g6.out)) (oM Z Z (zd ?_))))))))))
 have q:=nB bp
 obtain rfl:=q
 exact zI ⟨Z,_,Z,⟨aW,bB,Z,bI,eF,bJ,eG,bK,eH,eI,eJ,eK,cU,((cp.trans dG).trans iK),gz,iA⟩⟩
 try dsimp only at bp ba
 obtain ⟨rfl,iB⟩:=ba
 have gA:St ⟨w,L,U⟩ aW bB cL:=dt
 refine zY Z Z Z (zQ Z Z Z) (fun _=>ZB Z Z) (oR Z (zi Z Z Z) (eN (zo Z (zP (za (zR ?_))))))
 have q:=wAc bp
 obtain ⟨iW,g9,ef⟩:=q
 have q:=wBn bz bg (dx iW ef)
 obtain rfl:=q
 refine zR (za (za (zR ?_)))
 have q:=wAc g9
 obtain ⟨iX,ib,eh⟩:=q
 have q:=wBn bu bj (dA iX eh)
 obtain rfl:=q
 refine zR (za (za (zR ?_)))
 have q:=wAc ib
 obtain ⟨iY,ic,en⟩:=q
 have q:=wBn hm ao (bm iY en)
 obtain rfl:=q
 refine zR (za ?_)
 cases ic
 exact ⟨Z,_,(wNG),aW,_,gA,iB⟩
 try dsimp only at bn aZ
 obtain ⟨rfl,iC⟩:=aZ
 have gB:St ⟨w,L,U⟩ bE cG cK:=dr
 refine oR Z (ZB Z Z) (oM Z Z (oN Z (oN Z (oN Z (oN Z (oN Z (Zr Z Z Z (ze Z Z Z Z) (oN Z (oR Z (zb Z Z Z) (eN (zo Z (zP (za (zR ?_))))))))))))))
 have q:=wAc bn
 obtain ⟨iZ,ie,er⟩:=q
 have q:=wBn bz bg (dx iZ er)
 obtain rfl:=q
 refine zR (za (za (zR ?_)))
 have q:=wAc ie
 obtain ⟨i4,ig,eu⟩:=q
 have q:=wBn bu bj (dA i4 eu)
 obtain rfl:=q
 refine zR (za (za (zR ?_)))
 have q:=wAc ig
 obtain ⟨i5,ii,ew⟩:=q
 have q:=wBn hm ao (bm i5 ew)
 obtain rfl:=q
 refine zR (za ?_)
 cases ii
 exact ⟨Z,_,(wNG),bE,_,gB,iC⟩
 rintro j4 k8 jl ⟨dS,dO,fW,eL,eM,eO,eQ,jA,eU,eV,eW,eX,eY,iL,gC,gf⟩ gO
 have ij:=wDe bz bg gO
 have dY:Hid (¬ ((↑((x33:Int) - 0).toNat:Int) < x33)):=zH (wAq)
 refine sR fL1 Z (oR Z (zV Z fW eY) (eN (zJ (cF Z dY (ZH (zZ (zZ (zx (zf (zI (rR fL2 Z (oR Z (zt (zU Z eX Z) (congrArg (jV) gZ.out)) (oM Z Z (zd ?_))))))))))))))
 have q:=nB ij
 obtain rfl:=q
 exact zI ⟨Z,_,Z,⟨dS,dO,Z,eL,eM,eO,eQ,eU,eV,eW,(ct.trans iL),gC,gf⟩⟩
 rintro j5 k9 jm ⟨dT,dP,fY,eZ,fb,jB,jC,fc,fd,ff,iM,gD,gg⟩ gP
 have il:=wDe bu bj gP
 have dZ:Hid (¬ ((↑((1:Int) - 0).toNat:Int) < 1)):=zH (wAq)
 refine sR fL1 Z (oR Z (zV Z fY ff) (eN (zJ (cF Z dZ (ZH (zZ (zZ (zx (zf (zI (rR fL2 Z (oR Z (zt (zU Z fd Z) (congrArg (jV) dB.out)) (oM Z Z (zd ?_))))))))))))))
 have q:=nB il
 obtain rfl:=q
 exact zI ⟨Z,_,Z,⟨dT,dP,Z,eZ,fb,fc,((an.trans ap).trans iM),gD,gg⟩⟩
 intro bH bq
 refine zu (dg.trans (congrArg nD (nE.2 bH.out))) (kN (sR fL2 Z (oM Z fQ (oM Z Z (eN (zS ?_))))))
 have q:=wCT bq
 obtain ⟨jS,bh⟩:=q
 have q:=wCS bh
 obtain ⟨cj,gW⟩:=q
 replace cj:=zH cj
 refine yQ (fun ae dL σ_ w_=>∃ (U_:PHeap) (az:List Res),σ_ 32=jV (↑ae:Int)/\σ_ 0=.func (.yield y) #[] #[]/\σ_ 1=.pointer (some ⟨ak,0,none⟩)/\σ_ 3=jV (↑ab:Int)/\σ_ 4=jV x33/\σ_ 17=.agg B0.toArray/\σ_ 18=jV (↑ab:Int)/\σ_ 31=jV (↑p1.Starts.length:Int)/\PHeap.Le aY U_/\St ⟨w,L,U⟩ U_ az w_/\PY dL U_ az) gW ?_ ?_ ?_
 exact ⟨aY,au,Z,cZ,c8,da,db,de,df,Z,(zN _),dw,dq⟩
 rintro ae dL jZ lc jo bY ⟨cI,az,bR,fg,fh,fj,cV,fk,fm,cW,cq,gE,gh⟩ bw dy
 have cQ:Hid ((↑ae:Int) < (↑p1.Starts.length:Int)):=zH (wBG bY)
 replace bY:=zH bY
 have g7:Hid (w64 ((↑ae:Int) + 1)=(↑(ae + 1):Int)):=zH (by have h1:=cj.out;have h2:=cQ.out;rw [wAX] <;> omega)
 refine sR fL1 Z (oR Z (zV Z bR cW) (eN (zJ (cT Z cQ (kN (zJ (zS (sR fL2 Z (oM Z bR (oA Z Z (eN (sR fL2 Z (oM Z cV (oM Z Z (eN (zS ?_))))))))))))))))
 have q:=wCT bw
 obtain ⟨jU,bi⟩:=q
 have q:=wCS bi
 obtain ⟨cm,gX⟩:=q
 replace cm:=zH cm
 refine yQ (fun aj dM σ_ w_=>∃ (U_:PHeap) (bC:List Res),σ_ 36=jV (↑aj:Int)/\σ_ 0=.func (.yield y) #[] #[]/\σ_ 1=.pointer (some ⟨ak,0,none⟩)/\σ_ 3=jV (↑ab:Int)/\σ_ 4=jV x33/\σ_ 6=jV (↑ae:Int)/\σ_ 17=.agg B0.toArray/\σ_ 18=jV (↑ab:Int)/\σ_ 31=jV (↑p1.Starts.length:Int)/\σ_ 32=jV (↑ae:Int)/\σ_ 35=jV x33/\PHeap.Le cI U_/\St ⟨w,L,U⟩ U_ bC w_/\PY dM U_ bC) gX ?_ ?_ ?_
 exact ⟨cI,az,Z,fg,fh,fj,cV,Z,fk,fm,cW,bR,Z,(zN _),gE,gh⟩
 rintro aj dM j0 lf jp bZ ⟨ji,bC,bS,bN,fq,bO,ft,bP,fu,fw,fy,fz,cY,cr,gF,gi⟩ iJ dz
 have cR:Hid ((↑aj:Int) < x33):=zH (wBG bZ)
 replace bZ:=zH bZ
 have g8:Hid (w64 ((↑aj:Int) + 1)=(↑(aj + 1):Int)):=zH (by have h1:=cm.out;have h2:=cR.out;rw [wAX] <;> omega)
 refine sR fL1 Z (oR Z (zV Z bS cY) (eN (zJ (cT Z cR (kN (zJ (zS (sR fL2 Z (oM Z bS (oA Z Z (eN (sR (wGw (.fx 5 (wSN gAx) .stop)) Z (oM Z bN (oM Z bO (oM Z bP (oM Z Z ?_))))))))))))))))
 let B2:List Value:=[jV 0,jV 0,jV 0,.bool false]
 refine oR Z (ZN (pv:=[(0,jV (↑ab:Int)),(1,jV (↑ae:Int)),(2,jV (↑aj:Int)),(3,.bool true)]) (z:=B2) (cs:=[jV (↑ab:Int),jV (↑ae:Int),jV (↑aj:Int),.bool true]) Z (wAG Z (wAG Z (wAG Z (wAG Z wAZ)))) Tryz.zeroValue149 wHM Z Z) (bnK iJ fun je gj br=>OKS.yieldT 0 (a:=(⟨(↑ab:Int),(↑ae:Int),(↑aj:Int),true⟩:wAN)) Z Z Z Z Z Z (zB Z zM) gF hY (((an.trans ap).trans cq).trans cr) gi Z gj Z ?_)
 rintro bG cH jy cM dH du bb
 rcases je with iT | iT
 try dsimp only at br bb
 obtain ⟨rfl,iD⟩:=bb
 have gG:St ⟨w,L,U⟩ bG cH cM:=du
 refine oR Z (ZB Z Z) (oM Z Z (zX Z Z Z (zQ Z Z Z) Z bN (zX Z Z Z (zQ Z Z Z) Z bO (zX Z Z Z (zQ Z Z Z) Z bP (zX Z Z Z (zQ Z Z Z) Z Z (zY Z Z Z (zQ Z Z Z) (fun _=>ZN (pv:=[(0,jV (↑ab:Int)),(1,jV (↑ae:Int)),(2,jV (↑aj:Int)),(3,.bool false)]) (z:=B2) (cs:=[jV (↑ab:Int),jV (↑ae:Int),jV (↑aj:Int),.bool false]) Z (wAG Z (wAG Z (wAG Z (wAG Z wAZ)))) Tryz.zeroValue149 wHM Z Z) (bnK br fun jf gm bs=>OKS.yieldT 0 (a:=(⟨(↑ab:Int),(↑ae:Int),(↑aj:Int),false⟩:wAN)) Z Z Z (zQ Z Z Z) Z Z (zB Z zM) gG hY ((((an.trans ap).trans cq).trans cr).trans dH) iD Z gm Z ?_)))))))
 rintro aX bD jz cN iN dv be
 rcases jf with iU | iU
 try dsimp only at bs be
 obtain ⟨rfl,iE⟩:=be
 have gH:St ⟨w,L,U⟩ aX bD cN:=dv
 refine zY Z Z Z (zQ Z Z Z) (fun _=>ZB Z Z) (oR Z (zi Z Z Z) (eN (zu Z (Ze (zf (zI (rR fL2 Z (oR Z (zt (zU Z bS Z) (congrArg (jV) g8.out)) (oM Z Z (zd ?_))))))))))
 have q:=nB bs
 obtain rfl:=q
 exact zI ⟨Z,_,Z,⟨aX,bD,Z,bN,fq,bO,ft,bP,fu,fw,fy,fz,cY,((cr.trans dH).trans iN),gH,iE⟩⟩
 try dsimp only at bs be
 obtain ⟨rfl,iF⟩:=be
 have gI:St ⟨w,L,U⟩ aX bD cN:=dv
 refine zY Z Z Z (zQ Z Z Z) (fun _=>ZB Z Z) (oR Z (zi Z Z Z) (eN (zo Z (zP (za (zR ?_))))))
 have q:=wAc bs
 obtain ⟨i6,im,ey⟩:=q
 have q:=wBn bw bi (dz i6 ey)
 obtain rfl:=q
 refine zR (za (za (zR ?_)))
 have q:=wAc im
 obtain ⟨i7,io,ez⟩:=q
 have q:=wBn bq bh (dy i7 ez)
 obtain rfl:=q
 refine zR (za (za (zR ?_)))
 have q:=wAc io
 obtain ⟨i8,ip,eA⟩:=q
 have q:=wBn hm ao (bm i8 eA)
 obtain rfl:=q
 refine zR (za ?_)
 cases ip
 exact ⟨Z,_,(wNG),aX,_,gI,iF⟩
 try dsimp only at br bb
 obtain ⟨rfl,iG⟩:=bb
 have gJ:St ⟨w,L,U⟩ bG cH cM:=du
 refine oR Z (ZB Z Z) (oM Z Z (oN Z (oN Z (oN Z (oN Z (oN Z (Zr Z Z Z (ze Z Z Z Z) (oN Z (oR Z (zb Z Z Z) (eN (zo Z (zP (za (zR ?_))))))))))))))
 have q:=wAc br
 obtain ⟨i9,ir,eB⟩:=q
 have q:=wBn bw bi (dz i9 eB)
 obtain rfl:=q
 refine zR (za (za (zR ?_)))
 have q:=wAc ir
 obtain ⟨ja,it,eD⟩:=q
 have q:=wBn bq bh (dy ja eD)
 obtain rfl:=q
 refine zR (za (za (zR ?_)))
 have q:=wAc it
 obtain ⟨jb,iu,eE⟩:=q
 have q:=wBn hm ao (bm jb eE)
 obtain rfl:=q
 refine zR (za ?_)
 cases iu
 exact ⟨Z,_,(wNG),bG,_,gJ,iG⟩
 rintro j6 lg jq ⟨dU,dQ,fZ,fA,fB,fC,fD,jD,fE,fG,fH,fJ,fK,iO,gK,gt⟩ gQ
 have iv:=wDe bw bi gQ
 have d5:Hid (¬ ((↑((x33:Int) - 0).toNat:Int) < x33)):=zH (wAq)
 refine sR fL1 Z (oR Z (zV Z fZ fK) (eN (zJ (cF Z d5 (ZH (zZ (zZ (zx (zf (zI (rR fL2 Z (oR Z (zt (zU Z fJ Z) (congrArg (jV) g7.out)) (oM Z Z (zd ?_))))))))))))))
 have q:=nB iv
 obtain rfl:=q
 exact zI ⟨Z,_,Z,⟨dU,dQ,Z,fA,fB,fC,fD,fE,fG,fH,(cq.trans iO),gK,gt⟩⟩
 rintro j7 lh jr ⟨dV,dR,f4,fL,fM,jE,jG,fN,fO,fP,iP,gL,gu⟩ gR
 have iw:=wDe bq bh gR
 have d7:Hid (¬ ((↑(((↑p1.Starts.length:Int):Int) - 0).toNat:Int) < (↑p1.Starts.length:Int))):=zH (wAq)
 refine sR fL1 Z (oR Z (zV Z f4 fP) (eN (zJ (cF Z d7 (ZH (zZ (zZ (zx (zf (zI (rR fL2 Z (oR Z (zt (zU Z fO Z) (congrArg (jV) dB.out)) (oM Z Z (zd ?_))))))))))))))
 have q:=nB iw
 obtain rfl:=q
 exact zI ⟨Z,_,Z,⟨dV,dR,Z,fL,fM,fN,((an.trans ap).trans iP),gL,gu⟩⟩
 rintro j8 li jt ⟨dW,jg,f5,jH,jJ,jK,jP,gM,gv⟩ gS
 have iy:=wDe hm ao gS
 have d9:Hid (¬ ((↑((4:Int) - 0).toNat:Int) < 4)):=zH (wAq)
 refine sR fL1 Z (oR Z (zV Z f5 Z) (eN (zJ (cF Z d9 (ZH (zZ (zZ (zx ?_))))))))
 cases iy
 exact ⟨Z,_,(wNG),dW,_,gM,gv⟩
theorem wHf (p0:wAF) (ae:Option Addr) (aj:Nat) (ag:Option Addr) (ak:Nat) (ah:Option Addr) (am:Nat) (ai:Option Addr) (an:Nat) (w:World) (U:PHeap) (hS:St0 w U []) (aX:Sl U 1 ae aj p0.Starts.length (nA KL.encI p0.Starts)) (aY:Sl U 2 ag ak p0.Splits.length (nA wAP p0.Splits)) (aZ:Sl U 3 ah am p0.Clocks.length (nA wAB p0.Clocks)) (ba:Sl U 4 ai an p0.Readings.length (nA wAM p0.Readings)) {r:Unit} (hm:wDR p0=some r):Gv Tryz.prog 129 [.agg #[.slice ae p0.Starts.length aj,.slice ag p0.Splits.length ak,.slice ah p0.Clocks.length am,.slice ai p0.Readings.length an]] w (wBc w [] U (fun U_ L_ v=>∃ (b0:Nat),v=.func (.func 159) #[] #[.pointer (some ⟨b0,0,none⟩)]/\L_=[]/\Cl U_ b0 0 [.slice ae p0.Starts.length aj,.slice ag p0.Splits.length ak,.slice ah p0.Clocks.length am,.slice ai p0.Readings.length an])):=by
 unfold wDR at hm
 refine Gv.of Tryz.func129 Z Tryz.ntmps129 Tryz.results129 Z (sR gAl Z ?_)
 let B0:List Value:=[.slice ae p0.Starts.length aj,.slice ag p0.Splits.length ak,.slice ah p0.Clocks.length am,.slice ai p0.Readings.length an]
 refine zq (cs:=B0) rfl rfl rfl rfl rfl rfl (by rfl) hS ?_
 intro W1 b2 az
 have q:=az.freeze (k:=0) rfl
 obtain ⟨U5,bb,ab,aV⟩:=q
 replace ab:=Cl.of ab
 have aW:sW w U U5 [] W1:=aV
 replace ab:Cl U5 b2 0 B0:=ab
 refine oA Z Z (eN (sR fL2 Z (oR Z (yJ Z zM (zB Z zM)) (oA Z Z (eN (zP ?_))))))
 cases hm
 exact ⟨Z,_,(zm Z),U5,_,aW,b2,Z,Z,ab⟩
theorem wJC (p0:wAF) (av:Option Addr) (aX:Nat) (az:Option Addr) (aY:Nat) (aV:Option Addr) (aZ:Nat) (aW:Option Addr) (ba:Nat) (p1:wAN) (w:World) (U:PHeap) (hS:St0 w U []) (cC:Sl U 1 av aX p0.Starts.length (nA KL.encI p0.Starts)) (cD:Sl U 2 az aY p0.Splits.length (nA wAP p0.Splits)) (cE:Sl U 3 aV aZ p0.Clocks.length (nA wAB p0.Clocks)) (cG:Sl U 4 aW ba p0.Readings.length (nA wAM p0.Readings)) {r:wAJ × wAJ} (hm:wEb p0 p1=some r):Gv Tryz.prog 184 [.agg #[.slice av p0.Starts.length aX,.slice az p0.Splits.length aY,.slice aV p0.Clocks.length aZ,.slice aW p0.Readings.length ba],.agg #[jV p1.Kind,jV p1.Skier,jV p1.Index,.bool p1.Up]] w (wBc w [] U (fun U_ L_ v=>v=.tuple #[.agg #[jV r.1.skier,jV r.1.mat],.agg #[jV r.2.skier,jV r.2.mat]]/\L_=[])):=by
 unfold wEb at hm
 refine Gv.of Tryz.func184 Z Tryz.ntmps184 Tryz.results184 Z (sR gBd Z ?_)
 let B0:List Value:=[.slice av p0.Starts.length aX,.slice az p0.Splits.length aY,.slice aV p0.Clocks.length aZ,.slice aW p0.Readings.length ba]
 refine zq (cs:=B0) rfl rfl rfl rfl rfl rfl (by rfl) hS ?_
 intro W1 b2 bQ
 let B1:List Value:=[jV p1.Kind,jV p1.Skier,jV p1.Index,.bool p1.Up]
 refine zq (cs:=B1) rfl rfl rfl rfl rfl rfl (by rfl) bQ ?_
 intro W5 b6 bS
 let B2:List Value:=[jV 0,jV 0]
 refine zg (cs:=B2) Z Z Z Z Z zy Z bS ?_
 intro W9 ag bH
 refine zg (cs:=B2) Z Z Z Z Z zy Z bH ?_
 intro ct ah bP
 refine eN ?_
 have q:=bnd hm
 obtain ⟨⟨x17,cn⟩,bX,bg⟩:=q
 try dsimp only at bg
 let B3:List Value:=[jV p1.Skier,jV 0]
 let B4:List Value:=[jV x17,jV cn]
 refine yP (fun σ_ w_=>∃ (U_:PHeap),σ_ 4=.pointer (some ⟨ag,0,none⟩)/\σ_ 5=.pointer (some ⟨ah,0,none⟩)/\PHeap.Le U U_/\sW w U U_ [.blk ag 111 B4,.blk ah 111 B3,.blk b6 149 B1,.blk b2 28 B0] w_) ?_ ?_
 refine bnK bX fun x22 bG bW=>?_
 let B5:List Value:=[jV x22.skier,jV x22.mat]
 refine CK.webp (U0:=U) (L0:=[.blk ah 111 B2,.blk b6 149 B1,.blk b2 28 B0]) zz [⟨some 6,[6],[],false,[],false,[],fun σ R=>σ 6=.agg B5.toArray/\R=[]⟩,pW 7 [] (.pointer (some ⟨b6,1,none⟩)),pX 8 [1] (jV p1.Skier),pW 9 [2] (.agg B3.toArray),⟨none,[],[0],false,[],false,[.blk ag 111 B2],fun _ R=>R=[.blk ag 111 B5]⟩] [false] [(3,.pointer (some ⟨b6,0,none⟩)),(4,.pointer (some ⟨ag,0,none⟩)),(5,.pointer (some ⟨ah,0,none⟩))] (by kernel_rfl) ⟨rfl,rfl,rfl,trivial⟩ (bP.pick [1,0,2,3] _ (by decide) rfl) ⟨?_,?_,?_,?_,?_,trivial⟩ ?_
 rintro _ _ br bm bi _ _ _ _ rfl bR cd
 refine zL 0 Z Z Z Z (zK Z Z Tryz.call128 zM Z) bR (fun hs=>wGn br bm hs bG) (.inr Z) ?_
 rintro bn cq cI bs cm bT ⟨rfl,rfl⟩
 have bU:sW w U bn (.blk ah 111 B2 :: .blk b6 149 B1 :: .blk b2 28 B0 :: bi) bs:=bT
 exact cd _ _ _ _ cm bU ⟨Z,Z⟩
 refine wpW ?_
 rintro _ _ _ _ _ ⟨bB,_⟩ _ _ _ cg
 exact oR Z (zF Z bB ZD Z zC) cg
 refine wpX ?_
 rintro _ _ _ _ _ _ _ ⟨⟨_,⟨bC,_⟩⟩,_⟩ bV ci
 exact Zl Z Z Z Z (bV.ldB (j:=1) Z Z bC zG (v:=jV p1.Skier) Z) ci
 refine wpW ?_
 rintro _ _ _ _ _ _ _ ⟨⟨_,⟨bD,_⟩⟩,_⟩ _ bY
 exact oR Z (ZN (pv:=[(0,jV p1.Skier),(1,jV 0)]) (z:=B2) (cs:=B3) Z (wAG bD (wAG Z wAZ)) zy wEq Z Z) bY
 rintro _ _ _ bj bh _ ⟨_,bu,_⟩ _ ⟨⟨_,⟨bE,_⟩⟩,_⟩ rfl bI bZ
 refine zh (j:=0) (vs:=B5) Z Z Z Z bI Z bu bE Z zO (zA Z) Z Z Z ?_
 intro bp bJ
 have bK:sW w U bj (.blk ag 111 B5 :: .blk ah 111 B2 :: .blk b6 149 B1 :: .blk b2 28 B0 :: bh) bp:=bJ
 exact bZ undef _ _ _ (zN _) bK Z
 rintro cp bb aq ⟨cy,bw,be,_⟩ cj _ ⟨cz,rfl⟩ _ ⟨cA,rfl⟩ _ ⟨cB,rfl⟩ _ ⟨bF,rfl⟩ _ rfl bL
 have bM:sW w U aq [.blk ag 111 B5,.blk ah 111 B2,.blk b6 149 B1,.blk b2 28 B0] bb:=bL
 show OKS _ _ _ _ _ _ (.fx 5 .nil .stop) cp bb
 refine zh (j:=1) (vs:=B3) Z Z Z Z bM Z be bF Z zO (zA Z) Z Z Z ?_
 intro bq bN
 have bO:sW w U aq [.blk ag 111 B5,.blk ah 111 B3,.blk b6 149 B1,.blk b2 28 B0] bq:=bN
 refine zd ?_
 cases bW
 exact zI ⟨Z,⟨aq,bw,be,cj,bO⟩⟩
 rintro cJ cu ⟨bk,bz,bA,cH,au⟩
 refine zP ?_
 cases bg
 exact ⟨rfl,_,(wFc (rs:=[.cell 4 111,.cell 5 111]) (vs:=[.agg B4.toArray,.agg B3.toArray]) ⟨⟨_,bz,(wBo zj zO (au.blkAt (k:=0) rfl) (vs:=B4) rfl rfl)⟩,⟨⟨_,bA,(wBo zj zO (au.blkAt (k:=1) rfl) (vs:=B3) rfl rfl)⟩,trivial⟩⟩ rfl),bk,_,(au.pick [] _ (by decide) rfl),rfl,rfl⟩
theorem wJD (p0:wAF) (ah:Option Addr) (ai:Nat) (aj:Option Addr) (an:Nat) (ak:Option Addr) (ao:Nat) (am:Option Addr) (ap:Nat) (p1:wAN) (w:World) (U:PHeap) (hS:St0 w U []) (au:Sl U 1 ah ai p0.Starts.length (nA KL.encI p0.Starts)) (bj:Sl U 2 aj an p0.Splits.length (nA wAP p0.Splits)) (bk:Sl U 3 ak ao p0.Clocks.length (nA wAB p0.Clocks)) (bm:Sl U 4 am ap p0.Readings.length (nA wAM p0.Readings)) {r:Int × Int} (hm:wEc p0 p1=some r):Gv Tryz.prog 185 [.agg #[.slice ah p0.Starts.length ai,.slice aj p0.Splits.length an,.slice ak p0.Clocks.length ao,.slice am p0.Readings.length ap],.agg #[jV p1.Kind,jV p1.Skier,jV p1.Index,.bool p1.Up]] w (wBc w [] U (fun U_ L_ v=>v=.tuple #[jV r.1,jV r.2]/\L_=[])):=by
 unfold wEc at hm
 refine Gv.of Tryz.func185 rfl Tryz.ntmps185 Tryz.results185 rfl (sR gBe rfl (zq (cs:=[.slice ah p0.Starts.length ai,.slice aj p0.Splits.length an,.slice ak p0.Clocks.length ao,.slice am p0.Readings.length ap]) rfl rfl rfl rfl rfl rfl (by rfl) hS ?_))
 intro W1 b2 aX
 refine zq (cs:=[jV p1.Kind,jV p1.Skier,jV p1.Index,.bool p1.Up]) rfl rfl rfl rfl rfl rfl (by rfl) aX ?_
 intro W5 b6 aY
 refine Zw rfl rfl rfl rfl rfl rfl (Zw rfl rfl rfl rfl rfl rfl (eN (zJ (ZO zz [3,1,3,1,3,1,3,1,3,1,3,1,3,3,3] fL15 (by kernel_rfl) ?_))))
 have ae:=aY.drew
 generalize hw_W10:({ W5 with drawn:=W5.drawn + 1 }:World)=bb at ae ⊢
 refine oR Z (zF Z Z zW Z zk) (oL Z (ae.ldB (j:=1) Z Z Z zr (v:=.slice ah p0.Starts.length ai) Z) (oR Z (zF Z Z ZD Z zC) (oL Z (ae.ldB (j:=0) Z Z Z zG (v:=jV p1.Skier) Z) (bnK hm fun x11 ag aZ=>?_))))
 have q:=au.el (fun _=>rfl) (wAj ag)
 obtain ⟨be,bn,av,aV⟩:=q
 refine oR Z (ZA Z Z av Z zD zC (wCO ag) (wCX ag)) (oL Z (ae.ldC (f:=0) aV (v:=jV x11) Z Z zG Z) (oR Z (zF Z Z zW Z zk) (oL Z (ae.ldB (j:=1) Z Z Z zr (v:=.slice ah p0.Starts.length ai) Z) (oR Z (zF Z Z ZD Z zC) (oL Z (ae.ldB (j:=0) Z Z Z zG (v:=jV p1.Skier) Z) ?_)))))
 have q:=au.el (fun _=>rfl) (wAj ag)
 obtain ⟨bg,bp,az,aW⟩:=q
 refine oR Z (ZA Z Z az Z zD zC (wCO ag) (wCX ag)) (oL Z (ae.ldC (f:=0) aW (v:=jV x11) Z Z zG Z) (oR Z (Runs.negw Z Z) (oA Z Z (oA Z Z (eN (zP ?_))))))
 cases aZ
 exact ⟨rfl,_,(wGV rfl rfl),U,_,(ae.pick [] _ (by decide) rfl),rfl,rfl⟩
theorem wJE (p0:wAF) (au:Option Addr) (aW:Nat) (av:Option Addr) (aX:Nat) (az:Option Addr) (aY:Nat) (aV:Option Addr) (aZ:Nat) (p1:wAN) (w:World) (U:PHeap) (hS:St0 w U []) (cQ:Sl U 1 au aW p0.Starts.length (nA KL.encI p0.Starts)) (cR:Sl U 2 av aX p0.Splits.length (nA wAP p0.Splits)) (cS:Sl U 3 az aY p0.Clocks.length (nA wAB p0.Clocks)) (cU:Sl U 4 aV aZ p0.Readings.length (nA wAM p0.Readings)) {r:wAJ × wAJ} (hm:wEd p0 p1=some r):Gv Tryz.prog 187 [.agg #[.slice au p0.Starts.length aW,.slice av p0.Splits.length aX,.slice az p0.Clocks.length aY,.slice aV p0.Readings.length aZ],.agg #[jV p1.Kind,jV p1.Skier,jV p1.Index,.bool p1.Up]] w (wBc w [] U (fun U_ L_ v=>v=.tuple #[.agg #[jV r.1.skier,jV r.1.mat],.agg #[jV r.2.skier,jV r.2.mat]]/\L_=[])):=by
 unfold wEd at hm
 refine Gv.of Tryz.func187 Z Tryz.ntmps187 Tryz.results187 Z (sR gBd Z ?_)
 let B0:List Value:=[.slice au p0.Starts.length aW,.slice av p0.Splits.length aX,.slice az p0.Clocks.length aY,.slice aV p0.Readings.length aZ]
 refine zq (cs:=B0) rfl rfl rfl rfl rfl rfl (by rfl) hS ?_
 intro W1 b2 bV
 let B1:List Value:=[jV p1.Kind,jV p1.Skier,jV p1.Index,.bool p1.Up]
 refine zq (cs:=B1) rfl rfl rfl rfl rfl rfl (by rfl) bV ?_
 intro W5 b6 bX
 let B2:List Value:=[jV 0,jV 0]
 refine zg (cs:=B2) Z Z Z Z Z zy Z bX ?_
 intro W9 ai bL
 refine zg (cs:=B2) Z Z Z Z Z zy Z bL ?_
 intro cA ak bN
 refine eN ?_
 have q:=bnd hm
 obtain ⟨⟨⟩,bZ,be⟩:=q
 try dsimp only at be
 let B3:List Value:=[jV p1.Skier,jV p1.Index]
 let B4:List Value:=[jV p1.Skier,jV (w64 (p1.Index + 1))]
 refine yP (fun σ_ w_=>∃ (U_:PHeap),σ_ 4=.pointer (some ⟨ai,0,none⟩)/\σ_ 5=.pointer (some ⟨ak,0,none⟩)/\PHeap.Le U U_/\sW w U U_ [.blk ai 111 B3,.blk ak 111 B4,.blk b6 149 B1,.blk b2 28 B0] w_) ?_ ?_
 refine CK.webp (U0:=U) (L0:=[.blk ak 111 B2,.blk b6 149 B1,.blk b2 28 B0]) zz [pW 6 [] (.pointer (some ⟨b6,1,none⟩)),pW 7 [0] (jV p1.Skier),pW 8 [] (.pointer (some ⟨b6,2,none⟩)),pW 9 [2] (jV p1.Index),pW 10 [1,3] (.agg B3.toArray),pW 11 [] (.pointer (some ⟨b6,1,none⟩)),pX 12 [5] (jV p1.Skier),pW 13 [] (.pointer (some ⟨b6,2,none⟩)),pX 14 [7] (jV p1.Index),pW 15 [8] (jV (w64 (p1.Index + 1))),pW 16 [6,9] (.agg B4.toArray),⟨none,[],[4],false,[],false,[.blk ai 111 B2],fun _ R=>R=[.blk ai 111 B3]⟩] [false] [(3,.pointer (some ⟨b6,0,none⟩)),(4,.pointer (some ⟨ai,0,none⟩)),(5,.pointer (some ⟨ak,0,none⟩))] (by kernel_rfl) ⟨rfl,rfl,rfl,trivial⟩ (bN.pick [1,0,2,3] _ (by decide) rfl) ⟨?_,?_,?_,?_,?_,?_,?_,?_,?_,?_,?_,?_,trivial⟩ ?_
 refine wpW ?_
 rintro _ _ _ _ _ ⟨bu,_⟩ _ _ _ cp
 exact oR Z (zF Z bu ZD Z zC) cp
 refine wpW ?_
 rintro _ _ _ _ _ _ _ ⟨⟨_,⟨bG,_⟩⟩,_⟩ bW cq
 exact oL Z (bW.ldB (j:=1) Z Z bG zG (v:=jV p1.Skier) Z) cq
 refine wpW ?_
 rintro _ _ _ _ _ ⟨bw,_⟩ _ _ _ cr
 exact oR Z (zF Z bw ZD Z zC) cr
 refine wpW ?_
 rintro _ _ _ _ _ _ _ ⟨⟨_,⟨bH,_⟩⟩,_⟩ bY ct
 exact oL Z (bY.ldB (j:=1) Z Z bH zG (v:=jV p1.Index) Z) ct
 refine wpW ?_
 rintro _ _ _ _ _ _ _ ⟨⟨_,⟨bI,_⟩⟩,⟨_,⟨bJ,_⟩⟩,_⟩ _ cu
 exact oR Z (ZN (pv:=[(0,jV p1.Skier),(1,jV p1.Index)]) (z:=B2) (cs:=B3) Z (wAG bI (wAG bJ wAZ)) zy wEq Z Z) cu
 refine wpW ?_
 rintro _ _ _ _ _ ⟨bm,_⟩ _ _ _ cw
 exact oR Z (zF Z bm ZD Z zC) cw
 refine wpX ?_
 rintro _ _ _ _ _ _ _ ⟨⟨_,⟨bz,_⟩⟩,_⟩ bK cd
 exact Zl Z Z Z Z (bK.ldB (j:=1) Z Z bz zG (v:=jV p1.Skier) Z) cd
 refine wpW ?_
 rintro _ _ _ _ _ ⟨bn,_⟩ _ _ _ cg
 exact oR Z (zF Z bn ZD Z zC) cg
 refine wpX ?_
 rintro _ _ _ _ _ _ _ ⟨⟨_,⟨bA,_⟩⟩,_⟩ bM ci
 exact Zl Z Z Z Z (bM.ldB (j:=1) Z Z bA zG (v:=jV p1.Index) Z) ci
 refine wpW ?_
 rintro _ _ _ _ _ _ _ ⟨⟨_,⟨bB,_⟩⟩,_⟩ _ cj
 exact oR Z (zU Z bB Z) cj
 refine wpW ?_
 rintro _ _ _ _ _ _ _ ⟨⟨_,⟨bC,_⟩⟩,⟨_,⟨bD,_⟩⟩,_⟩ _ cm
 exact oR Z (ZN (pv:=[(0,jV p1.Skier),(1,jV (w64 (p1.Index + 1)))]) (z:=B2) (cs:=B4) Z (wAG bC (wAG bD wAZ)) zy wEq Z Z) cm
 rintro _ _ _ bh bg _ ⟨_,bp,_⟩ _ ⟨⟨_,⟨bE,_⟩⟩,_⟩ rfl bO cn
 refine zh (j:=0) (vs:=B3) Z Z Z Z bO Z bp bE Z zO (zA Z) Z Z Z ?_
 intro bj bP
 have bQ:sW w U bh (.blk ai 111 B3 :: .blk ak 111 B2 :: .blk b6 149 B1 :: .blk b2 28 B0 :: bg) bj:=bP
 exact cn undef _ _ _ (zN _) bQ Z
 rintro cy ba ap ⟨cE,bq,bb,_⟩ cx _ ⟨cG,rfl⟩ _ ⟨cH,rfl⟩ _ ⟨cI,rfl⟩ _ ⟨cJ,rfl⟩ _ ⟨cK,rfl⟩ _ ⟨cL,rfl⟩ _ ⟨cM,rfl⟩ _ ⟨cN,rfl⟩ _ ⟨cO,rfl⟩ _ ⟨cP,rfl⟩ _ ⟨bF,rfl⟩ _ rfl bR
 have bS:sW w U ap [.blk ai 111 B3,.blk ak 111 B2,.blk b6 149 B1,.blk b2 28 B0] ba:=bR
 show OKS _ _ _ _ _ _ (.fx 12 .nil .stop) cy ba
 refine zh (j:=1) (vs:=B4) Z Z Z Z bS Z bb bF Z zO (zA Z) Z Z Z ?_
 intro bk bT
 have bU:sW w U ap [.blk ai 111 B3,.blk ak 111 B4,.blk b6 149 B1,.blk b2 28 B0] bk:=bT
 refine zd ?_
 cases bZ
 exact zI ⟨Z,⟨ap,bq,bb,cx,bU⟩⟩
 rintro cW cB ⟨bi,br,bs,cV,aq⟩
 refine zP ?_
 cases be
 exact ⟨rfl,_,(wFc (rs:=[.cell 4 111,.cell 5 111]) (vs:=[.agg B3.toArray,.agg B4.toArray]) ⟨⟨_,br,(wBo zj zO (aq.blkAt (k:=0) rfl) (vs:=B3) rfl rfl)⟩,⟨⟨_,bs,(wBo zj zO (aq.blkAt (k:=1) rfl) (vs:=B4) rfl rfl)⟩,trivial⟩⟩ rfl),bi,_,(aq.pick [] _ (by decide) rfl),rfl,rfl⟩
set_option maxHeartbeats 4000000
theorem wJF (p0:wAF) (aj:Option Addr) (an:Nat) (ah:Option Addr) (ai:Nat) (ak:Option Addr) (ao:Nat) (am:Option Addr) (ap:Nat) (p1:wAN) (w:World) (U:PHeap) (hS:St0 w U []) (bj:Sl U 1 aj an p0.Starts.length (nA KL.encI p0.Starts)) (au:Sl U 2 ah ai p0.Splits.length (nA wAP p0.Splits)) (bk:Sl U 3 ak ao p0.Clocks.length (nA wAB p0.Clocks)) (bm:Sl U 4 am ap p0.Readings.length (nA wAM p0.Readings)) {r:Int × Int} (hm:wEe p0 p1=some r):Gv Tryz.prog 188 [.agg #[.slice aj p0.Starts.length an,.slice ah p0.Splits.length ai,.slice ak p0.Clocks.length ao,.slice am p0.Readings.length ap],.agg #[jV p1.Kind,jV p1.Skier,jV p1.Index,.bool p1.Up]] w (wBc w [] U (fun U_ L_ v=>v=.tuple #[jV r.1,jV r.2]/\L_=[])):=by
 unfold wEe at hm
 refine Gv.of Tryz.func188 rfl Tryz.ntmps188 Tryz.results188 rfl (sR gBe rfl (zq (cs:=[.slice aj p0.Starts.length an,.slice ah p0.Splits.length ai,.slice ak p0.Clocks.length ao,.slice am p0.Readings.length ap]) rfl rfl rfl rfl rfl rfl (by rfl) hS ?_))
 intro W1 b2 aX
 refine zq (cs:=[jV p1.Kind,jV p1.Skier,jV p1.Index,.bool p1.Up]) rfl rfl rfl rfl rfl rfl (by rfl) aX ?_
 intro W5 b6 aY
 refine Zw rfl rfl rfl rfl rfl rfl (Zw rfl rfl rfl rfl rfl rfl (eN (zJ (ZO zz [3,1,3,1,3,3,1,3,1,3,1,3,3,1,3,3,3] fL17 (by kernel_rfl) ?_))))
 have ae:=aY.drew
 generalize hw_W10:({ W5 with drawn:=W5.drawn + 1 }:World)=bb at ae ⊢
 refine oR Z (zF Z Z zW Z yK) (oL Z (ae.ldB (j:=1) Z Z Z yf (v:=.slice ah p0.Splits.length ai) Z) (oR Z (zF Z Z ZD Z zC) (oL Z (ae.ldB (j:=0) Z Z Z zG (v:=jV p1.Index) Z) (bnK hm fun x11 ag aZ=>?_))))
 have q:=au.el (fun _=>rfl) (wAj ag)
 obtain ⟨be,bn,av,aV⟩:=q
 refine oR Z (ZA Z Z av Z ZY Za (wCO ag) (wCX ag)) (oR Z (zF Z Z ZI Z zC) (oL Z (ae.ldC (f:=1) aV (v:=jV x11.Hi) Z Z zG Z) (oR Z (zF Z Z zW Z yK) (oL Z (ae.ldB (j:=1) Z Z Z yf (v:=.slice ah p0.Splits.length ai) Z) (oR Z (zF Z Z ZD Z zC) (oL Z (ae.ldB (j:=0) Z Z Z zG (v:=jV p1.Index) Z) ?_))))))
 have q:=au.el (fun _=>rfl) (wAj ag)
 obtain ⟨bg,bp,az,aW⟩:=q
 refine oR Z (ZA Z Z az Z ZY Za (wCO ag) (wCX ag)) (oR Z (zF Z Z ZI Z zC) (oL Z (ae.ldC (f:=0) aW (v:=jV x11.Lo) Z Z zG Z) (oR Z (Runs.negw Z Z) (oA Z Z (oA Z Z (eN (zP ?_)))))))
 cases aZ
 exact ⟨rfl,_,(wGV rfl rfl),U,_,(ae.pick [] _ (by decide) rfl),rfl,rfl⟩
theorem wGY (p0:Int) (w:World) (U:PHeap) (hS:St0 w U [])  {r:wAJ} (hm:wDf p0=some r):Gv Tryz.prog 191 [jV p0] w (wBc w [] U (fun U_ L_ v=>v=.agg #[jV r.skier,jV r.mat]/\L_=[])):=by
 unfold wDf at hm
 refine Gv.of Tryz.func191 Z Tryz.ntmps191 Tryz.results191 Z (sR (.fx 0 .nil .stop) Z (zg (cs:=[jV 0,jV 0]) Z Z Z Z Z zy Z hS ?_))
 intro W1 b2 ai
 refine eN (sR (wEQ (.fx 3 .nil .stop)) Z (oM Z Z (oR Z (zU Z Z Z) ?_)))
 let B0:List Value:=[jV (-1),jV (w64 (1 + p0))]
 refine oR Z (ZN (pv:=[(0,jV (-1)),(1,jV (w64 (1 + p0)))]) (z:=[jV 0,jV 0]) (cs:=B0) Z (wAG Z (wAG Z wAZ)) zy wEq Z Z) (zh (j:=0) (vs:=B0) Z Z Z Z ai Z Z Z Z zO (zA Z) Z Z Z ?_)
 intro W5 aj
 have ae:sW w U U [.blk b2 111 B0] W5:=aj
 refine eN (zP ?_)
 cases hm
 exact ⟨rfl,_,(wLc (v:=.agg B0.toArray) ⟨⟨_,rfl,(wBo zj zO (ae.blkAt (k:=0) rfl) (vs:=B0) rfl rfl)⟩,trivial⟩),U,_,(ae.pick [] _ (by decide) rfl),rfl,rfl⟩
theorem wJG (p0:wAF) (av:Option Addr) (aX:Nat) (az:Option Addr) (aY:Nat) (aV:Option Addr) (aZ:Nat) (aW:Option Addr) (ba:Nat) (p1:wAN) (w:World) (U:PHeap) (hS:St0 w U []) (bM:Sl U 1 av aX p0.Starts.length (nA KL.encI p0.Starts)) (bN:Sl U 2 az aY p0.Splits.length (nA wAP p0.Splits)) (bO:Sl U 3 aV aZ p0.Clocks.length (nA wAB p0.Clocks)) (bP:Sl U 4 aW ba p0.Readings.length (nA wAM p0.Readings)) {r:wAJ × wAJ} (hm:wEf p0 p1=some r):Gv Tryz.prog 190 [.agg #[.slice av p0.Starts.length aX,.slice az p0.Splits.length aY,.slice aV p0.Clocks.length aZ,.slice aW p0.Readings.length ba],.agg #[jV p1.Kind,jV p1.Skier,jV p1.Index,.bool p1.Up]] w (wBc w [] U (fun U_ L_ v=>v=.tuple #[.agg #[jV r.1.skier,jV r.1.mat],.agg #[jV r.2.skier,jV r.2.mat]]/\L_=[])):=by
 unfold wEf at hm
 refine Gv.of Tryz.func190 Z Tryz.ntmps190 Tryz.results190 Z (sR gBd Z ?_)
 let B0:List Value:=[.slice av p0.Starts.length aX,.slice az p0.Splits.length aY,.slice aV p0.Clocks.length aZ,.slice aW p0.Readings.length ba]
 refine zq (cs:=B0) rfl rfl rfl rfl rfl rfl (by rfl) hS ?_
 intro W1 b2 bw
 let B1:List Value:=[jV p1.Kind,jV p1.Skier,jV p1.Index,.bool p1.Up]
 refine zq (cs:=B1) rfl rfl rfl rfl rfl rfl (by rfl) bw ?_
 intro W5 b6 bE
 let B2:List Value:=[jV 0,jV 0]
 refine zg (cs:=B2) Z Z Z Z Z zy Z bE ?_
 intro W9 am bq
 refine zg (cs:=B2) Z Z Z Z Z zy Z bq ?_
 intro be an br
 refine eN (zJ (ZO zz [2,3,1,2,0,0] (.fl 1 (.fl 2 (.fx 0 (.fx 3 gAm .stop) .stop))) (by kernel_rfl) ?_))
 have aq:=br.drew
 generalize hw_W18:({ be with drawn:=be.drawn + 1 }:World)=bi at aq ⊢
 refine oR Z (zF Z Z ZD Z zC) (oL Z (aq.ldB (j:=2) Z Z Z zG (v:=jV p1.Index) Z) (bnK hm fun x19 bn bF=>zL 0 Z Z Z Z (zK Z Z Tryz.call128 zM Z) aq (fun hs=>wGn bi U hs bn) (.inr Z) ?_))
 rintro bb bH bS bg bQ bs ⟨rfl,rfl⟩
 have bu:sW w U bb [.blk an 111 B2,.blk am 111 B2,.blk b6 149 B1,.blk b2 28 B0] bg:=bs
 refine bnK bF fun bh bp bG=>zL 0 Z Z Z Z (zK Z Z Tryz.call191 (zB Z zM) Z) bu (fun hs=>wGY p1.Index bg bb hs bp) (.inr Z) ?_
 rintro ak bI bT bj bR bz ⟨rfl,rfl⟩
 have bA:sW w U ak [.blk an 111 B2,.blk am 111 B2,.blk b6 149 B1,.blk b2 28 B0] bj:=bz
 let B3:List Value:=[jV x19.skier,jV x19.mat]
 refine zh (j:=1) (vs:=B3) Z Z Z Z bA Z Z Z Z zO (zA Z) Z Z Z ?_
 intro bk bB
 have bC:sW w U ak [.blk an 111 B2,.blk am 111 B3,.blk b6 149 B1,.blk b2 28 B0] bk:=bB
 let B4:List Value:=[jV bh.skier,jV bh.mat]
 refine zh (j:=0) (vs:=B4) Z Z Z Z bC Z Z Z Z zO (zA Z) Z Z Z ?_
 intro bm bD
 have au:sW w U ak [.blk an 111 B4,.blk am 111 B3,.blk b6 149 B1,.blk b2 28 B0] bm:=bD
 refine eN (zP ?_)
 cases bG
 exact ⟨rfl,_,(wFc (rs:=[.cell 4 111,.cell 5 111]) (vs:=[.agg B3.toArray,.agg B4.toArray]) ⟨⟨_,rfl,(wBo zj zO (au.blkAt (k:=1) rfl) (vs:=B3) rfl rfl)⟩,⟨⟨_,rfl,(wBo zj zO (au.blkAt (k:=0) rfl) (vs:=B4) rfl rfl)⟩,trivial⟩⟩ rfl),ak,_,(au.pick [] _ (by decide) rfl),rfl,rfl⟩
theorem wJH (p0:wAF) (aj:Option Addr) (an:Nat) (ak:Option Addr) (ao:Nat) (ah:Option Addr) (ai:Nat) (am:Option Addr) (ap:Nat) (p1:wAN) (w:World) (U:PHeap) (hS:St0 w U []) (bj:Sl U 1 aj an p0.Starts.length (nA KL.encI p0.Starts)) (bk:Sl U 2 ak ao p0.Splits.length (nA wAP p0.Splits)) (au:Sl U 3 ah ai p0.Clocks.length (nA wAB p0.Clocks)) (bm:Sl U 4 am ap p0.Readings.length (nA wAM p0.Readings)) {r:Int × Int} (hm:wEg p0 p1=some r):Gv Tryz.prog 192 [.agg #[.slice aj p0.Starts.length an,.slice ak p0.Splits.length ao,.slice ah p0.Clocks.length ai,.slice am p0.Readings.length ap],.agg #[jV p1.Kind,jV p1.Skier,jV p1.Index,.bool p1.Up]] w (wBc w [] U (fun U_ L_ v=>v=.tuple #[jV r.1,jV r.2]/\L_=[])):=by
 unfold wEg at hm
 refine Gv.of Tryz.func192 rfl Tryz.ntmps192 Tryz.results192 rfl (sR gBe rfl (zq (cs:=[.slice aj p0.Starts.length an,.slice ak p0.Splits.length ao,.slice ah p0.Clocks.length ai,.slice am p0.Readings.length ap]) rfl rfl rfl rfl rfl rfl (by rfl) hS ?_))
 intro W1 b2 aX
 refine zq (cs:=[jV p1.Kind,jV p1.Skier,jV p1.Index,.bool p1.Up]) rfl rfl rfl rfl rfl rfl (by rfl) aX ?_
 intro W5 b6 aY
 refine Zw rfl rfl rfl rfl rfl rfl (Zw rfl rfl rfl rfl rfl rfl (eN (zJ (ZO zz [3,1,3,1,3,3,3,1,3,3,1,3,1,3,3,3,1,3,3] fL19 (by kernel_rfl) ?_))))
 have ae:=aY.drew
 generalize hw_W10:({ W5 with drawn:=W5.drawn + 1 }:World)=bb at ae ⊢
 refine oR Z (zF Z Z zW Z Zs) (oL Z (ae.ldB (j:=1) Z Z Z yZ (v:=.slice ah p0.Clocks.length ai) Z) (oR Z (zF Z Z ZD Z zC) (oL Z (ae.ldB (j:=0) Z Z Z zG (v:=jV p1.Index) Z) (bnK hm fun x11 ag aZ=>?_))))
 have q:=au.el (fun _=>rfl) (wAj ag)
 obtain ⟨be,bn,av,aV⟩:=q
 refine oR Z (ZA Z Z av Z ZZ Zx (wCO ag) (wCX ag)) (oR Z (zF Z Z yD Z Za) (oR Z (zF Z Z ZI Z zC) (oL Z (ae.ldC (f:=0) aV (v:=jV x11.Offset.Lo) Z Z zG Z) (oR Z (Runs.negw Z Z) (oR Z (zF Z Z zW Z Zs) (oL Z (ae.ldB (j:=1) Z Z Z yZ (v:=.slice ah p0.Clocks.length ai) Z) (oR Z (zF Z Z ZD Z zC) (oL Z (ae.ldB (j:=0) Z Z Z zG (v:=jV p1.Index) Z) ?_))))))))
 have q:=au.el (fun _=>rfl) (wAj ag)
 obtain ⟨bg,bp,az,aW⟩:=q
 refine oR Z (ZA Z Z az Z ZZ Zx (wCO ag) (wCX ag)) (oR Z (zF Z Z yD Z Za) (oR Z (zF Z Z ZI Z zC) (oL Z (ae.ldC (f:=1) aW (v:=jV x11.Offset.Hi) Z Z zG Z) (oA Z Z (oA Z Z (eN (zP ?_)))))))
 cases aZ
 exact ⟨rfl,_,(wGV rfl rfl),U,_,(ae.pick [] _ (by decide) rfl),rfl,rfl⟩
theorem wIf (p0:wAF) (aZ:Option Addr) (be:Nat) (ba:Option Addr) (bg:Nat) (bb:Option Addr) (bh:Nat) (av:Option Addr) (az:Nat) (p1:wAN) (w:World) (U:PHeap) (hS:St0 w U []) (dh:Sl U 1 aZ be p0.Starts.length (nA KL.encI p0.Starts)) (dm:Sl U 2 ba bg p0.Splits.length (nA wAP p0.Splits)) (dp:Sl U 3 bb bh p0.Clocks.length (nA wAB p0.Clocks)) (cy:Sl U 4 av az p0.Readings.length (nA wAM p0.Readings)) {r:wAJ × wAJ} (hm:wED p0 p1=some r):Gv Tryz.prog 194 [.agg #[.slice aZ p0.Starts.length be,.slice ba p0.Splits.length bg,.slice bb p0.Clocks.length bh,.slice av p0.Readings.length az],.agg #[jV p1.Kind,jV p1.Skier,jV p1.Index,.bool p1.Up]] w (wBc w [] U (fun U_ L_ v=>v=.tuple #[.agg #[jV r.1.skier,jV r.1.mat],.agg #[jV r.2.skier,jV r.2.mat]]/\L_=[])):=by
 unfold wED at hm
 refine Gv.of Tryz.func194 Z Tryz.ntmps194 Tryz.results194 Z (sR gBd Z ?_)
 let B0:List Value:=[.slice aZ p0.Starts.length be,.slice ba p0.Splits.length bg,.slice bb p0.Clocks.length bh,.slice av p0.Readings.length az]
 refine zq (cs:=B0) rfl rfl rfl rfl rfl rfl (by rfl) hS ?_
 intro W1 b2 ct
 let B1:List Value:=[jV p1.Kind,jV p1.Skier,jV p1.Index,.bool p1.Up]
 refine zq (cs:=B1) rfl rfl rfl rfl rfl rfl (by rfl) ct ?_
 intro W5 b6 cw
 let B2:List Value:=[jV 0,jV 0]
 refine zg (cs:=B2) Z Z Z Z Z zy Z cw ?_
 intro W9 ah bV
 refine zg (cs:=B2) Z Z Z Z Z zy Z bV ?_
 intro cR ai au
 refine eN (sR (wJO gAn) Z (oR Z (zF Z Z zW Z yi) (oL Z (au.ldB (j:=3) Z Z Z Tryz.isAgg26 (v:=.slice av p0.Readings.length az) Z) (oR Z (zF Z Z ZD Z zC) (oL Z (au.ldB (j:=2) Z Z Z zG (v:=jV p1.Index) Z) (bnK hm fun x17 aX cz=>?_))))))
 have q:=cy.el (fun _=>rfl) (wAj aX)
 obtain ⟨cX,dr,bS,bT⟩:=q
 refine oR Z (ZA Z Z bS Z yW Zt (wCO aX) (wCX aX)) (oL Z (au.ldCA (f:=0) bT Z Z Tryz.isAgg64 Zt (us:=[jV x17.Skier,jV x17.Mat,jV x17.Clock,jV x17.Time]) Z Z) (zg (cs:=[jV 0,jV 0,jV 0,jV 0]) Z Z Z Z Z Zy Z au ?_))
 intro cU ab cq
 let B3:List Value:=[jV x17.Skier,jV x17.Mat,jV x17.Clock,jV x17.Time]
 refine zh (j:=0) (vs:=B3) Z Z Z Z cq Z Z Z Z Zt (zA Z) Z Z Z ?_
 intro bA cr
 have cu:sW w U U [.blk ab 64 B3,.blk ai 111 B2,.blk ah 111 B2,.blk b6 149 B1,.blk b2 28 B0] bA:=cr
 refine eN ?_
 have q:=bnd cz
 obtain ⟨⟨x31,x32⟩,cB,bk⟩:=q
 try dsimp only at bk
 let B4:List Value:=[jV x17.Skier,jV x17.Mat]
 let B5:List Value:=[jV x31,jV x32]
 refine yP (fun σ_ w_=>∃ (U_:PHeap),σ_ 4=.pointer (some ⟨ah,0,none⟩)/\σ_ 5=.pointer (some ⟨ai,0,none⟩)/\PHeap.Le U U_/\sW w U U_ [.blk ah 111 B5,.blk ab 64 B3,.blk ai 111 B4,.blk b6 149 B1,.blk b2 28 B0] w_) ?_ ?_
 refine bnK cB fun x36 bR cA=>?_
 let B6:List Value:=[jV x36.skier,jV x36.mat]
 refine CK.webp (U0:=U) (L0:=[.blk ab 64 B3,.blk ai 111 B2,.blk b6 149 B1,.blk b2 28 B0]) zz [pW 13 [] (.pointer (some ⟨ab,2,none⟩)),pW 14 [0] (jV x17.Clock),⟨some 15,[15],[1],false,[],false,[],fun σ R=>σ 15=.agg B6.toArray/\R=[]⟩,pW 16 [] (.pointer (some ⟨ab,0,none⟩)),pX 17 [3] (jV x17.Skier),pW 18 [] (.pointer (some ⟨ab,1,none⟩)),pX 19 [5] (jV x17.Mat),pW 20 [4,6] (.agg B4.toArray),⟨none,[],[2],false,[],false,[.blk ah 111 B2],fun _ R=>R=[.blk ah 111 B6]⟩] [false] [(4,.pointer (some ⟨ah,0,none⟩)),(5,.pointer (some ⟨ai,0,none⟩)),(6,.pointer (some ⟨ab,0,none⟩))] (by kernel_rfl) ⟨rfl,rfl,rfl,trivial⟩ (cu.pick [2,0,1,3,4] _ (by decide) rfl) ⟨?_,?_,?_,?_,?_,?_,?_,?_,?_,trivial⟩ ?_
 refine wpW ?_
 rintro _ _ _ _ _ ⟨_,_,bI,_⟩ _ _ _ cK
 exact oR Z (zF Z bI ZM Z zC) cK
 refine wpW ?_
 rintro _ _ _ _ _ _ _ ⟨⟨_,⟨bQ,_⟩⟩,_⟩ cx cL
 exact oL Z (cx.ldB (j:=0) Z Z bQ zG (v:=jV x17.Clock) Z) cL
 rintro _ _ bB bs bn _ _ _ ⟨⟨_,⟨bJ,_⟩⟩,_⟩ rfl bU cC
 refine zL 0 Z Z Z Z (zK Z Z Tryz.call191 (zB bJ zM) Z) bU (fun hs=>wGY x17.Clock bB bs hs bR) (.inr Z) ?_
 rintro bp cP dt bu cM bW ⟨rfl,rfl⟩
 have bX:sW w U bp (.blk ab 64 B3 :: .blk ai 111 B2 :: .blk b6 149 B1 :: .blk b2 28 B0 :: bn) bu:=bW
 exact cC _ _ _ _ cM bX ⟨Z,Z⟩
 refine wpW ?_
 rintro _ _ _ _ _ ⟨_,_,bC,_⟩ _ _ _ cD
 exact oR Z (zF Z bC ZM Z zC) cD
 refine wpX ?_
 rintro _ _ _ _ _ _ _ ⟨⟨_,⟨bK,_⟩⟩,_⟩ bY cE
 exact Zl Z Z Z Z (bY.ldB (j:=0) Z Z bK zG (v:=jV x17.Skier) Z) cE
 refine wpW ?_
 rintro _ _ _ _ _ ⟨_,_,bD,_⟩ _ _ _ cG
 exact oR Z (zF Z bD ZM Z zC) cG
 refine wpX ?_
 rintro _ _ _ _ _ _ _ ⟨⟨_,⟨bL,_⟩⟩,_⟩ bZ cH
 exact Zl Z Z Z Z (bZ.ldB (j:=0) Z Z bL zG (v:=jV x17.Mat) Z) cH
 refine wpW ?_
 rintro _ _ _ _ _ _ _ ⟨⟨_,⟨bM,_⟩⟩,⟨_,⟨bN,_⟩⟩,_⟩ _ cI
 exact oR Z (ZN (pv:=[(0,jV x17.Skier),(1,jV x17.Mat)]) (z:=B2) (cs:=B4) Z (wAG bM (wAG bN wAZ)) zy wEq Z Z) cI
 rintro _ _ _ bq bm _ ⟨bE,_⟩ _ ⟨⟨_,⟨bO,_⟩⟩,_⟩ rfl cd cJ
 refine zh (j:=0) (vs:=B6) Z Z Z Z cd Z bE bO Z zO (zA Z) Z Z Z ?_
 intro bw cg
 have ci:sW w U bq (.blk ah 111 B6 :: .blk ab 64 B3 :: .blk ai 111 B2 :: .blk b6 149 B1 :: .blk b2 28 B0 :: bm) bw:=cg
 exact cJ undef _ _ _ (zN _) ci Z
 rintro cO bi aW ⟨bF,bj,cY,_⟩ cN _ ⟨cZ,rfl⟩ _ ⟨c8,rfl⟩ _ ⟨da,rfl⟩ _ ⟨db,rfl⟩ _ ⟨de,rfl⟩ _ ⟨df,rfl⟩ _ ⟨dg,rfl⟩ _ ⟨bP,rfl⟩ _ rfl cj
 have cm:sW w U aW [.blk ah 111 B6,.blk ab 64 B3,.blk ai 111 B2,.blk b6 149 B1,.blk b2 28 B0] bi:=cj
 show OKS _ _ _ _ _ _ (.fx 9 .nil .stop) cO bi
 refine zh (j:=2) (vs:=B4) Z Z Z Z cm Z bj bP Z zO (zA Z) Z Z Z ?_
 intro bz cn
 have cp:sW w U aW [.blk ah 111 B6,.blk ab 64 B3,.blk ai 111 B4,.blk b6 149 B1,.blk b2 28 B0] bz:=cn
 refine zd ?_
 cases cA
 exact zI ⟨Z,⟨aW,bF,bj,cN,cp⟩⟩
 rintro du cS ⟨br,bG,bH,dq,aY⟩
 refine zP ?_
 cases bk
 exact ⟨rfl,_,(wFc (rs:=[.cell 4 111,.cell 5 111]) (vs:=[.agg B5.toArray,.agg B4.toArray]) ⟨⟨_,bG,(wBo zj zO (aY.blkAt (k:=0) rfl) (vs:=B5) rfl rfl)⟩,⟨⟨_,bH,(wBo zj zO (aY.blkAt (k:=2) rfl) (vs:=B4) rfl rfl)⟩,trivial⟩⟩ rfl),br,_,(aY.pick [] _ (by decide) rfl),rfl,rfl⟩
theorem wIg (p0:wAF) (aq:Option Addr) (av:Nat) (au:Option Addr) (az:Nat) (ai:Option Addr) (aj:Nat) (am:Option Addr) (an:Nat) (p1:wAN) (w:World) (U:PHeap) (hS:St0 w U []) (bF:Sl U 1 aq av p0.Starts.length (nA KL.encI p0.Starts)) (bG:Sl U 2 au az p0.Splits.length (nA wAP p0.Splits)) (aY:Sl U 3 ai aj p0.Clocks.length (nA wAB p0.Clocks)) (br:Sl U 4 am an p0.Readings.length (nA wAM p0.Readings)) {r:Int × Int} (hm:wEE p0 p1=some r):Gv Tryz.prog 195 [.agg #[.slice aq p0.Starts.length av,.slice au p0.Splits.length az,.slice ai p0.Clocks.length aj,.slice am p0.Readings.length an],.agg #[jV p1.Kind,jV p1.Skier,jV p1.Index,.bool p1.Up]] w (wBc w [] U (fun U_ L_ v=>v=.tuple #[jV r.1,jV r.2]/\L_=[])):=by
 unfold wEE at hm
 refine Gv.of Tryz.func195 Z Tryz.ntmps195 Tryz.results195 Z (sR gBe Z ?_)
 let B0:List Value:=[.slice aq p0.Starts.length av,.slice au p0.Splits.length az,.slice ai p0.Clocks.length aj,.slice am p0.Readings.length an]
 refine zq (cs:=B0) rfl rfl rfl rfl rfl rfl (by rfl) hS ?_
 intro W1 b2 bq
 let B1:List Value:=[jV p1.Kind,jV p1.Skier,jV p1.Index,.bool p1.Up]
 refine zq (cs:=B1) rfl rfl rfl rfl rfl rfl (by rfl) bq ?_
 intro W5 b6 ak
 refine oA Z Z (oA Z Z (eN (sR (wJO gAn) Z (oR Z (zF Z Z zW Z yi) (oL Z (ak.ldB (j:=1) Z Z Z Tryz.isAgg26 (v:=.slice am p0.Readings.length an) Z) (oR Z (zF Z Z ZD Z zC) (oL Z (ak.ldB (j:=0) Z Z Z zG (v:=jV p1.Index) Z) (bnK hm fun x9 ap bs=>?_))))))))
 have q:=br.el (fun _=>rfl) (wAj ap)
 obtain ⟨bC,bH,be,bi⟩:=q
 refine oR Z (ZA Z Z be Z yW Zt (wCO ap) (wCX ap)) (oL Z (ak.ldCA (f:=0) bi Z Z Tryz.isAgg64 Zt (us:=[jV x9.Skier,jV x9.Mat,jV x9.Clock,jV x9.Time]) Z Z) (zg (cs:=[jV 0,jV 0,jV 0,jV 0]) Z Z Z Z Z Zy Z ak ?_))
 intro bz aZ bm
 let B2:List Value:=[jV x9.Skier,jV x9.Mat,jV x9.Clock,jV x9.Time]
 refine zh (j:=0) (vs:=B2) Z Z Z Z bm Z Z Z Z Zt (zA Z) Z Z Z ?_
 intro ao bn
 have bp:sW w U U [.blk aZ 64 B2,.blk b6 149 B1,.blk b2 28 B0] ao:=bn
 refine eN (zJ (ZO zz [3,1,3,1,3,1,3,3,1,3,3,1,3,1,3,3,1,3,1,3,3,3] fL22 (by kernel_rfl) ?_))
 have ae:=bp.drew
 generalize hw_W24:({ ao with drawn:=ao.drawn + 1 }:World)=bA at ae ⊢
 refine oR Z (zF Z Z ZM Z zC) (oL Z (ae.ldB (j:=0) Z Z Z zG (v:=jV x9.Time) Z) (oR Z (zF Z Z zW Z Zs) (oL Z (ae.ldB (j:=2) Z Z Z yZ (v:=.slice ai p0.Clocks.length aj) Z) (oR Z (zF Z Z ZM Z zC) (oL Z (ae.ldB (j:=0) Z Z Z zG (v:=jV x9.Clock) Z) (bnK bs fun x25 ah bu=>?_))))))
 have q:=aY.el (fun _=>rfl) (wAj ah)
 obtain ⟨bD,bI,bg,bj⟩:=q
 refine oR Z (ZA Z Z bg Z ZZ Zx (wCO ah) (wCX ah)) (oR Z (zF Z Z yD Z zC) (oL Z (ae.ldC (f:=2) bj (v:=jV x25.Error) Z Z zG Z) (oR Z (zU Z Z Z) (oR Z (zF Z Z zW Z Zs) (oL Z (ae.ldB (j:=2) Z Z Z yZ (v:=.slice ai p0.Clocks.length aj) Z) (oR Z (zF Z Z ZM Z zC) (oL Z (ae.ldB (j:=0) Z Z Z zG (v:=jV x9.Clock) Z) ?_)))))))
 have q:=aY.el (fun _=>rfl) (wAj ah)
 obtain ⟨bE,bJ,bh,bk⟩:=q
 refine oR Z (ZA Z Z bh Z ZZ Zx (wCO ah) (wCX ah)) (oR Z (zF Z Z yD Z zC) (oL Z (ae.ldC (f:=2) bk (v:=jV x25.Error) Z Z zG Z) (oR Z (zF Z Z ZM Z zC) (oL Z (ae.ldB (j:=0) Z Z Z zG (v:=jV x9.Time) Z) (oR Z (Zk Z Z Z) (oA Z Z (oA Z Z (eN (zP ?_)))))))))
 cases bu
 exact ⟨rfl,_,(wGV rfl rfl),U,_,(ae.pick [] _ (by decide) rfl),rfl,rfl⟩
theorem wCC  (w:World) (U:PHeap) (hS:St0 w U [])  {r:Unit} (hm:wCm =some r):Gv Tryz.prog 160 [] w (wBc w [] U (fun U_ L_ v=>v=.agg #[.func (.func 183) #[] #[],.func (.func 184) #[] #[],.func (.func 185) #[] #[],.func (.func 186) #[] #[],.func (.func 187) #[] #[],.func (.func 188) #[] #[],.func (.func 189) #[] #[],.func (.func 190) #[] #[],.func (.func 192) #[] #[],.func (.func 193) #[] #[],.func (.func 194) #[] #[],.func (.func 195) #[] #[]]/\L_=[])):=by
 unfold wCm at hm
 refine Gv.of Tryz.func160 Z Tryz.ntmps160 Tryz.results160 Z (sR (.fx 0 .nil .stop) Z ?_)
 let B0:List Value:=[.nilFunc,.nilFunc,.nilFunc,.nilFunc,.nilFunc,.nilFunc,.nilFunc,.nilFunc,.nilFunc,.nilFunc,.nilFunc,.nilFunc]
 refine zg (cs:=B0) Z Z Z Z Z Tryz.zeroValue234 Z hS ?_
 intro W1 b2 ao
 refine eN (sR (wGw (.fx 5 .nil .stop)) Z ?_)
 let B1:List Value:=[.nilFunc,.nilFunc,.nilFunc]
 let B2:List Value:=[.func (.func 183) #[] #[],.func (.func 184) #[] #[],.func (.func 185) #[] #[]]
 refine oR Z (ZN (pv:=[(0,.func (.func 183) #[] #[]),(1,.func (.func 184) #[] #[]),(2,.func (.func 185) #[] #[])]) (z:=B1) (cs:=B2) Z (wAG Z (wAG Z (wAG Z wAZ))) Zo wHN Z Z) ?_
 let B3:List Value:=[.func (.func 186) #[] #[],.func (.func 187) #[] #[],.func (.func 188) #[] #[]]
 refine oR Z (ZN (pv:=[(0,.func (.func 186) #[] #[]),(1,.func (.func 187) #[] #[]),(2,.func (.func 188) #[] #[])]) (z:=B1) (cs:=B3) Z (wAG Z (wAG Z (wAG Z wAZ))) Zo wHN Z Z) ?_
 let B4:List Value:=[.func (.func 189) #[] #[],.func (.func 190) #[] #[],.func (.func 192) #[] #[]]
 refine oR Z (ZN (pv:=[(0,.func (.func 189) #[] #[]),(1,.func (.func 190) #[] #[]),(2,.func (.func 192) #[] #[])]) (z:=B1) (cs:=B4) Z (wAG Z (wAG Z (wAG Z wAZ))) Zo wHN Z Z) ?_
 let B5:List Value:=[.func (.func 193) #[] #[],.func (.func 194) #[] #[],.func (.func 195) #[] #[]]
 refine oR Z (ZN (pv:=[(0,.func (.func 193) #[] #[]),(1,.func (.func 194) #[] #[]),(2,.func (.func 195) #[] #[])]) (z:=B1) (cs:=B5) Z (wAG Z (wAG Z (wAG Z wAZ))) Zo wHN Z Z) ?_
 let B6:List Value:=[.func (.func 183) #[] #[],.func (.func 184) #[] #[],.func (.func 185) #[] #[],.func (.func 186) #[] #[],.func (.func 187) #[] #[],.func (.func 188) #[] #[],.func (.func 189) #[] #[],.func (.func 190) #[] #[],.func (.func 192) #[] #[],.func (.func 193) #[] #[],.func (.func 194) #[] #[],.func (.func 195) #[] #[]]
 refine oR Z (Runs.buildA (pv:=[(0,.agg B2.toArray),(1,.agg B3.toArray),(2,.agg B4.toArray),(3,.agg B5.toArray)]) (z:=B0) (cs:=B6) Z (wAG Z (wAG Z (wAG Z (wAG Z wAZ)))) Tryz.zeroValue234 yA ZR Z Z) (zh (j:=0) (vs:=B6) Z Z Z Z ao Z Z Z Z Tryz.sizeOf234 (zA Z) Z Z Z ?_)
 intro W5 ap
 have ak:sW w U U [.blk b2 234 B6] W5:=ap
 refine eN (zP ?_)
 cases hm
 exact ⟨rfl,_,(wLc (v:=.agg B6.toArray) ⟨⟨_,rfl,(wBo Tryz.isAgg234 Tryz.sizeOf234 (ak.blkAt (k:=0) rfl) (vs:=B6) rfl rfl)⟩,trivial⟩),U,_,(ak.pick [] _ (by decide) rfl),rfl,rfl⟩
theorem wHg (p0:wAF) (bE:Option Addr) (bI:Nat) (bF:Option Addr) (bJ:Nat) (bG:Option Addr) (bK:Nat) (bH:Option Addr) (bL:Nat) (p1:wAN) (w:World) (U:PHeap) (hS:St0 w U []) (cS:Sl U 1 bE bI p0.Starts.length (nA KL.encI p0.Starts)) (cU:Sl U 2 bF bJ p0.Splits.length (nA wAP p0.Splits)) (cV:Sl U 3 bG bK p0.Clocks.length (nA wAB p0.Clocks)) (cW:Sl U 4 bH bL p0.Readings.length (nA wAM p0.Readings)) {r:wAJ × wAJ × Int} (hm:wCD p0 p1=some r):Gv Tryz.prog 130 [.agg #[.slice bE p0.Starts.length bI,.slice bF p0.Splits.length bJ,.slice bG p0.Clocks.length bK,.slice bH p0.Readings.length bL],.agg #[jV p1.Kind,jV p1.Skier,jV p1.Index,.bool p1.Up]] w (wBc w [] U (fun U_ L_ v=>v=.tuple #[.agg #[jV r.1.skier,jV r.1.mat],.agg #[jV r.2.1.skier,jV r.2.1.mat],jV r.2.2]/\L_=[])):=by
 unfold wCD at hm
 refine Gv.of Tryz.func130 Z Tryz.ntmps130 Tryz.results130 Z ?_
 by_cases c1:p1.Kind=0
 have ga:=hm;rw [if_pos c1] at ga
 refine sR gBi Z ?_
 let B0:List Value:=[.slice bE p0.Starts.length bI,.slice bF p0.Splits.length bJ,.slice bG p0.Clocks.length bK,.slice bH p0.Readings.length bL]
 refine zq (cs:=B0) rfl rfl rfl rfl rfl rfl (by rfl) hS ?_
 intro W6 b7 od
 let B1:List Value:=[jV p1.Kind,jV p1.Skier,jV p1.Index,.bool p1.Up]
 refine zq (cs:=B1) rfl rfl rfl rfl rfl rfl (by rfl) od ?_
 intro pn bi jP
 let B2:List Value:=[jV 0,jV 0]
 refine zg (cs:=B2) Z Z Z Z Z zy Z jP ?_
 intro pp aX j3
 refine zg (cs:=B2) Z Z Z Z Z zy Z j3 ?_
 intro eA ba k6
 refine oA Z Z (eN ?_)
 have q:=bnd ga
 obtain ⟨⟨⟩,ou,fU⟩:=q
 try dsimp only at fU
 let B3:List Value:=[.func (.func 183) #[] #[],.func (.func 184) #[] #[],.func (.func 185) #[] #[]]
 refine yP (fun σ_ w_=>∃ (U_:PHeap) (bN:Nat),σ_ 2=.pointer (some ⟨b7,0,none⟩)/\σ_ 3=.pointer (some ⟨bi,0,none⟩)/\σ_ 4=.pointer (some ⟨aX,0,none⟩)/\σ_ 5=.pointer (some ⟨ba,0,none⟩)/\σ_ 7=.pointer (some ⟨bN,0,none⟩)/\PHeap.Le U U_/\sW w U U_ [.blk ba 111 B2,.blk aX 111 B2,.blk bi 149 B1,.blk b7 28 B0,.blk bN 233 B3] w_) ?_ ?_
 have q:=bnd ou
 obtain ⟨⟨⟩,fm,ef⟩:=q
 try dsimp only at ef
 refine ZO zz [2,3,1,3,2,0] gBm (by kernel_rfl) ?_
 have cM:=k6.drew
 generalize hw_W45:({ eA with drawn:=eA.drawn + 1 }:World)=ir at cM ⊢
 refine oR Z (zF Z Z ZD Z Tryz.sizeOf147) (oL Z (cM.ldB (j:=2) Z Z Z Tryz.isAgg147 (v:=jV p1.Kind) Z) (yC ?_ ?_))
 refine zL 0 Z Z Z Z (zK Z Z yg zM Z) cM (fun hs=>wCC ir U hs fm) (.inr Z) ?_
 rintro dz o8 qq iA oI ms ⟨rfl,rfl⟩
 have mu:sW w U dz [.blk ba 111 B2,.blk aX 111 B2,.blk bi 149 B1,.blk b7 28 B0] iA:=ms
 refine zY rfl rfl rfl rfl (fun _=>(Runs.ixA (i:=0) rfl rfl (congrArg (jV) c1) yA ZR (by decide) (by decide) (wDh yp ZR rfl))) (zg (cs:=[.nilFunc,.nilFunc,.nilFunc]) rfl rfl rfl rfl rfl Zo rfl mu ?_)
 intro pN eL mF
 refine zh (j:=0) (vs:=B3) Z Z Z Z mF Z Z Z Z ZR (zA Z) Z Z Z ?_
 intro iI mK
 have mO:sW w U dz [.blk eL 233 B3,.blk ba 111 B2,.blk aX 111 B2,.blk bi 149 B1,.blk b7 28 B0] iI:=mK
 refine zd ?_
 cases ef
 exact zI ⟨rfl,⟨dz,eL,rfl,rfl,rfl,rfl,rfl,oI,(mO.pick [1,2,3,4,0] _ (by decide) rfl)⟩⟩
 refine zg (cs:=[.nilFunc,.nilFunc,.nilFunc]) Z Z Z Z Z Zo Z cM ?_
 intro iN dK m4
 refine zL 0 Z Z Z Z (zK Z Z yg zM Z) m4 (fun hs=>wCC iN U hs fm) (.inr Z) ?_
 rintro dC pg qx iX oP n8 ⟨rfl,rfl⟩
 have n9:sW w U dC [.blk dK 233 [.nilFunc,.nilFunc,.nilFunc],.blk ba 111 B2,.blk aX 111 B2,.blk bi 149 B1,.blk b7 28 B0] iX:=n8
 refine zY rfl rfl rfl rfl (fun _=>(Runs.ixA (i:=0) rfl rfl (congrArg (jV) c1) yA ZR (by decide) (by decide) (wDh yp ZR rfl))) (zh (j:=0) (vs:=B3) rfl rfl rfl rfl n9 rfl rfl rfl rfl ZR (zA rfl) rfl rfl rfl ?_)
 intro iY oa
 have oc:sW w U dC [.blk dK 233 B3,.blk ba 111 B2,.blk aX 111 B2,.blk bi 149 B1,.blk b7 28 B0] iY:=oa
 refine zd ?_
 cases ef
 exact zI ⟨rfl,⟨dC,dK,rfl,rfl,rfl,rfl,rfl,oP,(oc.pick [1,2,3,4,0] _ (by decide) rfl)⟩⟩
 rintro qH iZ ⟨gI,bN,fc,dS,cg,bX,fd,df,cR⟩
 refine sR (wDo (.fx 4 (wRX gAo) .stop)) Z (oR Z (zF Z fd yH Z Tryz.sizeOf230) (oL Z (cR.ldB (j:=4) Z Z Z Tryz.isAgg230 (v:=.func (.func 184) #[] #[]) Z) (oL Z (cR.ldBA (j:=3) Z Z fc Zb ZQ (vs:=B0) Z Z) (oL Z (cR.ldBA (j:=2) Z Z dS ya yN (vs:=B1) Z Z) ?_))))
 have fG:=cS.le df
 have fH:=cU.le df
 have fJ:=cV.le df
 have fK:=cW.le df
 have q:=bnd fU
 obtain ⟨⟨x92,x93⟩,jJ,gj⟩:=q
 try dsimp only at gj
 refine zL 0 Z Z Z Z (zK Z Z Tryz.call184 (zB Z (zB Z zM)) Z) cR (fun hs=>wJC p0 bE bI bF bJ bG bK bH bL p1 iZ gI hs fG fH fJ fK jJ) (.inr Z) ?_
 rintro cC pk qz i4 cX jK ⟨rfl,rfl⟩
 have jL:sW w U cC [.blk ba 111 B2,.blk aX 111 B2,.blk bi 149 B1,.blk b7 28 B0,.blk bN 233 B3] i4:=jK
 refine oM Z Z (oR Z (zw Z Z (v:=.agg #[jV x92.skier,jV x92.mat]) Z) (oR Z (zw Z Z (v:=.agg #[jV x93.skier,jV x93.mat]) Z) ?_))
 let B4:List Value:=[jV x92.skier,jV x92.mat]
 refine zh (j:=1) (vs:=B4) Z Z Z Z jL Z cg Z Z zO (zA Z) Z Z Z ?_
 intro gJ jM
 have jN:sW w U cC [.blk ba 111 B2,.blk aX 111 B4,.blk bi 149 B1,.blk b7 28 B0,.blk bN 233 B3] gJ:=jM
 let B5:List Value:=[jV x93.skier,jV x93.mat]
 refine zh (j:=0) (vs:=B5) Z Z Z Z jN Z bX Z Z zO (zA Z) Z Z Z ?_
 intro ey jO
 have cE:sW w U cC [.blk ba 111 B5,.blk aX 111 B4,.blk bi 149 B1,.blk b7 28 B0,.blk bN 233 B3] ey:=jO
 refine eN (sR (wDo (.fx 4 (wQP (.nil)) .stop)) Z (oR Z (zF Z fd yH Z Tryz.sizeOf231) (oL Z (cE.ldB (j:=4) Z Z Z Tryz.isAgg231 (v:=.func (.func 185) #[] #[]) Z) (oL Z (cE.ldBA (j:=3) Z Z fc Zb ZQ (vs:=B0) Z Z) (oL Z (cE.ldBA (j:=2) Z Z dS ya yN (vs:=B1) Z Z) ?_)))))
 have ji:=fG.le cX
 have jj:=fH.le cX
 have jk:=fJ.le cX
 have jl:=fK.le cX
 have q:=bnd gj
 obtain ⟨⟨x113,x114⟩,jm,fP⟩:=q
 try dsimp only at fP
 refine zL 0 Z Z Z Z (zK Z Z Tryz.call185 (zB Z (zB Z zM)) Z) cE (fun hs=>wJD p0 bE bI bF bJ bG bK bH bL p1 ey cC hs ji jj jk jl jm) (.inr Z) ?_
 rintro bQ oU qf dD pZ jQ ⟨rfl,rfl⟩
 have cp:sW w U bQ [.blk ba 111 B5,.blk aX 111 B4,.blk bi 149 B1,.blk b7 28 B0,.blk bN 233 B3] dD:=jQ
 refine oM Z Z (oR Z (zw Z Z (v:=jV x113) Z) (oR Z (zw Z Z (v:=jV x114) Z) (oA Z Z (oA Z Z (eN (zJ (sR fL3 Z (oR Z (zF Z dS ZD Z Tryz.sizeOf4) (oL Z (cp.ldB (j:=2) Z Z Z Tryz.isAgg4 (v:=.bool p1.Up) Z) (oR Z (ZB Z Z) (eN (ifc fP ?_ ?_))))))))))))
 intro dL oe
 refine zu (nC dL.out) (kN ?_)
 have q:=bnd oe
 obtain ⟨⟨⟩,gm,fQ⟩:=q
 try dsimp only at fQ
 refine yP (fun σ_ w_=>∃ (U_:PHeap),σ_ 4=.pointer (some ⟨aX,0,none⟩)/\σ_ 5=.pointer (some ⟨ba,0,none⟩)/\σ_ 6=jV x113/\PHeap.Le bQ U_/\sW w U U_ [.blk ba 111 B5,.blk aX 111 B4,.blk bi 149 B1,.blk b7 28 B0,.blk bN 233 B3] w_) ?_ ?_
 refine ZO zz [1,2,3,0,0,3] gBn (by kernel_rfl) ?_
 have cq:=cp.drew
 generalize hw_W136:({ dD with drawn:=dD.drawn + 1 }:World)=po at cq ⊢
 refine oL Z (cq.ldBA (j:=1) Z Z cg zj zO (vs:=B4) Z Z) (oM Z Z (yC ?_ ?_))
 refine Zl Z Z Z Z (cq.ldBA (j:=0) Z Z bX zj zO (vs:=B5) Z Z) (zh (j:=1) (vs:=B4) Z Z Z Z cq Z cg Z Z zO (zA Z) Z Z Z ?_)
 intro gK jR
 have jS:sW w U bQ [.blk ba 111 B5,.blk aX 111 B4,.blk bi 149 B1,.blk b7 28 B0,.blk bN 233 B3] gK:=jR
 refine zh (j:=0) (vs:=B5) Z Z Z Z jS Z bX Z Z zO (zA Z) Z Z Z ?_
 intro gL jU
 have jW:sW w U bQ [.blk ba 111 B5,.blk aX 111 B4,.blk bi 149 B1,.blk b7 28 B0,.blk bN 233 B3] gL:=jU
 refine oA Z Z (zd ?_)
 cases gm
 exact zI ⟨Z,⟨bQ,cg,bX,Z,(zN _),jW⟩⟩
 refine zh (j:=1) (vs:=B4) Z Z Z Z cq Z cg Z Z zO (zA Z) Z Z Z ?_
 intro gM jX
 have fL:sW w U bQ [.blk ba 111 B5,.blk aX 111 B4,.blk bi 149 B1,.blk b7 28 B0,.blk bN 233 B3] gM:=jX
 refine Zl Z Z Z Z (fL.ldBA (j:=0) Z Z bX zj zO (vs:=B5) Z Z) (zh (j:=0) (vs:=B5) Z Z Z Z fL Z bX Z Z zO (zA Z) Z Z Z ?_)
 intro gN jY
 have jZ:sW w U bQ [.blk ba 111 B5,.blk aX 111 B4,.blk bi 149 B1,.blk b7 28 B0,.blk bN 233 B3] gN:=jY
 refine oA Z Z (zd ?_)
 cases gm
 exact zI ⟨Z,⟨bQ,cg,bX,Z,(zN _),jZ⟩⟩
 rintro qA pq ⟨gz,i6,i7,i8,p6,dT⟩
 refine zP ?_
 cases fQ
 exact ⟨rfl,_,(wFc (rs:=[.cell 4 111,.cell 5 111,.tmp 6]) (vs:=[.agg B4.toArray,.agg B5.toArray,jV x113]) ⟨⟨_,i6,(wBo zj zO (dT.blkAt (k:=1) rfl) (vs:=B4) rfl rfl)⟩,⟨⟨_,i7,(wBo zj zO (dT.blkAt (k:=0) rfl) (vs:=B5) rfl rfl)⟩,⟨i8,trivial⟩⟩⟩ rfl),gz,_,(dT.pick [] _ (by decide) rfl),rfl,rfl⟩
 intro dL og
 refine zo (nF (dL.out)) (sR (wEQ gAy) Z (oL Z (cp.ldBA (j:=0) Z Z bX zj zO (vs:=B5) Z Z) (oL Z (cp.ldBA (j:=1) Z Z cg zj zO (vs:=B4) Z Z) (oM Z Z (zh (j:=1) (vs:=B5) Z Z Z Z cp Z cg Z Z zO (zA Z) Z Z Z ?_)))))
 intro gO j0
 have j4:sW w U bQ [.blk ba 111 B5,.blk aX 111 B5,.blk bi 149 B1,.blk b7 28 B0,.blk bN 233 B3] gO:=j0
 refine zh (j:=0) (vs:=B4) Z Z Z Z j4 Z bX Z Z zO (zA Z) Z Z Z ?_
 intro gP j5
 have dU:sW w U bQ [.blk ba 111 B4,.blk aX 111 B5,.blk bi 149 B1,.blk b7 28 B0,.blk bN 233 B3] gP:=j5
 refine oA Z Z (eN (zP (zR ?_)))
 cases og
 exact ⟨rfl,_,(wFc (rs:=[.cell 4 111,.cell 5 111,.tmp 6]) (vs:=[.agg B5.toArray,.agg B4.toArray,jV x114]) ⟨⟨_,cg,(wBo zj zO (dU.blkAt (k:=1) rfl) (vs:=B5) rfl rfl)⟩,⟨⟨_,bX,(wBo zj zO (dU.blkAt (k:=0) rfl) (vs:=B4) rfl rfl)⟩,⟨rfl,trivial⟩⟩⟩ rfl),bQ,_,(dU.pick [] _ (by decide) rfl),rfl,rfl⟩
 by_cases c2:p1.Kind=1
 have fR:=hm;rw [if_neg c1,if_pos c2] at fR
 refine sR gBi Z ?_
 let B6:List Value:=[.slice bE p0.Starts.length bI,.slice bF p0.Splits.length bJ,.slice bG p0.Clocks.length bK,.slice bH p0.Readings.length bL]
 refine zq (cs:=B6) rfl rfl rfl rfl rfl rfl (by rfl) hS ?_
 intro pu bj j6
 let B7:List Value:=[jV p1.Kind,jV p1.Skier,jV p1.Index,.bool p1.Up]
 refine zq (cs:=B7) rfl rfl rfl rfl rfl rfl (by rfl) j6 ?_
 intro py bk j7
 let B8:List Value:=[jV 0,jV 0]
 refine zg (cs:=B8) Z Z Z Z Z zy Z j7 ?_
 intro pz aY j8
 refine zg (cs:=B8) Z Z Z Z Z zy Z j8 ?_
 intro ez aZ j9
 refine oA Z Z (eN ?_)
 have q:=bnd fR
 obtain ⟨⟨⟩,ot,fS⟩:=q
 try dsimp only at fS
 let B9:List Value:=[.func (.func 186) #[] #[],.func (.func 187) #[] #[],.func (.func 188) #[] #[]]
 refine yP (fun σ_ w_=>∃ (U_:PHeap) (bM:Nat),σ_ 2=.pointer (some ⟨bj,0,none⟩)/\σ_ 3=.pointer (some ⟨bk,0,none⟩)/\σ_ 4=.pointer (some ⟨aY,0,none⟩)/\σ_ 5=.pointer (some ⟨aZ,0,none⟩)/\σ_ 7=.pointer (some ⟨bM,0,none⟩)/\PHeap.Le U U_/\sW w U U_ [.blk aZ 111 B8,.blk aY 111 B8,.blk bk 149 B7,.blk bj 28 B6,.blk bM 233 B9] w_) ?_ ?_
 have q:=bnd ot
 obtain ⟨⟨⟩,ff,d7⟩:=q
 try dsimp only at d7
 refine ZO zz [2,3,1,3,2,0] gBm (by kernel_rfl) ?_
 have cG:=j9.drew
 generalize hw_W204:({ ez with drawn:=ez.drawn + 1 }:World)=gQ at cG ⊢
 refine oR Z (zF Z Z ZD Z Tryz.sizeOf147) (oL Z (cG.ldB (j:=2) Z Z Z Tryz.isAgg147 (v:=jV p1.Kind) Z) (yC ?_ ?_))
 refine zL 0 Z Z Z Z (zK Z Z yg zM Z) cG (fun hs=>wCC gQ U hs ff) (.inr Z) ?_
 rintro dv oW qh gR oz k8 ⟨rfl,rfl⟩
 have k9:sW w U dv [.blk aZ 111 B8,.blk aY 111 B8,.blk bk 149 B7,.blk bj 28 B6] gR:=k8
 refine zY rfl rfl rfl rfl (fun _=>(Runs.ixA (i:=1) rfl rfl (congrArg (jV) c2) yA ZR (by decide) (by decide) (wDh yp ZR rfl))) (zg (cs:=[.nilFunc,.nilFunc,.nilFunc]) rfl rfl rfl rfl rfl Zo rfl k9 ?_)
 intro pB eI lc
 refine zh (j:=0) (vs:=B9) Z Z Z Z lc Z Z Z Z ZR (zA Z) Z Z Z ?_
 intro gS lf
 have lg:sW w U dv [.blk eI 233 B9,.blk aZ 111 B8,.blk aY 111 B8,.blk bk 149 B7,.blk bj 28 B6] gS:=lf
 refine zd ?_
 cases d7
 exact zI ⟨rfl,⟨dv,eI,rfl,rfl,rfl,rfl,rfl,oz,(lg.pick [1,2,3,4,0] _ (by decide) rfl)⟩⟩
 refine zg (cs:=[.nilFunc,.nilFunc,.nilFunc]) Z Z Z Z Z Zo Z cG ?_
 intro gT dH lh
 refine zL 0 Z Z Z Z (zK Z Z yg zM Z) lh (fun hs=>wCC gT U hs ff) (.inr Z) ?_
 rintro dw oX qi gU oB li ⟨rfl,rfl⟩
 have lj:sW w U dw [.blk dH 233 [.nilFunc,.nilFunc,.nilFunc],.blk aZ 111 B8,.blk aY 111 B8,.blk bk 149 B7,.blk bj 28 B6] gU:=li
 refine zY rfl rfl rfl rfl (fun _=>(Runs.ixA (i:=1) rfl rfl (congrArg (jV) c2) yA ZR (by decide) (by decide) (wDh yp ZR rfl))) (zh (j:=0) (vs:=B9) rfl rfl rfl rfl lj rfl rfl rfl rfl ZR (zA rfl) rfl rfl rfl ?_)
 intro gW lm
 have ln:sW w U dw [.blk dH 233 B9,.blk aZ 111 B8,.blk aY 111 B8,.blk bk 149 B7,.blk bj 28 B6] gW:=lm
 refine zd ?_
 cases d7
 exact zI ⟨rfl,⟨dw,dH,rfl,rfl,rfl,rfl,rfl,oB,(ln.pick [1,2,3,4,0] _ (by decide) rfl)⟩⟩
 rintro qB gX ⟨gA,bM,eV,dP,bY,bU,eW,cY,cH⟩
 refine sR (wDo (.fx 4 (wRX gAo) .stop)) Z (oR Z (zF Z eW yH Z Tryz.sizeOf230) (oL Z (cH.ldB (j:=4) Z Z Z Tryz.isAgg230 (v:=.func (.func 187) #[] #[]) Z) (oL Z (cH.ldBA (j:=3) Z Z eV Zb ZQ (vs:=B6) Z Z) (oL Z (cH.ldBA (j:=2) Z Z dP ya yN (vs:=B7) Z Z) ?_))))
 have fg:=cS.le cY
 have fh:=cU.le cY
 have fj:=cV.le cY
 have fk:=cW.le cY
 have q:=bnd fS
 obtain ⟨⟨dg,dh⟩,jo,fT⟩:=q
 try dsimp only at fT
 refine zL 0 Z Z Z Z (zK Z Z Tryz.call187 (zB Z (zB Z zM)) Z) cH (fun hs=>wJE p0 bE bI bF bJ bG bK bH bL p1 gX gA hs fg fh fj fk jo) (.inr Z) ?_
 rintro cz oY qj gY cZ lq ⟨rfl,rfl⟩
 have ls:sW w U cz [.blk aZ 111 B8,.blk aY 111 B8,.blk bk 149 B7,.blk bj 28 B6,.blk bM 233 B9] gY:=lq
 refine oM Z Z (oR Z (zw Z Z (v:=.agg #[jV dg.skier,jV dg.mat]) Z) (oR Z (zw Z Z (v:=.agg #[jV dh.skier,jV dh.mat]) Z) ?_))
 let am:List Value:=[jV dg.skier,jV dg.mat]
 refine zh (j:=1) (vs:=am) Z Z Z Z ls Z bY Z Z zO (zA Z) Z Z Z ?_
 intro gZ lu
 have lv:sW w U cz [.blk aZ 111 B8,.blk aY 111 am,.blk bk 149 B7,.blk bj 28 B6,.blk bM 233 B9] gZ:=lu
 let ae:List Value:=[jV dh.skier,jV dh.mat]
 refine zh (j:=0) (vs:=ae) Z Z Z Z lv Z bU Z Z zO (zA Z) Z Z Z ?_
 intro eB lw
 have cI:sW w U cz [.blk aZ 111 ae,.blk aY 111 am,.blk bk 149 B7,.blk bj 28 B6,.blk bM 233 B9] eB:=lw
 refine eN (sR (wDo (.fx 4 (wQP (.nil)) .stop)) Z (oR Z (zF Z eW yH Z Tryz.sizeOf231) (oL Z (cI.ldB (j:=4) Z Z Z Tryz.isAgg231 (v:=.func (.func 188) #[] #[]) Z) (oL Z (cI.ldBA (j:=3) Z Z eV Zb ZQ (vs:=B6) Z Z) (oL Z (cI.ldBA (j:=2) Z Z dP ya yN (vs:=B7) Z Z) ?_)))))
 have jp:=fg.le cZ
 have jq:=fh.le cZ
 have jr:=fj.le cZ
 have jt:=fk.le cZ
 have q:=bnd fT
 obtain ⟨⟨er,gv⟩,ju,fV⟩:=q
 try dsimp only at fV
 refine zL 0 Z Z Z Z (zK Z Z Tryz.call188 (zB Z (zB Z zM)) Z) cI (fun hs=>wJF p0 bE bI bF bJ bG bK bH bL p1 eB cz hs jp jq jr jt ju) (.inr Z) ?_
 rintro bR o0 qk dE p7 lx ⟨rfl,rfl⟩
 have cr:sW w U bR [.blk aZ 111 ae,.blk aY 111 am,.blk bk 149 B7,.blk bj 28 B6,.blk bM 233 B9] dE:=lx
 refine oM Z Z (oR Z (zw Z Z (v:=jV er) Z) (oR Z (zw Z Z (v:=jV gv) Z) (oA Z Z (oA Z Z (eN (zJ (sR fL3 Z (oR Z (zF Z dP ZD Z Tryz.sizeOf4) (oL Z (cr.ldB (j:=2) Z Z Z Tryz.isAgg4 (v:=.bool p1.Up) Z) (oR Z (ZB Z Z) (eN (ifc fV ?_ ?_))))))))))))
 intro dM oh
 refine zu (nC dM.out) (kN ?_)
 have q:=bnd oh
 obtain ⟨⟨⟩,gq,fW⟩:=q
 try dsimp only at fW
 refine yP (fun σ_ w_=>∃ (U_:PHeap),σ_ 4=.pointer (some ⟨aY,0,none⟩)/\σ_ 5=.pointer (some ⟨aZ,0,none⟩)/\σ_ 6=jV er/\PHeap.Le bR U_/\sW w U U_ [.blk aZ 111 ae,.blk aY 111 am,.blk bk 149 B7,.blk bj 28 B6,.blk bM 233 B9] w_) ?_ ?_
 refine ZO zz [1,2,3,0,0,3] gBn (by kernel_rfl) ?_
 have ct:=cr.drew
 generalize hw_W295:({ dE with drawn:=dE.drawn + 1 }:World)=pC at ct ⊢
 refine oL Z (ct.ldBA (j:=1) Z Z bY zj zO (vs:=am) Z Z) (oM Z Z (yC ?_ ?_))
 refine Zl Z Z Z Z (ct.ldBA (j:=0) Z Z bU zj zO (vs:=ae) Z Z) (zh (j:=1) (vs:=am) Z Z Z Z ct Z bY Z Z zO (zA Z) Z Z Z ?_)
 intro g6 ly
 have lz:sW w U bR [.blk aZ 111 ae,.blk aY 111 am,.blk bk 149 B7,.blk bj 28 B6,.blk bM 233 B9] g6:=ly
 refine zh (j:=0) (vs:=ae) Z Z Z Z lz Z bU Z Z zO (zA Z) Z Z Z ?_
 intro g7 lB
 have lC:sW w U bR [.blk aZ 111 ae,.blk aY 111 am,.blk bk 149 B7,.blk bj 28 B6,.blk bM 233 B9] g7:=lB
 refine oA Z Z (zd ?_)
 cases gq
 exact zI ⟨Z,⟨bR,bY,bU,Z,(zN _),lC⟩⟩
 refine zh (j:=1) (vs:=am) Z Z Z Z ct Z bY Z Z zO (zA Z) Z Z Z ?_
 intro g8 lD
 have fM:sW w U bR [.blk aZ 111 ae,.blk aY 111 am,.blk bk 149 B7,.blk bj 28 B6,.blk bM 233 B9] g8:=lD
 refine Zl Z Z Z Z (fM.ldBA (j:=0) Z Z bU zj zO (vs:=ae) Z Z) (zh (j:=0) (vs:=ae) Z Z Z Z fM Z bU Z Z zO (zA Z) Z Z Z ?_)
 intro g9 lE
 have lF:sW w U bR [.blk aZ 111 ae,.blk aY 111 am,.blk bk 149 B7,.blk bj 28 B6,.blk bM 233 B9] g9:=lE
 refine oA Z Z (zd ?_)
 cases gq
 exact zI ⟨Z,⟨bR,bY,bU,Z,(zN _),lF⟩⟩
 rintro qC pD ⟨gB,i9,ja,jb,p8,dV⟩
 refine zP ?_
 cases fW
 exact ⟨rfl,_,(wFc (rs:=[.cell 4 111,.cell 5 111,.tmp 6]) (vs:=[.agg am.toArray,.agg ae.toArray,jV er]) ⟨⟨_,i9,(wBo zj zO (dV.blkAt (k:=1) rfl) (vs:=am) rfl rfl)⟩,⟨⟨_,ja,(wBo zj zO (dV.blkAt (k:=0) rfl) (vs:=ae) rfl rfl)⟩,⟨jb,trivial⟩⟩⟩ rfl),gB,_,(dV.pick [] _ (by decide) rfl),rfl,rfl⟩
 intro dM oi
 refine zo (nF (dM.out)) (sR (wEQ gAy) Z (oL Z (cr.ldBA (j:=0) Z Z bU zj zO (vs:=ae) Z Z) (oL Z (cr.ldBA (j:=1) Z Z bY zj zO (vs:=am) Z Z) (oM Z Z (zh (j:=1) (vs:=ae) Z Z Z Z cr Z bY Z Z zO (zA Z) Z Z Z ?_)))))
 intro ib lG
 have lH:sW w U bR [.blk aZ 111 ae,.blk aY 111 ae,.blk bk 149 B7,.blk bj 28 B6,.blk bM 233 B9] ib:=lG
 refine zh (j:=0) (vs:=am) Z Z Z Z lH Z bU Z Z zO (zA Z) Z Z Z ?_
 intro ic lI
 have dW:sW w U bR [.blk aZ 111 am,.blk aY 111 ae,.blk bk 149 B7,.blk bj 28 B6,.blk bM 233 B9] ic:=lI
 refine oA Z Z (eN (zP (zR ?_)))
 cases oi
 exact ⟨rfl,_,(wFc (rs:=[.cell 4 111,.cell 5 111,.tmp 6]) (vs:=[.agg ae.toArray,.agg am.toArray,jV gv]) ⟨⟨_,bY,(wBo zj zO (dW.blkAt (k:=1) rfl) (vs:=ae) rfl rfl)⟩,⟨⟨_,bU,(wBo zj zO (dW.blkAt (k:=0) rfl) (vs:=am) rfl rfl)⟩,⟨rfl,trivial⟩⟩⟩ rfl),bR,_,(dW.pick [] _ (by decide) rfl),rfl,rfl⟩
 by_cases c3:p1.Kind=2
 have fY:=hm;rw [if_neg c1,if_neg c2,if_pos c3] at fY
 refine sR gBi Z ?_
 let an:List Value:=[.slice bE p0.Starts.length bI,.slice bF p0.Splits.length bJ,.slice bG p0.Clocks.length bK,.slice bH p0.Readings.length bL]
 refine zq (cs:=an) rfl rfl rfl rfl rfl rfl (by rfl) hS ?_
 intro pE bm lJ
 let ao:List Value:=[jV p1.Kind,jV p1.Skier,jV p1.Index,.bool p1.Up]
 refine zq (cs:=ao) rfl rfl rfl rfl rfl rfl (by rfl) lJ ?_
 intro pF bn lK
 let bA:List Value:=[jV 0,jV 0]
 refine zg (cs:=bA) Z Z Z Z Z zy Z lK ?_
 intro pG bb lL
 refine zg (cs:=bA) Z Z Z Z Z zy Z lL ?_
 intro eD be lM
 refine oA Z Z (eN ?_)
 have q:=bnd fY
 obtain ⟨⟨⟩,ow,fZ⟩:=q
 try dsimp only at fZ
 let bs:List Value:=[.func (.func 189) #[] #[],.func (.func 190) #[] #[],.func (.func 192) #[] #[]]
 refine yP (fun σ_ w_=>∃ (U_:PHeap) (bO:Nat),σ_ 2=.pointer (some ⟨bm,0,none⟩)/\σ_ 3=.pointer (some ⟨bn,0,none⟩)/\σ_ 4=.pointer (some ⟨bb,0,none⟩)/\σ_ 5=.pointer (some ⟨be,0,none⟩)/\σ_ 7=.pointer (some ⟨bO,0,none⟩)/\PHeap.Le U U_/\sW w U U_ [.blk be 111 bA,.blk bb 111 bA,.blk bn 149 ao,.blk bm 28 an,.blk bO 233 bs] w_) ?_ ?_
 have q:=bnd ow
 obtain ⟨⟨⟩,fq,d9⟩:=q
 try dsimp only at d9
 refine ZO zz [2,3,1,3,2,0] gBm (by kernel_rfl) ?_
 have cJ:=lM.drew
 generalize hw_W363:({ eD with drawn:=eD.drawn + 1 }:World)=ie at cJ ⊢
 refine oR Z (zF Z Z ZD Z Tryz.sizeOf147) (oL Z (cJ.ldB (j:=2) Z Z Z Tryz.isAgg147 (v:=jV p1.Kind) Z) (yC ?_ ?_))
 refine zL 0 Z Z Z Z (zK Z Z yg zM Z) cJ (fun hs=>wCC ie U hs fq) (.inr Z) ?_
 rintro dx o3 qm ig oG lN ⟨rfl,rfl⟩
 have lO:sW w U dx [.blk be 111 bA,.blk bb 111 bA,.blk bn 149 ao,.blk bm 28 an] ig:=lN
 refine zY rfl rfl rfl rfl (fun _=>(Runs.ixA (i:=2) rfl rfl (congrArg (jV) c3) yA ZR (by decide) (by decide) (wDh yp ZR rfl))) (zg (cs:=[.nilFunc,.nilFunc,.nilFunc]) rfl rfl rfl rfl rfl Zo rfl lO ?_)
 intro pH eJ lP
 refine zh (j:=0) (vs:=bs) Z Z Z Z lP Z Z Z Z ZR (zA Z) Z Z Z ?_
 intro ii lQ
 have lR:sW w U dx [.blk eJ 233 bs,.blk be 111 bA,.blk bb 111 bA,.blk bn 149 ao,.blk bm 28 an] ii:=lQ
 refine zd ?_
 cases d9
 exact zI ⟨rfl,⟨dx,eJ,rfl,rfl,rfl,rfl,rfl,oG,(lR.pick [1,2,3,4,0] _ (by decide) rfl)⟩⟩
 refine zg (cs:=[.nilFunc,.nilFunc,.nilFunc]) Z Z Z Z Z Zo Z cJ ?_
 intro ij dI lS
 refine zL 0 Z Z Z Z (zK Z Z yg zM Z) lS (fun hs=>wCC ij U hs fq) (.inr Z) ?_
 rintro dy o5 qn il oH lT ⟨rfl,rfl⟩
 have lU:sW w U dy [.blk dI 233 [.nilFunc,.nilFunc,.nilFunc],.blk be 111 bA,.blk bb 111 bA,.blk bn 149 ao,.blk bm 28 an] il:=lT
 refine zY rfl rfl rfl rfl (fun _=>(Runs.ixA (i:=2) rfl rfl (congrArg (jV) c3) yA ZR (by decide) (by decide) (wDh yp ZR rfl))) (zh (j:=0) (vs:=bs) rfl rfl rfl rfl lU rfl rfl rfl rfl ZR (zA rfl) rfl rfl rfl ?_)
 intro im lV
 have lW:sW w U dy [.blk dI 233 bs,.blk be 111 bA,.blk bb 111 bA,.blk bn 149 ao,.blk bm 28 an] im:=lV
 refine zd ?_
 cases d9
 exact zI ⟨rfl,⟨dy,dI,rfl,rfl,rfl,rfl,rfl,oH,(lW.pick [1,2,3,4,0] _ (by decide) rfl)⟩⟩
 rintro qD io ⟨gC,bO,eX,dQ,bZ,bV,eY,c8,cK⟩
 refine sR (wDo (.fx 4 (wRX gAo) .stop)) Z (oR Z (zF Z eY yH Z Tryz.sizeOf230) (oL Z (cK.ldB (j:=4) Z Z Z Tryz.isAgg230 (v:=.func (.func 190) #[] #[]) Z) (oL Z (cK.ldBA (j:=3) Z Z eX Zb ZQ (vs:=an) Z Z) (oL Z (cK.ldBA (j:=2) Z Z dQ ya yN (vs:=ao) Z Z) ?_))))
 have ft:=cS.le c8
 have fu:=cU.le c8
 have fw:=cV.le c8
 have fy:=cW.le c8
 have q:=bnd fZ
 obtain ⟨⟨dm,dp⟩,jv,f4⟩:=q
 try dsimp only at f4
 refine zL 0 Z Z Z Z (zK Z Z Tryz.call190 (zB Z (zB Z zM)) Z) cK (fun hs=>wJG p0 bE bI bF bJ bG bK bH bL p1 io gC hs ft fu fw fy jv) (.inr Z) ?_
 rintro cA o6 qo ip da lY ⟨rfl,rfl⟩
 have lZ:sW w U cA [.blk be 111 bA,.blk bb 111 bA,.blk bn 149 ao,.blk bm 28 an,.blk bO 233 bs] ip:=lY
 refine oM Z Z (oR Z (zw Z Z (v:=.agg #[jV dm.skier,jV dm.mat]) Z) (oR Z (zw Z Z (v:=.agg #[jV dp.skier,jV dp.mat]) Z) ?_))
 let ap:List Value:=[jV dm.skier,jV dm.mat]
 refine zh (j:=1) (vs:=ap) Z Z Z Z lZ Z bZ Z Z zO (zA Z) Z Z Z ?_
 intro iq l3
 have l4:sW w U cA [.blk be 111 bA,.blk bb 111 ap,.blk bn 149 ao,.blk bm 28 an,.blk bO 233 bs] iq:=l3
 let ag:List Value:=[jV dp.skier,jV dp.mat]
 refine zh (j:=0) (vs:=ag) Z Z Z Z l4 Z bV Z Z zO (zA Z) Z Z Z ?_
 intro eE l5
 have cL:sW w U cA [.blk be 111 ag,.blk bb 111 ap,.blk bn 149 ao,.blk bm 28 an,.blk bO 233 bs] eE:=l5
 refine eN (sR (wDo (.fx 4 (wQP (.nil)) .stop)) Z (oR Z (zF Z eY yH Z Tryz.sizeOf231) (oL Z (cL.ldB (j:=4) Z Z Z Tryz.isAgg231 (v:=.func (.func 192) #[] #[]) Z) (oL Z (cL.ldBA (j:=3) Z Z eX Zb ZQ (vs:=an) Z Z) (oL Z (cL.ldBA (j:=2) Z Z dQ ya yN (vs:=ao) Z Z) ?_)))))
 have jw:=ft.le da
 have jx:=fu.le da
 have jy:=fw.le da
 have jz:=fy.le da
 have q:=bnd f4
 obtain ⟨⟨eu,gw⟩,jA,f5⟩:=q
 try dsimp only at f5
 refine zL 0 Z Z Z Z (zK Z Z Tryz.call192 (zB Z (zB Z zM)) Z) cL (fun hs=>wJH p0 bE bI bF bJ bG bK bH bL p1 eE cA hs jw jx jy jz jA) (.inr Z) ?_
 rintro bS o7 qp dF p9 l6 ⟨rfl,rfl⟩
 have cu:sW w U bS [.blk be 111 ag,.blk bb 111 ap,.blk bn 149 ao,.blk bm 28 an,.blk bO 233 bs] dF:=l6
 refine oM Z Z (oR Z (zw Z Z (v:=jV eu) Z) (oR Z (zw Z Z (v:=jV gw) Z) (oA Z Z (oA Z Z (eN (zJ (sR fL3 Z (oR Z (zF Z dQ ZD Z Tryz.sizeOf4) (oL Z (cu.ldB (j:=2) Z Z Z Tryz.isAgg4 (v:=.bool p1.Up) Z) (oR Z (ZB Z Z) (eN (ifc f5 ?_ ?_))))))))))))
 intro dN oj
 refine zu (nC dN.out) (kN ?_)
 have q:=bnd oj
 obtain ⟨⟨⟩,gt,f7⟩:=q
 try dsimp only at f7
 refine yP (fun σ_ w_=>∃ (U_:PHeap),σ_ 4=.pointer (some ⟨bb,0,none⟩)/\σ_ 5=.pointer (some ⟨be,0,none⟩)/\σ_ 6=jV eu/\PHeap.Le bS U_/\sW w U U_ [.blk be 111 ag,.blk bb 111 ap,.blk bn 149 ao,.blk bm 28 an,.blk bO 233 bs] w_) ?_ ?_
 refine ZO zz [1,2,3,0,0,3] gBn (by kernel_rfl) ?_
 have cw:=cu.drew
 generalize hw_W454:({ dF with drawn:=dF.drawn + 1 }:World)=pI at cw ⊢
 refine oL Z (cw.ldBA (j:=1) Z Z bZ zj zO (vs:=ap) Z Z) (oM Z Z (yC ?_ ?_))
 refine Zl Z Z Z Z (cw.ldBA (j:=0) Z Z bV zj zO (vs:=ag) Z Z) (zh (j:=1) (vs:=ap) Z Z Z Z cw Z bZ Z Z zO (zA Z) Z Z Z ?_)
 intro it l7
 have ma:sW w U bS [.blk be 111 ag,.blk bb 111 ap,.blk bn 149 ao,.blk bm 28 an,.blk bO 233 bs] it:=l7
 refine zh (j:=0) (vs:=ag) Z Z Z Z ma Z bV Z Z zO (zA Z) Z Z Z ?_
 intro iu mb
 have md:sW w U bS [.blk be 111 ag,.blk bb 111 ap,.blk bn 149 ao,.blk bm 28 an,.blk bO 233 bs] iu:=mb
 refine oA Z Z (zd ?_)
 cases gt
 exact zI ⟨Z,⟨bS,bZ,bV,Z,(zN _),md⟩⟩
 refine zh (j:=1) (vs:=ap) Z Z Z Z cw Z bZ Z Z zO (zA Z) Z Z Z ?_
 intro iv me
 have fN:sW w U bS [.blk be 111 ag,.blk bb 111 ap,.blk bn 149 ao,.blk bm 28 an,.blk bO 233 bs] iv:=me
 refine Zl Z Z Z Z (fN.ldBA (j:=0) Z Z bV zj zO (vs:=ag) Z Z) (zh (j:=0) (vs:=ag) Z Z Z Z fN Z bV Z Z zO (zA Z) Z Z Z ?_)
 intro iw mf
 have mg:sW w U bS [.blk be 111 ag,.blk bb 111 ap,.blk bn 149 ao,.blk bm 28 an,.blk bO 233 bs] iw:=mf
 refine oA Z Z (zd ?_)
 cases gt
 exact zI ⟨Z,⟨bS,bZ,bV,Z,(zN _),mg⟩⟩
 rintro qE pJ ⟨gD,jc,jd,je,qa,dX⟩
 refine zP ?_
 cases f7
 exact ⟨rfl,_,(wFc (rs:=[.cell 4 111,.cell 5 111,.tmp 6]) (vs:=[.agg ap.toArray,.agg ag.toArray,jV eu]) ⟨⟨_,jc,(wBo zj zO (dX.blkAt (k:=1) rfl) (vs:=ap) rfl rfl)⟩,⟨⟨_,jd,(wBo zj zO (dX.blkAt (k:=0) rfl) (vs:=ag) rfl rfl)⟩,⟨je,trivial⟩⟩⟩ rfl),gD,_,(dX.pick [] _ (by decide) rfl),rfl,rfl⟩
 intro dN ol
 refine zo (nF (dN.out)) (sR (wEQ gAy) Z (oL Z (cu.ldBA (j:=0) Z Z bV zj zO (vs:=ag) Z Z) (oL Z (cu.ldBA (j:=1) Z Z bZ zj zO (vs:=ap) Z Z) (oM Z Z (zh (j:=1) (vs:=ag) Z Z Z Z cu Z bZ Z Z zO (zA Z) Z Z Z ?_)))))
 intro iy mh
 have mi:sW w U bS [.blk be 111 ag,.blk bb 111 ag,.blk bn 149 ao,.blk bm 28 an,.blk bO 233 bs] iy:=mh
 refine zh (j:=0) (vs:=ap) Z Z Z Z mi Z bV Z Z zO (zA Z) Z Z Z ?_
 intro iz mj
 have dY:sW w U bS [.blk be 111 ap,.blk bb 111 ag,.blk bn 149 ao,.blk bm 28 an,.blk bO 233 bs] iz:=mj
 refine oA Z Z (eN (zP (zR ?_)))
 cases ol
 exact ⟨rfl,_,(wFc (rs:=[.cell 4 111,.cell 5 111,.tmp 6]) (vs:=[.agg ag.toArray,.agg ap.toArray,jV gw]) ⟨⟨_,bZ,(wBo zj zO (dY.blkAt (k:=1) rfl) (vs:=ag) rfl rfl)⟩,⟨⟨_,bV,(wBo zj zO (dY.blkAt (k:=0) rfl) (vs:=ap) rfl rfl)⟩,⟨rfl,trivial⟩⟩⟩ rfl),bS,_,(dY.pick [] _ (by decide) rfl),rfl,rfl⟩
 by_cases c4:p1.Kind=3
 have f9:=hm;rw [if_neg c1,if_neg c2,if_neg c3,if_pos c4] at f9
 refine sR gBi Z ?_
 let aq:List Value:=[.slice bE p0.Starts.length bI,.slice bF p0.Splits.length bJ,.slice bG p0.Clocks.length bK,.slice bH p0.Readings.length bL]
 refine zq (cs:=aq) rfl rfl rfl rfl rfl rfl (by rfl) hS ?_
 intro pK bp mn
 let au:List Value:=[jV p1.Kind,jV p1.Skier,jV p1.Index,.bool p1.Up]
 refine zq (cs:=au) rfl rfl rfl rfl rfl rfl (by rfl) mn ?_
 intro pL bq mo
 let bC:List Value:=[jV 0,jV 0]
 refine zg (cs:=bC) Z Z Z Z Z zy Z mo ?_
 intro pM bg mq
 refine zg (cs:=bC) Z Z Z Z Z zy Z mq ?_
 intro eF bh mr
 refine oA Z Z (eN ?_)
 have q:=bnd f9
 obtain ⟨⟨⟩,oy,ge⟩:=q
 try dsimp only at ge
 let bu:List Value:=[.func (.func 193) #[] #[],.func (.func 194) #[] #[],.func (.func 195) #[] #[]]
 refine yP (fun σ_ w_=>∃ (U_:PHeap) (bP:Nat),σ_ 2=.pointer (some ⟨bp,0,none⟩)/\σ_ 3=.pointer (some ⟨bq,0,none⟩)/\σ_ 4=.pointer (some ⟨bg,0,none⟩)/\σ_ 5=.pointer (some ⟨bh,0,none⟩)/\σ_ 7=.pointer (some ⟨bP,0,none⟩)/\PHeap.Le U U_/\sW w U U_ [.blk bh 111 bC,.blk bg 111 bC,.blk bq 149 au,.blk bp 28 aq,.blk bP 233 bu] w_) ?_ ?_
 have q:=bnd oy
 obtain ⟨⟨⟩,fz,eh⟩:=q
 try dsimp only at eh
 refine ZO zz [2,3,1,3,2,0] gBm (by kernel_rfl) ?_
 have cN:=mr.drew
 generalize hw_W522:({ eF with drawn:=eF.drawn + 1 }:World)=iB at cN ⊢
 refine oR Z (zF Z Z ZD Z Tryz.sizeOf147) (oL Z (cN.ldB (j:=2) Z Z Z Tryz.isAgg147 (v:=jV p1.Kind) Z) (yC ?_ ?_))
 refine zL 0 Z Z Z Z (zK Z Z yg zM Z) cN (fun hs=>wCC iB U hs fz) (.inr Z) ?_
 rintro dA o9 qr iC oK mw ⟨rfl,rfl⟩
 have my:sW w U dA [.blk bh 111 bC,.blk bg 111 bC,.blk bq 149 au,.blk bp 28 aq] iC:=mw
 refine zY rfl rfl rfl rfl (fun _=>(Runs.ixA (i:=3) rfl rfl (congrArg (jV) c4) yA ZR (by decide) (by decide) (wDh yp ZR rfl))) (zg (cs:=[.nilFunc,.nilFunc,.nilFunc]) rfl rfl rfl rfl rfl Zo rfl my ?_)
 intro pO eK mz
 refine zh (j:=0) (vs:=bu) Z Z Z Z mz Z Z Z Z ZR (zA Z) Z Z Z ?_
 intro iD mA
 have mB:sW w U dA [.blk eK 233 bu,.blk bh 111 bC,.blk bg 111 bC,.blk bq 149 au,.blk bp 28 aq] iD:=mA
 refine zd ?_
 cases eh
 exact zI ⟨rfl,⟨dA,eK,rfl,rfl,rfl,rfl,rfl,oK,(mB.pick [1,2,3,4,0] _ (by decide) rfl)⟩⟩
 refine zg (cs:=[.nilFunc,.nilFunc,.nilFunc]) Z Z Z Z Z Zo Z cN ?_
 intro iE dJ mC
 refine zL 0 Z Z Z Z (zK Z Z yg zM Z) mC (fun hs=>wCC iE U hs fz) (.inr Z) ?_
 rintro dB pd qt iF oO mD ⟨rfl,rfl⟩
 have mE:sW w U dB [.blk dJ 233 [.nilFunc,.nilFunc,.nilFunc],.blk bh 111 bC,.blk bg 111 bC,.blk bq 149 au,.blk bp 28 aq] iF:=mD
 refine zY rfl rfl rfl rfl (fun _=>(Runs.ixA (i:=3) rfl rfl (congrArg (jV) c4) yA ZR (by decide) (by decide) (wDh yp ZR rfl))) (zh (j:=0) (vs:=bu) rfl rfl rfl rfl mE rfl rfl rfl rfl ZR (zA rfl) rfl rfl rfl ?_)
 intro iG mG
 have mH:sW w U dB [.blk dJ 233 bu,.blk bh 111 bC,.blk bg 111 bC,.blk bq 149 au,.blk bp 28 aq] iG:=mG
 refine zd ?_
 cases eh
 exact zI ⟨rfl,⟨dB,dJ,rfl,rfl,rfl,rfl,rfl,oO,(mH.pick [1,2,3,4,0] _ (by decide) rfl)⟩⟩
 rintro qF iH ⟨gE,bP,eZ,dR,cd,bW,fb,db,cO⟩
 refine sR (wDo (.fx 4 (wRX gAo) .stop)) Z (oR Z (zF Z fb yH Z Tryz.sizeOf230) (oL Z (cO.ldB (j:=4) Z Z Z Tryz.isAgg230 (v:=.func (.func 194) #[] #[]) Z) (oL Z (cO.ldBA (j:=3) Z Z eZ Zb ZQ (vs:=aq) Z Z) (oL Z (cO.ldBA (j:=2) Z Z dR ya yN (vs:=au) Z Z) ?_))))
 have fA:=cS.le db
 have fB:=cU.le db
 have fC:=cV.le db
 have fD:=cW.le db
 have q:=bnd ge
 obtain ⟨⟨dq,dr⟩,jB,gf⟩:=q
 try dsimp only at gf
 refine zL 0 Z Z Z Z (zK Z Z Tryz.call194 (zB Z (zB Z zM)) Z) cO (fun hs=>wIf p0 bE bI bF bJ bG bK bH bL p1 iH gE hs fA fB fC fD jB) (.inr Z) ?_
 rintro cB pe qu iJ de mI ⟨rfl,rfl⟩
 have mJ:sW w U cB [.blk bh 111 bC,.blk bg 111 bC,.blk bq 149 au,.blk bp 28 aq,.blk bP 233 bu] iJ:=mI
 refine oM Z Z (oR Z (zw Z Z (v:=.agg #[jV dq.skier,jV dq.mat]) Z) (oR Z (zw Z Z (v:=.agg #[jV dr.skier,jV dr.mat]) Z) ?_))
 let av:List Value:=[jV dq.skier,jV dq.mat]
 refine zh (j:=1) (vs:=av) Z Z Z Z mJ Z cd Z Z zO (zA Z) Z Z Z ?_
 intro iK mL
 have mM:sW w U cB [.blk bh 111 bC,.blk bg 111 av,.blk bq 149 au,.blk bp 28 aq,.blk bP 233 bu] iK:=mL
 let ah:List Value:=[jV dr.skier,jV dr.mat]
 refine zh (j:=0) (vs:=ah) Z Z Z Z mM Z bW Z Z zO (zA Z) Z Z Z ?_
 intro eG mN
 have cP:sW w U cB [.blk bh 111 ah,.blk bg 111 av,.blk bq 149 au,.blk bp 28 aq,.blk bP 233 bu] eG:=mN
 refine eN (sR (wDo (.fx 4 (wQP (.nil)) .stop)) Z (oR Z (zF Z fb yH Z Tryz.sizeOf231) (oL Z (cP.ldB (j:=4) Z Z Z Tryz.isAgg231 (v:=.func (.func 195) #[] #[]) Z) (oL Z (cP.ldBA (j:=3) Z Z eZ Zb ZQ (vs:=aq) Z Z) (oL Z (cP.ldBA (j:=2) Z Z dR ya yN (vs:=au) Z Z) ?_)))))
 have jC:=fA.le de
 have jD:=fB.le de
 have jE:=fC.le de
 have jG:=fD.le de
 have q:=bnd gf
 obtain ⟨⟨ew,gy⟩,jH,gg⟩:=q
 try dsimp only at gg
 refine zL 0 Z Z Z Z (zK Z Z Tryz.call195 (zB Z (zB Z zM)) Z) cP (fun hs=>wIg p0 bE bI bF bJ bG bK bH bL p1 eG cB hs jC jD jE jG jH) (.inr Z) ?_
 rintro bT pf qv dG qb mP ⟨rfl,rfl⟩
 have cx:sW w U bT [.blk bh 111 ah,.blk bg 111 av,.blk bq 149 au,.blk bp 28 aq,.blk bP 233 bu] dG:=mP
 refine oM Z Z (oR Z (zw Z Z (v:=jV ew) Z) (oR Z (zw Z Z (v:=jV gy) Z) (oA Z Z (oA Z Z (eN (zJ (sR fL3 Z (oR Z (zF Z dR ZD Z Tryz.sizeOf4) (oL Z (cx.ldB (j:=2) Z Z Z Tryz.isAgg4 (v:=.bool p1.Up) Z) (oR Z (ZB Z Z) (eN (ifc gg ?_ ?_))))))))))))
 intro dO om
 refine zu (nC dO.out) (kN ?_)
 have q:=bnd om
 obtain ⟨⟨⟩,gu,gh⟩:=q
 try dsimp only at gh
 refine yP (fun σ_ w_=>∃ (U_:PHeap),σ_ 4=.pointer (some ⟨bg,0,none⟩)/\σ_ 5=.pointer (some ⟨bh,0,none⟩)/\σ_ 6=jV ew/\PHeap.Le bT U_/\sW w U U_ [.blk bh 111 ah,.blk bg 111 av,.blk bq 149 au,.blk bp 28 aq,.blk bP 233 bu] w_) ?_ ?_
 refine ZO zz [1,2,3,0,0,3] gBn (by kernel_rfl) ?_
 have cy:=cx.drew
 generalize hw_W613:({ dG with drawn:=dG.drawn + 1 }:World)=pQ at cy ⊢
 refine oL Z (cy.ldBA (j:=1) Z Z cd zj zO (vs:=av) Z Z) (oM Z Z (yC ?_ ?_))
 refine Zl Z Z Z Z (cy.ldBA (j:=0) Z Z bW zj zO (vs:=ah) Z Z) (zh (j:=1) (vs:=av) Z Z Z Z cy Z cd Z Z zO (zA Z) Z Z Z ?_)
 intro iL mQ
 have mR:sW w U bT [.blk bh 111 ah,.blk bg 111 av,.blk bq 149 au,.blk bp 28 aq,.blk bP 233 bu] iL:=mQ
 refine zh (j:=0) (vs:=ah) Z Z Z Z mR Z bW Z Z zO (zA Z) Z Z Z ?_
 intro iM mS
 have mT:sW w U bT [.blk bh 111 ah,.blk bg 111 av,.blk bq 149 au,.blk bp 28 aq,.blk bP 233 bu] iM:=mS
 refine oA Z Z (zd ?_)
 cases gu
 exact zI ⟨Z,⟨bT,cd,bW,Z,(zN _),mT⟩⟩
 refine zh (j:=1) (vs:=av) Z Z Z Z cy Z cd Z Z zO (zA Z) Z Z Z ?_
 intro iO mU
 have fO:sW w U bT [.blk bh 111 ah,.blk bg 111 av,.blk bq 149 au,.blk bp 28 aq,.blk bP 233 bu] iO:=mU
 refine Zl Z Z Z Z (fO.ldBA (j:=0) Z Z bW zj zO (vs:=ah) Z Z) (zh (j:=0) (vs:=ah) Z Z Z Z fO Z bW Z Z zO (zA Z) Z Z Z ?_)
 intro iP mV
 have mW:sW w U bT [.blk bh 111 ah,.blk bg 111 av,.blk bq 149 au,.blk bp 28 aq,.blk bP 233 bu] iP:=mV
 refine oA Z Z (zd ?_)
 cases gu
 exact zI ⟨Z,⟨bT,cd,bW,Z,(zN _),mW⟩⟩
 rintro qG pR ⟨gF,jf,jg,jh,qc,dZ⟩
 refine zP ?_
 cases gh
 exact ⟨rfl,_,(wFc (rs:=[.cell 4 111,.cell 5 111,.tmp 6]) (vs:=[.agg av.toArray,.agg ah.toArray,jV ew]) ⟨⟨_,jf,(wBo zj zO (dZ.blkAt (k:=1) rfl) (vs:=av) rfl rfl)⟩,⟨⟨_,jg,(wBo zj zO (dZ.blkAt (k:=0) rfl) (vs:=ah) rfl rfl)⟩,⟨jh,trivial⟩⟩⟩ rfl),gF,_,(dZ.pick [] _ (by decide) rfl),rfl,rfl⟩
 intro dO oq
 refine zo (nF (dO.out)) (sR (wEQ gAy) Z (oL Z (cx.ldBA (j:=0) Z Z bW zj zO (vs:=ah) Z Z) (oL Z (cx.ldBA (j:=1) Z Z cd zj zO (vs:=av) Z Z) (oM Z Z (zh (j:=1) (vs:=ah) Z Z Z Z cx Z cd Z Z zO (zA Z) Z Z Z ?_)))))
 intro iQ mX
 have mY:sW w U bT [.blk bh 111 ah,.blk bg 111 ah,.blk bq 149 au,.blk bp 28 aq,.blk bP 233 bu] iQ:=mX
 refine zh (j:=0) (vs:=av) Z Z Z Z mY Z bW Z Z zO (zA Z) Z Z Z ?_
 intro iR mZ
 have d5:sW w U bT [.blk bh 111 av,.blk bg 111 ah,.blk bq 149 au,.blk bp 28 aq,.blk bP 233 bu] iR:=mZ
 refine oA Z Z (eN (zP (zR ?_)))
 cases oq
 exact ⟨rfl,_,(wFc (rs:=[.cell 4 111,.cell 5 111,.tmp 6]) (vs:=[.agg ah.toArray,.agg av.toArray,jV gy]) ⟨⟨_,cd,(wBo zj zO (d5.blkAt (k:=1) rfl) (vs:=ah) rfl rfl)⟩,⟨⟨_,bW,(wBo zj zO (d5.blkAt (k:=0) rfl) (vs:=av) rfl rfl)⟩,⟨rfl,trivial⟩⟩⟩ rfl),bT,_,(d5.pick [] _ (by decide) rfl),rfl,rfl⟩
 have gi:=hm;rw [if_neg c1,if_neg c2,if_neg c3,if_neg c4] at gi
 refine sR gBi Z ?_
 let dt:List Value:=[.slice bE p0.Starts.length bI,.slice bF p0.Splits.length bJ,.slice bG p0.Clocks.length bK,.slice bH p0.Readings.length bL]
 refine zq (cs:=dt) rfl rfl rfl rfl rfl rfl (by rfl) hS ?_
 intro pS eM m5
 let du:List Value:=[jV p1.Kind,jV p1.Skier,jV p1.Index,.bool p1.Up]
 refine zq (cs:=du) rfl rfl rfl rfl rfl rfl (by rfl) m5 ?_
 intro pT eO m6
 let cj:List Value:=[jV 0,jV 0]
 refine zg (cs:=cj) Z Z Z Z Z zy Z m6 ?_
 intro pU eQ m7
 refine zg (cs:=cj) Z Z Z Z Z zy Z m7 ?_
 intro eH eU m8
 refine oA Z Z (eN (zJ ?_))
 have q:=bnd gi
 obtain ⟨⟨⟩,fE,en⟩:=q
 try dsimp only at en
 refine ZO zz [2,3,1,3,2,0] gBm (by kernel_rfl) ?_
 have cQ:=m8.drew
 generalize hw_W669:({ eH with drawn:=eH.drawn + 1 }:World)=iT at cQ ⊢
 refine oR Z (zF Z Z ZD Z Tryz.sizeOf147) (oL Z (cQ.ldB (j:=2) Z Z Z Tryz.isAgg147 (v:=jV p1.Kind) Z) (yC ?_ ?_))
 refine zL 0 Z Z Z Z (zK Z Z yg zM Z) cQ (fun hs=>wCC iT U hs fE) (.inr Z) ?_
 rintro gG ph qw iU qd m9 ⟨rfl,rfl⟩
 have pV:sW w U gG [.blk eU 111 cj,.blk eQ 111 cj,.blk eO 149 du,.blk eM 28 dt] iU:=m9
 cases en
 refine zg (cs:=[.nilFunc,.nilFunc,.nilFunc]) Z Z Z Z Z Zo Z cQ ?_
 intro iV i5 n5
 refine zL 0 Z Z Z Z (zK Z Z yg zM Z) n5 (fun hs=>wCC iV U hs fE) (.inr Z) ?_
 rintro gH pj qy iW qe n7 ⟨rfl,rfl⟩
 have pY:sW w U gH [.blk i5 233 [.nilFunc,.nilFunc,.nilFunc],.blk eU 111 cj,.blk eQ 111 cj,.blk eO 149 du,.blk eM 28 dt] iW:=n7
 cases en
end Go.Proofs.YtadbejldcmkokaaGreat
