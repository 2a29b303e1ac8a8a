import Derived.Test.YtlnfbjphfoipaaaZ3
set_option linter.all false
open List renaming flatMap->hD
open Go.Value renaming bool->hH
open Option.some renaming inj->hJ
open Bool renaming eq_false_iff->nA
open Prod.mk renaming injEq->nB
open Nat renaming blt->nD,le_of_ble_eq_true->nE
namespace Go.Proofs.Ytlnfbjphfoipaaa
open Go.KL
def gAa:Sch:=.fl 1 (.fl 2 .nil)
def gAb:Sch:=.fl 2 (.fl 3 .nil)
def gAc:Sch:=.fl 3 (.fl 4 .nil)
def gAd:Sch:=.fl 4 (.fl 5 .nil)
def gAe:Sch:=.fl 7 (.fl 8 .nil)
def gAf:Sch:=.fl 15 (.fl 16 .nil)
def gAg:Sch:=.fx 1 (.fl 2 .nil) .stop
def gAh:Sch:=.fx 2 (.fx 3 .nil .stop) .stop
def gAi:Sch:=.fx 3 (.fl 4 .nil) .stop
def gAj:Sch:=.fx 17 (.fl 18 .nil) .stop
def gAk:Sch:=.fx 0 (.fl 1 .nil) .stop
def gAl:Sch:=.fx 4 (.fx 5 .nil .stop) .stop
def gAm:Sch:=.fl 10 (.fx 12 .nil .stop)
def gAn:Sch:=.fx 8 (.fx 9 .nil .stop) .stop
def gAo:Sch:=.fl 7 (.fx 9 .nil .stop)
def gAp:Sch:=.fx 6 gAe .stop
def gAq:Sch:=.fx 1 gAb .stop
def gAr:Sch:=.fl 0 gAg
def gAs:Sch:=.fx 15 gAj .stop
def gAt:Sch:=.fx 15 (.fl 16 (.fx 18 .nil .stop)) .stop
def gAu:Sch:=.fx 3 gAd .stop
def gAv:Sch:=.fx 0 gAg .stop
def gAw:Sch:=.fx 13 (.fl 14 (.fl 15 .nil)) .stop
def gAx:Sch:=.fx 14 gAf .stop
def gAy:Sch:=.fl 10 (.fx 11 (.fx 12 .nil .stop) .stop)
def gAz:Sch:=.fx 6 gAm .stop
def gBa:Sch:=.fx 10 (.fl 11 (.fl 12 .nil)) .stop
def gBb:Sch:=.fx 6 gAo .stop
def gBc:Sch:=.fx 4 gAo .stop
def gBd:Sch:=.fl 0 (.fl 1 (.fx 2 (.fl 3 .nil) .stop))
def gBe:Sch:=.fl 0 (.fl 1 gAh)
def gBf:Sch:=.fx 14 gAs .stop
def gBg:Sch:=.fx 10 gAt .stop
def gBh:Sch:=.fx 0 (.fx 1 gAh .stop) .stop
def gBi:Sch:=.fx 0 gAq .stop
def gBj:Sch:=.fx 8 (.fl 9 gAm) .stop
def gBk:Sch:=.fl 7 (.fx 2 gAn .stop)
def gBl:Sch:=.fl 0 (.fl 1 (.fx 2 gAi .stop))
def gBm:Sch:=.fx 13 gBf .stop
def gBn:Sch:=.fl 0 (.fl 1 (.fx 2 gAc .stop))
def gBo:Sch:=.fx 6 (.fl 7 gAn) (.fx 8 gBb .stop)
def gBp:Sch:=.fx 4 (.fl 7 gAn) (.fx 8 gBc .stop)
def gBq:Sch:=.fx 12 gBm .stop
def gBr:Sch:=.fx 9 gBm .stop
def gBs:Sch:=.fx 4 (.fl 16 gBm) .stop
def gBt:Sch:=.fx 3 gBs .stop
def gBu:Sch:=.fx 4 (.fl 16 gBq) (.fx 12 gBs .stop)
def gBv:Sch:=.fx 4 (.fl 16 gBr) (.fx 9 gBs .stop)
set_option maxHeartbeats 4000000
theorem Z {α:Type} {a:α}:a=a:=rfl
section
variable {r:Option Nat} {N:Nat} {P:Program} {l:List Oper} {Q:wEM} {D:List Deferred} {ks:List Nat} {σ:Env} {w:World} {i d j e:Nat} {s:Sch} {o:Oper} {b:Bool} {x:Operand} {v:Value} {p:Prop} {inst:Decidable p} {K:List Deferred->Env->World->Prop} {c1 c2:Code}
abbrev jV (n:Int):Value:=.int .i64 n
abbrev SW (w:World) (X:List Res) (U U':PHeap) (L:List Res) (w':World):Prop:=St ⟨w,X,U⟩ U' L w'
abbrev sW (w:World) (U U':PHeap) (L:List Res) (w':World):Prop:=St ⟨w,[],U⟩ U' L w'
abbrev St0 (w:World) (U:PHeap) (L:List Res):Prop:=St ⟨w,L,U⟩ U L w
theorem ifc {α:Type} {G p:Prop} {inst:Decidable p} {a b r:α} (h:@ite α p inst a b=r) (h1:Hid p->a=r->G) (h2:Hid (¬ p)->b=r->G):G:=by
 by_cases c:p
 rw [if_pos c] at h;exact h1 ⟨c⟩ h
 rw [if_neg c] at h;exact h2 ⟨c⟩ h
theorem bnK {α β:Type} {G:Prop} {o:Option α} {f:α->Option β} {r:β} (h:o.bind f=some r) (k:∀ x,o=some x->f x=some r->G):G:=by
 obtain ⟨x,h1,h2⟩:=bnd h
 exact k x h1 h2
theorem oR (h:(l[i]?,o.dst,nD d N,wanted l σ o)=(some o,some d,true,true)) (hr:∀ {w'},Runs P σ w' o v w') (k:OKS N P l Q D ks s (upd σ d v) w):OKS N P l Q D ks (.fl i s) σ w:=by
 simp only [nB] at h;exact OKS.r h.1 h.2.1 h.2.2.1 h.2.2.2 (fun _=>hr) k
theorem oL (h:(l[i]?,o.dst,nD d N,wanted l σ o,wMU (kOf ks i))=(some o,some d,true,true,false)) (hr:wFZ P σ w o v) (k:OKS N P l Q D ks s (upd σ d v) w):OKS N P l Q D ks (.fl i s) σ w:=by
 simp only [nB] at h;exact OKS.m h.1 h.2.1 h.2.2.1 h.2.2.2.1 hr h.2.2.2.2 k
theorem oM (h:(l[i]?,o.dst,nD d N,wanted l σ o,o.op)=(some o,some d,true,true,.move x)) (hx:ev σ x=v) (k:OKS N P l Q D ks s (upd σ d v) w):OKS N P l Q D ks (.fl i s) σ w:=by
 simp only [nB] at h;exact OKS.rm h.1 h.2.1 h.2.2.1 h.2.2.2.1 h.2.2.2.2 hx k
theorem oA (h:(l[i]?,o.dst,nD d N,wanted l σ o,o.op)=(some o,some d,true,true,.assign x)) (hx:ev σ x=v) (k:OKS N P l Q D ks s (upd σ d v) w):OKS N P l Q D ks (.fl i s) σ w:=by
 simp only [nB] at h;exact OKS.ra h.1 h.2.1 h.2.2.1 h.2.2.2.1 h.2.2.2.2 hx k
theorem oF (h:(l[i]?,o.dst,nD d N,o.guard,(l[j]?).bind (·.dst),σ e,false == b)=(some o,some d,true,some (j,b),some e,.bool (decide p),false)) (c:Hid (¬ p)) (k:OKS N P l Q D ks s (upd σ d undef) w):OKS N P l Q D ks (.fl i s) σ w:=by
 simp only [nB] at h;exact OKS.p h.1 h.2.1 h.2.2.1 (wGV h.2.2.2.1 h.2.2.2.2.1 (h.2.2.2.2.2.1.trans (wMS c.out)) h.2.2.2.2.2.2) k
theorem oT (h:(l[i]?,o.dst,nD d N,o.guard,(l[j]?).bind (·.dst),σ e,true == b)=(some o,some d,true,some (j,b),some e,.bool (decide p),false)) (c:Hid p) (k:OKS N P l Q D ks s (upd σ d undef) w):OKS N P l Q D ks (.fl i s) σ w:=by
 simp only [nB] at h;exact OKS.p h.1 h.2.1 h.2.2.1 (wGV h.2.2.2.1 h.2.2.2.2.1 (h.2.2.2.2.2.1.trans (wMR c.out)) h.2.2.2.2.2.2) k
theorem oN {b2:Bool} (h:(l[i]?,o.dst,nD d N,o.guard,(l[j]?).bind (·.dst),σ e,b2 == b)=(some o,some d,true,some (j,b),some e,.bool b2,false)) (k:OKS N P l Q D ks s (upd σ d undef) w):OKS N P l Q D ks (.fl i s) σ w:=by
 simp only [nB] at h;exact OKS.p h.1 h.2.1 h.2.2.1 (wGV h.2.2.2.1 h.2.2.2.2.1 h.2.2.2.2.2.1 h.2.2.2.2.2.2) k
theorem nC {a b:Bool} (h:a=b):hH (!a)=hH (!b):=h ▸ rfl
theorem nF {a:Bool} (h:¬ a=true):hH (!a)=hH (!false):=nC (nA.2 h)
theorem wT (h:(o.guard,(l[j]?).bind (·.dst),σ e)=(some (j,true),some e,.bool (decide p))) (c:Hid p):wanted l σ o=true:=by
 simp only [nB] at h;exact wHY h.1 h.2.1 (h.2.2.trans (wMR c.out))
theorem wF (h:(o.guard,(l[j]?).bind (·.dst),σ e)=(some (j,false),some e,.bool (decide p))) (c:Hid (¬ p)):wanted l σ o=true:=by
 simp only [nB] at h;exact wHY h.1 h.2.1 (h.2.2.trans (wMS c.out))
theorem rU (h:(l[i]?,o.dst,nD d N)=(some o,some d,true)) (hw:wanted l σ o=true) (hr:∀ {w'},Runs P σ w' o v w') (k:OKS N P l Q D ks s (upd σ d v) w):OKS N P l Q D ks (.fl i s) σ w:=by
 simp only [nB] at h;exact OKS.r h.1 h.2.1 h.2.2 hw (fun _=>hr) k
theorem sR {id:Nat} (s:Sch) (hs:inOrder 0 s l.length=true) (h:OKS N P l (wFU (fun D σ w=>CK r N P c2 Q D σ w) Q) D [] s σ w):CK r N P (.seq (.region id l.toArray false) c2) Q D σ w:=CK.seq (CK.reg s hs h)
theorem rR {id:Nat} (s:Sch) (hs:inOrder 0 s l.length=true) (h:OKS N P l Q D [] s σ w):CK r N P (.region id l.toArray false) Q D σ w:=CK.reg s hs h
theorem eN (h:K D σ w):OKS N P l (wFU K Q) D ks .nil σ w:=OKS.e (wHU h)
theorem cT (hz:ev σ x=.bool (decide p)) (c:Hid p) (h:CK r N P c1 Q D σ w):CK r N P (.cond x c1 c2) Q D σ w:=CK.condT (hz.trans (wMR c.out)) h
theorem cF (hz:ev σ x=.bool (decide p)) (c:Hid (¬ p)) (h:CK r N P c2 Q D σ w):CK r N P (.cond x c1 c2) Q D σ w:=CK.condF (hz.trans (wMS c.out)) h
theorem kN (h:K D σ w):CK r N P .skip (wFU K Q) D σ w:=CK.skip (wHU h)
end
def fL1:Sch:=.fl 0 .nil
def fL2:Sch:=.fl 0 (.fl 1 .nil)
def fL3:Sch:=.fl 0 gAa
def fL4:Sch:=.fl 0 (.fl 1 gAb)
def fL5:Sch:=.fl 0 (.fl 1 (.fl 2 gAc))
def fL6:Sch:=.fl 0 (.fl 1 (.fl 2 (.fl 3 gAd)))
def fL7:Sch:=.fl 0 (.fl 1 (.fl 2 (.fl 3 (.fl 4 (.fl 5 (.fl 6 .nil))))))
def fL8:Sch:=.fl 0 (.fl 1 (.fl 2 (.fl 3 (.fl 4 (.fl 5 (.fl 6 (.fl 7 .nil)))))))
def fL9:Sch:=.fl 0 (.fl 1 (.fl 2 (.fl 3 (.fl 4 (.fl 5 (.fl 6 gAe))))))
def fL10:Sch:=.fl 0 (.fl 1 (.fl 2 (.fl 3 (.fl 4 (.fl 5 (.fl 6 (.fl 7 (.fl 8 (.fl 9 .nil)))))))))
def wMQ:Sch:=.fl 0 (.fl 1 (.fl 2 (.fl 3 (.fl 4 (.fl 5 (.fl 6 (.fl 7 (.fl 8 (.fl 9 (.fl 10 .nil))))))))))
def fL14:Sch:=.fl 0 (.fl 1 (.fl 2 (.fl 3 (.fl 4 (.fl 5 (.fl 6 (.fl 7 (.fl 8 (.fl 9 (.fl 10 (.fl 11 (.fl 12 (.fl 13 .nil)))))))))))))
def fL15:Sch:=.fl 0 (.fl 1 (.fl 2 (.fl 3 (.fl 4 (.fl 5 (.fl 6 (.fl 7 (.fl 8 (.fl 9 (.fl 10 (.fl 11 (.fl 12 (.fl 13 (.fl 14 .nil))))))))))))))
def fL17:Sch:=.fl 0 (.fl 1 (.fl 2 (.fl 3 (.fl 4 (.fl 5 (.fl 6 (.fl 7 (.fl 8 (.fl 9 (.fl 10 (.fl 11 (.fl 12 (.fl 13 (.fl 14 gAf))))))))))))))
def fL18:Sch:=.fl 0 (.fl 1 (.fl 2 (.fl 3 (.fl 4 (.fl 5 (.fl 6 (.fl 7 (.fl 8 (.fl 9 (.fl 10 (.fl 11 (.fl 12 (.fl 13 (.fl 14 (.fl 15 (.fl 16 (.fl 17 .nil)))))))))))))))))
def fL19:Sch:=.fl 0 (.fl 1 (.fl 2 (.fl 3 (.fl 4 (.fl 5 (.fl 6 (.fl 7 (.fl 8 (.fl 9 (.fl 10 (.fl 11 (.fl 12 (.fl 13 (.fl 14 (.fl 15 (.fl 16 (.fl 17 (.fl 18 .nil))))))))))))))))))
def fL21:Sch:=.fl 0 (.fl 1 (.fl 2 (.fl 3 (.fl 4 (.fl 5 (.fl 6 (.fl 7 (.fl 8 (.fl 9 (.fl 10 (.fl 11 (.fl 12 (.fl 13 (.fl 14 (.fl 15 (.fl 16 (.fl 17 (.fl 18 (.fl 19 (.fl 20 .nil))))))))))))))))))))
def fL22:Sch:=.fl 0 (.fl 1 (.fl 2 (.fl 3 (.fl 4 (.fl 5 (.fl 6 (.fl 7 (.fl 8 (.fl 9 (.fl 10 (.fl 11 (.fl 12 (.fl 13 (.fl 14 (.fl 15 (.fl 16 (.fl 17 (.fl 18 (.fl 19 (.fl 20 (.fl 21 .nil)))))))))))))))))))))
def fL27:Sch:=.fl 0 (.fl 1 (.fl 2 (.fl 3 (.fl 4 (.fl 5 (.fl 6 (.fl 7 (.fl 8 (.fl 9 (.fl 10 (.fl 11 (.fl 12 (.fl 13 (.fl 14 (.fl 15 (.fl 16 (.fl 17 (.fl 18 (.fl 19 (.fl 20 (.fl 21 (.fl 22 (.fl 23 (.fl 24 (.fl 25 (.fl 26 .nil))))))))))))))))))))))))))
def fL30:Sch:=.fl 0 (.fl 1 (.fl 2 (.fl 3 (.fl 4 (.fl 5 (.fl 6 (.fl 7 (.fl 8 (.fl 9 (.fl 10 (.fl 11 (.fl 12 (.fl 13 (.fl 14 (.fl 15 (.fl 16 (.fl 17 (.fl 18 (.fl 19 (.fl 20 (.fl 21 (.fl 22 (.fl 23 (.fl 24 (.fl 25 (.fl 26 (.fl 27 (.fl 28 (.fl 29 .nil)))))))))))))))))))))))))))))
def fL40:Sch:=.fl 0 (.fl 1 (.fl 2 (.fl 3 (.fl 4 (.fl 5 (.fl 6 (.fl 7 (.fl 8 (.fl 9 (.fl 10 (.fl 11 (.fl 12 (.fl 13 (.fl 14 (.fl 15 (.fl 16 (.fl 17 (.fl 18 (.fl 19 (.fl 20 (.fl 21 (.fl 22 (.fl 23 (.fl 24 (.fl 25 (.fl 26 (.fl 27 (.fl 28 (.fl 29 (.fl 30 (.fl 31 (.fl 32 (.fl 33 (.fl 34 (.fl 35 (.fl 36 (.fl 37 (.fl 38 (.fl 39 .nil)))))))))))))))))))))))))))))))))))))))
def wCa (s:Sch):Sch:=.fl 0 (.fl 1 (.fl 2 (s)))
def wDe (s:Sch):Sch:=.fl 0 (.fl 1 (.fl 2 (.fl 3 (s))))
def wGL (s:Sch):Sch:=.fl 0 (.fl 1 (.fl 2 (.fl 3 (.fl 4 (s)))))
def wFr (s:Sch):Sch:=.fl 0 (.fl 1 (.fl 2 (.fl 3 (.fl 4 (.fl 5 (s))))))
def wLA (s:Sch):Sch:=.fl 0 (.fl 1 (.fl 2 (.fl 3 (.fl 4 (.fl 5 (.fl 6 (s)))))))
def wMC (s:Sch):Sch:=.fl 0 (.fl 1 (.fl 2 (.fl 3 (.fl 4 (.fl 5 (.fl 6 (.fl 7 (s))))))))
def wMD (s:Sch):Sch:=.fl 0 (.fl 1 (.fl 2 (.fl 3 (.fl 4 (.fl 5 (.fl 6 (.fl 7 (.fl 8 (s)))))))))
def wME (s:Sch):Sch:=.fl 0 (.fl 1 (.fl 2 (.fl 3 (.fl 4 (.fl 5 (.fl 6 (.fl 7 (.fl 8 (.fl 9 (s))))))))))
def wMy (s:Sch):Sch:=.fl 0 (.fl 1 (.fl 2 (.fl 3 (.fl 4 (.fl 5 (.fl 6 (.fl 7 (.fl 8 (.fl 9 (.fl 10 (s)))))))))))
def wMz (s:Sch):Sch:=.fl 0 (.fl 1 (.fl 2 (.fl 3 (.fl 4 (.fl 5 (.fl 6 (.fl 7 (.fl 8 (.fl 9 (.fl 10 (.fl 11 (s))))))))))))
def wLU (s:Sch):Sch:=.fl 0 (.fl 1 (.fl 2 (.fl 3 (.fl 4 (.fl 5 (.fl 6 (.fl 7 (.fl 8 (.fl 9 (.fl 10 (.fl 11 (.fl 12 (s)))))))))))))
def wNA (s:Sch):Sch:=.fl 0 (.fl 1 (.fl 2 (.fl 3 (.fl 4 (.fl 5 (.fl 6 (.fl 7 (.fl 8 (.fl 9 (.fl 10 (.fl 11 (.fl 12 (.fl 13 (s))))))))))))))
def wNB (s:Sch):Sch:=.fl 0 (.fl 1 (.fl 2 (.fl 3 (.fl 4 (.fl 5 (.fl 6 (.fl 7 (.fl 8 (.fl 9 (.fl 10 (.fl 11 (.fl 12 (.fl 13 (.fl 14 (s)))))))))))))))
def wNC (s:Sch):Sch:=.fl 0 (.fl 1 (.fl 2 (.fl 3 (.fl 4 (.fl 5 (.fl 6 (.fl 7 (.fl 8 (.fl 9 (.fl 10 (.fl 11 (.fl 12 (.fl 13 (.fl 14 (.fl 15 (s))))))))))))))))
def wND (s:Sch):Sch:=.fl 0 (.fl 1 (.fl 2 (.fl 3 (.fl 4 (.fl 5 (.fl 6 (.fl 7 (.fl 8 (.fl 9 (.fl 10 (.fl 11 (.fl 12 (.fl 13 (.fl 14 (.fl 15 (.fl 16 (s)))))))))))))))))
def wNE (s:Sch):Sch:=.fl 0 (.fl 1 (.fl 2 (.fl 3 (.fl 4 (.fl 5 (.fl 6 (.fl 7 (.fl 8 (.fl 9 (.fl 10 (.fl 11 (.fl 12 (.fl 13 (.fl 14 (.fl 15 (.fl 16 (.fl 17 (s))))))))))))))))))
def wNF (s:Sch):Sch:=.fl 0 (.fl 1 (.fl 2 (.fl 3 (.fl 4 (.fl 5 (.fl 6 (.fl 7 (.fl 8 (.fl 9 (.fl 10 (.fl 11 (.fl 12 (.fl 13 (.fl 14 (.fl 15 (.fl 16 (.fl 17 (.fl 18 (s)))))))))))))))))))
def wNG (s:Sch):Sch:=.fl 0 (.fl 1 (.fl 2 (.fl 3 (.fl 4 (.fl 5 (.fl 6 (.fl 7 (.fl 8 (.fl 9 (.fl 10 (.fl 11 (.fl 12 (.fl 13 (.fl 14 (.fl 15 (.fl 16 (.fl 17 (.fl 18 (.fl 19 (s))))))))))))))))))))
def wNH (s:Sch):Sch:=.fl 0 (.fl 1 (.fl 2 (.fl 3 (.fl 4 (.fl 5 (.fl 6 (.fl 7 (.fl 8 (.fl 9 (.fl 10 (.fl 11 (.fl 12 (.fl 13 (.fl 14 (.fl 15 (.fl 16 (.fl 17 (.fl 18 (.fl 19 (.fl 20 (.fl 21 (s))))))))))))))))))))))
def wNI (s:Sch):Sch:=.fl 0 (.fl 1 (.fl 2 (.fl 3 (.fl 4 (.fl 5 (.fl 6 (.fl 7 (.fl 8 (.fl 9 (.fl 10 (.fl 11 (.fl 12 (.fl 13 (.fl 14 (.fl 15 (.fl 16 (.fl 17 (.fl 18 (.fl 19 (.fl 20 (.fl 21 (.fl 22 (.fl 23 (.fl 24 (.fl 25 (.fl 26 (.fl 27 (.fl 28 (.fl 29 (.fl 30 (.fl 31 (.fl 32 (.fl 33 (.fl 34 (.fl 35 (.fl 36 (.fl 37 (.fl 38 (.fl 39 (.fl 40 (.fl 41 (.fl 42 (.fl 43 (.fl 44 (s)))))))))))))))))))))))))))))))))))))))))))))
def fC1_3 (s:Sch):Sch:=.fl 1 (.fl 2 (.fl 3 (s)))
def fC1_4 (s:Sch):Sch:=.fl 1 (.fl 2 (.fl 3 (.fl 4 (s))))
def fC1_5 (s:Sch):Sch:=.fl 1 (.fl 2 (.fl 3 (.fl 4 (.fl 5 (s)))))
def wNJ (s:Sch):Sch:=.fl 1 (.fl 2 (.fl 3 (.fl 4 (.fl 5 (.fl 6 (.fl 7 (.fl 8 (.fl 9 (.fl 10 (.fl 11 (.fl 12 (.fl 13 (.fl 14 (.fl 15 (.fl 16 (.fl 17 (.fl 18 (.fl 19 (s)))))))))))))))))))
def fC2_4 (s:Sch):Sch:=.fl 2 (.fl 3 (.fl 4 (s)))
def wKX (s:Sch):Sch:=.fl 2 (.fl 3 (.fl 4 (.fl 5 (s))))
def wGM (s:Sch):Sch:=.fl 2 (.fl 3 (.fl 4 (.fl 5 (.fl 6 (s)))))
def fC2_8 (s:Sch):Sch:=.fl 2 (.fl 3 (.fl 4 (.fl 5 (.fl 6 (.fl 7 (.fl 8 (s)))))))
def wJk (s:Sch):Sch:=.fl 3 (.fl 4 (.fl 5 (s)))
def wIS (s:Sch):Sch:=.fl 3 (.fl 4 (.fl 5 (.fl 6 (s))))
def fC3_7 (s:Sch):Sch:=.fl 3 (.fl 4 (.fl 5 (.fl 6 (.fl 7 (s)))))
def wMF (s:Sch):Sch:=.fl 4 (.fl 5 (.fl 6 (s)))
def fC4_7 (s:Sch):Sch:=.fl 4 (.fl 5 (.fl 6 (.fl 7 (s))))
def wJA (s:Sch):Sch:=.fl 4 (.fl 5 (.fl 6 (.fl 7 (.fl 8 (s)))))
def wNK (s:Sch):Sch:=.fl 4 (.fl 5 (.fl 6 (.fl 7 (.fl 8 (.fl 9 (.fl 10 (.fl 11 (.fl 12 (.fl 13 (.fl 14 (.fl 15 (.fl 16 (.fl 17 (.fl 18 (.fl 19 (.fl 20 (.fl 21 (.fl 22 (.fl 23 (s))))))))))))))))))))
def wLB (s:Sch):Sch:=.fl 5 (.fl 6 (.fl 7 (s)))
def wHI (s:Sch):Sch:=.fl 5 (.fl 6 (.fl 7 (.fl 8 (s))))
def wGi (s:Sch):Sch:=.fl 5 (.fl 6 (.fl 7 (.fl 8 (.fl 9 (s)))))
def wNL (s:Sch):Sch:=.fl 5 (.fl 6 (.fl 7 (.fl 8 (.fl 9 (.fl 10 (.fl 11 (s)))))))
def wLV (s:Sch):Sch:=.fl 5 (.fl 6 (.fl 7 (.fl 8 (.fl 9 (.fl 10 (.fl 11 (.fl 12 (.fl 13 (.fl 14 (.fl 15 (s)))))))))))
def wLC (s:Sch):Sch:=.fl 6 (.fl 7 (.fl 8 (s)))
def wKY (s:Sch):Sch:=.fl 6 (.fl 7 (.fl 8 (.fl 9 (s))))
def wNM (s:Sch):Sch:=.fl 6 (.fl 7 (.fl 8 (.fl 9 (.fl 10 (s)))))
def wLW (s:Sch):Sch:=.fl 6 (.fl 7 (.fl 8 (.fl 9 (.fl 10 (.fl 11 (.fl 12 (s)))))))
def fC7_9 (s:Sch):Sch:=.fl 7 (.fl 8 (.fl 9 (s)))
def wLX (s:Sch):Sch:=.fl 7 (.fl 8 (.fl 9 (.fl 10 (.fl 11 (s)))))
def wLY (s:Sch):Sch:=.fl 7 (.fl 8 (.fl 9 (.fl 10 (.fl 11 (.fl 12 (s))))))
def wLZ (s:Sch):Sch:=.fl 7 (.fl 8 (.fl 9 (.fl 10 (.fl 11 (.fl 12 (.fl 13 (s)))))))
def wNN (s:Sch):Sch:=.fl 7 (.fl 8 (.fl 9 (.fl 10 (.fl 11 (.fl 12 (.fl 13 (.fl 14 (.fl 15 (.fl 16 (.fl 17 (.fl 18 (.fl 19 (.fl 20 (.fl 21 (.fl 22 (.fl 23 (.fl 24 (.fl 25 (.fl 26 (.fl 27 (.fl 28 (.fl 29 (.fl 30 (.fl 31 (.fl 32 (.fl 33 (.fl 34 (.fl 35 (.fl 36 (.fl 37 (s)))))))))))))))))))))))))))))))
def wJY (s:Sch):Sch:=.fl 8 (.fl 9 (.fl 10 (s)))
def wIT (s:Sch):Sch:=.fl 8 (.fl 9 (.fl 10 (.fl 11 (s))))
def wEe (s:Sch):Sch:=.fl 9 (.fl 10 (.fl 11 (.fl 12 (s))))
def wNO (s:Sch):Sch:=.fl 9 (.fl 10 (.fl 11 (.fl 12 (.fl 13 (.fl 14 (.fl 15 (.fl 16 (s))))))))
def wMG (s:Sch):Sch:=.fl 10 (.fl 11 (.fl 12 (.fl 13 (s))))
def wKZ (s:Sch):Sch:=.fl 10 (.fl 11 (.fl 12 (.fl 13 (.fl 14 (.fl 15 (.fl 16 (.fl 17 (.fl 18 (.fl 19 (.fl 20 (s)))))))))))
def wMH (s:Sch):Sch:=.fl 11 (.fl 12 (.fl 13 (.fl 14 (s))))
def wMI (s:Sch):Sch:=.fl 18 (.fl 19 (.fl 20 (.fl 21 (.fl 22 (.fl 23 (.fl 24 (.fl 25 (.fl 26 (.fl 27 (.fl 28 (.fl 29 (.fl 30 (.fl 31 (.fl 32 (.fl 33 (.fl 34 (.fl 35 (.fl 36 (.fl 37 (.fl 38 (.fl 39 (.fl 40 (s)))))))))))))))))))))))
def wMJ (s:Sch):Sch:=.fl 20 (.fl 21 (.fl 22 (s)))
def wMK (s:Sch):Sch:=.fl 22 (.fl 23 (.fl 24 (s)))
def wML (s:Sch):Sch:=.fl 47 (.fl 48 (.fl 49 (.fl 50 (s))))
theorem zA:type_of% @nE:=@nE
theorem zB:type_of% @wJp:=@wJp
theorem zC:type_of% @Try.sizeOf3:=@Try.sizeOf3
theorem zD:type_of% @Enters.mk:=@Enters.mk
theorem zE:type_of% @OKS.callH:=@OKS.callH
theorem zF:type_of% @wHY:=@wHY
theorem zG:type_of% @Try.isAgg3:=@Try.isAgg3
theorem zH:type_of% @Try.runUnderlying23:=@Try.runUnderlying23
theorem zI:type_of% @Try.sizeOf104:=@Try.sizeOf104
theorem zJ:type_of% @Runs.fa:=@Runs.fa
theorem zK:type_of% @wLD:=@wLD
theorem zL:type_of% @wHU:=@wHU
theorem zM:type_of% @CK.seq:=@CK.seq
theorem zN:type_of% @wJo:=@wJo
theorem zO:type_of% @wGV:=@wGV
theorem zP:type_of% @Runs.ext:=@Runs.ext
theorem zQ:type_of% @Try.runUnderlying28:=@Try.runUnderlying28
theorem zR:type_of% @Runs.pickT:=@Runs.pickT
theorem zS:type_of% @Hid.mk:=@Hid.mk
theorem zT:type_of% @OKS.alloc:=@OKS.alloc
theorem zU:type_of% @CK.ret:=@CK.ret
theorem zV:type_of% @OKS.st:=@OKS.st
theorem zW:type_of% @PHeap.Le.refl:=@PHeap.Le.refl
theorem zX:type_of% @wJD:=@wJD
theorem zY:type_of% @OKS.r:=@OKS.r
theorem zZ:type_of% @Try.sizeOf28:=@Try.sizeOf28
theorem za:type_of% @Try.zeroValue104:=@Try.zeroValue104
theorem zb:type_of% @Runs.pickF:=@Runs.pickF
theorem zc:type_of% @CK.block:=@CK.block
theorem zd:type_of% @wMS:=@wMS
theorem ze:type_of% @Try.isAgg28:=@Try.isAgg28
theorem zf:type_of% @Runs.addw:=@Runs.addw
theorem zg:type_of% @OKS.e:=@OKS.e
theorem zh:type_of% @Runs.lss:=@Runs.lss
theorem zi:type_of% @Try.isAgg104:=@Try.isAgg104
theorem zj:type_of% @Try.sizeOf41:=@Try.sizeOf41
theorem zk:type_of% @OKS.both:=@OKS.both
theorem zl:type_of% @OKS.m:=@OKS.m
theorem zm:type_of% @Try.runUnderlying78:=@Try.runUnderlying78
theorem zn:type_of% @CK.condF:=@CK.condF
theorem zo:type_of% @Runs.build:=@Runs.build
theorem zq:type_of% @Try.sizeOf23:=@Try.sizeOf23
theorem zr:type_of% @OKS.rm:=@OKS.rm
theorem zt:type_of% @OKS.p:=@OKS.p
theorem zu:type_of% @OKS.box:=@OKS.box
theorem zw:type_of% @Try.zeroValue3:=@Try.zeroValue3
theorem zx:type_of% @wJn:=@wJn
theorem zy:type_of% @Try.isAgg23:=@Try.isAgg23
theorem zz:type_of% @Runs.len:=@Runs.len
theorem ZA:type_of% @CK.anyOrd:=@CK.anyOrd
theorem ZB:type_of% @Try.mixed:=@Try.mixed
theorem ZC:type_of% @Try.sizeOf45:=@Try.sizeOf45
theorem ZD:type_of% @CK.condT:=@CK.condT
theorem ZE:type_of% @OKS.buildSlice:=@OKS.buildSlice
theorem ZF:type_of% @Try.runUnderlying124:=@Try.runUnderlying124
theorem ZG:type_of% @OKS.px:=@OKS.px
theorem ZH:type_of% @wJB:=@wJB
theorem ZI:type_of% @Try.runUnderlying121:=@Try.runUnderlying121
theorem ZJ:type_of% @Try.zeroValue41:=@Try.zeroValue41
theorem ZK:type_of% @Try.runUnderlying41:=@Try.runUnderlying41
theorem ZL:type_of% @res1:=@res1
theorem ZM:type_of% @Try.runUnderlying39:=@Try.runUnderlying39
theorem ZN:type_of% @Runs.neq:=@Runs.neq
theorem ZO:type_of% @Runs.iaI:=@Runs.iaI
theorem ZP:type_of% @OKS.cutD:=@OKS.cutD
theorem ZQ:type_of% @Try.runUnderlying24:=@Try.runUnderlying24
theorem ZR:type_of% @Try.runUnderlying25:=@Try.runUnderlying25
theorem ZS:type_of% @Runs.to:=@Runs.to
theorem ZT:type_of% @Runs.notT:=@Runs.notT
theorem ZU:type_of% @Try.sizeOf78:=@Try.sizeOf78
theorem ZV:type_of% @Try.runUnderlying118:=@Try.runUnderlying118
theorem ZW:type_of% @Try.isAgg45:=@Try.isAgg45
theorem ZX:type_of% @Try.runUnderlying26:=@Try.runUnderlying26
theorem ZY:type_of% @OKS.mx2:=@OKS.mx2
theorem ZZ:type_of% @Try.sizeOf169:=@Try.sizeOf169
theorem Za:type_of% @Runs.nilp:=@Runs.nilp
theorem Zb:type_of% @Try.zeroValue45:=@Try.zeroValue45
theorem Zc:type_of% @wJC:=@wJC
theorem Zd:type_of% @Try.zeroValue118:=@Try.zeroValue118
theorem Ze:type_of% @Try.sizeOf39:=@Try.sizeOf39
theorem Zf:type_of% @CK.exit:=@CK.exit
theorem Zg:type_of% @Try.runUnderlying29:=@Try.runUnderlying29
theorem Zh:type_of% @wMR:=@wMR
theorem Zi:type_of% @Runs.iaN:=@Runs.iaN
theorem Zj:type_of% @Try.sizeOf118:=@Try.sizeOf118
theorem Zk:type_of% @Try.runUnderlying45:=@Try.runUnderlying45
theorem Zl:type_of% @CK.skip:=@CK.skip
theorem Zm:type_of% @Try.sizeOf25:=@Try.sizeOf25
theorem Zn:type_of% @Try.isAgg41:=@Try.isAgg41
theorem Zo:type_of% @Try.runUnderlying69:=@Try.runUnderlying69
theorem Zp:type_of% @Try.zeroValue39:=@Try.zeroValue39
theorem Zq:type_of% @Try.runUnderlying112:=@Try.runUnderlying112
theorem Zr:type_of% @Try.sizeOf26:=@Try.sizeOf26
theorem Zs:type_of% @Try.sizeOf121:=@Try.sizeOf121
theorem Zt:type_of% @Try.isAgg78:=@Try.isAgg78
theorem Zu:type_of% @Try.runUnderlying170:=@Try.runUnderlying170
theorem Zv:type_of% @Try.zeroValue78:=@Try.zeroValue78
theorem Zw:type_of% @Try.sizeOf43:=@Try.sizeOf43
theorem Zx:type_of% @Try.isAgg121:=@Try.isAgg121
theorem Zy:type_of% @Try.runUnderlying43:=@Try.runUnderlying43
theorem Zz:type_of% @Try.runUnderlying169:=@Try.runUnderlying169
theorem yA:type_of% @Try.isAgg25:=@Try.isAgg25
theorem yB:type_of% @Try.runUnderlying94:=@Try.runUnderlying94
theorem yC:type_of% @Try.sizeOf4:=@Try.sizeOf4
theorem yD:type_of% @OKS.ra:=@OKS.ra
theorem yE:type_of% @Try.sizeOf24:=@Try.sizeOf24
theorem yF:type_of% @Try.zeroValue99:=@Try.zeroValue99
theorem yG:type_of% @Try.zeroValue169:=@Try.zeroValue169
theorem yH:type_of% @Runs.subw:=@Runs.subw
theorem yI:type_of% @Try.call32:=@Try.call32
theorem yJ:type_of% @Try.call75:=@Try.call75
theorem yK:type_of% @Try.isAgg4:=@Try.isAgg4
theorem yL:type_of% @CK.forN:=@CK.forN
theorem yM:type_of% @Try.isAgg26:=@Try.isAgg26
theorem yN:type_of% @CK.cut:=@CK.cut
theorem yO:type_of% @Runs.eql:=@Runs.eql
theorem yP:type_of% @OKS.append:=@OKS.append
theorem yQ:type_of% @Try.sizeOf74:=@Try.sizeOf74
theorem yR:type_of% @Try.runUnderlying130:=@Try.runUnderlying130
theorem yS:type_of% @Try.isAgg24:=@Try.isAgg24
theorem yU:type_of% @Try.sizeOf47:=@Try.sizeOf47
theorem yV:type_of% @Try.isAgg74:=@Try.isAgg74
theorem yW:type_of% @Try.call103:=@Try.call103
theorem yX:type_of% @CK.fresh:=@CK.fresh
theorem yY:type_of% @Try.call48:=@Try.call48
theorem yZ:type_of% @Try.call49:=@Try.call49
theorem ya:type_of% @Try.isAgg99:=@Try.isAgg99
theorem yb:type_of% @Try.isAgg47:=@Try.isAgg47
theorem yc:type_of% @Runs.mkf:=@Runs.mkf
theorem yd:type_of% @Try.zeroValue43:=@Try.zeroValue43
theorem ye:type_of% @Try.call57:=@Try.call57
theorem yf:type_of% @Try.isAgg169:=@Try.isAgg169
theorem yg:type_of% @OKS.callHT:=@OKS.callHT
theorem yh:type_of% @Try.sizeOf122:=@Try.sizeOf122
theorem yi:type_of% @Try.runUnderlying3:=@Try.runUnderlying3
theorem yj:type_of% @Runs.ixA:=@Runs.ixA
theorem yk:type_of% @Try.call70:=@Try.call70
theorem yl:type_of% @Try.runUnderlying122:=@Try.runUnderlying122
theorem ym:type_of% @Try.sizeOf130:=@Try.sizeOf130
theorem yn:type_of% @Runs.gtr:=@Runs.gtr
theorem yo:type_of% @Try.isAgg39:=@Try.isAgg39
theorem yp:type_of% @Try.zeroValue28:=@Try.zeroValue28
theorem yq:type_of% @Try.call16:=@Try.call16
theorem yr:type_of% @Try.underlying23:=@Try.underlying23
theorem yu:type_of% @OKS.stR:=@OKS.stR
theorem yv:type_of% @OKS.callV:=@OKS.callV
end Go.Proofs.Ytlnfbjphfoipaaa
namespace Go.Proofs.Ytlnfbjphfoipaaa
open Go.KL
set_option maxHeartbeats 4000000
theorem wFA (p0:List Int) (ab:Option Addr) (ac:Nat) (w:World) (U:PHeap) (hS:St0 w U []) (ai:Sl U 1 ab ac p0.length (hD KL.encB8 p0)) {r:wAK} (hm:wCX p0=some r):Gv Try.prog 9 [.slice ab p0.length ac] w (wCB w [] U (fun U_ L_ v=>∃ (b0:Nat) (A0p0:Option Addr) (c0p0:Nat),v=.pointer (some ⟨b0,0,none⟩)/\L_=[.blk b0 94 [.slice A0p0 r.bytes.length c0p0,jV r.next,.int .u32 r.state]]/\Sl U_ 1 A0p0 c0p0 r.bytes.length (hD KL.encB8 r.bytes))):=by
 unfold wCX at hm
 refine Gv.of Try.func9 Z Try.ntmps9 Try.results9 Z (sR fL1 Z (oA Z Z (eN (sR gBd Z (oM Z Z ?_)))))
 let B0:List Value:=[.slice ab p0.length ac,jV 0,.int .u32 17]
 refine zY rfl rfl rfl rfl (fun _=>zo (pv:=[(0,.slice ab p0.length ac),(2,.int .u32 17)]) (z:=[.slice none 0 0,jV 0,.int .u32 0]) (cs:=B0) rfl (wAF rfl (wAF rfl wAO)) Try.zeroValue94 wKm rfl rfl) (zu (cs:=B0) rfl rfl rfl rfl rfl rfl (by rfl) hS ?_)
 intro W1 b2 ah
 refine oA Z Z (eN (zU ?_))
 cases hm
 exact ⟨Z,_,(ZL Z),U,_,ah,b2,ab,ac,Z,Z,ai⟩
theorem wAS (p0:wAK) (ag:Nat) (ac:Option Addr) (ae:Nat) (p1:Int) (w:World) (U:PHeap) (hS:St0 w U [.blk ag 94 [.slice ac p0.bytes.length ae,jV p0.next,.int .u32 p0.state]]) (ai:Sl U 1 ac ae p0.bytes.length (hD KL.encB8 p0.bytes)) {r:Int × wAK} (hm:wAN p0 p1=some r):Gv Try.prog 32 [.pointer (some ⟨ag,0,none⟩),jV p1] w (wCB w [.blk ag 94 [.slice ac p0.bytes.length ae,jV p0.next,.int .u32 p0.state]] U (fun U_ L_ v=>∃ (ay:Option Addr) (aJ:Nat),v=jV r.1/\L_=[.blk ag 94 [.slice ay r.2.bytes.length aJ,jV r.2.next,.int .u32 r.2.state]]/\Sl U_ 1 ay aJ r.2.bytes.length (hD KL.encB8 r.2.bytes))):=by
 unfold wAN at hm
 refine Gv.of Try.func32 Z Try.ntmps32 Try.results32 Z (sR fL1 Z (oA Z Z (eN (zM (sR fL10 Z (oM Z Z (oR Z (Runs.leq Z Z Z) (oM Z Z ?_))))))))
 by_cases c2:p1 <= 1
 have aM:=hm;rw [if_pos c2] at aM;replace c2:=zS c2
 refine oT Z c2 (oT Z c2 (oT Z c2 (oT Z c2 (oT Z c2 (oT Z c2 (oR Z (zR Z (Zh c2.out) Z) (eN (ZD Z (sR fL1 Z (oA Z Z (eN (zU (zN ?_)))))))))))))
 cases aM
 exact ⟨Z,_,(ZL Z),U,_,hS,ac,ae,Z,Z,ai⟩
 have aN:=hm;rw [if_neg c2] at aN;replace c2:=zS c2
 refine zr Z Z Z (wF Z c2) Z Z (rU Z (wF Z c2) (Za Z Z) (rU Z (wF Z c2) (zJ Z Z yB Z Try.sizeOf22) (zl Z Z Z (wF Z c2) (hS.ldB (j:=0) Z Z Z Try.isAgg22 (v:=.slice ac p0.bytes.length ae) Z) Z (rU Z (wF Z c2) (zz Z Z Try.runUnderlying22) (rU Z (wF Z c2) (yO Z Z Z) (oR Z (zb Z (zd c2.out) Z) (eN (ifc aN ?_ ?_))))))))
 intro c5 bh
 refine cT Z c5 (sR fL1 Z (oA Z Z (eN (zU (zN ?_)))))
 cases bh
 exact ⟨Z,_,(ZL Z),U,_,hS,ac,ae,Z,Z,ai⟩
 intro c5 bi
 refine cF Z c5 (kN (zM (ZA ZB [3,3,3,1,3,3,3,1,3,3,3,1,3,3,3,1,3,3,3,3,1,3,3,3,1,3,3,3,3,3] fL30 (by kernel_rfl) ?_)))
 have af:=hS.drew
 generalize hw_W9:({ w with drawn:=w.drawn + 1 }:World)=W9 at af ⊢
 refine oM Z Z (oR Z (Za Z Z) (oR Z (zJ Z Z yB Z Try.sizeOf22) (oL Z (af.ldB (j:=0) Z Z Z Try.isAgg22 (v:=.slice ac p0.bytes.length ae) Z) (oM Z Z (oR Z (Za Z Z) (oR Z (zJ Z Z yB Z zC) (oL Z (af.ldB (j:=0) Z Z Z zG (v:=jV p0.next) Z) (oM Z Z (oR Z (Za Z Z) (oR Z (zJ Z Z yB Z Try.sizeOf22) (oL Z (af.ldB (j:=0) Z Z Z Try.isAgg22 (v:=.slice ac p0.bytes.length ae) Z) (oR Z (zz Z Z Try.runUnderlying22) (bnK bi fun bo aR a6=>oR Z (Runs.rem Z Z Z aR) (bnK a6 fun aO ax a7=>?_))))))))))))))
 have q:=ai.el (fun _=>rfl) (wAW ax)
 obtain ⟨bm,bn,aX,aY⟩:=q
 refine oR Z (ZO Z Z aX Z Try.runUnderlying22 Try.sizeOf5 (wBJ ax) (wBL ax)) (oL Z (af.ldC (f:=0) aY (v:=.int .u8 aO) Z Z Try.isAgg5 Z) (oR Z (Runs.cvu Z Z Try.runUnderlying5 Try.runUnderlying92 Z Z) (oM Z Z (oR Z (Za Z Z) (oR Z (zJ Z Z yB Z zC) (oL Z (af.ldB (j:=0) Z Z Z zG (v:=jV p0.next) Z) (oM Z Z (oR Z (Za Z Z) (oR Z (zJ Z Z yB Z Try.sizeOf22) (oL Z (af.ldB (j:=0) Z Z Z Try.isAgg22 (v:=.slice ac p0.bytes.length ae) Z) (oR Z (zz Z Z Try.runUnderlying22) (bnK a7 fun bj aS a8=>oR Z (Runs.quo Z Z Z aS) (oR Z (Runs.cvu Z Z yi Try.runUnderlying92 Z Z) (oA Z Z (oA Z Z (eN (zM (yX fun au am=>?_))))))))))))))))))
 have aj:au 0=.pointer (some ⟨ag,0,none⟩):=(am 0).trans rfl
 have an:au 1=jV p1:=(am 1).trans rfl
 have ao:au 5=.int .u32 (wEv aO):=(am 5).trans rfl
 have aK:au 6=.int .u32 (wEv bj):=(am 6).trans rfl
 clear am
 refine rR (wLA (.fx 7 .nil .stop)) Z (oM Z aj (oR Z (Za Z Z) (oR Z (zJ Z Z yB Z zC) (oL Z (af.ldB (j:=0) Z Z Z zG (v:=jV p0.next) Z) (oR Z (zf Z Z Z) (oR Z (Za Z Z) (oR Z (zJ Z Z yB Z zC) (zV (j:=0) (vs:=[jV (w64 (p0.next + 1))]) Z Z Z Z af Z Z Z Z zC (zA Z) Z Z Z ?_))))))))
 intro aP aZ
 let B0:Res:=.blk ag 94 [.slice ac p0.bytes.length ae,jV p0.next,.int .u32 p0.state]
 have aL:SW w [B0] U U [.blk ag 94 [.slice ac p0.bytes.length ae,jV (w64 (p0.next + 1)),.int .u32 p0.state]] aP:=aZ
 refine eN (sR (wNB (.fx 15 .nil .stop)) Z (oM Z aj (oM Z aj (oR Z (Za Z Z) (oR Z (zJ Z Z yB Z Try.sizeOf92) (oL Z (aL.ldB (j:=0) Z Z Z Try.isAgg92 (v:=.int .u32 p0.state) Z) (oR Z (Runs.mulu Z Z Z) (oM Z ao (oR Z (Runs.addu Z Z Z) (oM Z aK (oR Z (Runs.mulu Z Z Z) (oR Z (Runs.addu Z Z Z) (oR Z (Runs.addu Z Z Z) (bnK a8 fun aq aT a9=>oR Z (Runs.rem Z Z Z aT) (oR Z (Za Z Z) (oR Z (zJ Z Z yB Z Try.sizeOf92) (zV (j:=0) (vs:=[.int .u32 aq]) Z Z Z Z aL Z Z Z Z Try.sizeOf92 (zA Z) Z Z Z ?_)))))))))))))))))
 intro aQ a5
 have ak:SW w [B0] U U [.blk ag 94 [.slice ac p0.bytes.length ae,jV (w64 (p0.next + 1)),.int .u32 aq]] aQ:=a5
 refine eN (zM (sR fL6 Z (oM Z aK (oR Z (yO Z Z Z) (oM Z Z (ifc a9 ?_ ?_))))))
 intro ah ba
 refine zr Z Z Z (wT Z ah) Z an (rU Z (wT Z ah) (Runs.leq Z Z Z) (oR Z (zR Z (Zh ah.out) Z) (eN (ifc ba ?_ ?_))))
 intro av bb
 refine cT Z av (sR fL5 Z (oM Z ao (oR Z (Runs.cvw Z Z Try.runUnderlying92 yi Z Z) (oM Z an (bnK bb fun bp aU bc=>oR Z (Runs.rem Z Z Z aU) (oA Z Z (eN (zU (zN ?_)))))))))
 cases bc
 exact ⟨Z,_,(ZL Z),U,_,ak,ac,ae,Z,Z,ai⟩
 intro av bd
 refine cF Z av (kN (sR wMQ Z (oM Z aj (oR Z (Za Z Z) (oR Z (zJ Z Z yB Z Try.sizeOf92) (oL Z (ak.ldB (j:=0) Z Z Z Try.isAgg92 (v:=.int .u32 aq) Z) (oR Z (Runs.mulu Z Z Z) (oM Z ao (oR Z (Runs.addu Z Z Z) (oR Z (Runs.cvw Z Z Try.runUnderlying92 yi Z Z) (oM Z an (bnK bd fun bq aV be=>oR Z (Runs.rem Z Z Z aV) (oA Z Z (eN (zU ?_)))))))))))))))
 cases be
 exact ⟨Z,_,(ZL Z),U,_,ak,ac,ae,Z,Z,ai⟩
 intro ah bf
 refine oF Z ah (oF Z ah (oR Z (zb Z (zd ah.out) Z) (eN (zn Z (kN (sR wMQ Z (oM Z aj (oR Z (Za Z Z) (oR Z (zJ Z Z yB Z Try.sizeOf92) (oL Z (ak.ldB (j:=0) Z Z Z Try.isAgg92 (v:=.int .u32 aq) Z) (oR Z (Runs.mulu Z Z Z) (oM Z ao (oR Z (Runs.addu Z Z Z) (oR Z (Runs.cvw Z Z Try.runUnderlying92 yi Z Z) (oM Z an (bnK bf fun br aW bg=>oR Z (Runs.rem Z Z Z aW) (oA Z Z (eN (zU ?_)))))))))))))))))))
 cases bg
 exact ⟨Z,_,(ZL Z),U,_,ak,ac,ae,Z,Z,ai⟩
theorem wAg (p0:wAK) (ab:Nat) (ac:Option Addr) (ae:Nat) (p1:Int) (p2:Int) (w:World) (U:PHeap) (hS:St0 w U [.blk ab 94 [.slice ac p0.bytes.length ae,jV p0.next,.int .u32 p0.state]]) (ax:Sl U 1 ac ae p0.bytes.length (hD KL.encB8 p0.bytes)) {r:Int × wAK} (hm:wAR p0 p1 p2=some r):Gv Try.prog 31 [.pointer (some ⟨ab,0,none⟩),jV p1,jV p2] w (wCB w [.blk ab 94 [.slice ac p0.bytes.length ae,jV p0.next,.int .u32 p0.state]] U (fun U_ L_ v=>∃ (aj:Option Addr) (an:Nat),v=jV r.1/\L_=[.blk ab 94 [.slice aj r.2.bytes.length an,jV r.2.next,.int .u32 r.2.state]]/\Sl U_ 1 aj an r.2.bytes.length (hD KL.encB8 r.2.bytes))):=by
 unfold wAR at hm
 refine Gv.of Try.func31 Z Try.ntmps31 Try.results31 Z (sR fL1 Z (oA Z Z (eN (sR (wFr gAp) Z (oM Z Z (oM Z Z (oM Z Z (oM Z Z (oR Z (yH Z Z Z) (oR Z (zf Z Z Z) ?_))))))))))
 have q:=bnd hm
 obtain ⟨⟨x2,x3⟩,h4,ao⟩:=q
 try dsimp only at ao
 refine zE 1 Z Z Z Z (zD Z Z yI (zB Z (zB Z zK)) Z) hS (fun hs=>wAS p0 ab ac ae (w64 ((w64 (p2 - p1)) + 1)) w U hs ax h4) (.inl Z) ?_
 rintro U6 L7 v8 W9 az av ⟨ai,am,rfl,rfl,aq⟩
 have aw:SW w [.blk ab 94 [.slice ac p0.bytes.length ae,jV p0.next,.int .u32 p0.state]] U U6 [.blk ab 94 [.slice ai x3.bytes.length am,jV x3.next,.int .u32 x3.state]] W9:=av
 refine oR Z (zf Z Z Z) (oA Z Z (eN (zU ?_)))
 cases ao
 exact ⟨Z,_,(ZL Z),U6,_,aw,ai,am,Z,Z,aq⟩
theorem wFQ (p0:wAK) (ab:Nat) (ef:Option Addr) (eg:Nat) (p1:Int) (p2:Int) (p3:Int) (w:World) (U:PHeap) (hS:St0 w U [.blk ab 94 [.slice ef p0.bytes.length eg,jV p0.next,.int .u32 p0.state]]) (Dm:Sl U 1 ef eg p0.bytes.length (hD KL.encB8 p0.bytes)) {r:wAC × (List (List Int)) × (List Int) × wAK} (hm:wCC p0 p1 p2 p3=some r):Gv Try.prog 8 [.pointer (some ⟨ab,0,none⟩),jV p1,jV p2,jV p3] w (wCB w [.blk ab 94 [.slice ef p0.bytes.length eg,jV p0.next,.int .u32 p0.state]] U (fun U_ L_ v=>∃ (jj:Option Addr) (lZ:Nat) (jk:Option Addr) (l3:Nat) (jl:Option Addr) (l4:Nat) (jm:Option Addr) (l5:Nat) (A1:Option Addr) (c1:Nat) (A2:Option Addr) (c2:Nat) (jT:Option Addr) (mK:Nat),v=.tuple #[.agg #[.slice jj r.1.Starts.length lZ,.slice jk r.1.Splits.length l3,.slice jl r.1.Clocks.length l4,.slice jm r.1.Readings.length l5],.slice A1 r.2.1.length c1,.slice A2 r.2.2.1.length c2]/\L_=[.row jj lZ 3 1 (hD KL.encI r.1.Starts),.row jk l3 41 2 (hD wAG r.1.Splits),.row jl l4 43 3 (hD wAA r.1.Clocks),.row jm l5 39 4 (hD wAB r.1.Readings),.row A2 c2 3 1 (hD KL.encI r.2.2.1),.blk ab 94 [.slice jT r.2.2.2.bytes.length mK,jV r.2.2.2.next,.int .u32 r.2.2.2.state]]/\SlR U_ wHb A1 c1 r.2.1/\Sl U_ 1 jT mK r.2.2.2.bytes.length (hD KL.encB8 r.2.2.2.bytes))):=by
 unfold wCC at hm
 refine Gv.of Try.func8 Z Try.ntmps8 Try.results8 Z (sR (.fx 0 gAa .stop) Z ?_)
 let B0:List Value:=[.slice none 0 0,.slice none 0 0,.slice none 0 0,.slice none 0 0]
 refine zT (cs:=B0) Z Z Z Z Z yp Z hS ?_
 intro W2 b3 CC
 refine oA Z Z (oA Z Z (eN (sR (.fx 0 .nil .stop) Z (zT (cs:=B0) Z Z Z Z Z yp Z CC ?_))))
 intro W6 b7 CY
 refine eN (sR fL1 Z (oA Z Z (eN (sR fL1 Z (oA Z Z (eN (zM (sR gBd Z (oM Z Z (oM Z Z ?_))))))))))
 have q:=bnd hm
 obtain ⟨⟨f5,i3⟩,xx,pQ⟩:=q
 try dsimp only at pQ
 let B1:Res:=.blk ab 94 [.slice ef p0.bytes.length eg,jV p0.next,.int .u32 p0.state]
 have AW:SW w [B1] U U [B1,.blk b7 28 B0,.blk b3 28 B0] W6:=CY.pick [2,0,1] _ (by decide) rfl
 refine zE 1 Z Z Z Z (zD Z Z Try.call31 (zB Z (zB Z (zB Z zK))) Z) AW (fun hs=>wAg p0 ab ef eg 1 p1 W6 U hs Dm xx) (.inl Z) ?_
 rintro gJ Fa GA rq Gm BO ⟨jH,mr,rfl,rfl,y9⟩
 have Cq:SW w [B1] U gJ [.blk ab 94 [.slice jH i3.bytes.length mr,jV i3.next,.int .u32 i3.state],.blk b7 28 B0,.blk b3 28 B0] rq:=BO
 refine oM Z Z (eN (zc ?_))
 have q:=bnd pQ
 obtain ⟨⟨E1,E2,E3,aw⟩,Dv,qc⟩:=q
 try dsimp only at qc
 have q:=wBn Dv
 obtain ⟨iV,Dw⟩:=q
 replace iV:=zS iV
 refine CK.forN' (fun dW (d7,jd,je,cc) σ_ w_=>∃ (U_:PHeap) (eM:Option Addr) (fD:Nat) (cq:Option Addr) (cC:Nat),σ_ 28=jV (↑dW:Int)/\σ_ 0=.pointer (some ⟨ab,0,none⟩)/\σ_ 2=jV p2/\σ_ 3=jV p3/\σ_ 8=.pointer (some ⟨b3,0,none⟩)/\σ_ 11=.pointer (some ⟨b7,0,none⟩)/\σ_ 12=.slice none 0 0/\σ_ 13=.slice none 0 0/\σ_ 27=jV f5/\PHeap.Le gJ U_/\SW w [B1] U U_ [.blk ab 94 [.slice eM d7.length fD,jV jd,.int .u32 je],.row cq cC 3 1 (hD KL.encI cc),.blk b7 28 [.slice cq cc.length cC,.slice none 0 0,.slice none 0 0,.slice none 0 0],.blk b3 28 B0] w_/\Sl U_ 1 eM fD d7.length (hD KL.encB8 d7)) Dw ?_ ?_ ?_
 have CU:=Cq.nilrow 3 1
 exact ⟨gJ,jH,mr,none,0,rfl,rfl,rfl,rfl,rfl,rfl,rfl,rfl,rfl,(zW _),(CU.pick [1,0,2,3] _ (by decide) rfl),y9⟩
 rintro dW ⟨d7,jd,je,cc⟩ GZ Ht lQ iP ⟨qX,eM,fD,cq,cC,ph,iu,xj,xk,xl,iv,xm,xn,pf,EK,C2,Ax⟩ qr
 try dsimp only at qr
 have mJ:Hid ((↑dW:Int) < f5):=zS (wBD iP)
 replace iP:=zS iP
 have DI:Hid (w64 ((↑dW:Int) + 1)=(↑(dW + 1):Int)):=zS (by have h1:=iV.out;have h2:=mJ.out;rw [wAU] <;> omega)
 refine sR fL1 rfl (zY rfl rfl rfl rfl (fun _=>zh rfl ph pf) (eN (zM (cT Z mJ (kN (zM (zc (ZA ZB [3,1004,3,1005,3,3,1005,3,2,0,3,0,ab] (wCa (.fl 5 (.fx 3 (.fl 4 (.fx 6 (.fl 7 (.fx 8 (.fx 9 (.fl 10 (.fx 11 .nil .stop)) .stop) .stop)) .stop)) .stop))) (by kernel_rfl) ?_))))))))
 have iF:=C2.drew
 generalize hw_W140:({ lQ with drawn:=lQ.drawn + 1 }:World)=q9 at iF ⊢
 refine oR Z (zJ Z iv zQ Z zq) ?_
 let B2:Res:=.blk b7 28 [.slice cq cc.length cC,.slice none 0 0,.slice none 0 0,.slice none 0 0]
 let B3:Res:=.row cq cC 3 1 (hD KL.encI cc)
 refine OKS.mt (T:=[ab]) [0] [1,2,3] [B3,B2,.blk b3 28 B0] rfl rfl rfl rfl iF rfl ⟨⟨0,by decide,_,rfl,rfl⟩,trivial⟩ (by decide) rfl (by decide) (fun _ Dc=>(Dc.ldB (j:=1) rfl rfl rfl zy (v:=.slice cq cc.length cC) rfl)) rfl (zr rfl rfl rfl rfl rfl iu (zr rfl rfl rfl rfl rfl iu ?_))
 have q:=bnd qr
 obtain ⟨⟨eh,f6⟩,xF,pR⟩:=q
 try dsimp only at pR
 refine yg 1 rfl rfl rfl rfl (zD rfl rfl yI (zB rfl (zB rfl zK)) rfl) iF (fun hs=>wAS (⟨d7,jd,je⟩:wAK) ab eM fD 4 q9 qX hs Ax xF) rfl (T:=[ab]) rfl ⟨fun b h=>(by cases h;exact .head _),trivial⟩ ?_
 rintro ln E9 Gx lD Ep A3 ⟨ju,mc,rfl,rfl,xG⟩
 have A6:SW w [B1] U ln [.blk ab 94 [.slice ju f6.bytes.length mc,jV f6.next,.int .u32 f6.state],B3,B2,.blk b3 28 B0] lD:=A3
 refine oR Z (Runs.mulw Z Z Z) ?_
 have q:=bnd pR
 obtain ⟨⟨ej,i4⟩,xH,pS⟩:=q
 try dsimp only at pS
 refine yg 1 rfl rfl rfl rfl (zD rfl rfl yI (zB rfl (zB rfl zK)) rfl) A6 (fun hs=>wAS f6 ab ju mc 3 lD ln hs xG xH) rfl (T:=[ab]) rfl ⟨fun b h=>(by cases h;exact .head _),trivial⟩ ?_
 rintro dm Fb Gy rn Er Bh ⟨jx,mf,rfl,rfl,xL⟩
 let B4:Res:=.blk ab 94 [.slice jx i4.bytes.length mf,jV i4.next,.int .u32 i4.state]
 have Bl:SW w [B1] U dm [B4,B3,B2,.blk b3 28 B0] rn:=Bh
 refine oR Z (zf Z Z Z) (ZE (pv:=[(0,jV (w64 ((w64 (300 * eh)) + ej)))]) (zs:=[jV 0]) (cs:=[jV (w64 ((w64 (300 * eh)) + ej))]) Z Z Z Z Z (wAF Z wAO) zH zC zw Z Z Z Z Z Bl ?_)
 intro rp sh Bo
 let B5:Res:=.row (some ⟨sh,0,none⟩) 1 3 1 (hD KL.encI [w64 ((w64 (300 * eh)) + ej)])
 have pF:SW w [B1] U dm [B5,B4,B3,B2,.blk b3 28 B0] rp:=Bo
 refine bnK pS fun f8 xQ DJ=>yP (j:=2) (enc:=KL.encI) (xs:=cc) (ys:=[w64 ((w64 (300 * eh)) + ej)]) (zs:=f8) rfl rfl rfl rfl rfl yr wIe rfl rfl rfl rfl rfl rfl pF rfl rfl rfl (pF.srcR (j:=0) rfl (by decide) (wAE (f:=KL.encI) (sz:=1) (fun _=>rfl) [w64 ((w64 (300 * eh)) + ej)])) (fun _=>rfl) (fun _=>rfl) xQ rfl ?_
 intro eG fw rv Br
 let B6:Res:=.row eG fw 3 1 (hD KL.encI f8)
 have Bs:SW w [B1] U dm [B5,B4,B6,B2,.blk b3 28 B0] rv:=Br
 refine oR Z (zJ Z iv zQ Z zq) (zV (j:=3) (vs:=[.slice eG f8.length fw]) Z Z Z Z Bs Z Z Z Z zq (zA Z) Z Z Z ?_)
 intro rx Bt
 have Bu:SW w [B1] U dm [B5,B4,B6,.blk b7 28 [.slice eG f8.length fw,.slice none 0 0,.slice none 0 0,.slice none 0 0],.blk b3 28 B0] rx:=Bt
 refine zg (ZH (zL (rR fL2 Z (oR Z (ZS (zf Z ph Z) (congrArg (jV) DI.out)) (oM Z Z (zg ?_))))))
 cases DJ
 exact zL ⟨rfl,⟨dm,jx,mf,eG,fw,rfl,iu,xj,xk,xl,iv,xm,xn,pf,((EK.trans Ep).trans Er),(Bu.pick [1,2,3,4] _ (by decide) rfl),xL⟩⟩
 rintro Hk rB ⟨qU,qM,sv,aP,aQ,xp,oW,wl,wm,wn,wo,wp,wq,wr,Gn,Cc,yz⟩
 have sw:Hid (¬ ((↑((f5:Int) - 0).toNat:Int) < f5)):=zS (wAh)
 refine sR fL1 Z (oR Z (zh Z xp wr) (eN (zM (cF Z sw (Zf (zx (zx (Zc (zL (zM (sR gBd Z (oM Z oW (oM Z wl ?_)))))))))))))
 have q:=bnd qc
 obtain ⟨⟨gb,i7⟩,y6,pZ⟩:=q
 try dsimp only at pZ
 refine zE 1 Z Z Z Z (zD Z Z yI (zB Z (zB Z zK)) Z) Cc (fun hs=>wAS (⟨E1,E2,E3⟩:wAK) ab qM sv p2 rB qU hs yz y6) (.inl Z) ?_
 rintro gR Fq GL rO Gp Co ⟨jJ,mu,rfl,rfl,z2⟩
 let B7:Res:=.row aP aQ 3 1 (hD KL.encI aw)
 have Cp:SW w [B1] U gR [.blk ab 94 [.slice jJ i7.bytes.length mu,jV i7.next,.int .u32 i7.state],B7,.blk b7 28 [.slice aP aw.length aQ,.slice none 0 0,.slice none 0 0,.slice none 0 0],.blk b3 28 B0] rO:=Co
 refine oM Z Z (eN (zc ?_))
 have q:=bnd pZ
 obtain ⟨⟨G1,G2,G3,ax⟩,Dp,p6⟩:=q
 try dsimp only at p6
 have q:=wBn Dp
 obtain ⟨iS,Dq⟩:=q
 replace iS:=zS iS
 refine CK.forN' (fun dV (dX,i8,i9,cb) σ_ w_=>∃ (U_:PHeap) (eJ:Option Addr) (fA:Nat) (cp:Option Addr) (cB:Nat),σ_ 45=jV (↑dV:Int)/\σ_ 0=.pointer (some ⟨ab,0,none⟩)/\σ_ 3=jV p3/\σ_ 8=.pointer (some ⟨b3,0,none⟩)/\σ_ 11=.pointer (some ⟨b7,0,none⟩)/\σ_ 12=.slice none 0 0/\σ_ 13=.slice none 0 0/\σ_ 44=jV gb/\PHeap.Le gR U_/\SW w [B1] U U_ [.blk ab 94 [.slice eJ dX.length fA,jV i8,.int .u32 i9],B7,.row cp cB 41 2 (hD wAG cb),.blk b7 28 [.slice aP aw.length aQ,.slice cp cb.length cB,.slice none 0 0,.slice none 0 0],.blk b3 28 B0] w_/\Sl U_ 1 eJ fA dX.length (hD KL.encB8 dX)) Dq ?_ ?_ ?_
 have Cr:=Cp.nilrow 41 2
 exact ⟨gR,jJ,mu,none,0,rfl,oW,wm,wn,wo,wp,wq,rfl,(zW _),(Cr.pick [1,2,0,3,4] _ (by decide) rfl),z2⟩
 rintro dV ⟨dX,i8,i9,cb⟩ GW Hn rP iM ⟨qV,eJ,fA,cp,cB,pg,ir,ww,wx,it,wy,wz,oZ,ED,Cs,z3⟩ qo
 try dsimp only at qo
 have mw:Hid ((↑dV:Int) < gb):=zS (wBD iM)
 replace iM:=zS iM
 have DE:Hid (w64 ((↑dV:Int) + 1)=(↑(dV + 1):Int)):=zS (by have h1:=iS.out;have h2:=mw.out;rw [wAU] <;> omega)
 refine sR fL1 Z (oR Z (zh Z pg oZ) (eN (zM (cT Z mw (kN (zM (zc (sR (.fl 0 gAq) Z (oM Z ir ?_)))))))))
 have q:=bnd qo
 obtain ⟨⟨bq,ge⟩,z4,p7⟩:=q
 try dsimp only at p7
 refine zE 1 Z Z Z Z (zD Z Z Try.call31 (zB Z (zB Z (zB Z zK))) Z) Cs (fun hs=>wAg (⟨dX,i8,i9⟩:wAK) ab eJ fA 3 9 rP qV hs z3 z4) (.inl Z) ?_
 rintro lx Fr GM gW EE Ct ⟨jK,mx,rfl,rfl,z5⟩
 let B8:Res:=.blk b7 28 [.slice aP aw.length aQ,.slice cp cb.length cB,.slice none 0 0,.slice none 0 0]
 let B9:Res:=.row cp cB 41 2 (hD wAG cb)
 have Cu:SW w [B1] U lx [.blk ab 94 [.slice jK ge.bytes.length mx,jV ge.next,.int .u32 ge.state],B7,B9,B8,.blk b3 28 B0] gW:=Ct
 refine zY rfl rfl rfl rfl (fun _=>Runs.mulw rfl rfl rfl) (yD rfl rfl rfl rfl rfl rfl (eN (ZA ZB [3,1004,3,3,3,1005,3,3,3,2,0,3,0,ab] (wGL (.fx 5 (wLC (.fx 9 (.fx 10 (.fl 11 (.fx 12 .nil .stop)) .stop) .stop)) .stop)) (by kernel_rfl) ?_)))
 have iG:=Cu.drew
 generalize hw_W351:({ gW with drawn:=gW.drawn + 1 }:World)=rQ at iG ⊢
 refine zY rfl rfl rfl rfl (fun _=>zJ rfl it zQ rfl yE) (OKS.mt (T:=[ab]) [0] [1,2,3,4] [B7,B9,B8,.blk b3 28 B0] rfl rfl rfl rfl iG rfl ⟨⟨0,by decide,_,rfl,rfl⟩,trivial⟩ (by decide) rfl (by decide) (fun _ Dl=>(Dl.ldB (j:=2) rfl rfl rfl yS (v:=.slice cp cb.length cB) rfl)) rfl (zr rfl rfl rfl rfl rfl rfl (zr rfl rfl rfl rfl rfl rfl (zr rfl rfl rfl rfl rfl ir ?_))))
 have q:=bnd p7
 obtain ⟨⟨eo,ja⟩,z6,p8⟩:=q
 try dsimp only at p8
 refine yg 1 rfl rfl rfl rfl (zD rfl rfl yI (zB rfl (zB rfl zK)) rfl) iG (fun hs=>wAS ge ab jK mx 30 rQ lx hs z5 z6) rfl (T:=[ab]) rfl ⟨fun b h=>(by cases h;exact .head _),trivial⟩ ?_
 rintro dn Fs GN rS EF Cv ⟨jL,my,rfl,rfl,z7⟩
 let eQ:Res:=.blk ab 94 [.slice jL ja.bytes.length my,jV ja.next,.int .u32 ja.state]
 have Cw:SW w [B1] U dn [eQ,B7,B9,B8,.blk b3 28 B0] rS:=Cv
 refine oR Z (Runs.mulw Z Z Z) (oR Z (zf Z Z Z) ?_)
 let gz:List Value:=[jV (w64 (100 * bq)),jV (w64 ((w64 (100 * bq)) + (w64 (10 * eo))))]
 refine oR Z (zo (pv:=[(0,jV (w64 (100 * bq))),(1,jV (w64 ((w64 (100 * bq)) + (w64 (10 * eo)))))]) (z:=[jV 0,jV 0]) (cs:=gz) Z (wAF Z (wAF Z wAO)) ZJ wBo Z Z) (ZE (pv:=[(0,.agg gz.toArray)]) (zs:=[jV 0,jV 0]) (cs:=gz) Z Z Z Z Z (wAF Z wAO) ZQ zj ZJ Z Z Z Z Z Cw ?_)
 intro rT sm Cx
 let gA:Res:=.row (some ⟨sm,0,none⟩) 1 41 2 (hD wAG [(⟨w64 (100 * bq),w64 ((w64 (100 * bq)) + (w64 (10 * eo)))⟩:wAJ)])
 have pL:SW w [B1] U dn [gA,eQ,B7,B9,B8,.blk b3 28 B0] rT:=Cx
 refine bnK p8 fun gf z8 DT=>yP (j:=3) (enc:=wAG) (xs:=cb) (ys:=[(⟨w64 (100 * bq),w64 ((w64 (100 * bq)) + (w64 (10 * eo)))⟩:wAJ)]) (zs:=gf) rfl rfl rfl rfl rfl Try.underlying24 wLO rfl rfl rfl rfl rfl rfl pL rfl rfl rfl (pL.srcR (j:=0) rfl (by decide) (wAE (f:=wAG) (sz:=2) (fun _=>rfl) [(⟨w64 (100 * bq),w64 ((w64 (100 * bq)) + (w64 (10 * eo)))⟩:wAJ)])) (fun _=>rfl) (fun _=>rfl) z8 rfl ?_
 intro eK fB rV Cy
 let jU:Res:=.row eK fB 41 2 (hD wAG gf)
 have Cz:SW w [B1] U dn [gA,eQ,B7,jU,B8,.blk b3 28 B0] rV:=Cy
 refine oR Z (zJ Z it zQ Z yE) (zV (j:=4) (vs:=[.slice eK gf.length fB]) Z Z Z Z Cz Z Z Z Z yE (zA Z) Z Z Z ?_)
 intro rW CA
 have CB:SW w [B1] U dn [gA,eQ,B7,jU,.blk b7 28 [.slice aP aw.length aQ,.slice eK gf.length fB,.slice none 0 0,.slice none 0 0],.blk b3 28 B0] rW:=CA
 refine zg (ZH (zL (rR fL2 Z (oR Z (ZS (zf Z pg Z) (congrArg (jV) DE.out)) (oM Z Z (zg ?_))))))
 cases DT
 exact zL ⟨rfl,⟨dn,jL,my,eK,fB,rfl,ir,ww,wx,it,wy,wz,oZ,((ED.trans EE).trans EF),(CB.pick [1,2,3,4,5] _ (by decide) rfl),z7⟩⟩
 rintro Ho FP ⟨ly,qN,sB,aV,aW,xr,wA,wB,wC,o3,wD,wE,wG,Gq,pM,z9⟩
 have sC:Hid (¬ ((↑((gb:Int) - 0).toNat:Int) < gb)):=zS (wAh)
 refine sR fL1 Z (oR Z (zh Z xr wG) (eN (zM (cF Z sC (Zf (zx (zx (Zc (zL (zM (sR fL4 Z (oR Z (zJ Z o3 zQ Z zq) (oL Z (pM.ldB (j:=3) Z Z Z zy (v:=.slice aP aw.length aQ) Z) (oR Z (zz Z Z zH) (oM Z Z (eN (zc ?_)))))))))))))))))
 have q:=bnd p6
 obtain ⟨⟨EV,EW,EX,a5⟩,Dr,p9⟩:=q
 try dsimp only at p9
 have q:=wBn Dr
 obtain ⟨iT,Ds⟩:=q
 replace iT:=zS iT
 let be:Res:=.blk b7 28 [.slice aP aw.length aQ,.slice aV ax.length aW,.slice none 0 0,.slice none 0 0]
 refine CK.forN' (fun bB (dY,jb,jc,dZ) σ_ w_=>∃ (U_:PHeap) (de:Option Addr) (dM:Nat) (df:Option Addr) (dN:Nat) (fH:List Value),σ_ 66=jV (↑bB:Int)/\σ_ 0=.pointer (some ⟨ab,0,none⟩)/\σ_ 3=jV p3/\σ_ 8=.pointer (some ⟨b3,0,none⟩)/\σ_ 11=.pointer (some ⟨b7,0,none⟩)/\σ_ 12=.slice df dZ.length dN/\σ_ 13=.slice none 0 0/\σ_ 64=.slice aP aw.length aQ/\σ_ 65=jV (↑aw.length:Int)/\PHeap.Le ly U_/\SW w [B1] U U_ [.blk ab 94 [.slice de dY.length dM,jV jb,.int .u32 jc],.row aP aQ 3 1 (hD KL.encI aw),.row aV aW 41 2 (hD wAG ax),be,.blk b3 28 B0,.row df dN 23 1 fH] w_/\Sl U_ 1 de dM dY.length (hD KL.encB8 dY)/\RlL U_ wHb dZ fH) Ds ?_ ?_ ?_
 have CD:=pM.nilrow 23 1
 exact ⟨ly,qN,sB,none,0,[],rfl,wA,wB,wC,o3,wD,wE,rfl,rfl,(zW _),(CD.pick [1,2,3,4,5,0] _ (by decide) rfl),z9,RlL.nil⟩
 rintro bB ⟨dY,jb,jc,dZ⟩ GX Hp FQ iN ⟨gS,de,dM,df,dN,fH,iw,wH,wI,wJ,o5,wK,wL,o6,o7,EG,iH,Aa,Ab⟩ qp
 try dsimp only at qp
 have mz:Hid ((↑bB:Int) < (↑aw.length:Int)):=zS (wBD iN)
 replace iN:=zS iN
 have DF:Hid (w64 ((↑bB:Int) + 1)=(↑(bB + 1):Int)):=zS (by have h1:=iT.out;have h2:=mz.out;rw [wAU] <;> omega)
 refine sR fL1 Z (oR Z (zh Z iw o7) (eN (zM (cT Z mz (kN (zM (zc (sR fL3 Z (bnK qp fun _ iB DU=>?_)))))))))
 obtain ⟨FZ,py⟩:=iH.rowSome (j:=1) rfl (by rw [wAE (f:=KL.encI) (sz:=1) (fun _=>rfl) aw];have hz:=wAa iB;omega)
 refine oR Z (Zi Z o6 py iw zH zC (wAa iB)) ?_
 have DC:=wBy (xs:=aw) (wAa iB)
 refine zl rfl rfl rfl rfl (iH.ldR (j:=1) rfl py rfl rfl zG (wAj (sz:=1) (fun _=>rfl) _ _ 0 _ DC (by first | omega | rfl | simp) rfl)) rfl (yD rfl rfl rfl rfl rfl rfl (eN (sR gAr rfl (zr rfl rfl rfl rfl rfl rfl (ZE (pv:=[(0,jV (gd aw bB))]) (zs:=[jV 0]) (cs:=[jV (gd aw bB)]) rfl rfl rfl rfl rfl (wAF rfl wAO) zH zC zw rfl rfl rfl rfl rfl iH ?_)))))
 intro rX lY CE
 let bm:Res:=.row aV aW 41 2 (hD wAG ax)
 let bs:Res:=.row df dN 23 1 fH
 have pN:SW w [B1] U gS [.row (some ⟨lY,0,none⟩) 1 3 1 (hD KL.encI [(gd aw bB)]),.blk ab 94 [.slice de dY.length dM,jV jb,.int .u32 jc],B7,bm,be,.blk b3 28 B0,bs] rX:=CE
 refine oA Z Z (eN (zM (sR fL4 Z (oR Z (zJ Z o5 zQ Z yE) (oL Z (pN.ldB (j:=4) Z Z Z yS (v:=.slice aV ax.length aW) Z) (oR Z (zz Z Z ZQ) (oM Z Z (eN (zc ?_)))))))))
 have q:=bnd DU
 obtain ⟨⟨EY,EZ,E0,G4,ci⟩,Dt,qa⟩:=q
 try dsimp only at qa
 have q:=wBn Dt
 obtain ⟨iU,Du⟩:=q
 replace iU:=zS iU
 refine CK.forN' (fun bj (cK,gg,gh,cf,d9) σ_ w_=>∃ (U_:PHeap) (dg:Option Addr) (dO:Nat) (eL:Option Addr) (fC:Nat),σ_ 75=jV (↑bj:Int)/\σ_ 0=.pointer (some ⟨ab,0,none⟩)/\σ_ 3=jV p3/\σ_ 8=.pointer (some ⟨b3,0,none⟩)/\σ_ 11=.pointer (some ⟨b7,0,none⟩)/\σ_ 12=.slice df dZ.length dN/\σ_ 13=.slice none 0 0/\σ_ 16=jV cf/\σ_ 17=.slice eL d9.length fC/\σ_ 64=.slice aP aw.length aQ/\σ_ 65=jV (↑aw.length:Int)/\σ_ 66=jV (↑bB:Int)/\σ_ 73=.slice aV ax.length aW/\σ_ 74=jV (↑ax.length:Int)/\PHeap.Le gS U_/\SW w [B1] U U_ [.blk ab 94 [.slice dg cK.length dO,jV gg,.int .u32 gh],B7,bm,be,.blk b3 28 B0,bs,.row eL fC 3 1 (hD KL.encI d9)] w_/\Sl U_ 1 dg dO cK.length (hD KL.encB8 cK)) Du ?_ ?_ ?_
 exact ⟨gS,de,dM,(some ⟨lY,0,none⟩),1,rfl,wH,wI,wJ,o5,wK,wL,rfl,rfl,o6,o7,iw,rfl,rfl,(zW _),(pN.pick [1,2,3,4,5,6,0] _ (by decide) rfl),Aa⟩
 rintro bj ⟨cK,gg,gh,cf,d9⟩ GY Hq FR iO ⟨gT,dg,dO,eL,fC,iy,o8,wM,wN,wO,wP,wQ,wR,wS,wU,wV,wW,o9,pd,EH,iI,Ac⟩ qq
 try dsimp only at qq
 have mA:Hid ((↑bj:Int) < (↑ax.length:Int)):=zS (wBD iO)
 replace iO:=zS iO
 have DG:Hid (w64 ((↑bj:Int) + 1)=(↑(bj + 1):Int)):=zS (by have h1:=iU.out;have h2:=mA.out;rw [wAU] <;> omega)
 refine sR fL1 Z (oR Z (zh Z iy pd) (eN (zM (cT Z mA (kN (zM (zc (sR gBe Z (bnK qq fun _ iC DV=>?_)))))))))
 obtain ⟨F1,pz⟩:=iI.rowSome (j:=2) rfl (by rw [wAE (f:=wAG) (sz:=2) (fun _=>rfl) ax];have hz:=wAa iC;omega)
 refine oR Z (Zi Z o9 pz iy ZQ zj (wAa iC)) ?_
 have DD:=wBy (xs:=ax) (wAa iC)
 let bR:List Value:=[jV ((gd ax bj).Lo),jV ((gd ax bj).Hi)]
 refine zl rfl rfl rfl rfl (iI.ldRA (j:=2) rfl pz rfl rfl Zn zj (vs:=bR) (wEh (sz:=2) (fun _=>rfl) _ _ _ DD (by first | omega | rfl | simp) rfl) rfl) rfl (zT (cs:=[jV 0,jV 0]) rfl rfl rfl rfl rfl ZJ rfl iI ?_)
 intro FS dt CF
 refine zV (j:=0) (vs:=bR) Z Z Z Z CF Z Z Z Z zj (zA Z) Z Z Z ?_
 intro gX CG
 let eU:Res:=.row eL fC 3 1 (hD KL.encI d9)
 let jW:Res:=.blk ab 94 [.slice dg cK.length dO,jV gg,.int .u32 gh]
 have iJ:SW w [B1] U gT [.blk dt 41 bR,jW,B7,bm,be,.blk b3 28 B0,bs,eU] gX:=CG
 refine eN (sR (wFr gAp) Z (oM Z wR (oM Z o8 (oR Z (zJ Z Z ZK Z zC) (oL Z (iJ.ldB (j:=0) Z Z Z zG (v:=jV ((gd ax bj).Lo)) Z) (oR Z (zJ Z Z ZK Z zC) (oL Z (iJ.ldB (j:=0) Z Z Z zG (v:=jV ((gd ax bj).Hi)) Z) ?_)))))))
 have q:=bnd DV
 obtain ⟨⟨ep,jf⟩,Ad,qb⟩:=q
 try dsimp only at qb
 have CH:SW w [B1] U gT [jW,.blk dt 41 bR,B7,bm,be,.blk b3 28 B0,bs,eU] gX:=iJ.pick [1,0,2,3,4,5,6,7] _ (by decide) rfl
 refine zE 1 Z Z Z Z (zD Z Z Try.call31 (zB Z (zB Z (zB Z zK))) Z) CH (fun hs=>wAg (⟨cK,gg,gh⟩:wAK) ab dg dO ((gd ax bj).Lo) ((gd ax bj).Hi) gX gT hs Ac Ad) (.inl Z) ?_
 rintro ff Fu GO rY EI CI ⟨jM,mB,rfl,rfl,Ae⟩
 let gB:Res:=.blk ab 94 [.slice jM jf.bytes.length mB,jV jf.next,.int .u32 jf.state]
 have CJ:SW w [B1] U ff [gB,.blk dt 41 bR,B7,bm,be,.blk b3 28 B0,bs,eU] rY:=CI
 refine oR Z (zf Z Z Z) (oA Z Z (eN (rR gBl Z (oM Z wS (oM Z Z (ZE (pv:=[(0,jV (w64 (cf + ep)))]) (zs:=[jV 0]) (cs:=[jV (w64 (cf + ep))]) Z Z Z Z Z (wAF Z wAO) zH zC zw Z Z Z Z Z CJ ?_))))))
 intro rZ sn CL
 let jX:Res:=.row (some ⟨sn,0,none⟩) 1 3 1 (hD KL.encI [w64 (cf + ep)])
 have pO:SW w [B1] U ff [jX,gB,.blk dt 41 bR,B7,bm,be,.blk b3 28 B0,bs,eU] rZ:=CL
 refine bnK qb fun qJ Af DW=>yP (j:=8) (enc:=KL.encI) (xs:=d9) (ys:=[w64 (cf + ep)]) (zs:=qJ) rfl rfl rfl rfl rfl yr wIe rfl rfl rfl rfl rfl rfl pO rfl rfl rfl (pO.srcR (j:=0) rfl (by decide) (wAE (f:=KL.encI) (sz:=1) (fun _=>rfl) [w64 (cf + ep)])) (fun _=>rfl) (fun _=>rfl) Af rfl ?_
 intro jN mC r6 CM
 have CN:SW w [B1] U ff [jX,gB,.blk dt 41 bR,B7,bm,be,.blk b3 28 B0,bs,.row jN mC 3 1 (hD KL.encI qJ)] r6:=CM
 refine oA Z Z (zg (ZH (zL (rR fL2 Z (oR Z (ZS (zf Z iy Z) (congrArg (jV) DG.out)) (oM Z Z (zg ?_)))))))
 cases DW
 exact zL ⟨rfl,⟨ff,jM,mB,jN,mC,rfl,o8,wM,wN,wO,wP,wQ,rfl,rfl,wU,wV,wW,o9,pd,(EH.trans EI),(CN.pick [1,3,4,5,6,7,8] _ (by decide) rfl),Ae⟩⟩
 rintro Hr r7 ⟨FA,jO,mD,gx,ie,xt,wX,wY,wZ,w5,w6,w7,Gj,w8,w9,xa,xb,Gk,xc,qC,CO,Ag⟩
 have sD:Hid (¬ ((↑(((↑ax.length:Int):Int) - 0).toNat:Int) < (↑ax.length:Int))):=zS (wAh)
 refine sR fL1 Z (oR Z (zh Z xt xc) (eN (zM (cF Z sD (Zf (zx (zx (Zc (zL (rR gBl Z (oM Z w6 (oM Z w8 ?_))))))))))))
 have q:=CO.freezeR (k:=6) (n:=ci.length) rfl (wAE (f:=KL.encI) (sz:=1) (fun _=>rfl) ci) (by decide)
 obtain ⟨dp,iZ,D6,CQ⟩:=q
 let gC:Res:=.blk ab 94 [.slice jO EY.length mD,jV EZ,.int .u32 E0]
 have CR:SW w [B1] U dp [gC,B7,bm,be,.blk b3 28 B0,bs] r7:=CQ
 let eV:List Value:=[.slice gx ci.length ie]
 refine ZE (pv:=[(0,.slice gx ci.length ie)]) (zs:=[.slice none 0 0]) (cs:=eV) Z Z Z Z Z (wAF Z wAO) Zg zq Try.zeroValue23 Z Z Z Z Z CR ?_
 intro r8 sq CP
 have qk:RlL dp wHb [ci] eV:=(RlL.cons (R:=wHb) (x:=ci) (vs:=eV) ⟨gx,ie,rfl,D6⟩ RlL.nil)
 let jY:Res:=.row (some ⟨sq,0,none⟩) 1 23 1 eV
 have pP:SW w [B1] U dp [jY,gC,B7,bm,be,.blk b3 28 B0,bs] r8:=CP
 refine bnK qa fun ER Ah DX=>?_
 have Ai:=Ab.le qC
 have Aj:=Ai.le iZ
 refine OKS.appendR (R:=wHb) (j:=6) (xs:=dZ) (ys:=[ci]) (zs:=ER) rfl rfl rfl rfl rfl Try.underlying29 wLN rfl rfl rfl rfl rfl rfl rfl pP rfl rfl rfl Aj qk (pP.srcR (j:=0) rfl (by decide) (RlL.len qk)) Ah rfl ?_
 intro jP mE mL r9 CS D5
 have CT:SW w [B1] U dp [jY,gC,B7,bm,be,.blk b3 28 B0,.row jP mE 23 1 mL] r9:=CS
 refine oA Z Z (zg (ZH (zL (rR fL2 Z (oR Z (ZS (zf Z xb Z) (congrArg (jV) DF.out)) (oM Z Z (zg ?_)))))))
 cases DX
 have Ak:=Ag.le iZ
 exact zL ⟨rfl,⟨dp,jO,mD,jP,mE,mL,rfl,wX,wY,wZ,w5,rfl,w7,w9,xa,((EG.trans qC).trans iZ),(CT.pick [1,2,3,4,5,6] _ (by decide) rfl),Ak,D5⟩⟩
 rintro Hs sc ⟨qW,qO,sE,aT,aU,sF,xu,pe,xd,xe,xf,xg,xh,Gl,xi,Gr,CV,Al,Am⟩
 have sG:Hid (¬ ((↑(((↑aw.length:Int):Int) - 0).toNat:Int) < (↑aw.length:Int))):=zS (wAh)
 refine sR fL1 Z (oR Z (zh Z xu xi) (eN (zM (cF Z sG (Zf (zx (zx (Zc (zL (zM (sR gAr Z (oM Z pe ?_))))))))))))
 have q:=bnd p9
 obtain ⟨⟨a7,jg⟩,An,qd⟩:=q
 try dsimp only at qd
 refine zE 1 Z Z Z Z (zD Z Z Try.call31 (zB Z (zB Z (zB Z zK))) Z) CV (fun hs=>wAg (⟨EV,EW,EX⟩:wAK) ab qO sE 1 3 sc qW hs Al An) (.inl Z) ?_
 rintro gU Fv GP sd EJ CW ⟨jQ,mF,rfl,rfl,Ao⟩
 let ai:Res:=.row aV aW 41 2 (hD wAG ax)
 let ap:Res:=.row aT aU 23 1 sF
 have CX:SW w [B1] U gU [.blk ab 94 [.slice jQ jg.bytes.length mF,jV jg.next,.int .u32 jg.state],B7,ai,be,.blk b3 28 B0,ap] sd:=CW
 refine oM Z Z (eN (zc ?_))
 have q:=bnd qd
 obtain ⟨⟨E4,E5,E6,a6,ba⟩,Dx,qe⟩:=q
 try dsimp only at qe
 have q:=wBn Dx
 obtain ⟨iW,Dy⟩:=q
 replace iW:=zS iW
 refine CK.forN' (fun aX (ec,jh,ji,a9,aM) σ_ w_=>∃ (U_:PHeap) (eO:Option Addr) (fG:Nat) (bk:Option Addr) (bn:Nat) (aN:Option Addr) (aO:Nat),σ_ 99=jV (↑aX:Int)/\σ_ 0=.pointer (some ⟨ab,0,none⟩)/\σ_ 3=jV p3/\σ_ 8=.pointer (some ⟨b3,0,none⟩)/\σ_ 11=.pointer (some ⟨b7,0,none⟩)/\σ_ 12=.slice aT a5.length aU/\σ_ 13=.slice aN aM.length aO/\σ_ 98=jV a7/\PHeap.Le gU U_/\SW w [B1] U U_ [.blk ab 94 [.slice eO ec.length fG,jV jh,.int .u32 ji],B7,ai,.row bk bn 43 3 (hD wAA a9),.blk b7 28 [.slice aP aw.length aQ,.slice aV ax.length aW,.slice bk a9.length bn,.slice none 0 0],.blk b3 28 B0,ap,.row aN aO 3 1 (hD KL.encI aM)] w_/\Sl U_ 1 eO fG ec.length (hD KL.encB8 ec)) Dy ?_ ?_ ?_
 have CZ:=CX.nilrow 43 3
 have C0:=CZ.nilrow 3 1
 exact ⟨gU,jQ,mF,none,0,none,0,rfl,pe,xd,xe,xf,xg,xh,rfl,(zW _),(C0.pick [2,3,4,1,5,6,7,0] _ (by decide) rfl),Ao⟩
 rintro aX ⟨ec,jh,ji,a9,aM⟩ G0 Hu sf iQ ⟨qY,eO,fG,bk,bn,aN,aO,bz,bg,bI,bJ,bo,bK,bw,bx,EL,C1,Ap⟩ qs
 try dsimp only at qs
 have mG:Hid ((↑aX:Int) < a7):=zS (wBD iQ)
 replace iQ:=zS iQ
 have DH:Hid (w64 ((↑aX:Int) + 1)=(↑(aX + 1):Int)):=zS (by have h1:=iW.out;have h2:=mG.out;rw [wAU] <;> omega)
 refine sR fL1 Z (oR Z (zh Z bz bx) (eN (zM (cT Z mG (kN (zM (zc (sR gAr Z (oM Z bg ?_)))))))))
 have q:=bnd qs
 obtain ⟨⟨aa,gi⟩,Aq,qf⟩:=q
 try dsimp only at qf
 refine zE 1 Z Z Z Z (zD Z Z Try.call31 (zB Z (zB Z (zB Z zK))) Z) C1 (fun hs=>wAg (⟨ec,jh,ji⟩:wAK) ab eO fG (-60) 20 sf qY hs Ap Aq) (.inl Z) ?_
 rintro lz Fw GQ lR EM C3 ⟨jR,mH,rfl,rfl,Ar⟩
 let ay:Res:=.blk b7 28 [.slice aP aw.length aQ,.slice aV ax.length aW,.slice bk a9.length bn,.slice none 0 0]
 let aK:Res:=.row aN aO 3 1 (hD KL.encI aM)
 let bf:Res:=.row bk bn 43 3 (hD wAA a9)
 have C4:SW w [B1] U lz [.blk ab 94 [.slice jR gi.bytes.length mH,jV gi.next,.int .u32 gi.state],B7,ai,bf,ay,.blk b3 28 B0,ap,aK] lR:=C3
 refine oA Z Z (eN (sR (wCa (.fx 3 (wMF (.fx 7 (.fl 8 (.fx 9 (.fx 10 .nil .stop) .stop)) .stop)) .stop)) Z (oM Z Z (oM Z Z (oM Z bg ?_)))))
 have q:=bnd qf
 obtain ⟨⟨aj,gj⟩,As,qh⟩:=q
 try dsimp only at qh
 refine zE 1 Z Z Z Z (zD Z Z yI (zB Z (zB Z zK)) Z) C4 (fun hs=>wAS gi ab jR mH 50 lR lz hs Ar As) (.inl Z) ?_
 rintro lA Fx GR lS EN C5 ⟨jS,mI,rfl,rfl,Au⟩
 have C6:SW w [B1] U lA [.blk ab 94 [.slice jS gj.bytes.length mI,jV gj.next,.int .u32 gj.state],B7,ai,bf,ay,.blk b3 28 B0,ap,aK] lS:=C5
 refine oR Z (zf Z Z Z) ?_
 let jZ:List Value:=[jV aa,jV (w64 (aa + aj))]
 refine oR Z (zo (pv:=[(0,jV aa),(1,jV (w64 (aa + aj)))]) (z:=[jV 0,jV 0]) (cs:=jZ) Z (wAF Z (wAF Z wAO)) ZJ wBo Z Z) (oM Z bg ?_)
 have q:=bnd qh
 obtain ⟨⟨an,er⟩,Av,qi⟩:=q
 try dsimp only at qi
 refine zE 1 Z Z Z Z (zD Z Z yI (zB Z (zB Z zK)) Z) C6 (fun hs=>wAS gj ab jS mI 6 lS lA hs Au Av) (.inl Z) ?_
 rintro aL Fz GS sg EO C7 ⟨gy,ig,rfl,rfl,pp⟩
 let aR:Res:=.blk ab 94 [.slice gy er.bytes.length ig,jV er.next,.int .u32 er.state]
 have C8:SW w [B1] U aL [aR,B7,ai,bf,ay,.blk b3 28 B0,ap,aK] sg:=C7
 let am:List Value:=[jV aa,jV (w64 (aa + aj)),jV an]
 let cr:List Value:=[jV 0,jV 0,jV 0]
 refine oR Z (zo (pv:=[(0,.agg jZ.toArray),(1,jV an)]) (z:=cr) (cs:=am) Z (wAF Z (wAF Z wAO)) yd wJH Z Z) (zT (cs:=cr) Z Z Z Z Z yd Z C8 ?_)
 intro FT af C9
 refine zV (j:=0) (vs:=am) Z Z Z Z C9 Z Z Z Z Zw (zA Z) Z Z Z ?_
 intro gY Da
 have Db:SW w [B1] U aL [.blk af 43 am,aR,B7,ai,bf,ay,.blk b3 28 B0,ap,aK] gY:=Da
 refine eN (bnK qi fun av fP DY=>?_)
 have q:=bnd DY
 obtain ⟨⟨aZ,ao⟩,pq,qj⟩:=q
 try dsimp only at qj
 refine bnK qj fun cg Aw DZ=>ZA ZB [3,1,1,2,0,3,3,3,3,2,3,3,2,0,2,0,3,0,3] (wCa (wHI (.fl 10 (.fl 11 (.fx 3 (.fx 4 (.fl 16 (.fx 9 gBq (.fx 12 gBr .stop))) (.fx 9 gBu (.fx 12 gBv .stop))) (.fx 9 (.fx 3 gBu (.fx 12 gBt .stop)) (.fx 12 (.fx 3 gBv (.fx 9 gBt .stop)) .stop))))))) (by kernel_rfl) ?_
 have bh:=Db.drew
 generalize hw_W923:({ gY with drawn:=gY.drawn + 1 }:World)=FU at bh ⊢
 refine ZP (s:=.fl 18 .nil) (M:=fun σ_ w_=>∃ (U_:PHeap) (eu:Option Addr) (fh:Nat) (cN:Option Addr) (du:Nat) (gp:Option Addr) (gZ:Nat) (gq:Option Addr) (g6:Nat) (ew:Option Addr) (fj:Nat),σ_ 0=.pointer (some ⟨ab,0,none⟩)/\σ_ 3=jV p3/\σ_ 8=.pointer (some ⟨b3,0,none⟩)/\σ_ 11=.pointer (some ⟨b7,0,none⟩)/\σ_ 12=.slice aT a5.length aU/\σ_ 21=.pointer (some ⟨af,0,none⟩)/\σ_ 98=jV a7/\σ_ 99=jV (↑aX:Int)/\σ_ 112=.pointer (some ⟨b7,2,none⟩)/\σ_ 114=.agg am.toArray/\σ_ 115=.slice gp ([(⟨(⟨aa,w64 (aa + aj)⟩:wAJ),an⟩:wAM)].length) gZ/\σ_ 116=.slice cN av.length du/\σ_ 118=.pointer (some ⟨ab,0,none⟩)/\σ_ 119=.pointer (some ⟨af,0,none⟩)/\σ_ 120=.pointer (some ⟨af,0,none⟩)/\σ_ 121=jV aa/\σ_ 122=.pointer (some ⟨af,0,none⟩)/\σ_ 123=.pointer (some ⟨af,1,none⟩)/\σ_ 124=jV (w64 (aa + aj))/\σ_ 125=jV aZ/\σ_ 126=.slice gq ([aZ].length) g6/\σ_ 127=.slice ew cg.length fj/\σ_ 128=.pointer (some ⟨b7,2,none⟩)/\PHeap.Le aL U_/\SW w [B1] U U_ [.blk ab 94 [.slice eu ao.bytes.length fh,jV ao.next,.int .u32 ao.state],.blk af 43 am,B7,ai,.row cN du 43 3 (hD wAA av),.blk b7 28 [.slice aP aw.length aQ,.slice aV ax.length aW,.slice cN av.length du,.slice none 0 0],.blk b3 28 B0,ap,.row gp gZ 43 3 (hD wAA [(⟨(⟨aa,w64 (aa + aj)⟩:wAJ),an⟩:wAM)]),.row gq g6 3 1 (hD KL.encI [aZ]),.row ew fj 3 1 (hD KL.encI cg)] w_/\Sl U_ 1 eu fh ao.bytes.length (hD KL.encB8 ao.bytes)) ?_ fun D8=>?_
 rintro G5 FB ⟨qP,eu,fh,cN,du,gp,gZ,gq,g6,ew,fj,sH,sI,sJ,sK,sL,F2,sM,sN,F3,F4,F5,F6,F7,F8,F9,Ga,Gb,Gc,Gd,Ge,Gf,sO,Gg,Ef,AE,xv⟩
 refine oA Z sO (zg (ZH (zL (rR fL2 Z (oR Z (ZS (zf Z sN Z) (congrArg (jV) DH.out)) (oM Z Z (zg ?_)))))))
 cases DZ
 exact zL ⟨rfl,⟨qP,eu,fh,cN,du,ew,fj,rfl,sH,sI,sJ,sK,sL,rfl,sM,((((EL.trans EM).trans EN).trans EO).trans Ef),(AE.pick [0,2,3,4,5,6,7,10] _ (by decide) rfl),xv⟩⟩
 refine ZP (s:=gAj) (M:=fun σ_ w_=>∃ (U_:PHeap) (cO:Option Addr) (dv:Nat) (cP:Option Addr) (dw:Nat) (bQ:Option Addr) (bU:Nat) (cQ:Option Addr) (dx:Nat) (cR:Option Addr) (dz:Nat),σ_ 0=.pointer (some ⟨ab,0,none⟩)/\σ_ 3=jV p3/\σ_ 8=.pointer (some ⟨b3,0,none⟩)/\σ_ 11=.pointer (some ⟨b7,0,none⟩)/\σ_ 12=.slice aT a5.length aU/\σ_ 21=.pointer (some ⟨af,0,none⟩)/\σ_ 98=jV a7/\σ_ 99=jV (↑aX:Int)/\σ_ 112=.pointer (some ⟨b7,2,none⟩)/\σ_ 114=.agg am.toArray/\σ_ 115=.slice cP ([(⟨(⟨aa,w64 (aa + aj)⟩:wAJ),an⟩:wAM)].length) dw/\σ_ 116=.slice bQ av.length bU/\σ_ 118=.pointer (some ⟨ab,0,none⟩)/\σ_ 119=.pointer (some ⟨af,0,none⟩)/\σ_ 120=.pointer (some ⟨af,0,none⟩)/\σ_ 121=jV aa/\σ_ 122=.pointer (some ⟨af,0,none⟩)/\σ_ 123=.pointer (some ⟨af,1,none⟩)/\σ_ 124=jV (w64 (aa + aj))/\σ_ 125=jV aZ/\σ_ 126=.slice cQ ([aZ].length) dx/\σ_ 127=.slice cR cg.length dz/\σ_ 128=.pointer (some ⟨b7,2,none⟩)/\PHeap.Le aL U_/\SW w [B1] U U_ [.blk ab 94 [.slice cO ao.bytes.length dv,jV ao.next,.int .u32 ao.state],.blk af 43 am,B7,ai,ay,.blk b3 28 B0,ap,.row cP dw 43 3 (hD wAA [(⟨(⟨aa,w64 (aa + aj)⟩:wAJ),an⟩:wAM)]),.row bQ bU 43 3 (hD wAA av),.row cQ dx 3 1 (hD KL.encI [aZ]),.row cR dz 3 1 (hD KL.encI cg)] w_/\Sl U_ 1 cO dv ao.bytes.length (hD KL.encB8 ao.bytes)) ?_ fun D9=>?_
 rintro G6 FC ⟨lc,cO,dv,cP,dw,bQ,bU,cQ,dx,cR,dz,sP,sQ,sS,sT,sU,sV,sX,sY,sZ,s3,s4,mM,s5,s6,s7,s8,s9,ta,tb,tc,td,te,mN,Eg,AF,xw⟩
 refine zV (j:=4) (vs:=[.slice bQ av.length bU]) Z Z Z Z AF Z mN mM Z Zm (zA Z) Z Z Z ?_
 intro qZ AG
 have AH:SW w [B1] U lc [.blk ab 94 [.slice cO ao.bytes.length dv,jV ao.next,.int .u32 ao.state],.blk af 43 am,B7,ai,.blk b7 28 [.slice aP aw.length aQ,.slice aV ax.length aW,.slice bQ av.length bU,.slice none 0 0],.blk b3 28 B0,ap,.row cP dw 43 3 (hD wAA [(⟨(⟨aa,w64 (aa + aj)⟩:wAJ),an⟩:wAM)]),.row bQ bU 43 3 (hD wAA av),.row cQ dx 3 1 (hD KL.encI [aZ]),.row cR dz 3 1 (hD KL.encI cg)] qZ:=AG
 exact D8 _ _ ⟨lc,cO,dv,bQ,bU,cP,dw,cQ,dx,cR,dz,sP,sQ,sS,sT,sU,sV,sX,sY,sZ,s3,s4,mM,s5,s6,s7,s8,s9,ta,tb,tc,td,te,mN,Eg,(AH.pick [0,1,2,3,8,4,5,6,7,9,10] _ (by decide) rfl),xw⟩
 refine ZP (s:=gAs) (M:=fun σ_ w_=>∃ (U_:PHeap) (cS:Option Addr) (dA:Nat) (cU:Option Addr) (dB:Nat) (cV:Option Addr) (dC:Nat) (cW:Option Addr) (dD:Nat),σ_ 0=.pointer (some ⟨ab,0,none⟩)/\σ_ 3=jV p3/\σ_ 8=.pointer (some ⟨b3,0,none⟩)/\σ_ 11=.pointer (some ⟨b7,0,none⟩)/\σ_ 12=.slice aT a5.length aU/\σ_ 13=.slice aN aM.length aO/\σ_ 21=.pointer (some ⟨af,0,none⟩)/\σ_ 98=jV a7/\σ_ 99=jV (↑aX:Int)/\σ_ 112=.pointer (some ⟨b7,2,none⟩)/\σ_ 114=.agg am.toArray/\σ_ 115=.slice cU ([(⟨(⟨aa,w64 (aa + aj)⟩:wAJ),an⟩:wAM)].length) dB/\σ_ 116=.slice cV av.length dC/\σ_ 117=.slice aN aM.length aO/\σ_ 118=.pointer (some ⟨ab,0,none⟩)/\σ_ 119=.pointer (some ⟨af,0,none⟩)/\σ_ 120=.pointer (some ⟨af,0,none⟩)/\σ_ 121=jV aa/\σ_ 122=.pointer (some ⟨af,0,none⟩)/\σ_ 123=.pointer (some ⟨af,1,none⟩)/\σ_ 124=jV (w64 (aa + aj))/\σ_ 125=jV aZ/\σ_ 126=.slice cW ([aZ].length) dD/\σ_ 128=.pointer (some ⟨b7,2,none⟩)/\PHeap.Le aL U_/\SW w [B1] U U_ [.blk ab 94 [.slice cS ao.bytes.length dA,jV ao.next,.int .u32 ao.state],.blk af 43 am,B7,ai,ay,.blk b3 28 B0,ap,aK,.row cU dB 43 3 (hD wAA [(⟨(⟨aa,w64 (aa + aj)⟩:wAJ),an⟩:wAM)]),.row cV dC 43 3 (hD wAA av),.row cW dD 3 1 (hD KL.encI [aZ])] w_/\Sl U_ 1 cS dA ao.bytes.length (hD KL.encB8 ao.bytes)) ?_ fun Ea=>?_
 rintro G7 FD ⟨lf,cS,dA,cU,dB,cV,dC,cW,dD,tf,tg,th,tj,tk,Gh,tm,tn,tp,tq,tu,tv,tw,tx,tz,tA,tB,tC,tD,tE,tF,tG,mO,tH,Eh,pB,xz⟩
 refine yP (j:=7) (enc:=KL.encI) (xs:=aM) (ys:=[aZ]) (zs:=cg) rfl rfl rfl rfl rfl yr wIe rfl rfl rfl rfl rfl rfl pB rfl tx mO (pB.srcR (j:=10) rfl (by decide) (wAE (f:=KL.encI) (sz:=1) (fun _=>rfl) [aZ])) (fun _=>rfl) (fun _=>rfl) Aw rfl ?_
 intro jp l7 q5 AI
 have AJ:SW w [B1] U lf [.blk ab 94 [.slice cS ao.bytes.length dA,jV ao.next,.int .u32 ao.state],.blk af 43 am,B7,ai,ay,.blk b3 28 B0,ap,.row jp l7 3 1 (hD KL.encI cg),.row cU dB 43 3 (hD wAA [(⟨(⟨aa,w64 (aa + aj)⟩:wAJ),an⟩:wAM)]),.row cV dC 43 3 (hD wAA av),.row cW dD 3 1 (hD KL.encI [aZ])] q5:=AI
 exact D9 _ _ ⟨lf,cS,dA,cU,dB,cV,dC,cW,dD,jp,l7,tf,tg,th,tj,tk,tm,tn,tp,tq,tu,tv,tw,tz,tA,tB,tC,tD,tE,tF,tG,mO,rfl,tH,Eh,(AJ.pick [0,1,2,3,4,5,6,8,9,10,7] _ (by decide) rfl),xz⟩
 refine ZP (s:=gBf) (M:=fun σ_ w_=>∃ (U_:PHeap) (cX:Option Addr) (dE:Nat) (cY:Option Addr) (dF:Nat) (cZ:Option Addr) (dG:Nat),σ_ 0=.pointer (some ⟨ab,0,none⟩)/\σ_ 3=jV p3/\σ_ 8=.pointer (some ⟨b3,0,none⟩)/\σ_ 11=.pointer (some ⟨b7,0,none⟩)/\σ_ 12=.slice aT a5.length aU/\σ_ 13=.slice aN aM.length aO/\σ_ 21=.pointer (some ⟨af,0,none⟩)/\σ_ 98=jV a7/\σ_ 99=jV (↑aX:Int)/\σ_ 112=.pointer (some ⟨b7,2,none⟩)/\σ_ 114=.agg am.toArray/\σ_ 115=.slice cY ([(⟨(⟨aa,w64 (aa + aj)⟩:wAJ),an⟩:wAM)].length) dF/\σ_ 116=.slice cZ av.length dG/\σ_ 117=.slice aN aM.length aO/\σ_ 118=.pointer (some ⟨ab,0,none⟩)/\σ_ 119=.pointer (some ⟨af,0,none⟩)/\σ_ 120=.pointer (some ⟨af,0,none⟩)/\σ_ 121=jV aa/\σ_ 122=.pointer (some ⟨af,0,none⟩)/\σ_ 123=.pointer (some ⟨af,1,none⟩)/\σ_ 124=jV (w64 (aa + aj))/\σ_ 125=jV aZ/\σ_ 128=.pointer (some ⟨b7,2,none⟩)/\PHeap.Le aL U_/\SW w [B1] U U_ [.blk ab 94 [.slice cX ao.bytes.length dE,jV ao.next,.int .u32 ao.state],.blk af 43 am,B7,ai,ay,.blk b3 28 B0,ap,aK,.row cY dF 43 3 (hD wAA [(⟨(⟨aa,w64 (aa + aj)⟩:wAJ),an⟩:wAM)]),.row cZ dG 43 3 (hD wAA av)] w_/\Sl U_ 1 cX dE ao.bytes.length (hD KL.encB8 ao.bytes)) ?_ fun qt=>?_
 rintro G8 FE ⟨lg,cX,dE,cY,dF,cZ,dG,tI,tJ,tK,tL,tM,tN,tO,tP,tQ,tR,tS,tT,tU,tV,tW,tX,tY,tZ,t5,t6,t7,mP,t8,Ei,AK,xA⟩
 refine ZE (pv:=[(0,jV aZ)]) (zs:=[jV 0]) (cs:=[jV aZ]) Z Z Z Z Z (wAF mP wAO) zH zC zw Z Z Z Z Z AK ?_
 intro q6 lT AL
 have AM:SW w [B1] U lg [.row (some ⟨lT,0,none⟩) 1 3 1 (hD KL.encI [aZ]),.blk ab 94 [.slice cX ao.bytes.length dE,jV ao.next,.int .u32 ao.state],.blk af 43 am,B7,ai,ay,.blk b3 28 B0,ap,aK,.row cY dF 43 3 (hD wAA [(⟨(⟨aa,w64 (aa + aj)⟩:wAJ),an⟩:wAM)]),.row cZ dG 43 3 (hD wAA av)] q6:=AL
 exact Ea _ _ ⟨lg,cX,dE,cY,dF,cZ,dG,(some ⟨lT,0,none⟩),1,tI,tJ,tK,tL,tM,tN,tO,tP,tQ,tR,tS,tT,tU,tV,tW,tX,tY,tZ,t5,t6,t7,mP,rfl,t8,Ei,(AM.pick [1,2,3,4,5,6,7,8,9,10,0] _ (by decide) rfl),xA⟩
 refine ZP (s:=gBm) (M:=fun σ_ w_=>∃ (U_:PHeap) (c6:Option Addr) (dH:Nat) (c8:Option Addr) (dI:Nat),σ_ 0=.pointer (some ⟨ab,0,none⟩)/\σ_ 3=jV p3/\σ_ 8=.pointer (some ⟨b3,0,none⟩)/\σ_ 11=.pointer (some ⟨b7,0,none⟩)/\σ_ 12=.slice aT a5.length aU/\σ_ 13=.slice aN aM.length aO/\σ_ 21=.pointer (some ⟨af,0,none⟩)/\σ_ 98=jV a7/\σ_ 99=jV (↑aX:Int)/\σ_ 112=.pointer (some ⟨b7,2,none⟩)/\σ_ 114=.agg am.toArray/\σ_ 115=.slice c6 ([(⟨(⟨aa,w64 (aa + aj)⟩:wAJ),an⟩:wAM)].length) dH/\σ_ 116=.slice c8 av.length dI/\σ_ 117=.slice aN aM.length aO/\σ_ 118=.pointer (some ⟨ab,0,none⟩)/\σ_ 119=.pointer (some ⟨af,0,none⟩)/\σ_ 120=.pointer (some ⟨af,0,none⟩)/\σ_ 121=jV aa/\σ_ 122=.pointer (some ⟨af,0,none⟩)/\σ_ 123=.pointer (some ⟨af,1,none⟩)/\σ_ 124=jV (w64 (aa + aj))/\σ_ 128=.pointer (some ⟨b7,2,none⟩)/\PHeap.Le aL U_/\SW w [B1] U U_ [.blk af 43 am,aR,B7,ai,ay,.blk b3 28 B0,ap,aK,.row c6 dH 43 3 (hD wAA [(⟨(⟨aa,w64 (aa + aj)⟩:wAJ),an⟩:wAM)]),.row c8 dI 43 3 (hD wAA av)] w_) ?_ fun fT=>?_
 rintro G9 lB ⟨lh,c6,dH,c8,dI,t9,ua,ub,ud,ue,uf,ug,uh,ui,uj,uk,ul,um,un,mQ,uo,uq,mR,ur,uu,mS,uv,qx,AN⟩
 have xB:=pp.le qx
 let j0:Res:=.row c6 dH 43 3 (hD wAA [(⟨(⟨aa,w64 (aa + aj)⟩:wAJ),an⟩:wAM)])
 let j1:Res:=.row c8 dI 43 3 (hD wAA av)
 have AO:SW w [B1] U lh [aR,.blk af 43 am,B7,ai,ay,.blk b3 28 B0,ap,aK,j0,j1] lB:=AN.pick [1,0,2,3,4,5,6,7,8,9] _ (by decide) rfl
 refine zE 1 Z Z Z Z (zD Z Z Try.call31 (zB mQ (zB mR (zB mS zK))) Z) AO (fun hs=>wAg er ab gy ig aa (w64 (aa + aj)) lB lh hs xB pq) (.inl Z) ?_
 rintro li E7 Gu q7 Ej AP ⟨jq,l8,rfl,rfl,xC⟩
 have AQ:SW w [B1] U li [.blk ab 94 [.slice jq ao.bytes.length l8,jV ao.next,.int .u32 ao.state],.blk af 43 am,B7,ai,ay,.blk b3 28 B0,ap,aK,j0,j1] q7:=AP
 exact qt _ _ ⟨li,jq,l8,c6,dH,c8,dI,t9,ua,ub,ud,ue,uf,ug,uh,ui,uj,uk,ul,um,un,mQ,uo,uq,mR,ur,uu,mS,Z,uv,(qx.trans Ej),AQ,xC⟩
 refine ZP (s:=.fl 16 gBm) (M:=fun σ_ w_=>∃ (U_:PHeap) (da:Option Addr) (dJ:Nat) (db:Option Addr) (dK:Nat),σ_ 0=.pointer (some ⟨ab,0,none⟩)/\σ_ 3=jV p3/\σ_ 8=.pointer (some ⟨b3,0,none⟩)/\σ_ 11=.pointer (some ⟨b7,0,none⟩)/\σ_ 12=.slice aT a5.length aU/\σ_ 13=.slice aN aM.length aO/\σ_ 21=.pointer (some ⟨af,0,none⟩)/\σ_ 98=jV a7/\σ_ 99=jV (↑aX:Int)/\σ_ 112=.pointer (some ⟨b7,2,none⟩)/\σ_ 114=.agg am.toArray/\σ_ 115=.slice da ([(⟨(⟨aa,w64 (aa + aj)⟩:wAJ),an⟩:wAM)].length) dJ/\σ_ 116=.slice db av.length dK/\σ_ 117=.slice aN aM.length aO/\σ_ 118=.pointer (some ⟨ab,0,none⟩)/\σ_ 119=.pointer (some ⟨af,0,none⟩)/\σ_ 120=.pointer (some ⟨af,0,none⟩)/\σ_ 121=jV aa/\σ_ 122=.pointer (some ⟨af,0,none⟩)/\σ_ 123=.pointer (some ⟨af,1,none⟩)/\σ_ 124=jV (w64 (aa + aj))/\PHeap.Le aL U_/\SW w [B1] U U_ [.blk af 43 am,aR,B7,ai,ay,.blk b3 28 B0,ap,aK,.row da dJ 43 3 (hD wAA [(⟨(⟨aa,w64 (aa + aj)⟩:wAJ),an⟩:wAM)]),.row db dK 43 3 (hD wAA av)] w_) ?_ fun Eb=>?_
 rintro Ha lC ⟨lj,da,dJ,db,dK,uw,ux,uy,mT,uz,uA,uB,uC,uD,uE,uF,uG,uH,uI,mU,uJ,uK,mV,uL,uM,mW,qy,AS⟩
 refine oR Z (zJ Z mT zQ Z Zm) ?_
 have xD:=pp.le qy
 let j2:Res:=.row da dJ 43 3 (hD wAA [(⟨(⟨aa,w64 (aa + aj)⟩:wAJ),an⟩:wAM)])
 let j3:Res:=.row db dK 43 3 (hD wAA av)
 have AT:SW w [B1] U lj [aR,.blk af 43 am,B7,ai,ay,.blk b3 28 B0,ap,aK,j2,j3] lC:=AS.pick [1,0,2,3,4,5,6,7,8,9] _ (by decide) rfl
 refine zE 1 Z Z Z Z (zD Z Z Try.call31 (zB mU (zB mV (zB mW zK))) Z) AT (fun hs=>wAg er ab gy ig aa (w64 (aa + aj)) lC lj hs xD pq) (.inl Z) ?_
 rintro lk E8 Gw q8 Ek AU ⟨jr,ma,rfl,rfl,xE⟩
 have AV:SW w [B1] U lk [.blk ab 94 [.slice jr ao.bytes.length ma,jV ao.next,.int .u32 ao.state],.blk af 43 am,B7,ai,ay,.blk b3 28 B0,ap,aK,j2,j3] q8:=AU
 exact qt _ _ ⟨lk,jr,ma,da,dJ,db,dK,uw,ux,uy,mT,uz,uA,uB,uC,uD,uE,uF,uG,uH,uI,mU,uJ,uK,mV,uL,uM,mW,Z,Z,(qy.trans Ek),AV,xE⟩
 refine ZP (s:=.fl 16 gBr) (M:=fun σ_ w_=>∃ (U_:PHeap) (ey:Option Addr) (fk:Nat) (eA:Option Addr) (fm:Nat),σ_ 0=.pointer (some ⟨ab,0,none⟩)/\σ_ 3=jV p3/\σ_ 8=.pointer (some ⟨b3,0,none⟩)/\σ_ 11=.pointer (some ⟨b7,0,none⟩)/\σ_ 12=.slice aT a5.length aU/\σ_ 13=.slice aN aM.length aO/\σ_ 21=.pointer (some ⟨af,0,none⟩)/\σ_ 98=jV a7/\σ_ 99=jV (↑aX:Int)/\σ_ 112=.pointer (some ⟨b7,2,none⟩)/\σ_ 114=.agg am.toArray/\σ_ 115=.slice ey ([(⟨(⟨aa,w64 (aa + aj)⟩:wAJ),an⟩:wAM)].length) fk/\σ_ 116=.slice eA av.length fm/\σ_ 117=.slice aN aM.length aO/\σ_ 118=.pointer (some ⟨ab,0,none⟩)/\σ_ 119=.pointer (some ⟨af,0,none⟩)/\σ_ 120=.pointer (some ⟨af,0,none⟩)/\σ_ 122=.pointer (some ⟨af,0,none⟩)/\σ_ 123=.pointer (some ⟨af,1,none⟩)/\σ_ 124=jV (w64 (aa + aj))/\PHeap.Le aL U_/\SW w [B1] U U_ [.blk af 43 am,aR,B7,ai,ay,.blk b3 28 B0,ap,aK,.row ey fk 43 3 (hD wAA [(⟨(⟨aa,w64 (aa + aj)⟩:wAJ),an⟩:wAM)]),.row eA fm 43 3 (hD wAA av)] w_) ?_ fun Ec=>?_
 rintro Hb FF ⟨qQ,ey,fk,eA,fm,uN,uO,uP,mX,uQ,uR,uS,uT,uU,uV,uW,uX,uY,uZ,u3,u4,mY,u5,u6,u7,El,pC⟩
 exact oR Z (zJ Z mX zQ Z Zm) (ZY Z Z Z Z (pC.ldB (j:=0) Z Z mY zG (v:=jV aa) Z) (fT _ _ ⟨qQ,ey,fk,eA,fm,uN,uO,uP,mX,uQ,uR,uS,uT,uU,uV,uW,uX,uY,uZ,u3,u4,mY,Z,u5,u6,u7,Z,El,pC⟩))
 refine ZP (s:=gBs) (M:=fun σ_ w_=>∃ (U_:PHeap) (dd:Option Addr) (dL:Nat),σ_ 0=.pointer (some ⟨ab,0,none⟩)/\σ_ 3=jV p3/\σ_ 8=.pointer (some ⟨b3,0,none⟩)/\σ_ 11=.pointer (some ⟨b7,0,none⟩)/\σ_ 12=.slice aT a5.length aU/\σ_ 13=.slice aN aM.length aO/\σ_ 21=.pointer (some ⟨af,0,none⟩)/\σ_ 98=jV a7/\σ_ 99=jV (↑aX:Int)/\σ_ 112=.pointer (some ⟨b7,2,none⟩)/\σ_ 113=.slice bk a9.length bn/\σ_ 114=.agg am.toArray/\σ_ 115=.slice dd ([(⟨(⟨aa,w64 (aa + aj)⟩:wAJ),an⟩:wAM)].length) dL/\σ_ 117=.slice aN aM.length aO/\σ_ 118=.pointer (some ⟨ab,0,none⟩)/\σ_ 119=.pointer (some ⟨af,0,none⟩)/\σ_ 120=.pointer (some ⟨af,0,none⟩)/\σ_ 121=jV aa/\σ_ 122=.pointer (some ⟨af,0,none⟩)/\σ_ 123=.pointer (some ⟨af,1,none⟩)/\σ_ 124=jV (w64 (aa + aj))/\PHeap.Le aL U_/\SW w [B1] U U_ [.blk af 43 am,aR,B7,ai,bf,ay,.blk b3 28 B0,ap,aK,.row dd dL 43 3 (hD wAA [(⟨(⟨aa,w64 (aa + aj)⟩:wAJ),an⟩:wAM)])] w_) ?_ fun iX=>?_
 rintro Hc FG ⟨lm,dd,dL,u9,va,vb,vc,vd,ve,vf,vg,vh,vi,vj,vk,mZ,vl,vm,vn,vo,vp,vq,vr,vt,Em,pD⟩
 refine yP (j:=4) (enc:=wAA) (xs:=a9) (ys:=[(⟨(⟨aa,w64 (aa + aj)⟩:wAJ),an⟩:wAM)]) (zs:=av) rfl rfl rfl rfl rfl Try.underlying25 wJI rfl rfl rfl rfl rfl rfl pD rfl vj mZ (pD.srcR (j:=9) rfl (by decide) (wAE (f:=wAA) (sz:=3) (fun _=>rfl) [(⟨(⟨aa,w64 (aa + aj)⟩:wAJ),an⟩:wAM)])) (fun _=>rfl) (fun _=>rfl) fP rfl ?_
 intro jt mb rc AX
 have AY:SW w [B1] U lm [.blk af 43 am,aR,B7,ai,.row jt mb 43 3 (hD wAA av),ay,.blk b3 28 B0,ap,aK,.row dd dL 43 3 (hD wAA [(⟨(⟨aa,w64 (aa + aj)⟩:wAJ),an⟩:wAM)])] rc:=AX
 exact Eb _ _ ⟨lm,dd,dL,jt,mb,u9,va,vb,vc,vd,ve,vf,vg,vh,vi,vk,mZ,rfl,vl,vm,vn,vo,vp,vq,vr,vt,Em,(AY.pick [0,1,2,3,5,6,7,8,9,4] _ (by decide) rfl)⟩
 refine ZP (s:=.fl 16 gBq) (M:=fun σ_ w_=>∃ (U_:PHeap) (eB:Option Addr) (fq:Nat) (eD:Option Addr) (ft:Nat),σ_ 0=.pointer (some ⟨ab,0,none⟩)/\σ_ 3=jV p3/\σ_ 8=.pointer (some ⟨b3,0,none⟩)/\σ_ 11=.pointer (some ⟨b7,0,none⟩)/\σ_ 12=.slice aT a5.length aU/\σ_ 13=.slice aN aM.length aO/\σ_ 21=.pointer (some ⟨af,0,none⟩)/\σ_ 98=jV a7/\σ_ 99=jV (↑aX:Int)/\σ_ 112=.pointer (some ⟨b7,2,none⟩)/\σ_ 114=.agg am.toArray/\σ_ 115=.slice eB ([(⟨(⟨aa,w64 (aa + aj)⟩:wAJ),an⟩:wAM)].length) fq/\σ_ 116=.slice eD av.length ft/\σ_ 117=.slice aN aM.length aO/\σ_ 118=.pointer (some ⟨ab,0,none⟩)/\σ_ 119=.pointer (some ⟨af,0,none⟩)/\σ_ 120=.pointer (some ⟨af,0,none⟩)/\σ_ 121=jV aa/\σ_ 122=.pointer (some ⟨af,0,none⟩)/\σ_ 123=.pointer (some ⟨af,1,none⟩)/\PHeap.Le aL U_/\SW w [B1] U U_ [.blk af 43 am,aR,B7,ai,ay,.blk b3 28 B0,ap,aK,.row eB fq 43 3 (hD wAA [(⟨(⟨aa,w64 (aa + aj)⟩:wAJ),an⟩:wAM)]),.row eD ft 43 3 (hD wAA av)] w_) ?_ fun Ee=>?_
 rintro Hd FH ⟨qR,eB,fq,eD,ft,vu,vv,vw,m4,vx,vy,vz,vA,vB,vC,vD,vE,vF,vG,vH,vI,vJ,vK,vL,m5,En,pE⟩
 exact oR Z (zJ Z m4 zQ Z Zm) (ZY Z Z Z Z (pE.ldB (j:=0) Z Z m5 zG (v:=jV (w64 (aa + aj))) Z) (fT _ _ ⟨qR,eB,fq,eD,ft,vu,vv,vw,m4,vx,vy,vz,vA,vB,vC,vD,vE,vF,vG,vH,vI,vJ,vK,vL,m5,Z,Z,En,pE⟩))
 refine ZP (s:=gBt) (M:=fun σ_ w_=>∃ (U_:PHeap),σ_ 0=.pointer (some ⟨ab,0,none⟩)/\σ_ 3=jV p3/\σ_ 8=.pointer (some ⟨b3,0,none⟩)/\σ_ 11=.pointer (some ⟨b7,0,none⟩)/\σ_ 12=.slice aT a5.length aU/\σ_ 13=.slice aN aM.length aO/\σ_ 21=.pointer (some ⟨af,0,none⟩)/\σ_ 98=jV a7/\σ_ 99=jV (↑aX:Int)/\σ_ 112=.pointer (some ⟨b7,2,none⟩)/\σ_ 113=.slice bk a9.length bn/\σ_ 114=.agg am.toArray/\σ_ 117=.slice aN aM.length aO/\σ_ 118=.pointer (some ⟨ab,0,none⟩)/\σ_ 119=.pointer (some ⟨af,0,none⟩)/\σ_ 120=.pointer (some ⟨af,0,none⟩)/\σ_ 121=jV aa/\σ_ 122=.pointer (some ⟨af,0,none⟩)/\σ_ 123=.pointer (some ⟨af,1,none⟩)/\σ_ 124=jV (w64 (aa + aj))/\PHeap.Le aL U_/\SW w [B1] U U_ [.blk af 43 am,aR,B7,ai,bf,ay,.blk b3 28 B0,ap,aK] w_) ?_ fun qu=>?_
 rintro He FI ⟨lp,vM,vN,vO,vP,vQ,vR,vS,vT,vU,vV,vW,m6,vX,vY,vZ,v2,v3,v4,v5,v7,Eo,AZ⟩
 refine ZE (pv:=[(0,.agg am.toArray)]) (zs:=cr) (cs:=am) Z Z Z Z Z (wAF m6 wAO) ZR Zw yd Z Z Z Z Z AZ ?_
 intro rd lU A4
 have A5:SW w [B1] U lp [.row (some ⟨lU,0,none⟩) 1 43 3 (hD wAA [(⟨(⟨aa,w64 (aa + aj)⟩:wAJ),an⟩:wAM)]),.blk af 43 am,aR,B7,ai,bf,ay,.blk b3 28 B0,ap,aK] rd:=A4
 exact iX _ _ ⟨lp,(some ⟨lU,0,none⟩),1,vM,vN,vO,vP,vQ,vR,vS,vT,vU,vV,vW,m6,rfl,vX,vY,vZ,v2,v3,v4,v5,v7,Eo,(A5.pick [1,2,3,4,5,6,7,8,9,0] _ (by decide) rfl)⟩
 refine ZP (s:=gBv) (M:=fun σ_ w_=>∃ (U_:PHeap) (cj:Option Addr) (cx:Nat),σ_ 0=.pointer (some ⟨ab,0,none⟩)/\σ_ 3=jV p3/\σ_ 8=.pointer (some ⟨b3,0,none⟩)/\σ_ 11=.pointer (some ⟨b7,0,none⟩)/\σ_ 12=.slice aT a5.length aU/\σ_ 13=.slice aN aM.length aO/\σ_ 21=.pointer (some ⟨af,0,none⟩)/\σ_ 98=jV a7/\σ_ 99=jV (↑aX:Int)/\σ_ 112=.pointer (some ⟨b7,2,none⟩)/\σ_ 113=.slice bk a9.length bn/\σ_ 114=.agg am.toArray/\σ_ 115=.slice cj ([(⟨(⟨aa,w64 (aa + aj)⟩:wAJ),an⟩:wAM)].length) cx/\σ_ 117=.slice aN aM.length aO/\σ_ 118=.pointer (some ⟨ab,0,none⟩)/\σ_ 119=.pointer (some ⟨af,0,none⟩)/\σ_ 120=.pointer (some ⟨af,0,none⟩)/\σ_ 122=.pointer (some ⟨af,0,none⟩)/\σ_ 123=.pointer (some ⟨af,1,none⟩)/\σ_ 124=jV (w64 (aa + aj))/\PHeap.Le aL U_/\SW w [B1] U U_ [.blk af 43 am,aR,B7,ai,bf,ay,.blk b3 28 B0,ap,aK,.row cj cx 43 3 (hD wAA [(⟨(⟨aa,w64 (aa + aj)⟩:wAJ),an⟩:wAM)])] w_) ?_ fun qv=>?_
 rintro Hf FJ ⟨gK,cj,cx,m7,m8,m9,n3,n4,n5,n6,n7,n8,n9,oc,od,ii,oe,og,oh,ij,oi,oj,om,qz,fR⟩
 refine zk ?_ ?_
 refine yP (j:=4) (enc:=wAA) (xs:=a9) (ys:=[(⟨(⟨aa,w64 (aa + aj)⟩:wAJ),an⟩:wAM)]) (zs:=av) rfl rfl rfl rfl rfl Try.underlying25 wJI rfl rfl rfl rfl rfl rfl fR rfl oc ii (fR.srcR (j:=9) rfl (by decide) (wAE (f:=wAA) (sz:=3) (fun _=>rfl) [(⟨(⟨aa,w64 (aa + aj)⟩:wAJ),an⟩:wAM)])) (fun _=>rfl) (fun _=>rfl) fP rfl ?_
 intro jv md re A7
 have A8:SW w [B1] U gK [.blk af 43 am,aR,B7,ai,.row jv md 43 3 (hD wAA av),ay,.blk b3 28 B0,ap,aK,.row cj cx 43 3 (hD wAA [(⟨(⟨aa,w64 (aa + aj)⟩:wAJ),an⟩:wAM)])] re:=A7
 exact Ec _ _ ⟨gK,cj,cx,jv,md,m7,m8,m9,n3,n4,n5,n6,n7,n8,n9,od,ii,rfl,oe,og,oh,ij,oi,oj,om,qz,(A8.pick [0,1,2,3,5,6,7,8,9,4] _ (by decide) rfl)⟩
 exact ZY Z Z Z Z (fR.ldB (j:=0) Z Z ij zG (v:=jV aa) Z) (iX _ _ ⟨gK,cj,cx,m7,m8,m9,n3,n4,n5,n6,n7,n8,n9,oc,od,ii,oe,og,oh,ij,Z,oi,oj,om,qz,fR⟩)
 refine ZP (s:=gBu) (M:=fun σ_ w_=>∃ (U_:PHeap) (cm:Option Addr) (cy:Nat),σ_ 0=.pointer (some ⟨ab,0,none⟩)/\σ_ 3=jV p3/\σ_ 8=.pointer (some ⟨b3,0,none⟩)/\σ_ 11=.pointer (some ⟨b7,0,none⟩)/\σ_ 12=.slice aT a5.length aU/\σ_ 13=.slice aN aM.length aO/\σ_ 21=.pointer (some ⟨af,0,none⟩)/\σ_ 98=jV a7/\σ_ 99=jV (↑aX:Int)/\σ_ 112=.pointer (some ⟨b7,2,none⟩)/\σ_ 113=.slice bk a9.length bn/\σ_ 114=.agg am.toArray/\σ_ 115=.slice cm ([(⟨(⟨aa,w64 (aa + aj)⟩:wAJ),an⟩:wAM)].length) cy/\σ_ 117=.slice aN aM.length aO/\σ_ 118=.pointer (some ⟨ab,0,none⟩)/\σ_ 119=.pointer (some ⟨af,0,none⟩)/\σ_ 120=.pointer (some ⟨af,0,none⟩)/\σ_ 121=jV aa/\σ_ 122=.pointer (some ⟨af,0,none⟩)/\σ_ 123=.pointer (some ⟨af,1,none⟩)/\PHeap.Le aL U_/\SW w [B1] U U_ [.blk af 43 am,aR,B7,ai,bf,ay,.blk b3 28 B0,ap,aK,.row cm cy 43 3 (hD wAA [(⟨(⟨aa,w64 (aa + aj)⟩:wAJ),an⟩:wAM)])] w_) ?_ fun qw=>?_
 rintro Hg FK ⟨gL,cm,cy,oq,ot,ou,ov,ow,ox,oy,oz,oB,oC,oD,oE,ik,oG,oH,oI,oJ,oK,oO,il,qA,fS⟩
 refine zk ?_ ?_
 refine yP (j:=4) (enc:=wAA) (xs:=a9) (ys:=[(⟨(⟨aa,w64 (aa + aj)⟩:wAJ),an⟩:wAM)]) (zs:=av) rfl rfl rfl rfl rfl Try.underlying25 wJI rfl rfl rfl rfl rfl rfl fS rfl oD ik (fS.srcR (j:=9) rfl (by decide) (wAE (f:=wAA) (sz:=3) (fun _=>rfl) [(⟨(⟨aa,w64 (aa + aj)⟩:wAJ),an⟩:wAM)])) (fun _=>rfl) (fun _=>rfl) fP rfl ?_
 intro jw me rf A9
 have Ba:SW w [B1] U gL [.blk af 43 am,aR,B7,ai,.row jw me 43 3 (hD wAA av),ay,.blk b3 28 B0,ap,aK,.row cm cy 43 3 (hD wAA [(⟨(⟨aa,w64 (aa + aj)⟩:wAJ),an⟩:wAM)])] rf:=A9
 exact Ee _ _ ⟨gL,cm,cy,jw,me,oq,ot,ou,ov,ow,ox,oy,oz,oB,oC,oE,ik,rfl,oG,oH,oI,oJ,oK,oO,il,qA,(Ba.pick [0,1,2,3,5,6,7,8,9,4] _ (by decide) rfl)⟩
 exact ZY Z Z Z Z (fS.ldB (j:=0) Z Z il zG (v:=jV (w64 (aa + aj))) Z) (iX _ _ ⟨gL,cm,cy,oq,ot,ou,ov,ow,ox,oy,oz,oB,oC,oD,oE,ik,oG,oH,oI,oJ,oK,oO,il,Z,qA,fS⟩)
 refine oR Z (zJ Z bo zQ Z Zm) (oL Z (bh.ldB (j:=5) Z Z Z yA (v:=.slice bk a9.length bn) Z) (oL Z (bh.ldBA (j:=0) Z Z Z Try.isAgg43 Zw (vs:=am) Z Z) (oM Z bw (oM Z bg (oR Z (zJ Z Z Zy Z zj) (oR Z (zJ Z Z ZK Z zC) (oR Z (zJ Z Z Zy Z zj) (oR Z (zJ Z Z ZK Z zC) (zk ?_ ?_)))))))))
 refine ZE (pv:=[(0,.agg am.toArray)]) (zs:=cr) (cs:=am) Z Z Z Z Z (wAF Z wAO) ZR Zw yd Z Z Z Z Z bh ?_
 intro rh dq Bb
 let j4:Res:=.row (some ⟨dq,0,none⟩) 1 43 3 (hD wAA [(⟨(⟨aa,w64 (aa + aj)⟩:wAJ),an⟩:wAM)])
 have cH:SW w [B1] U aL [j4,.blk af 43 am,aR,B7,ai,bf,ay,.blk b3 28 B0,ap,aK] rh:=Bb
 refine zk ?_ ?_
 refine yP (j:=5) (enc:=wAA) (xs:=a9) (ys:=[(⟨(⟨aa,w64 (aa + aj)⟩:wAJ),an⟩:wAM)]) (zs:=av) rfl rfl rfl rfl rfl Try.underlying25 wJI rfl rfl rfl rfl rfl rfl cH rfl rfl rfl (cH.srcR (j:=0) rfl (by decide) (wAE (f:=wAA) (sz:=3) (fun _=>rfl) [(⟨(⟨aa,w64 (aa + aj)⟩:wAJ),an⟩:wAM)])) (fun _=>rfl) (fun _=>rfl) fP rfl ?_
 intro gt g7 ri Bc
 have cI:SW w [B1] U aL [j4,.blk af 43 am,aR,B7,ai,.row gt g7 43 3 (hD wAA av),ay,.blk b3 28 B0,ap,aK] ri:=Bc
 refine oR Z (zJ Z bo zQ Z Zm) (zk ?_ ?_)
 exact ZY rfl rfl rfl rfl (cI.ldB (j:=1) rfl rfl rfl zG (v:=jV aa) rfl) (ZY rfl rfl rfl rfl (cI.ldB (j:=1) rfl rfl rfl zG (v:=jV (w64 (aa + aj))) rfl) (fT _ _ ⟨aL,(some ⟨dq,0,none⟩),1,gt,g7,bg,bI,bJ,bo,bK,bw,rfl,bx,bz,rfl,rfl,rfl,rfl,rfl,rfl,rfl,rfl,rfl,rfl,rfl,rfl,rfl,(zW _),(cI.pick [1,2,3,4,6,7,8,9,0,5] _ (by decide) rfl)⟩))
 exact ZY rfl rfl rfl rfl (cI.ldB (j:=1) rfl rfl rfl zG (v:=jV (w64 (aa + aj))) rfl) (ZY rfl rfl rfl rfl (cI.ldB (j:=1) rfl rfl rfl zG (v:=jV aa) rfl) (fT _ _ ⟨aL,(some ⟨dq,0,none⟩),1,gt,g7,bg,bI,bJ,bo,bK,bw,rfl,bx,bz,rfl,rfl,rfl,rfl,rfl,rfl,rfl,rfl,rfl,rfl,rfl,rfl,rfl,(zW _),(cI.pick [1,2,3,4,6,7,8,9,0,5] _ (by decide) rfl)⟩))
 refine zk ?_ ?_
 exact ZY rfl rfl rfl rfl (cH.ldB (j:=1) rfl rfl rfl zG (v:=jV aa) rfl) (qw _ _ ⟨aL,(some ⟨dq,0,none⟩),1,bg,bI,bJ,bo,bK,bw,rfl,bx,bz,rfl,rfl,rfl,rfl,rfl,rfl,rfl,rfl,rfl,rfl,rfl,(zW _),(cH.pick [1,2,3,4,5,6,7,8,9,0] _ (by decide) rfl)⟩)
 exact ZY rfl rfl rfl rfl (cH.ldB (j:=1) rfl rfl rfl zG (v:=jV (w64 (aa + aj))) rfl) (qv _ _ ⟨aL,(some ⟨dq,0,none⟩),1,bg,bI,bJ,bo,bK,bw,rfl,bx,bz,rfl,rfl,rfl,rfl,rfl,rfl,rfl,rfl,rfl,rfl,rfl,(zW _),(cH.pick [1,2,3,4,5,6,7,8,9,0] _ (by decide) rfl)⟩)
 refine zk ?_ ?_
 refine ZY Z Z Z Z (bh.ldB (j:=0) Z Z Z zG (v:=jV aa) Z) (zk ?_ ?_)
 refine ZE (pv:=[(0,.agg am.toArray)]) (zs:=cr) (cs:=am) Z Z Z Z Z (wAF Z wAO) ZR Zw yd Z Z Z Z Z bh ?_
 intro rj lV Bd
 have Be:SW w [B1] U aL [.row (some ⟨lV,0,none⟩) 1 43 3 (hD wAA [(⟨(⟨aa,w64 (aa + aj)⟩:wAJ),an⟩:wAM)]),.blk af 43 am,aR,B7,ai,bf,ay,.blk b3 28 B0,ap,aK] rj:=Bd
 exact qw _ _ ⟨aL,(some ⟨lV,0,none⟩),1,bg,bI,bJ,bo,bK,bw,rfl,bx,bz,rfl,rfl,rfl,rfl,rfl,rfl,rfl,rfl,rfl,rfl,rfl,(zW _),(Be.pick [1,2,3,4,5,6,7,8,9,0] _ (by decide) rfl)⟩
 exact ZY Z Z Z Z (bh.ldB (j:=0) Z Z Z zG (v:=jV (w64 (aa + aj))) Z) (qu _ _ ⟨aL,bg,bI,bJ,bo,bK,bw,Z,bx,bz,Z,Z,Z,Z,Z,Z,Z,Z,Z,Z,Z,(zW _),bh⟩)
 refine ZY Z Z Z Z (bh.ldB (j:=0) Z Z Z zG (v:=jV (w64 (aa + aj))) Z) (zk ?_ ?_)
 refine ZE (pv:=[(0,.agg am.toArray)]) (zs:=cr) (cs:=am) Z Z Z Z Z (wAF Z wAO) ZR Zw yd Z Z Z Z Z bh ?_
 intro rk lW Bf
 have Bg:SW w [B1] U aL [.row (some ⟨lW,0,none⟩) 1 43 3 (hD wAA [(⟨(⟨aa,w64 (aa + aj)⟩:wAJ),an⟩:wAM)]),.blk af 43 am,aR,B7,ai,bf,ay,.blk b3 28 B0,ap,aK] rk:=Bf
 exact qv _ _ ⟨aL,(some ⟨lW,0,none⟩),1,bg,bI,bJ,bo,bK,bw,rfl,bx,bz,rfl,rfl,rfl,rfl,rfl,rfl,rfl,rfl,rfl,rfl,rfl,(zW _),(Bg.pick [1,2,3,4,5,6,7,8,9,0] _ (by decide) rfl)⟩
 exact ZY Z Z Z Z (bh.ldB (j:=0) Z Z Z zG (v:=jV aa) Z) (qu _ _ ⟨aL,bg,bI,bJ,bo,bK,bw,Z,bx,bz,Z,Z,Z,Z,Z,Z,Z,Z,Z,Z,Z,(zW _),bh⟩)
 rintro Hh ro ⟨qS,qL,ss,br,bu,cn,cz,xo,oP,v9,wc,wd,we,wg,wh,Es,Bi,xI⟩
 have su:Hid (¬ ((↑((a7:Int) - 0).toNat:Int) < a7)):=zS (wAh)
 refine sR fL1 Z (oR Z (zh Z xo wh) (eN (zM (cF Z su (Zf (zx (zx (Zc (zL (zM (sR (wCa gAi) Z (oM Z oP (oM Z v9 (oR Z (zf Z Z Z) ?_))))))))))))))
 have q:=bnd qe
 obtain ⟨⟨cL,i5⟩,xJ,pT⟩:=q
 try dsimp only at pT
 refine zE 1 Z Z Z Z (zD Z Z yI (zB Z (zB Z zK)) Z) Bi (fun hs=>wAS (⟨E4,E5,E6⟩:wAK) ab qL ss (w64 (p3 + 1)) ro qS hs xI xJ) (.inl Z) ?_
 rintro qT Fc Gz lE Et Bj ⟨jy,mg,rfl,rfl,xK⟩
 let aq:Res:=.row br bu 43 3 (hD wAA a6)
 let au:Res:=.row cn cz 3 1 (hD KL.encI ba)
 let j5:Res:=.blk b7 28 [.slice aP aw.length aQ,.slice aV ax.length aW,.slice br a6.length bu,.slice none 0 0]
 let j6:Res:=.blk ab 94 [.slice jy i5.bytes.length mg,jV i5.next,.int .u32 i5.state]
 have Bk:SW w [B1] U qT [j6,B7,ai,aq,j5,.blk b3 28 B0,ap,au] lE:=Bj
 refine oM Z Z (eN (zc ?_))
 have xM:=Am.le EJ
 have xN:=xM.le Es
 have xO:=xN.le Et
 have q:=Bk.freezeRR (R:=wHb) (k:=6) rfl xO rfl (by decide)
 obtain ⟨gM,Eu,qm,Bm⟩:=q
 have Bn:SW w [B1] U gM [j6,B7,ai,aq,j5,.blk b3 28 B0,au] lE:=Bm
 have q:=bnd pT
 obtain ⟨⟨ES,ET,EU,qK⟩,Dn,pU⟩:=q
 try dsimp only at pU
 have q:=wBn Dn
 obtain ⟨iR,Do⟩:=q
 replace iR:=zS iR
 refine CK.forN' (fun bY (bZ,ek,en,ca) σ_ w_=>∃ (U_:PHeap) (co:Option Addr) (cA:Nat) (bF:Option Addr) (bH:Nat),σ_ 134=jV (↑bY:Int)/\σ_ 0=.pointer (some ⟨ab,0,none⟩)/\σ_ 8=.pointer (some ⟨b3,0,none⟩)/\σ_ 11=.pointer (some ⟨b7,0,none⟩)/\σ_ 12=.slice aT a5.length aU/\σ_ 13=.slice cn ba.length cz/\σ_ 133=jV cL/\PHeap.Le gM U_/\SW w [B1] U U_ [.blk ab 94 [.slice co bZ.length cA,jV ek,.int .u32 en],B7,ai,aq,.row bF bH 39 4 (hD wAB ca),.blk b7 28 [.slice aP aw.length aQ,.slice aV ax.length aW,.slice br a6.length bu,.slice bF ca.length bH],.blk b3 28 B0,au] w_/\Sl U_ 1 co cA bZ.length (hD KL.encB8 bZ)) Do ?_ ?_ ?_
 have Bp:=Bn.nilrow 39 4
 have xP:=xK.le Eu
 exact ⟨gM,jy,mg,none,0,rfl,oP,wc,wd,we,wg,rfl,(zW _),(Bp.pick [1,2,3,4,0,5,6,7] _ (by decide) rfl),xP⟩
 rintro bY ⟨bZ,ek,en,ca⟩ GV Hj lF iL ⟨fb,co,cA,bF,bH,dS,bV,fI,bW,fJ,fK,dP,fW,Bq,pj⟩ qn
 try dsimp only at qn
 have mh:Hid ((↑bY:Int) < cL):=zS (wBD iL)
 replace iL:=zS iL
 have iK:Hid (w64 ((↑bY:Int) + 1)=(↑(bY + 1):Int)):=zS (by have h1:=iR.out;have h2:=mh.out;rw [wAU] <;> omega)
 refine sR fL1 Z (oR Z (zh Z dS dP) (eN (zM (cT Z mh (kN (zM (zc ?_)))))))
 have q:=bnd qn
 obtain ⟨⟨fU,qH,qI,bC,cd,aY⟩,D7,pV⟩:=q
 try dsimp only at pV
 let az:Res:=.blk b7 28 [.slice aP aw.length aQ,.slice aV ax.length aW,.slice br a6.length bu,.slice bF ca.length bH]
 let aJ:Res:=.row bF bH 39 4 (hD wAB ca)
 let bG:List Value:=[jV bC,jV cd,jV aY,jV 0]
 refine yN (fun σ_ w_=>∃ (U_:PHeap) (eE:Option Addr) (fu:Nat) (a8:Nat),σ_ 0=.pointer (some ⟨ab,0,none⟩)/\σ_ 8=.pointer (some ⟨b3,0,none⟩)/\σ_ 11=.pointer (some ⟨b7,0,none⟩)/\σ_ 12=.slice aT a5.length aU/\σ_ 13=.slice cn ba.length cz/\σ_ 22=.pointer (some ⟨a8,0,none⟩)/\σ_ 133=jV cL/\σ_ 134=jV (↑bY:Int)/\PHeap.Le fb U_/\SW w [B1] U U_ [.blk ab 94 [.slice eE fU.length fu,jV qH,.int .u32 qI],B7,ai,aq,aJ,az,.blk b3 28 B0,au,.blk a8 39 bG] w_/\Sl U_ 1 eE fu fU.length (hD KL.encB8 fU)) ?_ ?_
 have q:=bnd D7
 obtain ⟨⟨bL,bD⟩,pk,pW⟩:=q
 try dsimp only at pW
 have q:=bnd pW
 obtain ⟨⟨bM,bd⟩,iz,pX⟩:=q
 try dsimp only at pX
 have q:=bnd pX
 obtain ⟨⟨bN,bi⟩,fN,dU⟩:=q
 try dsimp only at dU
 refine ZA ZB [3,3,1,3,1005,3,3,1004,3,3,1005,3,3,1004,3,0,3,2,0,ab] (wDe (wGi (wMH (.fx 4 (.fx 10 (.fx 15 (.fl 16 (.fx 17 (.fx 18 .nil .stop) .stop)) (.fx 17 gAt .stop)) (.fx 17 gBg .stop)) (.fx 17 (.fx 4 gBg .stop) .stop))))) (by kernel_rfl) ?_
 have cJ:=Bq.drew
 generalize hw_W1886:({ lF with drawn:=lF.drawn + 1 }:World)=ry at cJ ⊢
 refine zr rfl rfl rfl rfl rfl bV (zY rfl rfl rfl rfl (fun _=>zJ rfl bW zQ rfl zq) (zl rfl rfl rfl rfl (cJ.ldB (j:=5) rfl rfl rfl zy (v:=.slice aP aw.length aQ) rfl) rfl (zY rfl rfl rfl rfl (fun _=>zz rfl rfl zH) (zr rfl rfl rfl rfl rfl bV (zY rfl rfl rfl rfl (fun _=>zJ rfl bW zQ rfl yE) (OKS.mt (T:=[ab]) [0] [1,2,3,4,5,6,7] [B7,ai,aq,aJ,az,.blk b3 28 B0,au] rfl rfl rfl rfl cJ rfl ⟨⟨0,by decide,_,rfl,rfl⟩,trivial⟩ (by decide) rfl (by decide) (fun _ Dd=>(Dd.ldB (j:=4) rfl rfl rfl yS (v:=.slice aV ax.length aW) rfl)) rfl (zY rfl rfl rfl rfl (fun _=>zz rfl rfl ZQ) (zY rfl rfl rfl rfl (fun _=>zf rfl rfl rfl) (zr rfl rfl rfl rfl rfl bV (zY rfl rfl rfl rfl (fun _=>zJ rfl bW zQ rfl Zm) (OKS.mt (T:=[ab]) [0] [1,2,3,4,5,6,7] [B7,ai,aq,aJ,az,.blk b3 28 B0,au] rfl rfl rfl rfl cJ rfl ⟨⟨0,by decide,_,rfl,rfl⟩,trivial⟩ (by decide) rfl (by decide) (fun _ De=>(De.ldB (j:=4) rfl rfl rfl yA (v:=.slice br a6.length bu) rfl)) rfl (zY rfl rfl rfl rfl (fun _=>zz rfl rfl ZR) (zk ?_ ?_)))))))))))))
 refine yg 1 rfl rfl rfl rfl (zD rfl rfl yI (zB rfl (zB rfl zK)) rfl) cJ (fun hs=>wAS (⟨bZ,ek,en⟩:wAK) ab co cA (↑aw.length:Int) ry fb hs pj pk) rfl (T:=[ab]) rfl ⟨fun b h=>(by cases h;exact .head _),trivial⟩ ?_
 rintro fc Fd GB lG iY Bv ⟨gu,g8,rfl,rfl,pm⟩
 let j7:Res:=.blk ab 94 [.slice gu bD.bytes.length g8,jV bD.next,.int .u32 bD.state]
 have pG:SW w [B1] U fc [j7,B7,ai,aq,aJ,az,.blk b3 28 B0,au] lG:=Bv
 refine zk ?_ ?_
 refine yg 1 rfl rfl rfl rfl (zD rfl rfl yI (zB rfl (zB rfl zK)) rfl) pG (fun hs=>wAS bD ab gu g8 (w64 ((↑ax.length:Int) + 1)) lG fc hs pm iz) rfl (T:=[ab]) rfl ⟨fun b h=>(by cases h;exact .head _),trivial⟩ ?_
 rintro fd Ff GC lH qB Bw ⟨gv,g9,rfl,rfl,pn⟩
 let j8:Res:=.blk ab 94 [.slice gv bd.bytes.length g9,jV bd.next,.int .u32 bd.state]
 have pH:SW w [B1] U fd [j8,B7,ai,aq,aJ,az,.blk b3 28 B0,au] lH:=Bw
 refine zk ?_ ?_
 refine zE 1 Z Z Z Z (zD Z Z yI (zB Z (zB Z zK)) Z) pH (fun hs=>wAS bd ab gv g9 (↑a6.length:Int) lH fd hs pn fN) (.inl Z) ?_
 rintro gN Fg GD rz Ev Bx ⟨jz,mi,rfl,rfl,xR⟩
 let j9:Res:=.blk ab 94 [.slice jz bi.bytes.length mi,jV bi.next,.int .u32 bi.state]
 have By:SW w [B1] U gN [j9,B7,ai,aq,aJ,az,.blk b3 28 B0,au] rz:=Bx
 let gD:List Value:=[jV bL,jV bM,jV bN,jV 0]
 let k3:List Value:=[jV 0,jV 0,jV 0,jV 0]
 refine oR Z (zo (pv:=[(0,jV bL),(1,jV bM),(2,jV bN)]) (z:=k3) (cs:=gD) Z (wAF Z (wAF Z (wAF Z wAO))) Zp wEl Z Z) (zT (cs:=k3) Z Z Z Z Z Zp Z By ?_)
 intro FL lX Bz
 refine zV (j:=0) (vs:=gD) Z Z Z Z Bz Z Z Z Z Ze (zA Z) Z Z Z ?_
 intro rA BA
 have BB:SW w [B1] U gN [.blk lX 39 gD,j9,B7,ai,aq,aJ,az,.blk b3 28 B0,au] rA:=BA
 refine zg ?_
 cases dU
 exact zL ⟨rfl,⟨gN,jz,mi,lX,bV,fI,bW,fJ,fK,rfl,dP,dS,((iY.trans qB).trans Ev),(BB.pick [1,2,3,4,5,6,7,8,0] _ (by decide) rfl),xR⟩⟩
 let eY:List Value:=[jV 0,jV 0,jV 0,jV 0]
 refine zT (cs:=eY) Z Z Z Z Z Zp Z pH ?_
 intro lI fg BC
 have BD:SW w [B1] U fd [j8,.blk fg 39 eY,B7,ai,aq,aJ,az,.blk b3 28 B0,au] lI:=BC.pick [1,0,2,3,4,5,6,7,8] _ (by decide) rfl
 refine zE 1 Z Z Z Z (zD Z Z yI (zB Z (zB Z zK)) Z) BD (fun hs=>wAS bd ab gv g9 (↑a6.length:Int) lI fd hs pn fN) (.inl Z) ?_
 rintro gO Fh GE rC Ew BE ⟨jA,mj,rfl,rfl,xS⟩
 let k5:Res:=.blk ab 94 [.slice jA bi.bytes.length mj,jV bi.next,.int .u32 bi.state]
 have BF:SW w [B1] U gO [k5,.blk fg 39 eY,B7,ai,aq,aJ,az,.blk b3 28 B0,au] rC:=BE
 let gF:List Value:=[jV bL,jV bM,jV bN,jV 0]
 refine oR Z (zo (pv:=[(0,jV bL),(1,jV bM),(2,jV bN)]) (z:=eY) (cs:=gF) Z (wAF Z (wAF Z (wAF Z wAO))) Zp wEl Z Z) (zV (j:=1) (vs:=gF) Z Z Z Z BF Z Z Z Z Ze (zA Z) Z Z Z ?_)
 intro rD BG
 have BH:SW w [B1] U gO [k5,.blk fg 39 gF,B7,ai,aq,aJ,az,.blk b3 28 B0,au] rD:=BG
 refine zg ?_
 cases dU
 exact zL ⟨rfl,⟨gO,jA,mj,fg,bV,fI,bW,fJ,fK,rfl,dP,dS,((iY.trans qB).trans Ew),(BH.pick [0,2,3,4,5,6,7,8,1] _ (by decide) rfl),xS⟩⟩
 let di:List Value:=[jV 0,jV 0,jV 0,jV 0]
 refine zT (cs:=di) Z Z Z Z Z Zp Z pG ?_
 intro lJ dr BJ
 have BK:SW w [B1] U fc [j7,.blk dr 39 di,B7,ai,aq,aJ,az,.blk b3 28 B0,au] lJ:=BJ.pick [1,0,2,3,4,5,6,7,8] _ (by decide) rfl
 refine yg 1 rfl rfl rfl rfl (zD rfl rfl yI (zB rfl (zB rfl zK)) rfl) BK (fun hs=>wAS bD ab gu g8 (w64 ((↑ax.length:Int) + 1)) lJ fc hs pm iz) rfl (T:=[ab]) rfl ⟨fun b h=>(by cases h;exact .head _),trivial⟩ ?_
 rintro lq Fi GF lK Ex BL ⟨jB,ml,rfl,rfl,xT⟩
 have BM:SW w [B1] U lq [.blk ab 94 [.slice jB bd.bytes.length ml,jV bd.next,.int .u32 bd.state],.blk dr 39 di,B7,ai,aq,aJ,az,.blk b3 28 B0,au] lK:=BL
 refine zE 1 Z Z Z Z (zD Z Z yI (zB Z (zB Z zK)) Z) BM (fun hs=>wAS bd ab jB ml (↑a6.length:Int) lK lq hs xT fN) (.inl Z) ?_
 rintro gP Fj GG rE Ey BN ⟨jC,mm,rfl,rfl,xU⟩
 let k6:Res:=.blk ab 94 [.slice jC bi.bytes.length mm,jV bi.next,.int .u32 bi.state]
 have BP:SW w [B1] U gP [k6,.blk dr 39 di,B7,ai,aq,aJ,az,.blk b3 28 B0,au] rE:=BN
 let gG:List Value:=[jV bL,jV bM,jV bN,jV 0]
 refine oR Z (zo (pv:=[(0,jV bL),(1,jV bM),(2,jV bN)]) (z:=di) (cs:=gG) Z (wAF Z (wAF Z (wAF Z wAO))) Zp wEl Z Z) (zV (j:=1) (vs:=gG) Z Z Z Z BP Z Z Z Z Ze (zA Z) Z Z Z ?_)
 intro rF BQ
 have BR:SW w [B1] U gP [k6,.blk dr 39 gG,B7,ai,aq,aJ,az,.blk b3 28 B0,au] rF:=BQ
 refine zg ?_
 cases dU
 exact zL ⟨rfl,⟨gP,jC,mm,dr,bV,fI,bW,fJ,fK,rfl,dP,dS,((iY.trans Ex).trans Ey),(BR.pick [0,2,3,4,5,6,7,8,1] _ (by decide) rfl),xU⟩⟩
 let ct:List Value:=[jV 0,jV 0,jV 0,jV 0]
 refine zT (cs:=ct) Z Z Z Z Z Zp Z cJ ?_
 intro lL cw BS
 have BT:SW w [B1] U fb [.blk ab 94 [.slice co bZ.length cA,jV ek,.int .u32 en],.blk cw 39 ct,B7,ai,aq,aJ,az,.blk b3 28 B0,au] lL:=BS.pick [1,0,2,3,4,5,6,7,8] _ (by decide) rfl
 refine yg 1 rfl rfl rfl rfl (zD rfl rfl yI (zB rfl (zB rfl zK)) rfl) BT (fun hs=>wAS (⟨bZ,ek,en⟩:wAK) ab co cA (↑aw.length:Int) lL fb hs pj pk) rfl (T:=[ab]) rfl ⟨fun b h=>(by cases h;exact .head _),trivial⟩ ?_
 rintro ls Fk GH lM Ez BU ⟨jE,mo,rfl,rfl,xV⟩
 have BV:SW w [B1] U ls [.blk ab 94 [.slice jE bD.bytes.length mo,jV bD.next,.int .u32 bD.state],.blk cw 39 ct,B7,ai,aq,aJ,az,.blk b3 28 B0,au] lM:=BU
 refine yg 1 rfl rfl rfl rfl (zD rfl rfl yI (zB rfl (zB rfl zK)) rfl) BV (fun hs=>wAS bD ab jE mo (w64 ((↑ax.length:Int) + 1)) lM ls hs xV iz) rfl (T:=[ab]) rfl ⟨fun b h=>(by cases h;exact .head _),trivial⟩ ?_
 rintro lu Fm GI lN EA BW ⟨jF,mp,rfl,rfl,xW⟩
 have BX:SW w [B1] U lu [.blk ab 94 [.slice jF bd.bytes.length mp,jV bd.next,.int .u32 bd.state],.blk cw 39 ct,B7,ai,aq,aJ,az,.blk b3 28 B0,au] lN:=BW
 refine zE 1 Z Z Z Z (zD Z Z yI (zB Z (zB Z zK)) Z) BX (fun hs=>wAS bd ab jF mp (↑a6.length:Int) lN lu hs xW fN) (.inl Z) ?_
 rintro gQ Fo GJ rG EB BY ⟨jG,mq,rfl,rfl,xX⟩
 let k7:Res:=.blk ab 94 [.slice jG bi.bytes.length mq,jV bi.next,.int .u32 bi.state]
 have BZ:SW w [B1] U gQ [k7,.blk cw 39 ct,B7,ai,aq,aJ,az,.blk b3 28 B0,au] rG:=BY
 let gH:List Value:=[jV bL,jV bM,jV bN,jV 0]
 refine oR Z (zo (pv:=[(0,jV bL),(1,jV bM),(2,jV bN)]) (z:=ct) (cs:=gH) Z (wAF Z (wAF Z (wAF Z wAO))) Zp wEl Z Z) (zV (j:=1) (vs:=gH) Z Z Z Z BZ Z Z Z Z Ze (zA Z) Z Z Z ?_)
 intro rH Ca
 have Cb:SW w [B1] U gQ [k7,.blk cw 39 gH,B7,ai,aq,aJ,az,.blk b3 28 B0,au] rH:=Ca
 refine zg ?_
 cases dU
 exact zL ⟨rfl,⟨gQ,jG,mq,cw,bV,fI,bW,fJ,fK,rfl,dP,dS,((Ez.trans EA).trans EB),(Cb.pick [0,2,3,4,5,6,7,8,1] _ (by decide) rfl),xX⟩⟩
 rintro Hl lO ⟨lv,eE,fu,a8,oQ,wi,oS,oU,oV,cD,wj,wk,fY,dT,xY⟩
 refine sR fL8 Z (oR Z (zJ Z oS zQ Z Zm) (oL Z (dT.ldB (j:=5) Z Z Z yA (v:=.slice br a6.length bu) Z) (oR Z (zJ Z cD ZM Z zC) (oL Z (dT.ldB (j:=8) Z Z Z zG (v:=jV aY) Z) (bnK pV fun _ fO DK=>?_)))))
 obtain ⟨FV,pu⟩:=dT.rowSome (j:=3) rfl (by rw [wAE (f:=wAA) (sz:=3) (fun _=>rfl) a6];have hz:=wAa fO;omega)
 refine oR Z (ZO Z Z pu Z ZR Zw (wBl fO) (wBm fO)) (oR Z (zJ Z Z Zy Z zC) ?_)
 have Dz:=wBy (xs:=a6) (wAa fO)
 refine zl rfl rfl rfl rfl (dT.ldR (j:=3) rfl pu rfl rfl zG (wAj (sz:=3) (fun _=>rfl) _ _ 2 _ Dz (by first | omega | rfl | simp) rfl)) rfl (yD rfl rfl rfl rfl rfl rfl (eN (zM (ZA ZB [3,3,1004,3,1004,3,1004,3,1004,3,3,1004,3,1004,3,3,3,3,3,1005,3,3,3,0,ab] (wNF (.fx 19 (wMJ (.fx 23 .nil .stop)) .stop)) (by kernel_rfl) ?_))))
 have bA:=dT.drew
 generalize hw_W2138:({ lO with drawn:=lO.drawn + 1 }:World)=rI at bA ⊢
 refine zr rfl rfl rfl rfl rfl oU (zY rfl rfl rfl rfl (fun _=>zJ rfl cD ZM rfl zC) (OKS.mt (T:=[ab]) [0] [1,2,3,4,5,6,7,8] [B7,ai,aq,aJ,az,.blk b3 28 B0,au,.blk a8 39 bG] rfl rfl rfl rfl bA rfl ⟨⟨0,by decide,_,rfl,rfl⟩,trivial⟩ (by decide) rfl (by decide) (fun _ Df=>(Df.ldB (j:=7) rfl rfl rfl zG (v:=jV bC) rfl)) rfl (bnK DK fun f9 cE DL=>?_)))
 have xZ:=qm.le fW
 have po:=xZ.le fY
 have q:=po.el (wAW cE)
 obtain ⟨sj,EP,GT,Ay,iD,D0⟩:=q
 obtain ⟨qD,qF,rfl,x8⟩:=D0
 replace iD:Cl lv sj (EP + bC.toNat * 1) [.slice qD f9.length qF]:=iD
 refine zY rfl rfl rfl rfl (fun _=>ZO rfl rfl Ay rfl Zg zq (wBJ cE) (wBL cE)) (OKS.mt (T:=[ab]) [0] [1,2,3,4,5,6,7,8] [B7,ai,aq,aJ,az,.blk b3 28 B0,au,.blk a8 39 bG] rfl rfl rfl rfl bA rfl ⟨⟨0,by decide,_,rfl,rfl⟩,trivial⟩ (by decide) rfl (by decide) (fun _ Dg=>(Dg.ldC (f:=0) iD (v:=.slice qD f9.length qF) rfl rfl zy rfl)) rfl (zY rfl rfl rfl rfl (fun _=>zJ rfl cD ZM rfl zC) (OKS.mt (T:=[ab]) [0] [1,2,3,4,5,6,7,8] [B7,ai,aq,aJ,az,.blk b3 28 B0,au,.blk a8 39 bG] rfl rfl rfl rfl bA rfl ⟨⟨0,by decide,_,rfl,rfl⟩,trivial⟩ (by decide) rfl (by decide) (fun _ Dh=>(Dh.ldB (j:=7) rfl rfl rfl zG (v:=jV cd) rfl)) rfl (bnK DL fun bP cG DM=>?_))))
 have q:=x8.el (fun _=>rfl) (wAW cG)
 obtain ⟨FW,Gs,Az,AC⟩:=q
 refine zY rfl rfl rfl rfl (fun _=>ZO rfl rfl Az rfl zH zC (wBJ cG) (wBL cG)) (OKS.mt (T:=[ab]) [0] [1,2,3,4,5,6,7,8] [B7,ai,aq,aJ,az,.blk b3 28 B0,au,.blk a8 39 bG] rfl rfl rfl rfl bA rfl ⟨⟨0,by decide,_,rfl,rfl⟩,trivial⟩ (by decide) rfl (by decide) (fun _ Di=>(Di.ldC (f:=0) AC (v:=jV bP) rfl rfl zG rfl)) rfl (zr rfl rfl rfl rfl rfl oV (zY rfl rfl rfl rfl (fun _=>zJ rfl cD ZM rfl zC) (OKS.mt (T:=[ab]) [0] [1,2,3,4,5,6,7,8] [B7,ai,aq,aJ,az,.blk b3 28 B0,au,.blk a8 39 bG] rfl rfl rfl rfl bA rfl ⟨⟨0,by decide,_,rfl,rfl⟩,trivial⟩ (by decide) rfl (by decide) (fun _ Dj=>(Dj.ldB (j:=7) rfl rfl rfl zG (v:=jV aY) rfl)) rfl (bnK DM fun _ bX DN=>?_)))))
 obtain ⟨FX,fQ⟩:=bA.rowSome (j:=7) rfl (by rw [wAE (f:=KL.encI) (sz:=1) (fun _=>rfl) ba];have hz:=wAa bX;omega)
 refine oR Z (ZO Z Z fQ Z zH zC (wBl bX) (wBm bX)) ?_
 have DA:=wBy (xs:=ba) (wAa bX)
 refine OKS.mt (T:=[ab]) [0] [1,2,3,4,5,6,7,8] [B7,ai,aq,aJ,az,.blk b3 28 B0,au,.blk a8 39 bG] rfl rfl rfl rfl bA rfl ⟨⟨0,by decide,_,rfl,rfl⟩,trivial⟩ (by decide) rfl (by decide) (fun _ Dk=>(Dk.ldR (j:=6) rfl fQ rfl rfl zG (wAj (sz:=1) (fun _=>rfl) _ _ 0 _ DA (by first | omega | rfl | simp) rfl))) rfl (zY rfl rfl rfl rfl (fun _=>zf rfl rfl rfl) (zr rfl rfl rfl rfl rfl oQ (zr rfl rfl rfl rfl rfl rfl (zY rfl rfl rfl rfl (fun _=>Runs.negw rfl rfl) (zr rfl rfl rfl rfl rfl rfl ?_)))))
 have q:=bnd DN
 obtain ⟨⟨cM,i6⟩,yw,pY⟩:=q
 try dsimp only at pY
 refine yg 1 rfl rfl rfl rfl (zD rfl rfl Try.call31 (zB rfl (zB rfl (zB rfl zK))) rfl) bA (fun hs=>wAg (⟨fU,qH,qI⟩:wAK) ab eE fu (w64 (-((gd a6 aY.toNat).Error))) ((gd a6 aY.toNat).Error) rI lv hs xY yw) rfl (T:=[ab]) rfl ⟨fun b h=>(by cases h;exact .head _),trivial⟩ ?_
 rintro bt Fp GK rJ fZ Cd ⟨eH,fy,rfl,rfl,iA⟩
 let dk:Res:=.blk ab 94 [.slice eH i6.bytes.length fy,jV i6.next,.int .u32 i6.state]
 have Ce:SW w [B1] U bt [dk,B7,ai,aq,aJ,az,.blk b3 28 B0,au,.blk a8 39 bG] rJ:=Cd
 refine oR Z (zf Z Z Z) (oR Z (Runs.max Z Z Z) (oR Z (zJ Z cD ZM Z zC) (zV (j:=8) (vs:=[jV (max 0 (w64 ((w64 (bP + (gd ba aY.toNat))) + cM)))]) Z Z Z Z Ce Z Z Z Z zC (zA Z) Z Z Z ?_)))
 intro gV Cf
 let bS:List Value:=[jV bC,jV cd,jV aY,jV (max 0 (w64 ((w64 (bP + (gd ba aY.toNat))) + cM)))]
 have Cg:SW w [B1] U bt [dk,B7,ai,aq,aJ,az,.blk b3 28 B0,au,.blk a8 39 bS] gV:=Cf
 refine eN (zM (yX fun bE bp=>?_))
 have im:bE 0=.pointer (some ⟨ab,0,none⟩):=(bp 0).trans oQ
 have io:bE 8=.pointer (some ⟨b3,0,none⟩):=(bp 8).trans wi
 have dQ:bE 11=.pointer (some ⟨b7,0,none⟩):=(bp 11).trans oS
 have fL:bE 12=.slice aT a5.length aU:=(bp 12).trans oU
 have fM:bE 13=.slice cn ba.length cz:=(bp 13).trans oV
 have dR:bE 22=.pointer (some ⟨a8,0,none⟩):=(bp 22).trans cD
 have oX:bE 23=jV ((gd a6 aY.toNat).Error):=(bp 23).trans rfl
 have ip:bE 133=jV cL:=(bp 133).trans wj
 have iq:bE 134=jV (↑bY:Int):=(bp 134).trans wk
 clear bp
 refine ZA ZB [3,1,3,3,1,3,1,3,1,3,1,3,3,3,1,3,1,3,3] fL19 (by kernel_rfl) ?_
 have bb:=Cg.drew
 generalize hw_W2200:({ gV with drawn:=gV.drawn + 1 }:World)=FN at bb ⊢
 refine oR Z (zJ Z dR ZM Z zC) (oL Z (bb.ldB (j:=8) Z Z Z zG (v:=jV (max 0 (w64 ((w64 (bP + (gd ba aY.toNat))) + cM)))) Z) (oM Z fL (oR Z (zJ Z dR ZM Z zC) (oL Z (bb.ldB (j:=8) Z Z Z zG (v:=jV bC) Z) ?_))))
 have yy:=po.le fZ
 have q:=yy.el (wAW cE)
 obtain ⟨sk,EQ,GU,AA,iE,D1⟩:=q
 obtain ⟨qE,qG,rfl,y4⟩:=D1
 replace iE:Cl bt sk (EQ + bC.toNat * 1) [.slice qE f9.length qG]:=iE
 refine oR Z (ZO Z Z AA Z Zg zq (wBJ cE) (wBL cE)) (oL Z (bb.ldC (f:=0) iE (v:=.slice qE f9.length qG) Z Z zy Z) (oR Z (zJ Z dR ZM Z zC) (oL Z (bb.ldB (j:=8) Z Z Z zG (v:=jV cd) Z) ?_)))
 have q:=y4.el (fun _=>rfl) (wAW cG)
 obtain ⟨FY,Gt,AB,AD⟩:=q
 refine oR Z (ZO Z Z AB Z zH zC (wBJ cG) (wBL cG)) (oL Z (bb.ldC (f:=0) AD (v:=jV bP) Z Z zG Z) (oR Z (yH Z Z Z) (oM Z fM (oR Z (zJ Z dR ZM Z zC) (oL Z (bb.ldB (j:=8) Z Z Z zG (v:=jV aY) Z) (oR Z (ZO Z Z fQ Z zH zC (wBl bX) (wBm bX)) ?_))))))
 have DB:=wBy (xs:=ba) (wAa bX)
 refine zl rfl rfl rfl rfl (bb.ldR (j:=7) rfl fQ rfl rfl zG (wAj (sz:=1) (fun _=>rfl) _ _ 0 _ DB (by first | omega | rfl | simp) rfl)) rfl (zY rfl rfl rfl rfl (fun _=>yH rfl rfl rfl) (yD rfl rfl rfl rfl rfl rfl (eN (sR fL9 rfl (zr rfl rfl rfl rfl rfl rfl (zr rfl rfl rfl rfl rfl oX (zY rfl rfl rfl rfl (fun _=>Runs.negw rfl rfl) (zY rfl rfl rfl rfl (fun _=>Runs.geq rfl rfl rfl) (zr rfl rfl rfl rfl rfl rfl (ifc pY ?_ ?_))))))))))
 intro bv DO
 refine zr Z Z Z (wT Z bv) Z Z (zr Z Z Z (wT Z bv) Z oX (rU Z (wT Z bv) (Runs.leq Z Z Z) (oR Z (zR Z (Zh bv.out) Z) (eN (ifc DO ?_ ?_)))))
 intro ib DP
 refine cT Z ib (rR (wCa (.fx 3 (.fx 4 (.fl 5 (.fx 6 .nil .stop)) .stop) .stop)) Z (oR Z (zJ Z dQ zQ Z Zr) (oL Z (bb.ldB (j:=5) Z Z Z yM (v:=.slice bF ca.length bH) Z) (oL Z (bb.ldBA (j:=8) Z Z dR yo Ze (vs:=bS) Z Z) (ZE (pv:=[(0,.agg bS.toArray)]) (zs:=[jV 0,jV 0,jV 0,jV 0]) (cs:=bS) Z Z Z Z Z (wAF Z wAO) ZX Ze Zp Z Z Z Z Z bb ?_)))))
 intro rK sl Ch
 let gI:Res:=.row (some ⟨sl,0,none⟩) 1 39 4 (hD wAB [(⟨bC,cd,aY,max 0 (w64 ((w64 (bP + (gd ba aY.toNat))) + cM))⟩:wAL)])
 have pI:SW w [B1] U bt [gI,dk,B7,ai,aq,aJ,az,.blk b3 28 B0,au,.blk a8 39 bS] rK:=Ch
 refine bnK DP fun ga y5 DQ=>yP (j:=5) (enc:=wAB) (xs:=ca) (ys:=[(⟨bC,cd,aY,max 0 (w64 ((w64 (bP + (gd ba aY.toNat))) + cM))⟩:wAL)]) (zs:=ga) rfl rfl rfl rfl rfl Try.underlying26 wKH rfl rfl rfl rfl rfl rfl pI rfl rfl rfl (pI.srcR (j:=0) rfl (by decide) (wAE (f:=wAB) (sz:=4) (fun _=>rfl) [(⟨bC,cd,aY,max 0 (w64 ((w64 (bP + (gd ba aY.toNat))) + cM))⟩:wAL)])) (fun _=>rfl) (fun _=>rfl) y5 rfl ?_
 intro eI fz rL Ci
 let k9:Res:=.row eI fz 39 4 (hD wAB ga)
 have Cj:SW w [B1] U bt [gI,dk,B7,ai,aq,k9,az,.blk b3 28 B0,au,.blk a8 39 bS] rL:=Ci
 refine oR Z (zJ Z dQ zQ Z Zr) (zV (j:=6) (vs:=[.slice eI ga.length fz]) Z Z Z Z Cj Z Z Z Z Zr (zA Z) Z Z Z ?_)
 intro rM Ck
 have Cm:SW w [B1] U bt [gI,dk,B7,ai,aq,k9,.blk b7 28 [.slice aP aw.length aQ,.slice aV ax.length aW,.slice br a6.length bu,.slice eI ga.length fz],.blk b3 28 B0,au,.blk a8 39 bS] rM:=Ck
 refine zg (ZH (zL (rR fL2 Z (oR Z (ZS (zf Z iq Z) (congrArg (jV) iK.out)) (oM Z Z (zg ?_))))))
 cases DQ
 exact zL ⟨rfl,⟨bt,eH,fy,eI,fz,rfl,im,io,dQ,fL,fM,ip,((fW.trans fY).trans fZ),(Cm.pick [1,2,3,4,5,6,7,8] _ (by decide) rfl),iA⟩⟩
 intro ib DR
 refine cF Z ib (Zl (ZH (zL (rR fL2 Z (oR Z (ZS (zf Z iq Z) (congrArg (jV) iK.out)) (oM Z Z (zg ?_)))))))
 cases DR
 exact zL ⟨rfl,⟨bt,eH,fy,bF,bH,rfl,im,io,dQ,fL,fM,ip,((fW.trans fY).trans fZ),(bb.pick [0,1,2,3,4,5,6,7] _ (by decide) rfl),iA⟩⟩
 intro bv DS
 refine oF Z bv (oF Z bv (oF Z bv (oR Z (zb Z (zd bv.out) Z) (eN (zn Z (Zl (ZH (zL (rR fL2 Z (oR Z (ZS (zf Z iq Z) (congrArg (jV) iK.out)) (oM Z Z (zg ?_))))))))))))
 cases DS
 exact zL ⟨rfl,⟨bt,eH,fy,bF,bH,rfl,im,io,dQ,fL,fM,ip,((fW.trans fY).trans fZ),(bb.pick [0,1,2,3,4,5,6,7] _ (by decide) rfl),iA⟩⟩
 rintro Hm FO ⟨lw,jI,ms,gw,ic,xq,Gi,oY,ws,wt,wu,wv,EC,pJ,y7⟩
 have sA:Hid (¬ ((↑((cL:Int) - 0).toNat:Int) < cL)):=zS (wAh)
 refine sR fL1 Z (oR Z (zh Z xq wv) (eN (zM (cF Z sA (Zf (zx (zx (Zc (zL (sR (wCa gAu) Z ?_))))))))))
 let cu:List Value:=[.slice aP aw.length aQ,.slice aV ax.length aW,.slice br a6.length bu,.slice gw qK.length ic]
 refine oL Z (pJ.ldBA (j:=5) Z Z ws ze zZ (vs:=cu) Z Z) (oM Z wt (oM Z wu (zV (j:=6) (vs:=cu) Z Z Z Z pJ Z oY Z Z zZ (zA Z) Z Z Z ?_)))
 intro rN Cn
 have pK:SW w [B1] U lw [.blk ab 94 [.slice jI ES.length ms,jV ET,.int .u32 EU],B7,ai,aq,.row gw ic 39 4 (hD wAB qK),.blk b7 28 cu,.blk b3 28 cu,au] rN:=Cn
 refine oA Z Z (oA Z Z (eN (zU ?_)))
 have y8:=qm.le EC
 cases pU
 exact ⟨rfl,_,(wCT (rs:=[.cell 8 28,.tmp 9,.tmp 10]) (vs:=[.agg cu.toArray,.slice aT a5.length aU,.slice cn ba.length cz]) ⟨⟨_,oY,(wAy ze zZ (pK.blkAt (k:=6) rfl) (vs:=cu) rfl rfl)⟩,⟨rfl,⟨rfl,trivial⟩⟩⟩ rfl),lw,_,(pK.pick [1,2,3,4,7,0] _ (by decide) rfl),aP,aQ,aV,aW,br,bu,gw,ic,aT,aU,cn,cz,jI,ms,rfl,rfl,y8,y7⟩
end Go.Proofs.Ytlnfbjphfoipaaa
namespace Go.Proofs.Ytlnfbjphfoipaaa
open Go.KL
set_option maxHeartbeats 4000000
theorem wBb (p0:Int) (p1:Int) (p2:Int) (w:World) (U:PHeap) (hS:St0 w U [])  {r:Bool} (hm:wBE p0 p1 p2=some r):Gv Try.prog 75 [jV p0,jV p1,jV p2] w (wCB w [] U (fun U_ L_ v=>v=.bool r/\L_=[])):=by
 unfold wBE at hm
 refine Gv.of Try.func75 Z Try.ntmps75 Try.results75 Z (sR fL1 Z (oA Z Z (eN (sR fL9 Z (oM Z Z (oM Z Z (oR Z (Runs.geq Z Z Z) (oM Z Z ?_))))))))
 by_cases c1:p1 <= p0
 have ab:=hm;rw [if_pos c1] at ab;replace c1:=zS c1
 refine zr Z Z Z (wT Z c1) Z Z (zr Z Z Z (wT Z c1) Z Z (rU Z (wT Z c1) (Runs.leq Z Z Z) (oR Z (zR Z (Zh c1.out) Z) (oA Z Z (eN (zU ?_))))))
 first | (obtain rfl:=hJ ab) | cases ab
 exact ⟨Z,_,(ZL Z),U,_,hS,Z,Z⟩
 have af:=hm;rw [if_neg c1] at af;replace c1:=zS c1
 refine oF Z c1 (oF Z c1 (oF Z c1 (oR Z (zb Z (zd c1.out) Z) (oA Z Z (eN (zU ?_))))))
 have hE:=hJ af;first | subst r | cases hE
 exact ⟨Z,_,(ZL Z),U,_,hS,Z,Z⟩
theorem wCv (p0:List Int) (ak:Option Addr) (am:Nat) (p1:(Int->Option Bool)) (an:Value) (w:World) (U:PHeap) (hS:St0 w U []) (aY:Sl U 1 ak am p0.length (hD KL.encI p0)) (aZ:FnOK Try.prog U an wKB wKC p1) {r:Bool} (hm:wBR p0 p1=some r):Gv Try.prog 79 [.slice ak p0.length am,an] w (wCB w [] U (fun U_ L_ v=>v=.bool r/\L_=[])):=by
 unfold wBR at hm
 refine Gv.of Try.func79 Z Try.ntmps79 Try.results79 Z (sR fL1 Z (oA Z Z (eN (zM (sR fL3 Z (oM Z Z (oR Z (zz Z Z zH) (oM Z Z (eN (zc ?_))))))))))
 have q:=wBg hm
 obtain ⟨r3,ag⟩:=q
 have q:=wBf ag
 obtain ⟨ai,a7⟩:=q
 replace ai:=zS ai
 refine yL (fun k2 _ σ_ w_=>∃ (U_:PHeap),σ_ 9=jV (↑k2:Int)/\σ_ 1=an/\σ_ 7=.slice ak p0.length am/\σ_ 8=jV (↑p0.length:Int)/\PHeap.Le U U_/\sW w U U_ [] w_) a7 ?_ ?_ ?_
 exact ⟨U,Z,Z,Z,Z,(zW _),hS⟩
 rintro k2 ⟨⟩ bt bv W8 ah ⟨bh,af,ap,aq,au,aj,aw⟩ az a5
 try dsimp only at az
 have ao:Hid ((↑k2:Int) < (↑p0.length:Int)):=zS (wBD ah)
 replace ah:=zS ah
 have a8:Hid (w64 ((↑k2:Int) + 1)=(↑(k2 + 1):Int)):=zS (by have h1:=ai.out;have h2:=ao.out;rw [wAU] <;> omega)
 refine sR fL1 Z (oR Z (zh Z af au) (eN (zM (cT Z ao (kN (zM (zc (sR fL3 Z (bnK az fun aK av a9=>?_)))))))))
 have aR:=aY.le aj
 have q:=aR.el (fun _=>rfl) (wAW av)
 obtain ⟨bk,bp,aU,aV⟩:=q
 refine oR Z (Zi Z aq aU af zH zC (wBi av)) (oL Z (aw.ldC (f:=0) aV (v:=jV aK) Z Z zG Z) (oA Z Z (eN (sR gBd Z (oM Z ap (oM Z Z (bnK a9 fun bs aS ba=>?_)))))))
 have aT:=aZ.le aj
 refine yv (a:=aK) Z Z Z Z Z Z (zB Z zK) aw aT Z aS ?_
 rintro ac bg br aM be aW ⟨rfl,rfl⟩
 have ax:sW w U ac [] aM:=aW
 refine oR Z (ZT Z Z) (eN (ifc ba ?_ ?_))
 intro ae bb
 refine zn (nC ae.out) (Zl (ZH (zL (rR fL2 Z (oR Z (ZS (zf Z af Z) (congrArg (jV) a8.out)) (oM Z Z (zg ?_)))))))
 obtain rfl:=hJ bb
 exact zL ⟨Z,_,Z,⟨ac,Z,ap,aq,au,(aj.trans be),ax⟩⟩
 intro ae bc
 refine ZD (nF (ae.out)) (sR fL1 Z (oA Z Z (eN (zU (zX (zN ?_))))))
 have q:=wAV bc
 obtain ⟨bf,bd,aO⟩:=q
 obtain rfl:=wAk hm ag (a5 bf aO)
 refine zN (zX (zN ?_))
 have hE:=hJ bd;first | subst r | cases hE
 exact ⟨Z,_,(ZL Z),ac,_,ax,Z,Z⟩
 rintro ⟨⟩ bu bi ⟨aL,aQ,bm,bn,aP,bo,aX⟩ a6
 have ay:=wCV hm ag a6
 try dsimp only at ay
 have aN:Hid (¬ ((↑(((↑p0.length:Int):Int) - 0).toNat:Int) < (↑p0.length:Int))):=zS (wAh)
 refine sR fL1 Z (oR Z (zh Z aQ aP) (eN (zM (cF Z aN (Zf (zx (zx (Zc (zL (sR fL1 Z (oA Z Z (eN (zU ?_)))))))))))))
 have hE:=hJ ay;first | subst r | cases hE
 exact ⟨Z,_,(ZL Z),aL,_,aX,Z,Z⟩
theorem wGn (p0:Int) (w:World) (U:PHeap) (hS:St0 w U [])  {r:Bool} (hm:wCf p0=some r):Gv Try.prog 92 [jV p0] w (wCB w [] U (fun U_ L_ v=>v=.bool r/\L_=[])):=by
 unfold wCf at hm
 refine Gv.of Try.func92 Z Try.ntmps92 Try.results92 Z (sR fL1 Z (oA Z Z (eN (sR gAr Z (oM Z Z (bnK hm fun x1 h2 ah=>zE 0 Z Z Z Z (zD Z Z yJ (zB Z (zB Z (zB Z zK))) Z) hS (fun hs=>wBb p0 0 360000 w U hs h2) (.inr Z) ?_))))))
 rintro U4 L5 v6 W7 aj ag ⟨rfl,rfl⟩
 have af:sW w U U4 [] W7:=ag
 refine oA Z Z (eN (zU ?_))
 have hE:=hJ ah;first | subst r | cases hE
 exact ⟨Z,_,(ZL Z),U4,_,af,Z,Z⟩
theorem wEs (p0:List wAJ) (an:Option Addr) (ao:Nat) (p1:(wAJ->Option Bool)) (ap:Value) (w:World) (U:PHeap) (hS:St0 w U []) (ba:Sl U 2 an ao p0.length (hD wAG p0)) (bb:FnOK Try.prog U ap wMd wMe p1) {r:Bool} (hm:wBe p0 p1=some r):Gv Try.prog 93 [.slice an p0.length ao,ap] w (wCB w [] U (fun U_ L_ v=>v=.bool r/\L_=[])):=by
 unfold wBe at hm
 refine Gv.of Try.func93 Z Try.ntmps93 Try.results93 Z (sR fL1 Z (oA Z Z (eN (zM (sR fL3 Z (oM Z Z (oR Z (zz Z Z ZQ) (oM Z Z (eN (zc ?_))))))))))
 have q:=wBg hm
 obtain ⟨r3,ai⟩:=q
 have q:=wBf ai
 obtain ⟨ak,be⟩:=q
 replace ak:=zS ak
 refine yL (fun k2 _ σ_ w_=>∃ (U_:PHeap),σ_ 9=jV (↑k2:Int)/\σ_ 1=ap/\σ_ 7=.slice an p0.length ao/\σ_ 8=jV (↑p0.length:Int)/\PHeap.Le U U_/\sW w U U_ [] w_) be ?_ ?_ ?_
 exact ⟨U,Z,Z,Z,Z,(zW _),hS⟩
 rintro k2 ⟨⟩ bB bD W8 aj ⟨aO,ah,av,aw,ax,am,az⟩ aM bc
 try dsimp only at aM
 have au:Hid ((↑k2:Int) < (↑p0.length:Int)):=zS (wBD aj)
 replace aj:=zS aj
 have bf:Hid (w64 ((↑k2:Int) + 1)=(↑(k2 + 1):Int)):=zS (by have h1:=ak.out;have h2:=au.out;rw [wAU] <;> omega)
 refine sR fL1 Z (oR Z (zh Z ah ax) (eN (zM (cT Z au (kN (zM (zc (sR gBe Z (bnK aM fun ac ay bg=>?_)))))))))
 have aW:=ba.le am
 have q:=aW.el (fun _=>rfl) (wAW ay)
 obtain ⟨bs,bw,aZ,a5⟩:=q
 refine oR Z (Zi Z aw aZ ah ZQ zj (wBi ay)) (oL Z (az.ldCA (f:=0) a5 Z Z Zn zj (us:=[jV ac.Lo,jV ac.Hi]) Z Z) (zT (cs:=[jV 0,jV 0]) Z Z Z Z Z ZJ Z az ?_))
 intro bp aq a6
 let B0:List Value:=[jV ac.Lo,jV ac.Hi]
 refine zV (j:=0) (vs:=B0) Z Z Z Z a6 Z Z Z Z zj (zA Z) Z Z Z ?_
 intro aQ a7
 have aJ:sW w U aO [.blk aq 41 B0] aQ:=a7
 refine eN (sR gBd Z (oM Z av (oL Z (aJ.ldBA (j:=0) Z Z Z Zn zj (vs:=B0) Z Z) (bnK bg fun bA aX bh=>?_))))
 have aY:=bb.le am
 refine yv (a:=ac) Z Z Z Z Z Z (zB Z zK) aJ aY Z aX ?_
 rintro af bo bz aR bm a8 ⟨rfl,rfl⟩
 have aK:sW w U af [.blk aq 41 B0] aR:=a8
 refine oR Z (ZT Z Z) (eN (ifc bh ?_ ?_))
 intro ag bi
 refine zn (nC ag.out) (Zl (ZH (zL (rR fL2 Z (oR Z (ZS (zf Z ah Z) (congrArg (jV) bf.out)) (oM Z Z (zg ?_)))))))
 obtain rfl:=hJ bi
 exact zL ⟨rfl,_,rfl,⟨af,rfl,av,aw,ax,(am.trans bm),(aK.pick [] _ (by decide) rfl)⟩⟩
 intro ag bj
 refine ZD (nF (ag.out)) (sR fL1 Z (oA Z Z (eN (zU (zX (zN ?_))))))
 have q:=wAV bj
 obtain ⟨bn,bk,aT⟩:=q
 obtain rfl:=wAk hm ai (bc bn aT)
 refine zN (zX (zN ?_))
 have hE:=hJ bk;first | subst r | cases hE
 exact ⟨rfl,_,(ZL rfl),af,_,(aK.pick [] _ (by decide) rfl),rfl,rfl⟩
 rintro ⟨⟩ bC bq ⟨aP,aV,bt,bu,aU,bv,a9⟩ bd
 have aL:=wCV hm ai bd
 try dsimp only at aL
 have aS:Hid (¬ ((↑(((↑p0.length:Int):Int) - 0).toNat:Int) < (↑p0.length:Int))):=zS (wAh)
 refine sR fL1 Z (oR Z (zh Z aV aU) (eN (zM (cF Z aS (Zf (zx (zx (Zc (zL (sR fL1 Z (oA Z Z (eN (zU ?_)))))))))))))
 have hE:=hJ aL;first | subst r | cases hE
 exact ⟨Z,_,(ZL Z),aP,_,a9,Z,Z⟩
theorem wFL (p0:wAJ) (p1:Int) (p2:Int) (w:World) (U:PHeap) (hS:St0 w U [])  {r:Bool} (hm:wCg p0 p1 p2=some r):Gv Try.prog 95 [.agg #[jV p0.Lo,jV p0.Hi],jV p1,jV p2] w (wCB w [] U (fun U_ L_ v=>v=.bool r/\L_=[])):=by
 unfold wCg at hm
 refine Gv.of Try.func95 rfl Try.ntmps95 Try.results95 rfl (sR gAk rfl (zu (cs:=[jV p0.Lo,jV p0.Hi]) rfl rfl rfl rfl rfl rfl (by rfl) hS ?_))
 intro W1 b2 ae
 refine oA Z Z (eN (sR fL18 Z (oR Z (zJ Z Z ZK Z zC) (oL Z (ae.ldB (j:=0) Z Z Z zG (v:=jV p0.Lo) Z) (oR Z (zJ Z Z ZK Z zC) (oL Z (ae.ldB (j:=0) Z Z Z zG (v:=jV p0.Hi) Z) (oR Z (Runs.leq Z Z Z) (oM Z Z ?_))))))))
 by_cases c5:p0.Lo <= p0.Hi
 have ag:=hm;rw [if_pos c5] at ag;replace c5:=zS c5
 refine rU Z (wT Z c5) (zJ Z Z ZK Z zC) (zl Z Z Z (wT Z c5) (ae.ldB (j:=0) Z Z Z zG (v:=jV p0.Lo) Z) Z (zr Z Z Z (wT Z c5) Z Z (rU Z (wT Z c5) (Runs.geq Z Z Z) (oR Z (zR Z (Zh c5.out) Z) (oM Z Z (ifc ag ?_ ?_))))))
 intro c7 ah
 refine rU Z (wT Z c7) (zJ Z Z ZK Z zC) (zl Z Z Z (wT Z c7) (ae.ldB (j:=0) Z Z Z zG (v:=jV p0.Hi) Z) Z (zr Z Z Z (wT Z c7) Z Z (rU Z (wT Z c7) (Runs.leq Z Z Z) (oR Z (zR Z (Zh c7.out) Z) (oA Z Z (eN (zU ?_)))))))
 first | (obtain rfl:=hJ ah) | cases ah
 exact ⟨rfl,_,(ZL rfl),U,_,(ae.pick [] _ (by decide) rfl),rfl,rfl⟩
 intro c7 ak
 refine oF Z c7 (oF Z c7 (oF Z c7 (oF Z c7 (oR Z (zb Z (zd c7.out) Z) (oA Z Z (eN (zU ?_)))))))
 have hE:=hJ ak;first | subst r | cases hE
 exact ⟨rfl,_,(ZL rfl),U,_,(ae.pick [] _ (by decide) rfl),rfl,rfl⟩
 have af:=hm;rw [if_neg c5] at af;replace c5:=zS c5
 refine oF Z c5 (oF Z c5 (oF Z c5 (oF Z c5 (oR Z (zb Z (zd c5.out) Z) (oM Z Z (oN Z (oN Z (oN Z (oN Z (oR Z (zb Z Z Z) (oA Z Z (eN (zU ?_)))))))))))))
 have hE:=hJ af;first | subst r | cases hE
 exact ⟨rfl,_,(ZL rfl),U,_,(ae.pick [] _ (by decide) rfl),rfl,rfl⟩
theorem wGo (p0:wAJ) (w:World) (U:PHeap) (hS:St0 w U [])  {r:Bool} (hm:wCh p0=some r):Gv Try.prog 94 [.agg #[jV p0.Lo,jV p0.Hi]] w (wCB w [] U (fun U_ L_ v=>v=.bool r/\L_=[])):=by
 unfold wCh at hm
 refine Gv.of Try.func94 Z Try.ntmps94 Try.results94 Z (sR gAk Z ?_)
 let B0:List Value:=[jV p0.Lo,jV p0.Hi]
 refine zu (cs:=B0) rfl rfl rfl rfl rfl rfl (by rfl) hS ?_
 intro W1 b2 ae
 refine oA Z Z (eN (sR gAr Z (oL Z (ae.ldBA (j:=0) Z Z Z Zn zj (vs:=B0) Z Z) (bnK hm fun x5 h6 am=>zE 0 Z Z Z Z (zD Z Z Try.call95 (zB Z (zB Z (zB Z zK))) Z) ae (fun hs=>wFL p0 0 360000 W1 U hs h6) (.inr Z) ?_))))
 rintro U8 L9 ap ag ao aj ⟨rfl,rfl⟩
 have ak:sW w U U8 [.blk b2 41 B0] ag:=aj
 refine oA Z Z (eN (zU ?_))
 have hE:=hJ am;first | subst r | cases hE
 exact ⟨rfl,_,(ZL rfl),U8,_,(ak.pick [] _ (by decide) rfl),rfl,rfl⟩
theorem wEY (p0:List wAM) (an:Option Addr) (ao:Nat) (p1:(wAM->Option Bool)) (ap:Value) (w:World) (U:PHeap) (hS:St0 w U []) (ba:Sl U 3 an ao p0.length (hD wAA p0)) (bb:FnOK Try.prog U ap wMf wMg p1) {r:Bool} (hm:wBS p0 p1=some r):Gv Try.prog 96 [.slice an p0.length ao,ap] w (wCB w [] U (fun U_ L_ v=>v=.bool r/\L_=[])):=by
 unfold wBS at hm
 refine Gv.of Try.func96 Z Try.ntmps96 Try.results96 Z (sR fL1 Z (oA Z Z (eN (zM (sR fL3 Z (oM Z Z (oR Z (zz Z Z ZR) (oM Z Z (eN (zc ?_))))))))))
 have q:=wBg hm
 obtain ⟨r3,ai⟩:=q
 have q:=wBf ai
 obtain ⟨ak,be⟩:=q
 replace ak:=zS ak
 refine yL (fun k2 _ σ_ w_=>∃ (U_:PHeap),σ_ 9=jV (↑k2:Int)/\σ_ 1=ap/\σ_ 7=.slice an p0.length ao/\σ_ 8=jV (↑p0.length:Int)/\PHeap.Le U U_/\sW w U U_ [] w_) be ?_ ?_ ?_
 exact ⟨U,Z,Z,Z,Z,(zW _),hS⟩
 rintro k2 ⟨⟩ bB bD W8 aj ⟨aO,ah,av,aw,ax,am,az⟩ aM bc
 try dsimp only at aM
 have au:Hid ((↑k2:Int) < (↑p0.length:Int)):=zS (wBD aj)
 replace aj:=zS aj
 have bf:Hid (w64 ((↑k2:Int) + 1)=(↑(k2 + 1):Int)):=zS (by have h1:=ak.out;have h2:=au.out;rw [wAU] <;> omega)
 refine sR fL1 Z (oR Z (zh Z ah ax) (eN (zM (cT Z au (kN (zM (zc (sR gBe Z (bnK aM fun ab ay bg=>?_)))))))))
 have aW:=ba.le am
 have q:=aW.el (fun _=>rfl) (wAW ay)
 obtain ⟨bs,bw,aZ,a5⟩:=q
 refine oR Z (Zi Z aw aZ ah ZR Zw (wBi ay)) (oL Z (az.ldCA (f:=0) a5 Z Z Try.isAgg43 Zw (us:=[jV ab.Offset.Lo,jV ab.Offset.Hi,jV ab.Error]) Z Z) (zT (cs:=[jV 0,jV 0,jV 0]) Z Z Z Z Z yd Z az ?_))
 intro bp aq a6
 let B0:List Value:=[jV ab.Offset.Lo,jV ab.Offset.Hi,jV ab.Error]
 refine zV (j:=0) (vs:=B0) Z Z Z Z a6 Z Z Z Z Zw (zA Z) Z Z Z ?_
 intro aQ a7
 have aJ:sW w U aO [.blk aq 43 B0] aQ:=a7
 refine eN (sR gBd Z (oM Z av (oL Z (aJ.ldBA (j:=0) Z Z Z Try.isAgg43 Zw (vs:=B0) Z Z) (bnK bg fun bA aX bh=>?_))))
 have aY:=bb.le am
 refine yv (a:=ab) Z Z Z Z Z Z (zB Z zK) aJ aY Z aX ?_
 rintro af bo bz aR bm a8 ⟨rfl,rfl⟩
 have aK:sW w U af [.blk aq 43 B0] aR:=a8
 refine oR Z (ZT Z Z) (eN (ifc bh ?_ ?_))
 intro ag bi
 refine zn (nC ag.out) (Zl (ZH (zL (rR fL2 Z (oR Z (ZS (zf Z ah Z) (congrArg (jV) bf.out)) (oM Z Z (zg ?_)))))))
 obtain rfl:=hJ bi
 exact zL ⟨rfl,_,rfl,⟨af,rfl,av,aw,ax,(am.trans bm),(aK.pick [] _ (by decide) rfl)⟩⟩
 intro ag bj
 refine ZD (nF (ag.out)) (sR fL1 Z (oA Z Z (eN (zU (zX (zN ?_))))))
 have q:=wAV bj
 obtain ⟨bn,bk,aT⟩:=q
 obtain rfl:=wAk hm ai (bc bn aT)
 refine zN (zX (zN ?_))
 have hE:=hJ bk;first | subst r | cases hE
 exact ⟨rfl,_,(ZL rfl),af,_,(aK.pick [] _ (by decide) rfl),rfl,rfl⟩
 rintro ⟨⟩ bC bq ⟨aP,aV,bt,bu,aU,bv,a9⟩ bd
 have aL:=wCV hm ai bd
 try dsimp only at aL
 have aS:Hid (¬ ((↑(((↑p0.length:Int):Int) - 0).toNat:Int) < (↑p0.length:Int))):=zS (wAh)
 refine sR fL1 Z (oR Z (zh Z aV aU) (eN (zM (cF Z aS (Zf (zx (zx (Zc (zL (sR fL1 Z (oA Z Z (eN (zU ?_)))))))))))))
 have hE:=hJ aL;first | subst r | cases hE
 exact ⟨Z,_,(ZL Z),aP,_,a9,Z,Z⟩
theorem wGp (p0:wAM) (w:World) (U:PHeap) (hS:St0 w U [])  {r:Bool} (hm:wCi p0=some r):Gv Try.prog 97 [.agg #[jV p0.Offset.Lo,jV p0.Offset.Hi,jV p0.Error]] w (wCB w [] U (fun U_ L_ v=>v=.bool r/\L_=[])):=by
 unfold wCi at hm
 refine Gv.of Try.func97 Z Try.ntmps97 Try.results97 Z (sR gAk Z ?_)
 let B0:List Value:=[jV p0.Offset.Lo,jV p0.Offset.Hi,jV p0.Error]
 refine zu (cs:=B0) rfl rfl rfl rfl rfl rfl (by rfl) hS ?_
 intro W1 b2 aj
 refine oA Z Z (eN (sR (.fl 0 (.fl 1 (.fx 2 (wJk gAp) .stop))) Z (oR Z (zJ Z Z Zy Z zj) (oL Z (aj.ldBA (j:=0) Z Z Z Zn zj (vs:=[jV p0.Offset.Lo,jV p0.Offset.Hi]) Z Z) (bnK hm fun x5 h6 ay=>zE 0 Z Z Z Z (zD Z Z Try.call95 (zB Z (zB Z (zB Z zK))) Z) aj (fun hs=>wFL p0.Offset (-36000) 36000 W1 U hs h6) (.inr Z) ?_)))))
 rintro U8 L9 aM ah aK ap ⟨rfl,rfl⟩
 have af:sW w U U8 [.blk b2 43 B0] ah:=ap
 refine oM Z Z (ifc ay ?_ ?_)
 intro ab av
 refine zY Z Z Z (zF Z Z (congrArg hH ab.out)) (fun _=>zJ Z Z Zy Z zC) (zl Z Z Z (zF Z Z (congrArg hH ab.out)) (af.ldB (j:=0) Z Z Z zG (v:=jV p0.Error) Z) Z (bnK av fun aO an aw=>zE 0 Z Z Z (zF Z Z (congrArg hH ab.out)) (zD Z Z yJ (zB Z (zB Z (zB Z zK))) Z) af (fun hs=>wBb p0.Error 0 600 ah U8 hs an) (.inr Z) ?_))
 rintro ag az aN am aL aq ⟨rfl,rfl⟩
 have au:sW w U ag [.blk b2 43 B0] am:=aq
 refine oR Z (zR Z (congrArg hH ab.out) Z) (oA Z Z (eN (zU ?_)))
 have hE:=hJ aw;first | subst r | cases hE
 exact ⟨rfl,_,(ZL rfl),ag,_,(au.pick [] _ (by decide) rfl),rfl,rfl⟩
 intro ab ax
 refine zt Z Z Z (zO Z Z (congrArg hH (nA.2 ab.out)) Z) (zt Z Z Z (zO Z Z (congrArg hH (nA.2 ab.out)) Z) (ZG Z Z Z (zO Z Z (congrArg hH (nA.2 ab.out)) Z) (oR Z (zb Z (congrArg hH (nA.2 ab.out)) Z) (oA Z Z (eN (zU ?_))))))
 have hE:=hJ ax;first | subst r | cases hE
 exact ⟨rfl,_,(ZL rfl),U8,_,(af.pick [] _ (by decide) rfl),rfl,rfl⟩
theorem wCx (p0:List wAL) (an:Option Addr) (ao:Nat) (p1:(wAL->Option Bool)) (ap:Value) (w:World) (U:PHeap) (hS:St0 w U []) (ba:Sl U 4 an ao p0.length (hD wAB p0)) (bb:FnOK Try.prog U ap wJe wJf p1) {r:Bool} (hm:wAv p0 p1=some r):Gv Try.prog 98 [.slice an p0.length ao,ap] w (wCB w [] U (fun U_ L_ v=>v=.bool r/\L_=[])):=by
 unfold wAv at hm
 refine Gv.of Try.func98 Z Try.ntmps98 Try.results98 Z (sR fL1 Z (oA Z Z (eN (zM (sR fL3 Z (oM Z Z (oR Z (zz Z Z ZX) (oM Z Z (eN (zc ?_))))))))))
 have q:=wBg hm
 obtain ⟨r3,ai⟩:=q
 have q:=wBf ai
 obtain ⟨ak,be⟩:=q
 replace ak:=zS ak
 refine yL (fun k2 _ σ_ w_=>∃ (U_:PHeap),σ_ 9=jV (↑k2:Int)/\σ_ 1=ap/\σ_ 7=.slice an p0.length ao/\σ_ 8=jV (↑p0.length:Int)/\PHeap.Le U U_/\sW w U U_ [] w_) be ?_ ?_ ?_
 exact ⟨U,Z,Z,Z,Z,(zW _),hS⟩
 rintro k2 ⟨⟩ bB bD W8 aj ⟨aO,ah,av,aw,ax,am,az⟩ aM bc
 try dsimp only at aM
 have au:Hid ((↑k2:Int) < (↑p0.length:Int)):=zS (wBD aj)
 replace aj:=zS aj
 have bf:Hid (w64 ((↑k2:Int) + 1)=(↑(k2 + 1):Int)):=zS (by have h1:=ak.out;have h2:=au.out;rw [wAU] <;> omega)
 refine sR fL1 Z (oR Z (zh Z ah ax) (eN (zM (cT Z au (kN (zM (zc (sR gBe Z (bnK aM fun ab ay bg=>?_)))))))))
 have aW:=ba.le am
 have q:=aW.el (fun _=>rfl) (wAW ay)
 obtain ⟨bs,bw,aZ,a5⟩:=q
 refine oR Z (Zi Z aw aZ ah ZX Ze (wBi ay)) (oL Z (az.ldCA (f:=0) a5 Z Z yo Ze (us:=[jV ab.Skier,jV ab.Mat,jV ab.Clock,jV ab.Time]) Z Z) (zT (cs:=[jV 0,jV 0,jV 0,jV 0]) Z Z Z Z Z Zp Z az ?_))
 intro bp aq a6
 let B0:List Value:=[jV ab.Skier,jV ab.Mat,jV ab.Clock,jV ab.Time]
 refine zV (j:=0) (vs:=B0) Z Z Z Z a6 Z Z Z Z Ze (zA Z) Z Z Z ?_
 intro aQ a7
 have aJ:sW w U aO [.blk aq 39 B0] aQ:=a7
 refine eN (sR gBd Z (oM Z av (oL Z (aJ.ldBA (j:=0) Z Z Z yo Ze (vs:=B0) Z Z) (bnK bg fun bA aX bh=>?_))))
 have aY:=bb.le am
 refine yv (a:=ab) Z Z Z Z Z Z (zB Z zK) aJ aY Z aX ?_
 rintro af bo bz aR bm a8 ⟨rfl,rfl⟩
 have aK:sW w U af [.blk aq 39 B0] aR:=a8
 refine oR Z (ZT Z Z) (eN (ifc bh ?_ ?_))
 intro ag bi
 refine zn (nC ag.out) (Zl (ZH (zL (rR fL2 Z (oR Z (ZS (zf Z ah Z) (congrArg (jV) bf.out)) (oM Z Z (zg ?_)))))))
 obtain rfl:=hJ bi
 exact zL ⟨rfl,_,rfl,⟨af,rfl,av,aw,ax,(am.trans bm),(aK.pick [] _ (by decide) rfl)⟩⟩
 intro ag bj
 refine ZD (nF (ag.out)) (sR fL1 Z (oA Z Z (eN (zU (zX (zN ?_))))))
 have q:=wAV bj
 obtain ⟨bn,bk,aT⟩:=q
 obtain rfl:=wAk hm ai (bc bn aT)
 refine zN (zX (zN ?_))
 have hE:=hJ bk;first | subst r | cases hE
 exact ⟨rfl,_,(ZL rfl),af,_,(aK.pick [] _ (by decide) rfl),rfl,rfl⟩
 rintro ⟨⟩ bC bq ⟨aP,aV,bt,bu,aU,bv,a9⟩ bd
 have aL:=wCV hm ai bd
 try dsimp only at aL
 have aS:Hid (¬ ((↑(((↑p0.length:Int):Int) - 0).toNat:Int) < (↑p0.length:Int))):=zS (wAh)
 refine sR fL1 Z (oR Z (zh Z aV aU) (eN (zM (cF Z aS (Zf (zx (zx (Zc (zL (sR fL1 Z (oA Z Z (eN (zU ?_)))))))))))))
 have hE:=hJ aL;first | subst r | cases hE
 exact ⟨Z,_,(ZL Z),aP,_,a9,Z,Z⟩
theorem wGq (p0:wAL) (w:World) (U:PHeap) (hS:St0 w U [])  {r:Bool} (hm:wCj p0=some r):Gv Try.prog 99 [.agg #[jV p0.Skier,jV p0.Mat,jV p0.Clock,jV p0.Time]] w (wCB w [] U (fun U_ L_ v=>v=.bool r/\L_=[])):=by
 unfold wCj at hm
 refine Gv.of Try.func99 Z Try.ntmps99 Try.results99 Z (sR gAk Z ?_)
 let B0:List Value:=[jV p0.Skier,jV p0.Mat,jV p0.Clock,jV p0.Time]
 refine zu (cs:=B0) rfl rfl rfl rfl rfl rfl (by rfl) hS ?_
 intro W1 b2 ae
 refine oA Z Z (eN (sR gBd Z (oR Z (zJ Z Z ZM Z zC) (oL Z (ae.ldB (j:=0) Z Z Z zG (v:=jV p0.Time) Z) (bnK hm fun x5 h6 am=>zE 0 Z Z Z Z (zD Z Z yJ (zB Z (zB Z (zB Z zK))) Z) ae (fun hs=>wBb p0.Time 0 360000 W1 U hs h6) (.inr Z) ?_)))))
 rintro U8 L9 ap ag ao aj ⟨rfl,rfl⟩
 have ak:sW w U U8 [.blk b2 39 B0] ag:=aj
 refine oA Z Z (eN (zU ?_))
 have hE:=hJ am;first | subst r | cases hE
 exact ⟨rfl,_,(ZL rfl),U8,_,(ak.pick [] _ (by decide) rfl),rfl,rfl⟩
theorem wCe (p0:wAC) (af:Option Addr) (ah:Nat) (ag:Option Addr) (ai:Nat) (ao:Option Addr) (aq:Nat) (ap:Option Addr) (au:Nat) (p1:wAI) (w:World) (U:PHeap) (hS:St0 w U []) (aX:Sl U 1 af ah p0.Starts.length (hD KL.encI p0.Starts)) (aY:Sl U 2 ag ai p0.Splits.length (hD wAG p0.Splits)) (aZ:Sl U 3 ao aq p0.Clocks.length (hD wAA p0.Clocks)) (a5:Sl U 4 ap au p0.Readings.length (hD wAB p0.Readings)) {r:Bool} (hm:wAl p0 p1=some r):Gv Try.prog 84 [.agg #[.slice af p0.Starts.length ah,.slice ag p0.Splits.length ai,.slice ao p0.Clocks.length aq,.slice ap p0.Readings.length au],.agg #[jV p1.Skier,jV p1.Mat]] w (wCB w [] U (fun U_ L_ v=>v=.bool r/\L_=[])):=by
 unfold wAl at hm
 refine Gv.of Try.func84 Z Try.ntmps84 Try.results84 Z (sR gAv Z ?_)
 let B0:List Value:=[.slice af p0.Starts.length ah,.slice ag p0.Splits.length ai,.slice ao p0.Clocks.length aq,.slice ap p0.Readings.length au]
 refine zu (cs:=B0) rfl rfl rfl rfl rfl rfl (by rfl) hS ?_
 intro W1 b2 aO
 let B1:List Value:=[jV p1.Skier,jV p1.Mat]
 refine zu (cs:=B1) rfl rfl rfl rfl rfl rfl (by rfl) aO ?_
 intro W5 b6 an
 refine oA Z Z (eN (sR (wFr (.fx 6 (wLY gAw) .stop)) Z (oR Z (zJ Z Z Zk Z zC) (oL Z (an.ldB (j:=0) Z Z Z zG (v:=jV p1.Skier) Z) (oR Z (zJ Z Z zQ Z zq) (oL Z (an.ldB (j:=1) Z Z Z zy (v:=.slice af p0.Starts.length ah) Z) (oR Z (zz Z Z zH) (oR Z (yH Z Z Z) (bnK hm fun x9 aK aQ=>zE 0 Z Z Z Z (zD Z Z yJ (zB Z (zB Z (zB Z zK))) Z) an (fun hs=>wBb p1.Skier 0 (w64 ((↑p0.Starts.length:Int) - 1)) W5 U hs aK) (.inr Z) ?_)))))))))
 rintro am aU a8 aw a6 aM ⟨rfl,rfl⟩
 have ae:sW w U am [.blk b6 45 B1,.blk b2 28 B0] aw:=aM
 refine oM Z Z (ifc aQ ?_ ?_)
 intro ab aR
 refine zY Z Z Z (zF Z Z (congrArg hH ab.out)) (fun _=>zJ Z Z Zk Z zC) (zl Z Z Z (zF Z Z (congrArg hH ab.out)) (ae.ldB (j:=0) Z Z Z zG (v:=jV p1.Mat) Z) Z (zY Z Z Z (zF Z Z (congrArg hH ab.out)) (fun _=>zJ Z Z zQ Z yE) (zl Z Z Z (zF Z Z (congrArg hH ab.out)) (ae.ldB (j:=1) Z Z Z yS (v:=.slice ag p0.Splits.length ai) Z) Z (zY Z Z Z (zF Z Z (congrArg hH ab.out)) (fun _=>zz Z Z ZQ) (bnK aR fun ba aL aS=>zE 0 Z Z Z (zF Z Z (congrArg hH ab.out)) (zD Z Z yJ (zB Z (zB Z (zB Z zK))) Z) ae (fun hs=>wBb p1.Mat 0 (↑p0.Splits.length:Int) aw am hs aL) (.inr Z) ?_)))))
 rintro av aV a9 az a7 aN ⟨rfl,rfl⟩
 have aP:sW w U av [.blk b6 45 B1,.blk b2 28 B0] az:=aN
 refine oR Z (zR Z (congrArg hH ab.out) Z) (oA Z Z (eN (zU ?_)))
 have hE:=hJ aS;first | subst r | cases hE
 exact ⟨rfl,_,(ZL rfl),av,_,(aP.pick [] _ (by decide) rfl),rfl,rfl⟩
 intro ab aT
 refine zt Z Z Z (zO Z Z (congrArg hH (nA.2 ab.out)) Z) (zt Z Z Z (zO Z Z (congrArg hH (nA.2 ab.out)) Z) (zt Z Z Z (zO Z Z (congrArg hH (nA.2 ab.out)) Z) (zt Z Z Z (zO Z Z (congrArg hH (nA.2 ab.out)) Z) (zt Z Z Z (zO Z Z (congrArg hH (nA.2 ab.out)) Z) (ZG Z Z Z (zO Z Z (congrArg hH (nA.2 ab.out)) Z) (oR Z (zb Z (congrArg hH (nA.2 ab.out)) Z) (oA Z Z (eN (zU ?_)))))))))
 have hE:=hJ aT;first | subst r | cases hE
 exact ⟨rfl,_,(ZL rfl),am,_,(ae.pick [] _ (by decide) rfl),rfl,rfl⟩
theorem wGr (p0:wAL) (p1:wAC) (ay:Nat) (ai:Option Addr) (am:Nat) (aj:Option Addr) (an:Nat) (ae:Option Addr) (af:Nat) (ak:Option Addr) (ao:Nat) (w:World) (U:PHeap) (hS:St0 w U []) (ax:Cl U ay 0 [.slice ai p1.Starts.length am,.slice aj p1.Splits.length an,.slice ae p1.Clocks.length af,.slice ak p1.Readings.length ao]) (aQ:Sl U 1 ai am p1.Starts.length (hD KL.encI p1.Starts)) (aR:Sl U 2 aj an p1.Splits.length (hD wAG p1.Splits)) (aS:Sl U 3 ae af p1.Clocks.length (hD wAA p1.Clocks)) (aT:Sl U 4 ak ao p1.Readings.length (hD wAB p1.Readings)) {r:Bool} (hm:wCk p0 p1=some r):Gv Try.prog 100 [.agg #[jV p0.Skier,jV p0.Mat,jV p0.Clock,jV p0.Time],.pointer (some ⟨ay,0,none⟩)] w (wCB w [] U (fun U_ L_ v=>v=.bool r/\L_=[])):=by
 unfold wCk at hm
 refine Gv.of Try.func100 Z Try.ntmps100 Try.results100 Z (sR gAk Z ?_)
 let B0:List Value:=[jV p0.Skier,jV p0.Mat,jV p0.Clock,jV p0.Time]
 refine zu (cs:=B0) rfl rfl rfl rfl rfl rfl (by rfl) hS ?_
 intro W1 b2 ah
 refine oA Z Z (eN (sR (wFr (.fx 6 (wLZ gAx) .stop)) Z (oL Z (ah.ldCA (f:=0) ax Z Z ze zZ (us:=[.slice ai p1.Starts.length am,.slice aj p1.Splits.length an,.slice ae p1.Clocks.length af,.slice ak p1.Readings.length ao]) Z Z) (oR Z (zJ Z Z ZM Z zC) (oL Z (ah.ldB (j:=0) Z Z Z zG (v:=jV p0.Skier) Z) (oR Z (zJ Z Z ZM Z zC) (oL Z (ah.ldB (j:=0) Z Z Z zG (v:=jV p0.Mat) Z) (oR Z (zo (pv:=[(0,jV p0.Skier),(1,jV p0.Mat)]) (z:=[jV 0,jV 0]) (cs:=[jV p0.Skier,jV p0.Mat]) Z (wAF Z (wAF Z wAO)) Zb wFF Z Z) (bnK hm fun x5 h6 aX=>zE 0 Z Z Z Z (zD Z Z Try.call84 (zB Z (zB Z zK)) Z) ah (fun hs=>wCe p1 ai am aj an ae af ak ao (⟨p0.Skier,p0.Mat⟩:wAI) W1 U hs aQ aR aS aT h6) (.inr Z) ?_)))))))))
 rintro U8 L9 a7 av aY aN ⟨rfl,rfl⟩
 have ag:sW w U U8 [.blk b2 39 B0] av:=aN
 refine oM Z Z (ifc aX ?_ ?_)
 intro ac aU
 refine zY Z Z Z (zF Z Z (congrArg hH ac.out)) (fun _=>zJ Z Z ZM Z zC) (zl Z Z Z (zF Z Z (congrArg hH ac.out)) (ag.ldB (j:=0) Z Z Z zG (v:=jV p0.Clock) Z) Z (zY Z Z Z (zF Z Z (congrArg hH ac.out)) (fun _=>zJ Z Z zQ Z Zm) ?_))
 have aK:=ax.le aY
 refine zl Z Z Z (zF Z Z (congrArg hH ac.out)) (ag.ldC (f:=2) aK (v:=.slice ae p1.Clocks.length af) Z Z yA Z) Z (zY Z Z Z (zF Z Z (congrArg hH ac.out)) (fun _=>zz Z Z ZR) (zY Z Z Z (zF Z Z (congrArg hH ac.out)) (fun _=>yH Z Z Z) (bnK aU fun a9 aL aV=>zE 0 Z Z Z (zF Z Z (congrArg hH ac.out)) (zD Z Z yJ (zB Z (zB Z (zB Z zK))) Z) ag (fun hs=>wBb p0.Clock 0 (w64 ((↑p1.Clocks.length:Int) - 1)) av U8 hs aL) (.inr Z) ?_)))
 rintro au aZ a8 aJ a6 aO ⟨rfl,rfl⟩
 have aP:sW w U au [.blk b2 39 B0] aJ:=aO
 refine oR Z (zR Z (congrArg hH ac.out) Z) (oA Z Z (eN (zU ?_)))
 have hE:=hJ aV;first | subst r | cases hE
 exact ⟨rfl,_,(ZL rfl),au,_,(aP.pick [] _ (by decide) rfl),rfl,rfl⟩
 intro ac aW
 refine zt Z Z Z (zO Z Z (congrArg hH (nA.2 ac.out)) Z) (zt Z Z Z (zO Z Z (congrArg hH (nA.2 ac.out)) Z) (zt Z Z Z (zO Z Z (congrArg hH (nA.2 ac.out)) Z) (zt Z Z Z (zO Z Z (congrArg hH (nA.2 ac.out)) Z) (zt Z Z Z (zO Z Z (congrArg hH (nA.2 ac.out)) Z) (zt Z Z Z (zO Z Z (congrArg hH (nA.2 ac.out)) Z) (ZG Z Z Z (zO Z Z (congrArg hH (nA.2 ac.out)) Z) (oR Z (zb Z (congrArg hH (nA.2 ac.out)) Z) (oA Z Z (eN (zU ?_))))))))))
 have hE:=hJ aW;first | subst r | cases hE
 exact ⟨rfl,_,(ZL rfl),U8,_,(ag.pick [] _ (by decide) rfl),rfl,rfl⟩
theorem wDt (p0:wAC) (an:Option Addr) (aq:Nat) (ao:Option Addr) (au:Nat) (ap:Option Addr) (av:Nat) (ai:Option Addr) (aj:Nat) (w:World) (U:PHeap) (hS:St0 w U []) (cn:Sl U 1 an aq p0.Starts.length (hD KL.encI p0.Starts)) (co:Sl U 2 ao au p0.Splits.length (hD wAG p0.Splits)) (cp:Sl U 3 ap av p0.Clocks.length (hD wAA p0.Clocks)) (cq:Sl U 4 ai aj p0.Readings.length (hD wAB p0.Readings)) {r:Int} (hm:wCL p0=some r):Gv Try.prog 68 [.agg #[.slice an p0.Starts.length aq,.slice ao p0.Splits.length au,.slice ap p0.Clocks.length av,.slice ai p0.Readings.length aj]] w (wCB w [] U (fun U_ L_ v=>v=jV r/\L_=[])):=by
 unfold wCL at hm
 refine Gv.of Try.func68 Z Try.ntmps68 Try.results68 Z (sR gAk Z ?_)
 let B0:List Value:=[.slice an p0.Starts.length aq,.slice ao p0.Splits.length au,.slice ap p0.Clocks.length av,.slice ai p0.Readings.length aj]
 refine zu (cs:=B0) rfl rfl rfl rfl rfl rfl (by rfl) hS ?_
 intro W1 b2 cf
 have q:=cf.freeze (k:=0) rfl
 obtain ⟨U5,aR,ax,cm⟩:=q
 replace ax:=Cl.of ax
 have br:sW w U U5 [] W1:=cm
 replace ax:Cl U5 b2 0 B0:=ax
 refine oA Z Z (eN (zM (zc (sR (wCa (.fx 3 (wNK (.nil)) .stop)) Z (oR Z (zJ Z Z zQ Z zq) (oL Z (br.ldC (f:=0) ax (v:=.slice an p0.Starts.length aq) Z Z zy Z) (oR Z (zz Z Z zH) (bnK hm fun dg bz cu=>zE 0 Z Z Z Z (zD Z Z yJ (zB Z (zB Z (zB Z zK))) Z) br (fun hs=>wBb (↑p0.Starts.length:Int) 1 8 W1 U5 hs bz) (.inr Z) ?_))))))))
 rintro am cV da bb az cd ⟨rfl,rfl⟩
 have ah:sW w U am [] bb:=cd
 refine oR Z (ZT Z Z) (oM Z Z (ifc cu ?_ ?_))
 intro ab cD
 refine zY Z Z Z (zF Z Z (nC ab.out)) (fun _=>zJ Z Z zQ Z yE) ?_
 have ay:=ax.le az
 refine zl Z Z Z (zF Z Z (nC ab.out)) (ah.ldC (f:=1) ay (v:=.slice ao p0.Splits.length au) Z Z yS Z) Z (zY Z Z Z (zF Z Z (nC ab.out)) (fun _=>zz Z Z ZQ) (zY Z Z Z (zF Z Z (nC ab.out)) (fun _=>yn Z Z Z) (oR Z (zb Z (nC ab.out) Z) (oM Z Z (ifc cD ?_ ?_)))))
 intro ac cE
 refine oT Z ac (oT Z ac (oT Z ac (oT Z ac (oR Z (zR Z (Zh ac.out) Z) (oM Z Z (oN Z (oN Z (oN Z (oN Z (oR Z (zR Z Z Z) (oA Z Z (eN (ZD Z (sR fL1 Z (oA Z Z (eN (zU (zX (zN ?_)))))))))))))))))))
 cases cE
 exact ⟨Z,_,(ZL Z),am,_,ah,Z,Z⟩
 intro ac cG
 refine rU Z (wF Z ac) (zJ Z Z zQ Z Zm) (zl Z Z Z (wF Z ac) (ah.ldC (f:=2) ay (v:=.slice ap p0.Clocks.length av) Z Z yA Z) Z (rU Z (wF Z ac) (zz Z Z ZR) (rU Z (wF Z ac) (yn Z Z Z) (oR Z (zb Z (zd ac.out) Z) (oM Z Z (ifc cG ?_ ?_))))))
 intro ae cH
 refine oT Z ae (oT Z ae (oT Z ae (oT Z ae (oR Z (zR Z (Zh ae.out) Z) (oA Z Z (eN (ZD Z (sR fL1 Z (oA Z Z (eN (zU (zX (zN ?_)))))))))))))
 cases cH
 exact ⟨Z,_,(ZL Z),am,_,ah,Z,Z⟩
 intro ae cI
 refine rU Z (wF Z ae) (zJ Z Z zQ Z Zr) (zl Z Z Z (wF Z ae) (ah.ldC (f:=3) ay (v:=.slice ai p0.Readings.length aj) Z Z yM Z) Z (rU Z (wF Z ae) (zz Z Z ZX) (rU Z (wF Z ae) (yn Z Z Z) (oR Z (zb Z (zd ae.out) Z) (oA Z Z (eN (ifc cI ?_ ?_)))))))
 intro aW cJ
 refine cT Z aW (sR fL1 Z (oA Z Z (eN (zU (zX (zN ?_))))))
 cases cJ
 exact ⟨Z,_,(ZL Z),am,_,ah,Z,Z⟩
 intro aW cK
 refine cF Z aW (sR (.fl 0 (.fl 1 (.fx 2 (wIS (.fx 7 (wJY (.nil)) .stop)) .stop))) Z (oR Z (zJ Z Z zQ Z zq) (oL Z (ah.ldC (f:=0) ay (v:=.slice an p0.Starts.length aq) Z Z zy Z) ?_)))
 have bG:=cn.le aR
 have bi:=bG.le az
 have bX:FnOK Try.prog am (.func (.func 92) #[] #[]) wKB wKC wCf:=⟨92,[],[],rfl,Try.call92,fun U1 w1 x y vs le hs ha hm=>by obtain rfl:=ha;exact wGn x w1 U1 hs  hm⟩
 refine bnK cK fun di bH cL=>zE 0 Z Z Z Z (zD Z Z Try.call79 (zB Z (zB Z zK)) Z) ah (fun hs=>wCv p0.Starts an aq wCf (.func (.func 92) #[] #[]) bb am hs bi bX bH) (.inr Z) ?_
 rintro aN cW db bc aJ cg ⟨rfl,rfl⟩
 have a6:sW w U aN [] bc:=cg
 refine oR Z (ZT Z Z) (oM Z Z (ifc cL ?_ ?_))
 intro af cM
 refine zY Z Z Z (zF Z Z (nC af.out)) (fun _=>zJ Z Z zQ Z yE) ?_
 have bj:=ay.le aJ
 refine zl Z Z Z (zF Z Z (nC af.out)) (a6.ldC (f:=1) bj (v:=.slice ao p0.Splits.length au) Z Z yS Z) Z ?_
 have bI:=co.le aR
 have bJ:=bI.le az
 have bk:=bJ.le aJ
 have bY:FnOK Try.prog aN (.func (.func 94) #[] #[]) wMd wMe wCh:=⟨94,[],[],rfl,Try.call94,fun U1 w1 x y vs le hs ha hm=>by obtain rfl:=ha;exact wGo x w1 U1 hs  hm⟩
 refine bnK cM fun dk bK cN=>zE 0 Z Z Z (zF Z Z (nC af.out)) (zD Z Z Try.call93 (zB Z (zB Z zK)) Z) a6 (fun hs=>wEs p0.Splits ao au wCh (.func (.func 94) #[] #[]) bc aN hs bk bY bK) (.inr Z) ?_
 rintro aO cX dd bd aK ci ⟨rfl,rfl⟩
 have a7:sW w U aO [] bd:=ci
 refine zY Z Z Z (zF Z Z (nC af.out)) (fun _=>ZT Z Z) (oR Z (zb Z (nC af.out) Z) (oA Z Z (eN (ifc cN ?_ ?_))))
 intro aX cO
 refine zn (nC aX.out) (sR gBn Z (oR Z (zJ Z Z zQ Z Zm) ?_))
 have bm:=bj.le aK
 refine oL Z (a7.ldC (f:=2) bm (v:=.slice ap p0.Clocks.length av) Z Z yA Z) ?_
 have bL:=cp.le aR
 have bM:=bL.le az
 have bN:=bM.le aJ
 have bn:=bN.le aK
 have bZ:FnOK Try.prog aO (.func (.func 97) #[] #[]) wMf wMg wCi:=⟨97,[],[],rfl,Try.call97,fun U1 w1 x y vs le hs ha hm=>by obtain rfl:=ha;exact wGp x w1 U1 hs  hm⟩
 refine bnK cO fun dl bP cP=>zE 0 Z Z Z Z (zD Z Z Try.call96 (zB Z (zB Z zK)) Z) a7 (fun hs=>wEY p0.Clocks ap av wCi (.func (.func 97) #[] #[]) bd aO hs bn bZ bP) (.inr Z) ?_
 rintro aP cY de be aL cj ⟨rfl,rfl⟩
 have a8:sW w U aP [] be:=cj
 refine oR Z (ZT Z Z) (oA Z Z (eN (ifc cP ?_ ?_)))
 intro aY cQ
 refine zn (nC aY.out) (zM (yX fun cS bs=>?_))
 have aZ:cS 1=.pointer (some ⟨b2,0,none⟩):=(bs 1).trans rfl
 clear bs
 refine rR gBn Z (oR Z (zJ Z aZ zQ Z Zr) ?_)
 have bo:=bm.le aL
 refine oL Z (a8.ldC (f:=3) bo (v:=.slice ai p0.Readings.length aj) Z Z yM Z) ?_
 have bQ:=cq.le aR
 have bR:=bQ.le az
 have bS:=bR.le aJ
 have bU:=bS.le aK
 have bp:=bU.le aL
 have ca:FnOK Try.prog aP (.func (.func 99) #[] #[]) wJe wJf wCj:=⟨99,[],[],rfl,Try.call99,fun U1 w1 x y vs le hs ha hm=>by obtain rfl:=ha;exact wGq x w1 U1 hs  hm⟩
 refine bnK cQ fun dm bV cR=>zE 0 Z Z Z Z (zD Z Z Try.call98 (zB Z (zB Z zK)) Z) a8 (fun hs=>wCx p0.Readings ai aj wCj (.func (.func 99) #[] #[]) be aP hs bp ca bV) (.inr Z) ?_
 rintro aQ cZ df bf aM cb ⟨rfl,rfl⟩
 have a5:sW w U aQ [] bf:=cb
 refine oR Z (ZT Z Z) (oA Z Z (eN (ifc cR ?_ ?_)))
 intro aU cr
 refine zn (nC aU.out) (sR (wCa gAu) Z (oR Z (zJ Z aZ zQ Z Zr) ?_))
 have bg:=bo.le aM
 refine oL Z (a5.ldC (f:=3) bg (v:=.slice ai p0.Readings.length aj) Z Z yM Z) (oR Z (yc Z zK (zB aZ zK)) ?_)
 have bh:=bp.le aM
 have bu:=bi.le aJ
 have bv:=bu.le aK
 have bw:=bv.le aL
 have bx:=bw.le aM
 have bA:=bk.le aK
 have bB:=bA.le aL
 have bC:=bB.le aM
 have bD:=bn.le aL
 have bE:=bD.le aM
 have bW:FnOK Try.prog aQ (.func (.func 100) #[] #[.pointer (some ⟨b2,0,none⟩)]) wJe wJf (fun x=>wCk x p0):=⟨100,[],[.pointer (some ⟨b2,0,none⟩)],rfl,Try.call100,fun U1 w1 x y vs le hs ha hm=>by obtain rfl:=ha;exact wGr x p0 b2 an aq ao au ap av ai aj w1 U1 hs (bg.le le) (bx.le le) (bC.le le) (bE.le le) (bh.le le) hm⟩
 refine bnK cr fun dh bF ct=>zE 0 Z Z Z Z (zD Z Z Try.call98 (zB Z (zB Z zK)) Z) a5 (fun hs=>wCx p0.Readings ai aj (fun x=>wCk x p0) (.func (.func 100) #[] #[.pointer (some ⟨b2,0,none⟩)]) bf aQ hs bh bW bF) (.inr Z) ?_
 rintro aS cU c8 bt c6 cc ⟨rfl,rfl⟩
 have bq:sW w U aS [] bt:=cc
 refine oR Z (ZT Z Z) (oA Z Z (eN (ifc ct ?_ ?_)))
 intro aV cw
 refine zn (nC aV.out) (Zl (ZH (zL (sR fL1 Z (oA Z Z (eN (zU ?_)))))))
 cases cw
 exact ⟨Z,_,(ZL Z),aS,_,bq,Z,Z⟩
 intro aV cx
 refine ZD (nF (aV.out)) (sR fL1 Z (oA Z Z (eN (zU (zX (zN ?_))))))
 cases cx
 exact ⟨Z,_,(ZL Z),aS,_,bq,Z,Z⟩
 intro aU cy
 refine ZD (nF (aU.out)) (sR fL1 Z (oA Z Z (eN (zU (zX (zN ?_))))))
 cases cy
 exact ⟨Z,_,(ZL Z),aQ,_,a5,Z,Z⟩
 intro aY cz
 refine ZD (nF (aY.out)) (sR fL1 Z (oA Z Z (eN (zU (zX (zN ?_))))))
 cases cz
 exact ⟨Z,_,(ZL Z),aP,_,a8,Z,Z⟩
 intro aX cA
 refine ZD (nF (aX.out)) (sR fL1 Z (oA Z Z (eN (zU (zX (zN ?_))))))
 cases cA
 exact ⟨Z,_,(ZL Z),aO,_,a7,Z,Z⟩
 intro af cB
 refine zt Z Z Z (zO Z Z (nF (af.out)) Z) (zt Z Z Z (zO Z Z (nF (af.out)) Z) (ZG Z Z Z (zO Z Z (nF (af.out)) Z) (zt Z Z Z (zO Z Z (nF (af.out)) Z) (oR Z (zR Z (nF (af.out)) Z) (oA Z Z (eN (ZD Z (sR fL1 Z (oA Z Z (eN (zU (zX (zN ?_)))))))))))))
 cases cB
 exact ⟨Z,_,(ZL Z),aN,_,a6,Z,Z⟩
 intro ab cC
 refine zt Z Z Z (zO Z Z (nF (ab.out)) Z) (zt Z Z Z (zO Z Z (nF (ab.out)) Z) (zt Z Z Z (zO Z Z (nF (ab.out)) Z) (zt Z Z Z (zO Z Z (nF (ab.out)) Z) (oR Z (zR Z (nF (ab.out)) Z) (oM Z Z (oN Z (oN Z (oN Z (oN Z (oR Z (zR Z Z Z) (oM Z Z (oN Z (oN Z (oN Z (oN Z (oR Z (zR Z Z Z) (oA Z Z (eN (ZD Z (sR fL1 Z (oA Z Z (eN (zU (zX (zN ?_)))))))))))))))))))))))))
 cases cC
 exact ⟨Z,_,(ZL Z),am,_,ah,Z,Z⟩
end Go.Proofs.Ytlnfbjphfoipaaa
namespace Go.Proofs.Ytlnfbjphfoipaaa
open Go.KL
set_option maxHeartbeats 4000000
theorem wBK  (w:World) (U:PHeap) (hS:St0 w U [])  {r:wAH} (hm:wBP =some r):Gv Try.prog 48 [] w (wCB w [] U (fun U_ L_ v=>v=.agg #[jV r.skier,jV r.mat]/\L_=[])):=by
 unfold wBP at hm
 refine Gv.of Try.func48 Z Try.ntmps48 Try.results48 Z (sR (.fx 0 .nil .stop) Z (zT (cs:=[jV 0,jV 0]) Z Z Z Z Z za Z hS ?_))
 intro W1 b2 af
 refine eN (sR (.fl 0 (.fx 1 .nil .stop)) Z ?_)
 let B0:List Value:=[jV (-1),jV 0]
 refine oR Z (zo (pv:=[(0,jV (-1)),(1,jV 0)]) (z:=[jV 0,jV 0]) (cs:=B0) Z (wAF Z (wAF Z wAO)) za wBa Z Z) (zV (j:=0) (vs:=B0) Z Z Z Z af Z Z Z Z zI (zA Z) Z Z Z ?_)
 intro W5 ag
 have ab:sW w U U [.blk b2 104 B0] W5:=ag
 refine eN (zU ?_)
 cases hm
 exact ⟨rfl,_,(wGl (v:=.agg B0.toArray) ⟨⟨_,rfl,(wAy zi zI (ab.blkAt (k:=0) rfl) (vs:=B0) rfl rfl)⟩,trivial⟩),U,_,(ab.pick [] _ (by decide) rfl),rfl,rfl⟩
theorem wEH {S E:Type} (PY:S->PHeap->List Res->Prop) (PE:E->PHeap->List Res->Prop) (f:S->wAD->Option (S ⊕ E)) (y:Nat) (s0:S) (p1:wAC) (aj:Nat) (bI:Option Addr) (bM:Nat) (bJ:Option Addr) (bN:Nat) (bK:Option Addr) (bP:Nat) (bL:Option Addr) (bQ:Nat) (w:World) (L:List Res) (U:PHeap) (hS:St ⟨w,L,U⟩ U L w) (hP:PY s0 U L) (hY:YOK Try.prog y wKD PY PE f U) (aR:Cl U aj 0 [.slice bI p1.Starts.length bM,.slice bJ p1.Splits.length bN,.slice bK p1.Clocks.length bP,.slice bL p1.Readings.length bQ]) (iV:Sl U 1 bI bM p1.Starts.length (hD KL.encI p1.Starts)) (iW:Sl U 2 bJ bN p1.Splits.length (hD wAG p1.Splits)) (iX:Sl U 3 bK bP p1.Clocks.length (hD wAA p1.Clocks)) (iY:Sl U 4 bL bQ p1.Readings.length (hD wAB p1.Readings)) {r:S ⊕ E} (hm:wBh f s0 p1=some r):Gv Try.prog 105 [.func (.yield y) #[] #[],.pointer (some ⟨aj,0,none⟩)] w (ItS w L U PY PE r):=by
 unfold wBh at hm
 refine Gv.of Try.func105 Z Try.ntmps105 Try.results105 Z (sR wMQ Z (oR Z (zJ Z Z zQ Z yE) (oL Z (hS.ldC (f:=1) aR (v:=.slice bJ p1.Splits.length bN) Z Z yS Z) (oR Z (zz Z Z ZQ) (oR Z (zJ Z Z zQ Z Zm) (oL Z (hS.ldC (f:=2) aR (v:=.slice bK p1.Clocks.length bP) Z Z yA Z) (oR Z (zz Z Z ZR) (oR Z (zJ Z Z zQ Z Zr) (oL Z (hS.ldC (f:=3) aR (v:=.slice bL p1.Readings.length bQ) Z Z yM Z) (oR Z (zz Z Z ZX) ?_))))))))))
 let B0:List Value:=[jV 1,jV (↑p1.Splits.length:Int),jV (↑p1.Clocks.length:Int),jV (↑p1.Readings.length:Int)]
 refine oR Z (Runs.buildA (pv:=[(0,jV 1),(1,jV (↑p1.Splits.length:Int)),(2,jV (↑p1.Clocks.length:Int)),(3,jV (↑p1.Readings.length:Int))]) (z:=[jV 0,jV 0,jV 0,jV 0]) (cs:=B0) Z (wAF Z (wAF Z (wAF Z (wAF Z wAO)))) Try.zeroValue175 Try.runUnderlying175 zC Z Z) (oM Z Z (eN (zc ?_)))
 have q:=wBg hm
 obtain ⟨i3,an⟩:=q
 have q:=wBf an
 obtain ⟨bA,f5⟩:=q
 replace bA:=zS bA
 refine yL (fun ab cW σ_ w_=>∃ (U_:PHeap) (ap:List Res),σ_ 18=jV (↑ab:Int)/\σ_ 0=.func (.yield y) #[] #[]/\σ_ 1=.pointer (some ⟨aj,0,none⟩)/\σ_ 17=.agg B0.toArray/\PHeap.Le U U_/\St ⟨w,L,U⟩ U_ ap w_/\PY cW U_ ap) f5 ?_ ?_ ?_
 exact ⟨U,L,Z,Z,Z,Z,(zW _),hS,hP⟩
 rintro ab cW i8 ji iy bu ⟨bb,ap,au,co,bh,bi,am,bs,cB⟩ gO aS
 have ci:Hid ((↑ab:Int) < 4):=zS (wBD bu)
 replace bu:=zS bu
 have cN:Hid (w64 ((↑ab:Int) + 1)=(↑(ab + 1):Int)):=zS (by have h1:=bA.out;have h2:=ci.out;rw [wAU] <;> omega)
 refine sR fL1 Z (oR Z (zh Z au Z) (eN (zM (cT Z ci (kN (zM (zc (sR fL4 Z (oM Z au (bnK gO fun af br gy=>oR Z (yj (cs:=hD KL.encI ([1,(↑p1.Splits.length:Int),(↑p1.Clocks.length:Int),(↑p1.Readings.length:Int)]:List Int)) Z bi au Try.runUnderlying175 zC (wBJ br) (wBL br) (wEW zG (wED (sz:=1) (fun _=>Z) _ _ 0 _ _ (wAW br) Z))) (oA Z Z (oA Z Z (eN (sR fL4 Z (oR Z (zJ Z bh zQ Z zq) ?_)))))))))))))))
 have fu:=aR.le am
 refine oL Z (bs.ldC (f:=0) fu (v:=.slice bI p1.Starts.length bM) Z Z zy Z) (oR Z (zz Z Z zH) (oA Z Z (eN (zM ?_))))
 have q:=bnd gy
 obtain ⟨⟨dk,g6⟩,cR,cO⟩:=q
 try dsimp only at cO
 refine yN (fun σ_ w_=>∃ (U_:PHeap) (aq:List Res),σ_ 0=.func (.yield y) #[] #[]/\σ_ 1=.pointer (some ⟨aj,0,none⟩)/\σ_ 3=jV (↑ab:Int)/\σ_ 4=jV af/\σ_ 5=jV (↑p1.Starts.length:Int)/\σ_ 17=.agg B0.toArray/\σ_ 18=jV (↑ab:Int)/\σ_ 30=.bool dk/\PHeap.Le bb U_/\St ⟨w,L,U⟩ U_ aq w_/\PY g6 U_ aq) ?_ ?_
 refine rR fL6 Z (oM Z Z (oR Z (yO Z Z Z) (oM Z Z ?_)))
 by_cases ag:(↑ab:Int)=2
 have cP:=cR;rw [if_pos ag] at cP;replace ag:=zS ag
 refine oT Z ag (oT Z ag (oR Z (zR Z (Zh ag.out) Z) (zg ?_)))
 cases cP
 exact zL ⟨Z,⟨bb,ap,co,bh,Z,Z,Z,bi,au,Z,(zW _),bs,cB⟩⟩
 have cQ:=cR;rw [if_neg ag] at cQ;replace ag:=zS ag
 refine zr Z Z Z (wF Z ag) Z Z (rU Z (wF Z ag) (yO Z Z Z) (oR Z (zb Z (zd ag.out) Z) (zg ?_)))
 cases cQ
 exact zL ⟨Z,⟨bb,ap,co,bh,Z,Z,Z,bi,au,Z,(zW _),bs,cB⟩⟩
 rintro jr iG ⟨az,aq,cq,cr,ct,cu,eL,cw,cx,cy,ao,cI,cC⟩
 refine ifc cO ?_ ?_
 intro bd aY
 refine ZD (cy.trans (congrArg hH bd.out)) (rR fL1 Z (oA Z Z (eN (sR fL2 Z (oM Z Z (oM Z Z (eN (zc ?_))))))))
 have q:=wBg aY
 obtain ⟨i6,aQ⟩:=q
 have q:=wBf aQ
 obtain ⟨bD,f9⟩:=q
 replace bD:=zS bD
 refine yL (fun ae c6 σ_ w_=>∃ (U_:PHeap) (aw:List Res),σ_ 32=jV (↑ae:Int)/\σ_ 0=.func (.yield y) #[] #[]/\σ_ 1=.pointer (some ⟨aj,0,none⟩)/\σ_ 3=jV (↑ab:Int)/\σ_ 4=jV af/\σ_ 17=.agg B0.toArray/\σ_ 18=jV (↑ab:Int)/\σ_ 31=jV 1/\PHeap.Le az U_/\St ⟨w,L,U⟩ U_ aw w_/\PY c6 U_ aw) f9 ?_ ?_ ?_
 exact ⟨az,aq,Z,cq,cr,ct,cu,cw,cx,Z,(zW _),cI,cC⟩
 rintro ae c6 jb jt iH bx ⟨bX,aw,bq,eM,eO,eQ,cz,eU,eV,cA,bH,fS,fc⟩ a5 cM
 have cc:Hid ((↑ae:Int) < 1):=zS (wBD bx)
 replace bx:=zS bx
 have ga:Hid (w64 ((↑ae:Int) + 1)=(↑(ae + 1):Int)):=zS (by have h1:=bD.out;have h2:=cc.out;rw [wAU] <;> omega)
 refine sR fL1 Z (oR Z (zh Z bq cA) (eN (zM (cT Z cc (kN (zM (zc (sR fL2 Z (oM Z bq (oA Z Z (eN (sR fL2 Z (oM Z cz (oM Z Z (eN (zc ?_))))))))))))))))
 have q:=wBg a5
 obtain ⟨i2,aN⟩:=q
 have q:=wBf aN
 obtain ⟨bz,f4⟩:=q
 replace bz:=zS bz
 refine yL (fun ah cX σ_ w_=>∃ (U_:PHeap) (a6:List Res),σ_ 36=jV (↑ah:Int)/\σ_ 0=.func (.yield y) #[] #[]/\σ_ 1=.pointer (some ⟨aj,0,none⟩)/\σ_ 3=jV (↑ab:Int)/\σ_ 4=jV af/\σ_ 6=jV (↑ae:Int)/\σ_ 17=.agg B0.toArray/\σ_ 18=jV (↑ab:Int)/\σ_ 31=jV 1/\σ_ 32=jV (↑ae:Int)/\σ_ 35=jV af/\PHeap.Le bX U_/\St ⟨w,L,U⟩ U_ a6 w_/\PY cX U_ a6) f4 ?_ ?_ ?_
 exact ⟨bX,aw,Z,eM,eO,eQ,cz,Z,eU,eV,cA,bq,Z,(zW _),fS,fc⟩
 rintro ah cX i7 jh iw bt ⟨iu,a6,bn,be,dF,bf,dG,bg,dH,dI,dJ,dK,cj,bE,fA,fd⟩ gN cJ
 have cd:Hid ((↑ah:Int) < af):=zS (wBD bt)
 replace bt:=zS bt
 have gb:Hid (w64 ((↑ah:Int) + 1)=(↑(ah + 1):Int)):=zS (by have h1:=bz.out;have h2:=cd.out;rw [wAU] <;> omega)
 refine sR fL1 Z (oR Z (zh Z bn cj) (eN (zM (cT Z cd (kN (zM (zc (sR fL2 Z (oM Z bn (oA Z Z (eN (sR (wGL (.fx 5 (wLW gAw) .stop)) Z (oM Z be (oM Z bf (oM Z bg (oM Z Z ?_))))))))))))))))
 let B1:List Value:=[jV 0,jV 0,jV 0,.bool false]
 refine oR Z (zo (pv:=[(0,jV (↑ab:Int)),(1,jV (↑ae:Int)),(2,jV (↑ah:Int)),(3,.bool true)]) (z:=B1) (cs:=[jV (↑ab:Int),jV (↑ae:Int),jV (↑ah:Int),.bool true]) Z (wAF Z (wAF Z (wAF Z (wAF Z wAO)))) Zv wDo Z Z) (bnK gN fun io ff aT=>OKS.yieldT 0 (a:=(⟨(↑ab:Int),(↑ae:Int),(↑ah:Int),true⟩:wAD)) Z Z Z Z Z Z (zB Z zK) fA hY (((am.trans ao).trans bH).trans bE) fd Z ff Z ?_)
 rintro ba bU iI bY cS cD aJ
 rcases io with gW | gW
 try dsimp only at aT aJ
 obtain ⟨rfl,gF⟩:=aJ
 have fB:St ⟨w,L,U⟩ ba bU bY:=cD
 refine oR Z (ZT Z Z) (oM Z Z (zr Z Z Z (zF Z Z Z) Z be (zr Z Z Z (zF Z Z Z) Z bf (zr Z Z Z (zF Z Z Z) Z bg (zr Z Z Z (zF Z Z Z) Z Z (zY Z Z Z (zF Z Z Z) (fun _=>zo (pv:=[(0,jV (↑ab:Int)),(1,jV (↑ae:Int)),(2,jV (↑ah:Int)),(3,.bool false)]) (z:=B1) (cs:=[jV (↑ab:Int),jV (↑ae:Int),jV (↑ah:Int),.bool false]) Z (wAF Z (wAF Z (wAF Z (wAF Z wAO)))) Zv wDo Z Z) (bnK aT fun ip fg aU=>OKS.yieldT 0 (a:=(⟨(↑ab:Int),(↑ae:Int),(↑ah:Int),false⟩:wAD)) Z Z Z (zF Z Z Z) Z Z (zB Z zK) fB hY ((((am.trans ao).trans bH).trans bE).trans cS) gF Z fg Z ?_)))))))
 rintro ax a7 iJ bZ gQ cE aK
 rcases ip with gX | gX
 try dsimp only at aU aK
 obtain ⟨rfl,gG⟩:=aK
 have fC:St ⟨w,L,U⟩ ax a7 bZ:=cE
 refine zY Z Z Z (zF Z Z Z) (fun _=>ZT Z Z) (oR Z (zb Z Z Z) (eN (zn Z (Zl (ZH (zL (rR fL2 Z (oR Z (ZS (zf Z bn Z) (congrArg (jV) gb.out)) (oM Z Z (zg ?_))))))))))
 obtain rfl:=hJ aU
 exact zL ⟨Z,_,Z,⟨ax,a7,Z,be,dF,bf,dG,bg,dH,dI,dJ,dK,cj,((bE.trans cS).trans gQ),fC,gG⟩⟩
 try dsimp only at aU aK
 obtain ⟨rfl,gH⟩:=aK
 have fD:St ⟨w,L,U⟩ ax a7 bZ:=cE
 refine zY Z Z Z (zF Z Z Z) (fun _=>ZT Z Z) (oR Z (zb Z Z Z) (eN (ZD Z (zU (zX (zN ?_))))))
 have q:=wAV aU
 obtain ⟨g7,gg,dr⟩:=q
 obtain rfl:=wAk a5 aN (cJ g7 dr)
 refine zN (zX (zX (zN ?_)))
 have q:=wAV gg
 obtain ⟨g8,gh,dt⟩:=q
 obtain rfl:=wAk aY aQ (cM g8 dt)
 refine zN (zX (zX (zN ?_)))
 have q:=wAV gh
 obtain ⟨g9,gi,du⟩:=q
 obtain rfl:=wAk hm an (aS g9 du)
 refine zN (zX ?_)
 cases gi
 exact ⟨Z,_,(wLE),ax,_,fD,gH⟩
 try dsimp only at aT aJ
 obtain ⟨rfl,gI⟩:=aJ
 have fG:St ⟨w,L,U⟩ ba bU bY:=cD
 refine oR Z (ZT Z Z) (oM Z Z (oN Z (oN Z (oN Z (oN Z (oN Z (ZG Z Z Z (zO Z Z Z Z) (oN Z (oR Z (zR Z Z Z) (eN (ZD Z (zU (zX (zN ?_))))))))))))))
 have q:=wAV aT
 obtain ⟨ib,gj,dv⟩:=q
 obtain rfl:=wAk a5 aN (cJ ib dv)
 refine zN (zX (zX (zN ?_)))
 have q:=wAV gj
 obtain ⟨ic,gp,dw⟩:=q
 obtain rfl:=wAk aY aQ (cM ic dw)
 refine zN (zX (zX (zN ?_)))
 have q:=wAV gp
 obtain ⟨ie,gq,dx⟩:=q
 obtain rfl:=wAk hm an (aS ie dx)
 refine zN (zX ?_)
 cases gq
 exact ⟨Z,_,(wLE),ba,_,fG,gI⟩
 rintro jc jj iz ⟨de,c8,eW,dL,dM,dN,dO,iM,dP,dQ,dR,dS,dT,gR,fH,fh⟩ fT
 have gt:=wCV a5 aN fT
 have dl:Hid (¬ ((↑((af:Int) - 0).toNat:Int) < af)):=zS (wAh)
 refine sR fL1 Z (oR Z (zh Z eW dT) (eN (zM (cF Z dl (Zf (zx (zx (Zc (ZH (zL (rR fL2 Z (oR Z (ZS (zf Z dS Z) (congrArg (jV) ga.out)) (oM Z Z (zg ?_))))))))))))))
 obtain rfl:=hJ gt
 exact zL ⟨Z,_,Z,⟨de,c8,Z,dL,dM,dN,dO,dP,dQ,dR,(bH.trans gR),fH,fh⟩⟩
 rintro jd jk iA ⟨df,da,eX,dU,dV,iN,iO,dW,dX,dY,gS,fI,fj⟩ fU
 have gu:=wCV aY aQ fU
 have dm:Hid (¬ ((↑((1:Int) - 0).toNat:Int) < 1)):=zS (wAh)
 refine sR fL1 Z (oR Z (zh Z eX dY) (eN (zM (cF Z dm (Zf (zx (zx (Zc (ZH (zL (rR fL2 Z (oR Z (ZS (zf Z dX Z) (congrArg (jV) cN.out)) (oM Z Z (zg ?_))))))))))))))
 obtain rfl:=hJ gu
 exact zL ⟨Z,_,Z,⟨df,da,Z,dU,dV,dW,((am.trans ao).trans gS),fI,fj⟩⟩
 intro bd aV
 refine zn (cy.trans (congrArg hH (nA.2 bd.out))) (kN (sR fL2 Z (oM Z eL (oM Z Z (eN (zc ?_))))))
 have q:=wBg aV
 obtain ⟨i4,aO⟩:=q
 have q:=wBf aO
 obtain ⟨bB,f6⟩:=q
 replace bB:=zS bB
 refine yL (fun ac cY σ_ w_=>∃ (U_:PHeap) (av:List Res),σ_ 32=jV (↑ac:Int)/\σ_ 0=.func (.yield y) #[] #[]/\σ_ 1=.pointer (some ⟨aj,0,none⟩)/\σ_ 3=jV (↑ab:Int)/\σ_ 4=jV af/\σ_ 17=.agg B0.toArray/\σ_ 18=jV (↑ab:Int)/\σ_ 31=jV (↑p1.Starts.length:Int)/\PHeap.Le az U_/\St ⟨w,L,U⟩ U_ av w_/\PY cY U_ av) f6 ?_ ?_ ?_
 exact ⟨az,aq,Z,cq,cr,ct,cu,cw,cx,Z,(zW _),cI,cC⟩
 rintro ac cY i9 jl iB bv ⟨bW,av,bo,dZ,d7,d9,cm,ec,ef,cn,bF,fJ,fk⟩ aZ cK
 have cf:Hid ((↑ac:Int) < (↑p1.Starts.length:Int)):=zS (wBD bv)
 replace bv:=zS bv
 have ge:Hid (w64 ((↑ac:Int) + 1)=(↑(ac + 1):Int)):=zS (by have h1:=bB.out;have h2:=cf.out;rw [wAU] <;> omega)
 refine sR fL1 Z (oR Z (zh Z bo cn) (eN (zM (cT Z cf (kN (zM (zc (sR fL2 Z (oM Z bo (oA Z Z (eN (sR fL2 Z (oM Z cm (oM Z Z (eN (zc ?_))))))))))))))))
 have q:=wBg aZ
 obtain ⟨i5,aP⟩:=q
 have q:=wBf aP
 obtain ⟨bC,f8⟩:=q
 replace bC:=zS bC
 refine yL (fun ai cZ σ_ w_=>∃ (U_:PHeap) (a8:List Res),σ_ 36=jV (↑ai:Int)/\σ_ 0=.func (.yield y) #[] #[]/\σ_ 1=.pointer (some ⟨aj,0,none⟩)/\σ_ 3=jV (↑ab:Int)/\σ_ 4=jV af/\σ_ 6=jV (↑ac:Int)/\σ_ 17=.agg B0.toArray/\σ_ 18=jV (↑ab:Int)/\σ_ 31=jV (↑p1.Starts.length:Int)/\σ_ 32=jV (↑ac:Int)/\σ_ 35=jV af/\PHeap.Le bW U_/\St ⟨w,L,U⟩ U_ a8 w_/\PY cZ U_ a8) f8 ?_ ?_ ?_
 exact ⟨bW,av,Z,dZ,d7,d9,cm,Z,ec,ef,cn,bo,Z,(zW _),fJ,fk⟩
 rintro ai cZ ja jm iC bw ⟨iv,a8,bp,bj,eg,bk,eh,bm,ej,ek,en,eo,cp,bG,fK,fm⟩ gP cL
 have cg:Hid ((↑ai:Int) < af):=zS (wBD bw)
 replace bw:=zS bw
 have gf:Hid (w64 ((↑ai:Int) + 1)=(↑(ai + 1):Int)):=zS (by have h1:=bC.out;have h2:=cg.out;rw [wAU] <;> omega)
 refine sR fL1 Z (oR Z (zh Z bp cp) (eN (zM (cT Z cg (kN (zM (zc (sR fL2 Z (oM Z bp (oA Z Z (eN (sR (wGL (.fx 5 (wLW gAw) .stop)) Z (oM Z bj (oM Z bk (oM Z bm (oM Z Z ?_))))))))))))))))
 let B2:List Value:=[jV 0,jV 0,jV 0,.bool false]
 refine oR Z (zo (pv:=[(0,jV (↑ab:Int)),(1,jV (↑ac:Int)),(2,jV (↑ai:Int)),(3,.bool true)]) (z:=B2) (cs:=[jV (↑ab:Int),jV (↑ac:Int),jV (↑ai:Int),.bool true]) Z (wAF Z (wAF Z (wAF Z (wAF Z wAO)))) Zv wDo Z Z) (bnK gP fun iq fq aW=>OKS.yieldT 0 (a:=(⟨(↑ab:Int),(↑ac:Int),(↑ai:Int),true⟩:wAD)) Z Z Z Z Z Z (zB Z zK) fK hY (((am.trans ao).trans bF).trans bG) fm Z fq Z ?_)
 rintro bc bV iK ca cU cG aL
 rcases iq with gY | gY
 try dsimp only at aW aL
 obtain ⟨rfl,gJ⟩:=aL
 have fL:St ⟨w,L,U⟩ bc bV ca:=cG
 refine oR Z (ZT Z Z) (oM Z Z (zr Z Z Z (zF Z Z Z) Z bj (zr Z Z Z (zF Z Z Z) Z bk (zr Z Z Z (zF Z Z Z) Z bm (zr Z Z Z (zF Z Z Z) Z Z (zY Z Z Z (zF Z Z Z) (fun _=>zo (pv:=[(0,jV (↑ab:Int)),(1,jV (↑ac:Int)),(2,jV (↑ai:Int)),(3,.bool false)]) (z:=B2) (cs:=[jV (↑ab:Int),jV (↑ac:Int),jV (↑ai:Int),.bool false]) Z (wAF Z (wAF Z (wAF Z (wAF Z wAO)))) Zv wDo Z Z) (bnK aW fun ir ft aX=>OKS.yieldT 0 (a:=(⟨(↑ab:Int),(↑ac:Int),(↑ai:Int),false⟩:wAD)) Z Z Z (zF Z Z Z) Z Z (zB Z zK) fL hY ((((am.trans ao).trans bF).trans bG).trans cU) gJ Z ft Z ?_)))))))
 rintro ay a9 iL cb gT cH aM
 rcases ir with gZ | gZ
 try dsimp only at aX aM
 obtain ⟨rfl,gK⟩:=aM
 have fM:St ⟨w,L,U⟩ ay a9 cb:=cH
 refine zY Z Z Z (zF Z Z Z) (fun _=>ZT Z Z) (oR Z (zb Z Z Z) (eN (zn Z (Zl (ZH (zL (rR fL2 Z (oR Z (ZS (zf Z bp Z) (congrArg (jV) gf.out)) (oM Z Z (zg ?_))))))))))
 obtain rfl:=hJ aX
 exact zL ⟨Z,_,Z,⟨ay,a9,Z,bj,eg,bk,eh,bm,ej,ek,en,eo,cp,((bG.trans cU).trans gT),fM,gK⟩⟩
 try dsimp only at aX aM
 obtain ⟨rfl,gL⟩:=aM
 have fN:St ⟨w,L,U⟩ ay a9 cb:=cH
 refine zY Z Z Z (zF Z Z Z) (fun _=>ZT Z Z) (oR Z (zb Z Z Z) (eN (ZD Z (zU (zX (zN ?_))))))
 have q:=wAV aX
 obtain ⟨ig,gv,dz⟩:=q
 obtain rfl:=wAk aZ aP (cL ig dz)
 refine zN (zX (zX (zN ?_)))
 have q:=wAV gv
 obtain ⟨ii,gw,dA⟩:=q
 obtain rfl:=wAk aV aO (cK ii dA)
 refine zN (zX (zX (zN ?_)))
 have q:=wAV gw
 obtain ⟨ij,gx,dB⟩:=q
 obtain rfl:=wAk hm an (aS ij dB)
 refine zN (zX ?_)
 cases gx
 exact ⟨Z,_,(wLE),ay,_,fN,gL⟩
 try dsimp only at aW aL
 obtain ⟨rfl,gM⟩:=aL
 have fO:St ⟨w,L,U⟩ bc bV ca:=cG
 refine oR Z (ZT Z Z) (oM Z Z (oN Z (oN Z (oN Z (oN Z (oN Z (ZG Z Z Z (zO Z Z Z Z) (oN Z (oR Z (zR Z Z Z) (eN (ZD Z (zU (zX (zN ?_))))))))))))))
 have q:=wAV aW
 obtain ⟨ik,gz,dC⟩:=q
 obtain rfl:=wAk aZ aP (cL ik dC)
 refine zN (zX (zX (zN ?_)))
 have q:=wAV gz
 obtain ⟨il,gA,dD⟩:=q
 obtain rfl:=wAk aV aO (cK il dD)
 refine zN (zX (zX (zN ?_)))
 have q:=wAV gA
 obtain ⟨im,gB,dE⟩:=q
 obtain rfl:=wAk hm an (aS im dE)
 refine zN (zX ?_)
 cases gB
 exact ⟨Z,_,(wLE),bc,_,fO,gM⟩
 rintro je jo iD ⟨dg,db,eY,ep,er,eu,ew,iP,ey,eA,eB,eD,eE,gU,fP,fw⟩ fW
 have gC:=wCV aZ aP fW
 have dn:Hid (¬ ((↑((af:Int) - 0).toNat:Int) < af)):=zS (wAh)
 refine sR fL1 Z (oR Z (zh Z eY eE) (eN (zM (cF Z dn (Zf (zx (zx (Zc (ZH (zL (rR fL2 Z (oR Z (ZS (zf Z eD Z) (congrArg (jV) ge.out)) (oM Z Z (zg ?_))))))))))))))
 obtain rfl:=hJ gC
 exact zL ⟨Z,_,Z,⟨dg,db,Z,ep,er,eu,ew,ey,eA,eB,(bF.trans gU),fP,fw⟩⟩
 rintro jf jp iE ⟨dh,dd,eZ,eG,eH,iQ,iR,eI,eJ,eK,gV,fQ,fy⟩ fY
 have gD:=wCV aV aO fY
 have dp:Hid (¬ ((↑(((↑p1.Starts.length:Int):Int) - 0).toNat:Int) < (↑p1.Starts.length:Int))):=zS (wAh)
 refine sR fL1 Z (oR Z (zh Z eZ eK) (eN (zM (cF Z dp (Zf (zx (zx (Zc (ZH (zL (rR fL2 Z (oR Z (ZS (zf Z eJ Z) (congrArg (jV) cN.out)) (oM Z Z (zg ?_))))))))))))))
 obtain rfl:=hJ gD
 exact zL ⟨Z,_,Z,⟨dh,dd,Z,eG,eH,eI,((am.trans ao).trans gV),fQ,fy⟩⟩
 rintro jg jq iF ⟨di,it,fb,iS,iT,iU,iZ,fR,fz⟩ fZ
 have gE:=wCV hm an fZ
 have dq:Hid (¬ ((↑((4:Int) - 0).toNat:Int) < 4)):=zS (wAh)
 refine sR fL1 Z (oR Z (zh Z fb Z) (eN (zM (cF Z dq (Zf (zx (zx (Zc ?_))))))))
 cases gE
 exact ⟨Z,_,(wLE),di,_,fR,fz⟩
theorem wEZ (p0:wAC) (ac:Option Addr) (ah:Nat) (ae:Option Addr) (ai:Nat) (af:Option Addr) (aj:Nat) (ag:Option Addr) (ak:Nat) (w:World) (U:PHeap) (hS:St0 w U []) (ax:Sl U 1 ac ah p0.Starts.length (hD KL.encI p0.Starts)) (ay:Sl U 2 ae ai p0.Splits.length (hD wAG p0.Splits)) (az:Sl U 3 af aj p0.Clocks.length (hD wAA p0.Clocks)) (aJ:Sl U 4 ag ak p0.Readings.length (hD wAB p0.Readings)) {r:Unit} (hm:wBz p0=some r):Gv Try.prog 81 [.agg #[.slice ac p0.Starts.length ah,.slice ae p0.Splits.length ai,.slice af p0.Clocks.length aj,.slice ag p0.Readings.length ak]] w (wCB w [] U (fun U_ L_ v=>∃ (b0:Nat),v=.func (.func 105) #[] #[.pointer (some ⟨b0,0,none⟩)]/\L_=[]/\Cl U_ b0 0 [.slice ac p0.Starts.length ah,.slice ae p0.Splits.length ai,.slice af p0.Clocks.length aj,.slice ag p0.Readings.length ak])):=by
 unfold wBz at hm
 refine Gv.of Try.func81 Z Try.ntmps81 Try.results81 Z (sR gAk Z ?_)
 let B0:List Value:=[.slice ac p0.Starts.length ah,.slice ae p0.Splits.length ai,.slice af p0.Clocks.length aj,.slice ag p0.Readings.length ak]
 refine zu (cs:=B0) rfl rfl rfl rfl rfl rfl (by rfl) hS ?_
 intro W1 b2 au
 have q:=au.freeze (k:=0) rfl
 obtain ⟨U5,aK,ab,av⟩:=q
 replace ab:=Cl.of ab
 have aw:sW w U U5 [] W1:=av
 replace ab:Cl U5 b2 0 B0:=ab
 refine oA Z Z (eN (sR fL2 Z (oR Z (yc Z zK (zB Z zK)) (oA Z Z (eN (zU ?_))))))
 cases hm
 exact ⟨Z,_,(ZL Z),U5,_,aw,b2,Z,Z,ab⟩
theorem wGs (p0:wAC) (ae:Option Addr) (af:Nat) (aj:Option Addr) (an:Nat) (ak:Option Addr) (ao:Nat) (am:Option Addr) (ap:Nat) (p1:wAD) (w:World) (U:PHeap) (hS:St0 w U []) (aQ:Sl U 1 ae af p0.Starts.length (hD KL.encI p0.Starts)) (aR:Sl U 2 aj an p0.Splits.length (hD wAG p0.Splits)) (aS:Sl U 3 ak ao p0.Clocks.length (hD wAA p0.Clocks)) (aT:Sl U 4 am ap p0.Readings.length (hD wAB p0.Readings)) {r:Bool} (hm:wDf p0 p1=some r):Gv Try.prog 108 [.agg #[.slice ae p0.Starts.length af,.slice aj p0.Splits.length an,.slice ak p0.Clocks.length ao,.slice am p0.Readings.length ap],.agg #[jV p1.Kind,jV p1.Skier,jV p1.Index,.bool p1.Up]] w (wCB w [] U (fun U_ L_ v=>v=.bool r/\L_=[])):=by
 unfold wDf at hm
 refine Gv.of Try.func108 Z Try.ntmps108 Try.results108 Z (sR gAv Z ?_)
 let B0:List Value:=[.slice ae p0.Starts.length af,.slice aj p0.Splits.length an,.slice ak p0.Clocks.length ao,.slice am p0.Readings.length ap]
 refine zu (cs:=B0) rfl rfl rfl rfl rfl rfl (by rfl) hS ?_
 intro W1 b2 aL
 let B1:List Value:=[jV p1.Kind,jV p1.Skier,jV p1.Index,.bool p1.Up]
 refine zu (cs:=B1) rfl rfl rfl rfl rfl rfl (by rfl) aL ?_
 intro W5 b6 ai
 refine oA Z Z (eN (sR (wFr (.fx 6 (wLY (.nil)) .stop)) Z (oR Z (zJ Z Z zm Z zC) (oL Z (ai.ldB (j:=0) Z Z Z zG (v:=jV p1.Skier) Z) (oR Z (zJ Z Z zQ Z zq) (oL Z (ai.ldB (j:=1) Z Z Z zy (v:=.slice ae p0.Starts.length af) Z) (oR Z (zz Z Z zH) (oR Z (yH Z Z Z) (bnK hm fun x9 aJ aM=>zE 0 Z Z Z Z (zD Z Z yJ (zB Z (zB Z (zB Z zK))) Z) ai (fun hs=>wBb p1.Skier 0 (w64 ((↑p0.Starts.length:Int) - 1)) W5 U hs aJ) (.inr Z) ?_)))))))))
 rintro ag aO aV aw aU aK ⟨rfl,rfl⟩
 have ah:sW w U ag [.blk b6 78 B1,.blk b2 28 B0] aw:=aK
 refine oM Z Z (ifc aM ?_ ?_)
 intro ac av
 refine zY Z Z Z (zF Z Z (congrArg hH ac.out)) (fun _=>zJ Z Z zm Z zC) (zl Z Z Z (zF Z Z (congrArg hH ac.out)) (ah.ldB (j:=0) Z Z Z zG (v:=jV p1.Index) Z) Z (zY Z Z Z (zF Z Z (congrArg hH ac.out)) (fun _=>yO Z Z Z) (oR Z (zR Z (congrArg hH ac.out) Z) (oA Z Z (eN (zU ?_))))))
 first | (obtain rfl:=hJ av) | cases av
 exact ⟨rfl,_,(ZL rfl),ag,_,(ah.pick [] _ (by decide) rfl),rfl,rfl⟩
 intro ac aN
 refine zt Z Z Z (zO Z Z (congrArg hH (nA.2 ac.out)) Z) (zt Z Z Z (zO Z Z (congrArg hH (nA.2 ac.out)) Z) (zt Z Z Z (zO Z Z (congrArg hH (nA.2 ac.out)) Z) (oR Z (zb Z (congrArg hH (nA.2 ac.out)) Z) (oA Z Z (eN (zU ?_))))))
 have hE:=hJ aN;first | subst r | cases hE
 exact ⟨rfl,_,(ZL rfl),ag,_,(ah.pick [] _ (by decide) rfl),rfl,rfl⟩
theorem wGt (p0:wAC) (aJ:Option Addr) (aN:Nat) (aK:Option Addr) (aO:Nat) (aL:Option Addr) (aP:Nat) (aM:Option Addr) (aQ:Nat) (p1:wAD) (w:World) (U:PHeap) (hS:St0 w U []) (bH:Sl U 1 aJ aN p0.Starts.length (hD KL.encI p0.Starts)) (bI:Sl U 2 aK aO p0.Splits.length (hD wAG p0.Splits)) (bJ:Sl U 3 aL aP p0.Clocks.length (hD wAA p0.Clocks)) (bK:Sl U 4 aM aQ p0.Readings.length (hD wAB p0.Readings)) {r:wAH × wAH} (hm:wDg p0 p1=some r):Gv Try.prog 109 [.agg #[.slice aJ p0.Starts.length aN,.slice aK p0.Splits.length aO,.slice aL p0.Clocks.length aP,.slice aM p0.Readings.length aQ],.agg #[jV p1.Kind,jV p1.Skier,jV p1.Index,.bool p1.Up]] w (wCB w [] U (fun U_ L_ v=>v=.tuple #[.agg #[jV r.1.skier,jV r.1.mat],.agg #[jV r.2.skier,jV r.2.mat]]/\L_=[])):=by
 unfold wDg at hm
 refine Gv.of Try.func109 Z Try.ntmps109 Try.results109 Z (sR gBh Z ?_)
 let B0:List Value:=[.slice aJ p0.Starts.length aN,.slice aK p0.Splits.length aO,.slice aL p0.Clocks.length aP,.slice aM p0.Readings.length aQ]
 refine zu (cs:=B0) rfl rfl rfl rfl rfl rfl (by rfl) hS ?_
 intro W1 b2 bf
 let B1:List Value:=[jV p1.Kind,jV p1.Skier,jV p1.Index,.bool p1.Up]
 refine zu (cs:=B1) rfl rfl rfl rfl rfl rfl (by rfl) bf ?_
 intro W5 b6 bp
 let B2:List Value:=[jV 0,jV 0]
 refine zT (cs:=B2) Z Z Z Z Z za Z bp ?_
 intro W9 ah bd
 refine zT (cs:=B2) Z Z Z Z Z za Z bd ?_
 intro aR ai be
 refine eN ?_
 have q:=bnd hm
 obtain ⟨⟨bz,bA⟩,bw,aV⟩:=q
 try dsimp only at aV
 let B3:List Value:=[jV p1.Skier,jV 0]
 let B4:List Value:=[jV bz,jV bA]
 refine yN (fun σ_ w_=>∃ (U_:PHeap),σ_ 4=.pointer (some ⟨ah,0,none⟩)/\σ_ 5=.pointer (some ⟨ai,0,none⟩)/\PHeap.Le U U_/\sW w U U_ [.blk ai 104 B3,.blk ah 104 B4,.blk b6 78 B1,.blk b2 28 B0] w_) ?_ ?_
 refine bnK bw fun an aT az=>ZA ZB [2,3,2,3,0,0] (.fl 1 (.fx 0 (.fx 2 (.fl 3 gAl) (.fx 4 (.fx 2 (.fl 3 (.fx 5 .nil .stop)) .stop) .stop)) (.fx 2 (.fl 3 (.fx 0 gAl .stop)) .stop))) (by kernel_rfl) ?_
 have ap:=be.drew
 generalize hw_W40:({ aR with drawn:=aR.drawn + 1 }:World)=aS at ap ⊢
 refine oR Z (zJ Z Z zm Z zC) (zk ?_ ?_)
 refine zE 0 Z Z Z Z (zD Z Z yY zK Z) ap (fun hs=>wBK aS U hs aT) (.inr Z) ?_
 rintro am bB bM aY aW bg ⟨rfl,rfl⟩
 have ax:sW w U am [.blk ai 104 B2,.blk ah 104 B2,.blk b6 78 B1,.blk b2 28 B0] aY:=bg
 refine zk ?_ ?_
 refine ZY Z Z Z Z (ax.ldB (j:=2) Z Z Z zG (v:=jV p1.Skier) Z) (oR Z (zo (pv:=[(0,jV p1.Skier),(1,jV 0)]) (z:=B2) (cs:=B3) Z (wAF Z (wAF Z wAO)) za wBa Z Z) ?_)
 let B5:List Value:=[jV an.skier,jV an.mat]
 refine zV (j:=1) (vs:=B5) Z Z Z Z ax Z Z Z Z zI (zA Z) Z Z Z ?_
 intro aZ bh
 have bi:sW w U am [.blk ai 104 B2,.blk ah 104 B5,.blk b6 78 B1,.blk b2 28 B0] aZ:=bh
 refine zV (j:=0) (vs:=B3) Z Z Z Z bi Z Z Z Z zI (zA Z) Z Z Z ?_
 intro a5 bj
 have bk:sW w U am [.blk ai 104 B3,.blk ah 104 B5,.blk b6 78 B1,.blk b2 28 B0] a5:=bj
 refine zg ?_
 cases az
 exact zL ⟨Z,⟨am,Z,Z,aW,bk⟩⟩
 let B6:List Value:=[jV an.skier,jV an.mat]
 refine zV (j:=1) (vs:=B6) Z Z Z Z ax Z Z Z Z zI (zA Z) Z Z Z ?_
 intro a6 bm
 have aU:sW w U am [.blk ai 104 B2,.blk ah 104 B6,.blk b6 78 B1,.blk b2 28 B0] a6:=bm
 refine ZY Z Z Z Z (aU.ldB (j:=2) Z Z Z zG (v:=jV p1.Skier) Z) (oR Z (zo (pv:=[(0,jV p1.Skier),(1,jV 0)]) (z:=B2) (cs:=B3) Z (wAF Z (wAF Z wAO)) za wBa Z Z) (zV (j:=0) (vs:=B3) Z Z Z Z aU Z Z Z Z zI (zA Z) Z Z Z ?_))
 intro a7 bn
 have bo:sW w U am [.blk ai 104 B3,.blk ah 104 B6,.blk b6 78 B1,.blk b2 28 B0] a7:=bn
 refine zg ?_
 cases az
 exact zL ⟨Z,⟨am,Z,Z,aW,bo⟩⟩
 refine ZY Z Z Z Z (ap.ldB (j:=2) Z Z Z zG (v:=jV p1.Skier) Z) (oR Z (zo (pv:=[(0,jV p1.Skier),(1,jV 0)]) (z:=B2) (cs:=B3) Z (wAF Z (wAF Z wAO)) za wBa Z Z) (zE 0 Z Z Z Z (zD Z Z yY zK Z) ap (fun hs=>wBK aS U hs aT) (.inr Z) ?_))
 rintro ao bC bN a8 bx bq ⟨rfl,rfl⟩
 have br:sW w U ao [.blk ai 104 B2,.blk ah 104 B2,.blk b6 78 B1,.blk b2 28 B0] a8:=bq
 let B7:List Value:=[jV an.skier,jV an.mat]
 refine zV (j:=1) (vs:=B7) Z Z Z Z br Z Z Z Z zI (zA Z) Z Z Z ?_
 intro a9 bs
 have bt:sW w U ao [.blk ai 104 B2,.blk ah 104 B7,.blk b6 78 B1,.blk b2 28 B0] a9:=bs
 refine zV (j:=0) (vs:=B3) Z Z Z Z bt Z Z Z Z zI (zA Z) Z Z Z ?_
 intro ba bu
 have bv:sW w U ao [.blk ai 104 B3,.blk ah 104 B7,.blk b6 78 B1,.blk b2 28 B0] ba:=bu
 refine zg ?_
 cases az
 exact zL ⟨Z,⟨ao,Z,Z,bx,bv⟩⟩
 rintro bP bF ⟨aX,bb,bc,bL,ay⟩
 refine zU ?_
 cases aV
 exact ⟨rfl,_,(wCT (rs:=[.cell 4 104,.cell 5 104]) (vs:=[.agg B4.toArray,.agg B3.toArray]) ⟨⟨_,bb,(wAy zi zI (ay.blkAt (k:=1) rfl) (vs:=B4) rfl rfl)⟩,⟨⟨_,bc,(wAy zi zI (ay.blkAt (k:=0) rfl) (vs:=B3) rfl rfl)⟩,trivial⟩⟩ rfl),aX,_,(ay.pick [] _ (by decide) rfl),rfl,rfl⟩
theorem wGu (p0:wAC) (af:Option Addr) (ag:Nat) (ah:Option Addr) (ak:Nat) (ai:Option Addr) (am:Nat) (aj:Option Addr) (an:Nat) (p1:wAD) (w:World) (U:PHeap) (hS:St0 w U []) (ap:Sl U 1 af ag p0.Starts.length (hD KL.encI p0.Starts)) (aQ:Sl U 2 ah ak p0.Splits.length (hD wAG p0.Splits)) (aR:Sl U 3 ai am p0.Clocks.length (hD wAA p0.Clocks)) (aS:Sl U 4 aj an p0.Readings.length (hD wAB p0.Readings)) {r:Int × Int} (hm:wDh p0 p1=some r):Gv Try.prog 110 [.agg #[.slice af p0.Starts.length ag,.slice ah p0.Splits.length ak,.slice ai p0.Clocks.length am,.slice aj p0.Readings.length an],.agg #[jV p1.Kind,jV p1.Skier,jV p1.Index,.bool p1.Up]] w (wCB w [] U (fun U_ L_ v=>v=.tuple #[jV r.1,jV r.2]/\L_=[])):=by
 unfold wDh at hm
 refine Gv.of Try.func110 rfl Try.ntmps110 Try.results110 rfl (sR gBi rfl (zu (cs:=[.slice af p0.Starts.length ag,.slice ah p0.Splits.length ak,.slice ai p0.Clocks.length am,.slice aj p0.Readings.length an]) rfl rfl rfl rfl rfl rfl (by rfl) hS ?_))
 intro W1 b2 ay
 refine zu (cs:=[jV p1.Kind,jV p1.Skier,jV p1.Index,.bool p1.Up]) rfl rfl rfl rfl rfl rfl (by rfl) ay ?_
 intro W5 b6 az
 refine yD rfl rfl rfl rfl rfl rfl (yD rfl rfl rfl rfl rfl rfl (eN (zM (ZA ZB [3,1,3,1,3,1,3,1,3,1,3,1,3,3,3] fL15 (by kernel_rfl) ?_))))
 have ac:=az.drew
 generalize hw_W10:({ W5 with drawn:=W5.drawn + 1 }:World)=aL at ac ⊢
 refine oR Z (zJ Z Z zQ Z zq) (oL Z (ac.ldB (j:=1) Z Z Z zy (v:=.slice af p0.Starts.length ag) Z) (oR Z (zJ Z Z zm Z zC) (oL Z (ac.ldB (j:=0) Z Z Z zG (v:=jV p1.Skier) Z) (bnK hm fun aq ae aJ=>?_))))
 have q:=ap.el (fun _=>rfl) (wAW ae)
 obtain ⟨aM,aT,au,aw⟩:=q
 refine oR Z (ZO Z Z au Z zH zC (wBJ ae) (wBL ae)) (oL Z (ac.ldC (f:=0) aw (v:=jV aq) Z Z zG Z) (oR Z (zJ Z Z zQ Z zq) (oL Z (ac.ldB (j:=1) Z Z Z zy (v:=.slice af p0.Starts.length ag) Z) (oR Z (zJ Z Z zm Z zC) (oL Z (ac.ldB (j:=0) Z Z Z zG (v:=jV p1.Skier) Z) ?_)))))
 have q:=ap.el (fun _=>rfl) (wAW ae)
 obtain ⟨aN,aU,av,ax⟩:=q
 refine oR Z (ZO Z Z av Z zH zC (wBJ ae) (wBL ae)) (oL Z (ac.ldC (f:=0) ax (v:=jV aq) Z Z zG Z) (oR Z (Runs.negw Z Z) (oA Z Z (oA Z Z (eN (zU ?_))))))
 cases aJ
 exact ⟨rfl,_,(wDv rfl rfl),U,_,(ac.pick [] _ (by decide) rfl),rfl,rfl⟩
theorem wGv (p0:wAC) (af:Option Addr) (ah:Nat) (ag:Option Addr) (ai:Nat) (ao:Option Addr) (aq:Nat) (ap:Option Addr) (au:Nat) (p1:wAD) (w:World) (U:PHeap) (hS:St0 w U []) (aX:Sl U 1 af ah p0.Starts.length (hD KL.encI p0.Starts)) (aY:Sl U 2 ag ai p0.Splits.length (hD wAG p0.Splits)) (aZ:Sl U 3 ao aq p0.Clocks.length (hD wAA p0.Clocks)) (a5:Sl U 4 ap au p0.Readings.length (hD wAB p0.Readings)) {r:Bool} (hm:wDi p0 p1=some r):Gv Try.prog 111 [.agg #[.slice af p0.Starts.length ah,.slice ag p0.Splits.length ai,.slice ao p0.Clocks.length aq,.slice ap p0.Readings.length au],.agg #[jV p1.Kind,jV p1.Skier,jV p1.Index,.bool p1.Up]] w (wCB w [] U (fun U_ L_ v=>v=.bool r/\L_=[])):=by
 unfold wDi at hm
 refine Gv.of Try.func111 Z Try.ntmps111 Try.results111 Z (sR gAv Z ?_)
 let B0:List Value:=[.slice af p0.Starts.length ah,.slice ag p0.Splits.length ai,.slice ao p0.Clocks.length aq,.slice ap p0.Readings.length au]
 refine zu (cs:=B0) rfl rfl rfl rfl rfl rfl (by rfl) hS ?_
 intro W1 b2 aO
 let B1:List Value:=[jV p1.Kind,jV p1.Skier,jV p1.Index,.bool p1.Up]
 refine zu (cs:=B1) rfl rfl rfl rfl rfl rfl (by rfl) aO ?_
 intro W5 b6 an
 refine oA Z Z (eN (sR (wFr (.fx 6 (wLZ gAx) .stop)) Z (oR Z (zJ Z Z zm Z zC) (oL Z (an.ldB (j:=0) Z Z Z zG (v:=jV p1.Skier) Z) (oR Z (zJ Z Z zQ Z zq) (oL Z (an.ldB (j:=1) Z Z Z zy (v:=.slice af p0.Starts.length ah) Z) (oR Z (zz Z Z zH) (oR Z (yH Z Z Z) (bnK hm fun x9 aK aQ=>zE 0 Z Z Z Z (zD Z Z yJ (zB Z (zB Z (zB Z zK))) Z) an (fun hs=>wBb p1.Skier 0 (w64 ((↑p0.Starts.length:Int) - 1)) W5 U hs aK) (.inr Z) ?_)))))))))
 rintro am aU a8 aw a6 aM ⟨rfl,rfl⟩
 have ae:sW w U am [.blk b6 78 B1,.blk b2 28 B0] aw:=aM
 refine oM Z Z (ifc aQ ?_ ?_)
 intro ab aR
 refine zY Z Z Z (zF Z Z (congrArg hH ab.out)) (fun _=>zJ Z Z zm Z zC) (zl Z Z Z (zF Z Z (congrArg hH ab.out)) (ae.ldB (j:=0) Z Z Z zG (v:=jV p1.Index) Z) Z (zY Z Z Z (zF Z Z (congrArg hH ab.out)) (fun _=>zJ Z Z zQ Z yE) (zl Z Z Z (zF Z Z (congrArg hH ab.out)) (ae.ldB (j:=1) Z Z Z yS (v:=.slice ag p0.Splits.length ai) Z) Z (zY Z Z Z (zF Z Z (congrArg hH ab.out)) (fun _=>zz Z Z ZQ) (zY Z Z Z (zF Z Z (congrArg hH ab.out)) (fun _=>yH Z Z Z) (bnK aR fun ba aL aS=>zE 0 Z Z Z (zF Z Z (congrArg hH ab.out)) (zD Z Z yJ (zB Z (zB Z (zB Z zK))) Z) ae (fun hs=>wBb p1.Index 0 (w64 ((↑p0.Splits.length:Int) - 1)) aw am hs aL) (.inr Z) ?_))))))
 rintro av aV a9 az a7 aN ⟨rfl,rfl⟩
 have aP:sW w U av [.blk b6 78 B1,.blk b2 28 B0] az:=aN
 refine oR Z (zR Z (congrArg hH ab.out) Z) (oA Z Z (eN (zU ?_)))
 have hE:=hJ aS;first | subst r | cases hE
 exact ⟨rfl,_,(ZL rfl),av,_,(aP.pick [] _ (by decide) rfl),rfl,rfl⟩
 intro ab aT
 refine zt Z Z Z (zO Z Z (congrArg hH (nA.2 ab.out)) Z) (zt Z Z Z (zO Z Z (congrArg hH (nA.2 ab.out)) Z) (zt Z Z Z (zO Z Z (congrArg hH (nA.2 ab.out)) Z) (zt Z Z Z (zO Z Z (congrArg hH (nA.2 ab.out)) Z) (zt Z Z Z (zO Z Z (congrArg hH (nA.2 ab.out)) Z) (zt Z Z Z (zO Z Z (congrArg hH (nA.2 ab.out)) Z) (ZG Z Z Z (zO Z Z (congrArg hH (nA.2 ab.out)) Z) (oR Z (zb Z (congrArg hH (nA.2 ab.out)) Z) (oA Z Z (eN (zU ?_))))))))))
 have hE:=hJ aT;first | subst r | cases hE
 exact ⟨rfl,_,(ZL rfl),am,_,(ae.pick [] _ (by decide) rfl),rfl,rfl⟩
end Go.Proofs.Ytlnfbjphfoipaaa
namespace Go.Proofs.Ytlnfbjphfoipaaa
open Go.KL
set_option maxHeartbeats 4000000
theorem wGw (p0:wAC) (au:Option Addr) (ay:Nat) (av:Option Addr) (az:Nat) (aw:Option Addr) (aJ:Nat) (ax:Option Addr) (aK:Nat) (p1:wAD) (w:World) (U:PHeap) (hS:St0 w U []) (bC:Sl U 1 au ay p0.Starts.length (hD KL.encI p0.Starts)) (bD:Sl U 2 av az p0.Splits.length (hD wAG p0.Splits)) (bE:Sl U 3 aw aJ p0.Clocks.length (hD wAA p0.Clocks)) (bF:Sl U 4 ax aK p0.Readings.length (hD wAB p0.Readings)) {r:wAH × wAH} (hm:wDj p0 p1=some r):Gv Try.prog 112 [.agg #[.slice au p0.Starts.length ay,.slice av p0.Splits.length az,.slice aw p0.Clocks.length aJ,.slice ax p0.Readings.length aK],.agg #[jV p1.Kind,jV p1.Skier,jV p1.Index,.bool p1.Up]] w (wCB w [] U (fun U_ L_ v=>v=.tuple #[.agg #[jV r.1.skier,jV r.1.mat],.agg #[jV r.2.skier,jV r.2.mat]]/\L_=[])):=by
 unfold wDj at hm
 refine Gv.of Try.func112 Z Try.ntmps112 Try.results112 Z (sR gBh Z ?_)
 let B0:List Value:=[.slice au p0.Starts.length ay,.slice av p0.Splits.length az,.slice aw p0.Clocks.length aJ,.slice ax p0.Readings.length aK]
 refine zu (cs:=B0) rfl rfl rfl rfl rfl rfl (by rfl) hS ?_
 intro W1 b2 bb
 let B1:List Value:=[jV p1.Kind,jV p1.Skier,jV p1.Index,.bool p1.Up]
 refine zu (cs:=B1) rfl rfl rfl rfl rfl rfl (by rfl) bb ?_
 intro W5 b6 bv
 let B2:List Value:=[jV 0,jV 0]
 refine zT (cs:=B2) Z Z Z Z Z za Z bv ?_
 intro W9 ai a8
 refine zT (cs:=B2) Z Z Z Z Z za Z a8 ?_
 intro aL aj a9
 refine eN ?_
 have q:=bnd hm
 obtain ⟨⟨⟩,ap,aO⟩:=q
 try dsimp only at aO
 let B3:List Value:=[jV p1.Skier,jV (w64 (p1.Index + 1))]
 let B4:List Value:=[jV p1.Skier,jV p1.Index]
 refine yN (fun σ_ w_=>∃ (U_:PHeap),σ_ 4=.pointer (some ⟨ai,0,none⟩)/\σ_ 5=.pointer (some ⟨aj,0,none⟩)/\PHeap.Le U U_/\sW w U U_ [.blk aj 104 B3,.blk ai 104 B4,.blk b6 78 B1,.blk b2 28 B0] w_) ?_ ?_
 refine ZA ZB [3,1,3,1,3,3,2,3,2,3,3,0,0] (wFr (.fl 7 (.fx 6 (.fx 8 (.fl 9 gAy) (.fx 11 gBj .stop)) (.fx 8 (.fl 9 (.fx 6 gAy (.fx 11 gAz .stop))) (.fx 11 (.fx 6 gBj (.fx 8 (.fl 9 gAz) .stop)) .stop))))) (by kernel_rfl) ?_
 have an:=a9.drew
 generalize hw_W27:({ aL with drawn:=aL.drawn + 1 }:World)=bx at an ⊢
 refine oR Z (zJ Z Z zm Z zC) (oL Z (an.ldB (j:=2) Z Z Z zG (v:=jV p1.Skier) Z) (oR Z (zJ Z Z zm Z zC) (oL Z (an.ldB (j:=2) Z Z Z zG (v:=jV p1.Index) Z) (oR Z (zo (pv:=[(0,jV p1.Skier),(1,jV p1.Index)]) (z:=B2) (cs:=B4) Z (wAF Z (wAF Z wAO)) za wBa Z Z) (oR Z (zJ Z Z zm Z zC) (oR Z (zJ Z Z zm Z zC) (zk ?_ ?_)))))))
 refine ZY Z Z Z Z (an.ldB (j:=2) Z Z Z zG (v:=jV p1.Skier) Z) (zk ?_ ?_)
 refine ZY Z Z Z Z (an.ldB (j:=2) Z Z Z zG (v:=jV p1.Index) Z) (oR Z (zf Z Z Z) (oR Z (zo (pv:=[(0,jV p1.Skier),(1,jV (w64 (p1.Index + 1)))]) (z:=B2) (cs:=B3) Z (wAF Z (wAF Z wAO)) za wBa Z Z) (zV (j:=1) (vs:=B4) Z Z Z Z an Z Z Z Z zI (zA Z) Z Z Z ?_)))
 intro aQ ba
 have bc:sW w U U [.blk aj 104 B2,.blk ai 104 B4,.blk b6 78 B1,.blk b2 28 B0] aQ:=ba
 refine zV (j:=0) (vs:=B3) Z Z Z Z bc Z Z Z Z zI (zA Z) Z Z Z ?_
 intro aR bd
 have be:sW w U U [.blk aj 104 B3,.blk ai 104 B4,.blk b6 78 B1,.blk b2 28 B0] aR:=bd
 refine zg ?_
 cases ap
 exact zL ⟨Z,⟨U,Z,Z,(zW _),be⟩⟩
 refine zV (j:=1) (vs:=B4) Z Z Z Z an Z Z Z Z zI (zA Z) Z Z Z ?_
 intro aS bf
 have aM:sW w U U [.blk aj 104 B2,.blk ai 104 B4,.blk b6 78 B1,.blk b2 28 B0] aS:=bf
 refine ZY Z Z Z Z (aM.ldB (j:=2) Z Z Z zG (v:=jV p1.Index) Z) (oR Z (zf Z Z Z) (oR Z (zo (pv:=[(0,jV p1.Skier),(1,jV (w64 (p1.Index + 1)))]) (z:=B2) (cs:=B3) Z (wAF Z (wAF Z wAO)) za wBa Z Z) (zV (j:=0) (vs:=B3) Z Z Z Z aM Z Z Z Z zI (zA Z) Z Z Z ?_)))
 intro aT bg
 have bh:sW w U U [.blk aj 104 B3,.blk ai 104 B4,.blk b6 78 B1,.blk b2 28 B0] aT:=bg
 refine zg ?_
 cases ap
 exact zL ⟨Z,⟨U,Z,Z,(zW _),bh⟩⟩
 refine zk ?_ ?_
 refine ZY Z Z Z Z (an.ldB (j:=2) Z Z Z zG (v:=jV p1.Index) Z) (oR Z (zf Z Z Z) (zk ?_ ?_))
 refine ZY Z Z Z Z (an.ldB (j:=2) Z Z Z zG (v:=jV p1.Skier) Z) (oR Z (zo (pv:=[(0,jV p1.Skier),(1,jV (w64 (p1.Index + 1)))]) (z:=B2) (cs:=B3) Z (wAF Z (wAF Z wAO)) za wBa Z Z) (zV (j:=1) (vs:=B4) Z Z Z Z an Z Z Z Z zI (zA Z) Z Z Z ?_))
 intro aU bi
 have bj:sW w U U [.blk aj 104 B2,.blk ai 104 B4,.blk b6 78 B1,.blk b2 28 B0] aU:=bi
 refine zV (j:=0) (vs:=B3) Z Z Z Z bj Z Z Z Z zI (zA Z) Z Z Z ?_
 intro aV bk
 have bm:sW w U U [.blk aj 104 B3,.blk ai 104 B4,.blk b6 78 B1,.blk b2 28 B0] aV:=bk
 refine zg ?_
 cases ap
 exact zL ⟨Z,⟨U,Z,Z,(zW _),bm⟩⟩
 refine zV (j:=1) (vs:=B4) Z Z Z Z an Z Z Z Z zI (zA Z) Z Z Z ?_
 intro aW bn
 have aN:sW w U U [.blk aj 104 B2,.blk ai 104 B4,.blk b6 78 B1,.blk b2 28 B0] aW:=bn
 refine ZY Z Z Z Z (aN.ldB (j:=2) Z Z Z zG (v:=jV p1.Skier) Z) (oR Z (zo (pv:=[(0,jV p1.Skier),(1,jV (w64 (p1.Index + 1)))]) (z:=B2) (cs:=B3) Z (wAF Z (wAF Z wAO)) za wBa Z Z) (zV (j:=0) (vs:=B3) Z Z Z Z aN Z Z Z Z zI (zA Z) Z Z Z ?_))
 intro aX bo
 have bp:sW w U U [.blk aj 104 B3,.blk ai 104 B4,.blk b6 78 B1,.blk b2 28 B0] aX:=bo
 refine zg ?_
 cases ap
 exact zL ⟨Z,⟨U,Z,Z,(zW _),bp⟩⟩
 refine zV (j:=1) (vs:=B4) Z Z Z Z an Z Z Z Z zI (zA Z) Z Z Z ?_
 intro aY bq
 have ao:sW w U U [.blk aj 104 B2,.blk ai 104 B4,.blk b6 78 B1,.blk b2 28 B0] aY:=bq
 refine zk ?_ ?_
 refine ZY Z Z Z Z (ao.ldB (j:=2) Z Z Z zG (v:=jV p1.Skier) Z) (ZY Z Z Z Z (ao.ldB (j:=2) Z Z Z zG (v:=jV p1.Index) Z) (oR Z (zf Z Z Z) (oR Z (zo (pv:=[(0,jV p1.Skier),(1,jV (w64 (p1.Index + 1)))]) (z:=B2) (cs:=B3) Z (wAF Z (wAF Z wAO)) za wBa Z Z) (zV (j:=0) (vs:=B3) Z Z Z Z ao Z Z Z Z zI (zA Z) Z Z Z ?_))))
 intro aZ br
 have bs:sW w U U [.blk aj 104 B3,.blk ai 104 B4,.blk b6 78 B1,.blk b2 28 B0] aZ:=br
 refine zg ?_
 cases ap
 exact zL ⟨Z,⟨U,Z,Z,(zW _),bs⟩⟩
 refine ZY Z Z Z Z (ao.ldB (j:=2) Z Z Z zG (v:=jV p1.Index) Z) (oR Z (zf Z Z Z) (ZY Z Z Z Z (ao.ldB (j:=2) Z Z Z zG (v:=jV p1.Skier) Z) (oR Z (zo (pv:=[(0,jV p1.Skier),(1,jV (w64 (p1.Index + 1)))]) (z:=B2) (cs:=B3) Z (wAF Z (wAF Z wAO)) za wBa Z Z) (zV (j:=0) (vs:=B3) Z Z Z Z ao Z Z Z Z zI (zA Z) Z Z Z ?_))))
 intro a5 bt
 have bu:sW w U U [.blk aj 104 B3,.blk ai 104 B4,.blk b6 78 B1,.blk b2 28 B0] a5:=bt
 refine zg ?_
 cases ap
 exact zL ⟨Z,⟨U,Z,Z,(zW _),bu⟩⟩
 rintro bH bA ⟨aP,a6,a7,bG,aq⟩
 refine zU ?_
 cases aO
 exact ⟨rfl,_,(wCT (rs:=[.cell 4 104,.cell 5 104]) (vs:=[.agg B4.toArray,.agg B3.toArray]) ⟨⟨_,a6,(wAy zi zI (aq.blkAt (k:=1) rfl) (vs:=B4) rfl rfl)⟩,⟨⟨_,a7,(wAy zi zI (aq.blkAt (k:=0) rfl) (vs:=B3) rfl rfl)⟩,trivial⟩⟩ rfl),aP,_,(aq.pick [] _ (by decide) rfl),rfl,rfl⟩
theorem wGx (p0:wAC) (ah:Option Addr) (ak:Nat) (af:Option Addr) (ag:Nat) (ai:Option Addr) (am:Nat) (aj:Option Addr) (an:Nat) (p1:wAD) (w:World) (U:PHeap) (hS:St0 w U []) (aQ:Sl U 1 ah ak p0.Starts.length (hD KL.encI p0.Starts)) (ap:Sl U 2 af ag p0.Splits.length (hD wAG p0.Splits)) (aR:Sl U 3 ai am p0.Clocks.length (hD wAA p0.Clocks)) (aS:Sl U 4 aj an p0.Readings.length (hD wAB p0.Readings)) {r:Int × Int} (hm:wDk p0 p1=some r):Gv Try.prog 113 [.agg #[.slice ah p0.Starts.length ak,.slice af p0.Splits.length ag,.slice ai p0.Clocks.length am,.slice aj p0.Readings.length an],.agg #[jV p1.Kind,jV p1.Skier,jV p1.Index,.bool p1.Up]] w (wCB w [] U (fun U_ L_ v=>v=.tuple #[jV r.1,jV r.2]/\L_=[])):=by
 unfold wDk at hm
 refine Gv.of Try.func113 rfl Try.ntmps113 Try.results113 rfl (sR gBi rfl (zu (cs:=[.slice ah p0.Starts.length ak,.slice af p0.Splits.length ag,.slice ai p0.Clocks.length am,.slice aj p0.Readings.length an]) rfl rfl rfl rfl rfl rfl (by rfl) hS ?_))
 intro W1 b2 ay
 refine zu (cs:=[jV p1.Kind,jV p1.Skier,jV p1.Index,.bool p1.Up]) rfl rfl rfl rfl rfl rfl (by rfl) ay ?_
 intro W5 b6 az
 refine yD rfl rfl rfl rfl rfl rfl (yD rfl rfl rfl rfl rfl rfl (eN (zM (ZA ZB [3,1,3,1,3,3,1,3,1,3,1,3,3,1,3,3,3] fL17 (by kernel_rfl) ?_))))
 have ac:=az.drew
 generalize hw_W10:({ W5 with drawn:=W5.drawn + 1 }:World)=aL at ac ⊢
 refine oR Z (zJ Z Z zQ Z yE) (oL Z (ac.ldB (j:=1) Z Z Z yS (v:=.slice af p0.Splits.length ag) Z) (oR Z (zJ Z Z zm Z zC) (oL Z (ac.ldB (j:=0) Z Z Z zG (v:=jV p1.Index) Z) (bnK hm fun aq ae aJ=>?_))))
 have q:=ap.el (fun _=>rfl) (wAW ae)
 obtain ⟨aM,aT,au,aw⟩:=q
 refine oR Z (ZO Z Z au Z ZQ zj (wBJ ae) (wBL ae)) (oR Z (zJ Z Z ZK Z zC) (oL Z (ac.ldC (f:=1) aw (v:=jV aq.Hi) Z Z zG Z) (oR Z (zJ Z Z zQ Z yE) (oL Z (ac.ldB (j:=1) Z Z Z yS (v:=.slice af p0.Splits.length ag) Z) (oR Z (zJ Z Z zm Z zC) (oL Z (ac.ldB (j:=0) Z Z Z zG (v:=jV p1.Index) Z) ?_))))))
 have q:=ap.el (fun _=>rfl) (wAW ae)
 obtain ⟨aN,aU,av,ax⟩:=q
 refine oR Z (ZO Z Z av Z ZQ zj (wBJ ae) (wBL ae)) (oR Z (zJ Z Z ZK Z zC) (oL Z (ac.ldC (f:=0) ax (v:=jV aq.Lo) Z Z zG Z) (oR Z (Runs.negw Z Z) (oA Z Z (oA Z Z (eN (zU ?_)))))))
 cases aJ
 exact ⟨rfl,_,(wDv rfl rfl),U,_,(ac.pick [] _ (by decide) rfl),rfl,rfl⟩
theorem wGy (p0:wAC) (ah:Option Addr) (ak:Nat) (ai:Option Addr) (am:Nat) (af:Option Addr) (ag:Nat) (aj:Option Addr) (an:Nat) (p1:wAD) (w:World) (U:PHeap) (hS:St0 w U []) (aQ:Sl U 1 ah ak p0.Starts.length (hD KL.encI p0.Starts)) (aR:Sl U 2 ai am p0.Splits.length (hD wAG p0.Splits)) (aS:Sl U 3 af ag p0.Clocks.length (hD wAA p0.Clocks)) (aT:Sl U 4 aj an p0.Readings.length (hD wAB p0.Readings)) {r:Bool} (hm:wDl p0 p1=some r):Gv Try.prog 114 [.agg #[.slice ah p0.Starts.length ak,.slice ai p0.Splits.length am,.slice af p0.Clocks.length ag,.slice aj p0.Readings.length an],.agg #[jV p1.Kind,jV p1.Skier,jV p1.Index,.bool p1.Up]] w (wCB w [] U (fun U_ L_ v=>v=.bool r/\L_=[])):=by
 unfold wDl at hm
 refine Gv.of Try.func114 Z Try.ntmps114 Try.results114 Z (sR gAv Z ?_)
 let B0:List Value:=[.slice ah p0.Starts.length ak,.slice ai p0.Splits.length am,.slice af p0.Clocks.length ag,.slice aj p0.Readings.length an]
 refine zu (cs:=B0) rfl rfl rfl rfl rfl rfl (by rfl) hS ?_
 intro W1 b2 aM
 let B1:List Value:=[jV p1.Kind,jV p1.Skier,jV p1.Index,.bool p1.Up]
 refine zu (cs:=B1) rfl rfl rfl rfl rfl rfl (by rfl) aM ?_
 intro W5 b6 ae
 refine oA Z Z (eN (sR (wME gBa) Z (oR Z (zJ Z Z zm Z zC) (oL Z (ae.ldB (j:=0) Z Z Z zG (v:=jV p1.Skier) Z) (oR Z (yO Z Z Z) (oM Z Z ?_))))))
 by_cases c9:p1.Skier=0
 have au:=hm;rw [if_pos c9] at au;replace c9:=zS c9
 refine rU Z (wT Z c9) (zJ Z Z zm Z zC) (zl Z Z Z (wT Z c9) (ae.ldB (j:=0) Z Z Z zG (v:=jV p1.Index) Z) Z (rU Z (wT Z c9) (zJ Z Z zQ Z Zm) (zl Z Z Z (wT Z c9) (ae.ldB (j:=1) Z Z Z yA (v:=.slice af p0.Clocks.length ag) Z) Z (rU Z (wT Z c9) (zz Z Z ZR) (rU Z (wT Z c9) (yH Z Z Z) (bnK au fun aW aJ aN=>zE 0 Z Z Z (wT Z c9) (zD Z Z yJ (zB Z (zB Z (zB Z zK))) Z) ae (fun hs=>wBb p1.Index 0 (w64 ((↑p0.Clocks.length:Int) - 1)) W5 U hs aJ) (.inr Z) ?_))))))
 rintro aq aO aV aw aU aK ⟨rfl,rfl⟩
 have aL:sW w U aq [.blk b6 78 B1,.blk b2 28 B0] aw:=aK
 refine oR Z (zR Z (Zh c9.out) Z) (oA Z Z (eN (zU ?_)))
 have hE:=hJ aN;first | subst r | cases hE
 exact ⟨rfl,_,(ZL rfl),aq,_,(aL.pick [] _ (by decide) rfl),rfl,rfl⟩
 have av:=hm;rw [if_neg c9] at av;replace c9:=zS c9
 refine oF Z c9 (oF Z c9 (oF Z c9 (oF Z c9 (oF Z c9 (oF Z c9 (ZG Z Z Z (zO Z Z (zd c9.out) Z) (oR Z (zb Z (zd c9.out) Z) (oA Z Z (eN (zU ?_))))))))))
 have hE:=hJ av;first | subst r | cases hE
 exact ⟨rfl,_,(ZL rfl),U,_,(ae.pick [] _ (by decide) rfl),rfl,rfl⟩
theorem wBx (p0:Int) (w:World) (U:PHeap) (hS:St0 w U [])  {r:wAH} (hm:wBN p0=some r):Gv Try.prog 82 [jV p0] w (wCB w [] U (fun U_ L_ v=>v=.agg #[jV r.skier,jV r.mat]/\L_=[])):=by
 unfold wBN at hm
 refine Gv.of Try.func82 Z Try.ntmps82 Try.results82 Z (sR (.fx 0 .nil .stop) Z (zT (cs:=[jV 0,jV 0]) Z Z Z Z Z za Z hS ?_))
 intro W1 b2 ag
 refine eN (sR (wCa (.fx 3 .nil .stop)) Z (oM Z Z (oR Z (zf Z Z Z) ?_)))
 let B0:List Value:=[jV (-1),jV (w64 (1 + p0))]
 refine oR Z (zo (pv:=[(0,jV (-1)),(1,jV (w64 (1 + p0)))]) (z:=[jV 0,jV 0]) (cs:=B0) Z (wAF Z (wAF Z wAO)) za wBa Z Z) (zV (j:=0) (vs:=B0) Z Z Z Z ag Z Z Z Z zI (zA Z) Z Z Z ?_)
 intro W5 ah
 have ac:sW w U U [.blk b2 104 B0] W5:=ah
 refine eN (zU ?_)
 cases hm
 exact ⟨rfl,_,(wGl (v:=.agg B0.toArray) ⟨⟨_,rfl,(wAy zi zI (ac.blkAt (k:=0) rfl) (vs:=B0) rfl rfl)⟩,trivial⟩),U,_,(ac.pick [] _ (by decide) rfl),rfl,rfl⟩
theorem wGz (p0:wAC) (aq:Option Addr) (ax:Nat) (au:Option Addr) (ay:Nat) (av:Option Addr) (az:Nat) (aw:Option Addr) (aJ:Nat) (p1:wAD) (w:World) (U:PHeap) (hS:St0 w U []) (bi:Sl U 1 aq ax p0.Starts.length (hD KL.encI p0.Starts)) (bj:Sl U 2 au ay p0.Splits.length (hD wAG p0.Splits)) (bk:Sl U 3 av az p0.Clocks.length (hD wAA p0.Clocks)) (bm:Sl U 4 aw aJ p0.Readings.length (hD wAB p0.Readings)) {r:wAH × wAH} (hm:wDm p0 p1=some r):Gv Try.prog 115 [.agg #[.slice aq p0.Starts.length ax,.slice au p0.Splits.length ay,.slice av p0.Clocks.length az,.slice aw p0.Readings.length aJ],.agg #[jV p1.Kind,jV p1.Skier,jV p1.Index,.bool p1.Up]] w (wCB w [] U (fun U_ L_ v=>v=.tuple #[.agg #[jV r.1.skier,jV r.1.mat],.agg #[jV r.2.skier,jV r.2.mat]]/\L_=[])):=by
 unfold wDm at hm
 refine Gv.of Try.func115 Z Try.ntmps115 Try.results115 Z (sR gBh Z ?_)
 let B0:List Value:=[.slice aq p0.Starts.length ax,.slice au p0.Splits.length ay,.slice av p0.Clocks.length az,.slice aw p0.Readings.length aJ]
 refine zu (cs:=B0) rfl rfl rfl rfl rfl rfl (by rfl) hS ?_
 intro W1 b2 aZ
 let B1:List Value:=[jV p1.Kind,jV p1.Skier,jV p1.Index,.bool p1.Up]
 refine zu (cs:=B1) rfl rfl rfl rfl rfl rfl (by rfl) aZ ?_
 intro W5 b6 ba
 let B2:List Value:=[jV 0,jV 0]
 refine zT (cs:=B2) Z Z Z Z Z za Z ba ?_
 intro W9 aj aV
 refine zT (cs:=B2) Z Z Z Z Z za Z aV ?_
 intro aL ak aW
 refine eN (zM (ZA ZB [2,3,1,2,0,0] (.fl 1 (.fl 2 (.fx 0 (.fx 3 gAl .stop) .stop))) (by kernel_rfl) ?_))
 have ao:=aW.drew
 generalize hw_W18:({ aL with drawn:=aL.drawn + 1 }:World)=aP at ao ⊢
 refine oR Z (zJ Z Z zm Z zC) (oL Z (ao.ldB (j:=2) Z Z Z zG (v:=jV p1.Index) Z) (bnK hm fun aN aT bb=>zE 0 Z Z Z Z (zD Z Z yY zK Z) ao (fun hs=>wBK aP U hs aT) (.inr Z) ?_))
 rintro aK bd bp aM bn aX ⟨rfl,rfl⟩
 have aY:sW w U aK [.blk ak 104 B2,.blk aj 104 B2,.blk b6 78 B1,.blk b2 28 B0] aM:=aX
 refine bnK bb fun aO aU bc=>zE 0 Z Z Z Z (zD Z Z Try.call82 (zB Z zK) Z) aY (fun hs=>wBx p1.Index aM aK hs aU) (.inr Z) ?_
 rintro ai be bq aQ bo a5 ⟨rfl,rfl⟩
 have a6:sW w U ai [.blk ak 104 B2,.blk aj 104 B2,.blk b6 78 B1,.blk b2 28 B0] aQ:=a5
 let B3:List Value:=[jV aN.skier,jV aN.mat]
 refine zV (j:=1) (vs:=B3) Z Z Z Z a6 Z Z Z Z zI (zA Z) Z Z Z ?_
 intro aR a7
 have a8:sW w U ai [.blk ak 104 B2,.blk aj 104 B3,.blk b6 78 B1,.blk b2 28 B0] aR:=a7
 let B4:List Value:=[jV aO.skier,jV aO.mat]
 refine zV (j:=0) (vs:=B4) Z Z Z Z a8 Z Z Z Z zI (zA Z) Z Z Z ?_
 intro aS a9
 have ap:sW w U ai [.blk ak 104 B4,.blk aj 104 B3,.blk b6 78 B1,.blk b2 28 B0] aS:=a9
 refine eN (zU ?_)
 cases bc
 exact ⟨rfl,_,(wCT (rs:=[.cell 4 104,.cell 5 104]) (vs:=[.agg B3.toArray,.agg B4.toArray]) ⟨⟨_,rfl,(wAy zi zI (ap.blkAt (k:=1) rfl) (vs:=B3) rfl rfl)⟩,⟨⟨_,rfl,(wAy zi zI (ap.blkAt (k:=0) rfl) (vs:=B4) rfl rfl)⟩,trivial⟩⟩ rfl),ai,_,(ap.pick [] _ (by decide) rfl),rfl,rfl⟩
theorem wHA (p0:wAC) (ah:Option Addr) (ak:Nat) (ai:Option Addr) (am:Nat) (af:Option Addr) (ag:Nat) (aj:Option Addr) (an:Nat) (p1:wAD) (w:World) (U:PHeap) (hS:St0 w U []) (aQ:Sl U 1 ah ak p0.Starts.length (hD KL.encI p0.Starts)) (aR:Sl U 2 ai am p0.Splits.length (hD wAG p0.Splits)) (ap:Sl U 3 af ag p0.Clocks.length (hD wAA p0.Clocks)) (aS:Sl U 4 aj an p0.Readings.length (hD wAB p0.Readings)) {r:Int × Int} (hm:wDn p0 p1=some r):Gv Try.prog 116 [.agg #[.slice ah p0.Starts.length ak,.slice ai p0.Splits.length am,.slice af p0.Clocks.length ag,.slice aj p0.Readings.length an],.agg #[jV p1.Kind,jV p1.Skier,jV p1.Index,.bool p1.Up]] w (wCB w [] U (fun U_ L_ v=>v=.tuple #[jV r.1,jV r.2]/\L_=[])):=by
 unfold wDn at hm
 refine Gv.of Try.func116 rfl Try.ntmps116 Try.results116 rfl (sR gBi rfl (zu (cs:=[.slice ah p0.Starts.length ak,.slice ai p0.Splits.length am,.slice af p0.Clocks.length ag,.slice aj p0.Readings.length an]) rfl rfl rfl rfl rfl rfl (by rfl) hS ?_))
 intro W1 b2 ay
 refine zu (cs:=[jV p1.Kind,jV p1.Skier,jV p1.Index,.bool p1.Up]) rfl rfl rfl rfl rfl rfl (by rfl) ay ?_
 intro W5 b6 az
 refine yD rfl rfl rfl rfl rfl rfl (yD rfl rfl rfl rfl rfl rfl (eN (zM (ZA ZB [3,1,3,1,3,3,3,1,3,3,1,3,1,3,3,3,1,3,3] fL19 (by kernel_rfl) ?_))))
 have ac:=az.drew
 generalize hw_W10:({ W5 with drawn:=W5.drawn + 1 }:World)=aL at ac ⊢
 refine oR Z (zJ Z Z zQ Z Zm) (oL Z (ac.ldB (j:=1) Z Z Z yA (v:=.slice af p0.Clocks.length ag) Z) (oR Z (zJ Z Z zm Z zC) (oL Z (ac.ldB (j:=0) Z Z Z zG (v:=jV p1.Index) Z) (bnK hm fun aq ae aJ=>?_))))
 have q:=ap.el (fun _=>rfl) (wAW ae)
 obtain ⟨aM,aT,au,aw⟩:=q
 refine oR Z (ZO Z Z au Z ZR Zw (wBJ ae) (wBL ae)) (oR Z (zJ Z Z Zy Z zj) (oR Z (zJ Z Z ZK Z zC) (oL Z (ac.ldC (f:=0) aw (v:=jV aq.Offset.Lo) Z Z zG Z) (oR Z (Runs.negw Z Z) (oR Z (zJ Z Z zQ Z Zm) (oL Z (ac.ldB (j:=1) Z Z Z yA (v:=.slice af p0.Clocks.length ag) Z) (oR Z (zJ Z Z zm Z zC) (oL Z (ac.ldB (j:=0) Z Z Z zG (v:=jV p1.Index) Z) ?_))))))))
 have q:=ap.el (fun _=>rfl) (wAW ae)
 obtain ⟨aN,aU,av,ax⟩:=q
 refine oR Z (ZO Z Z av Z ZR Zw (wBJ ae) (wBL ae)) (oR Z (zJ Z Z Zy Z zj) (oR Z (zJ Z Z ZK Z zC) (oL Z (ac.ldC (f:=1) ax (v:=jV aq.Offset.Hi) Z Z zG Z) (oA Z Z (oA Z Z (eN (zU ?_)))))))
 cases aJ
 exact ⟨rfl,_,(wDv rfl rfl),U,_,(ac.pick [] _ (by decide) rfl),rfl,rfl⟩
theorem wGY (p0:wAC) (ah:Option Addr) (ak:Nat) (ai:Option Addr) (am:Nat) (aj:Option Addr) (an:Nat) (af:Option Addr) (ag:Nat) (p1:wAD) (w:World) (U:PHeap) (hS:St0 w U []) (aQ:Sl U 1 ah ak p0.Starts.length (hD KL.encI p0.Starts)) (aR:Sl U 2 ai am p0.Splits.length (hD wAG p0.Splits)) (aS:Sl U 3 aj an p0.Clocks.length (hD wAA p0.Clocks)) (aT:Sl U 4 af ag p0.Readings.length (hD wAB p0.Readings)) {r:Bool} (hm:wDQ p0 p1=some r):Gv Try.prog 117 [.agg #[.slice ah p0.Starts.length ak,.slice ai p0.Splits.length am,.slice aj p0.Clocks.length an,.slice af p0.Readings.length ag],.agg #[jV p1.Kind,jV p1.Skier,jV p1.Index,.bool p1.Up]] w (wCB w [] U (fun U_ L_ v=>v=.bool r/\L_=[])):=by
 unfold wDQ at hm
 refine Gv.of Try.func117 Z Try.ntmps117 Try.results117 Z (sR gAv Z ?_)
 let B0:List Value:=[.slice ah p0.Starts.length ak,.slice ai p0.Splits.length am,.slice aj p0.Clocks.length an,.slice af p0.Readings.length ag]
 refine zu (cs:=B0) rfl rfl rfl rfl rfl rfl (by rfl) hS ?_
 intro W1 b2 aM
 let B1:List Value:=[jV p1.Kind,jV p1.Skier,jV p1.Index,.bool p1.Up]
 refine zu (cs:=B1) rfl rfl rfl rfl rfl rfl (by rfl) aM ?_
 intro W5 b6 ae
 refine oA Z Z (eN (sR (wME gBa) Z (oR Z (zJ Z Z zm Z zC) (oL Z (ae.ldB (j:=0) Z Z Z zG (v:=jV p1.Skier) Z) (oR Z (yO Z Z Z) (oM Z Z ?_))))))
 by_cases c9:p1.Skier=0
 have au:=hm;rw [if_pos c9] at au;replace c9:=zS c9
 refine rU Z (wT Z c9) (zJ Z Z zm Z zC) (zl Z Z Z (wT Z c9) (ae.ldB (j:=0) Z Z Z zG (v:=jV p1.Index) Z) Z (rU Z (wT Z c9) (zJ Z Z zQ Z Zr) (zl Z Z Z (wT Z c9) (ae.ldB (j:=1) Z Z Z yM (v:=.slice af p0.Readings.length ag) Z) Z (rU Z (wT Z c9) (zz Z Z ZX) (rU Z (wT Z c9) (yH Z Z Z) (bnK au fun aW aJ aN=>zE 0 Z Z Z (wT Z c9) (zD Z Z yJ (zB Z (zB Z (zB Z zK))) Z) ae (fun hs=>wBb p1.Index 0 (w64 ((↑p0.Readings.length:Int) - 1)) W5 U hs aJ) (.inr Z) ?_))))))
 rintro aq aO aV aw aU aK ⟨rfl,rfl⟩
 have aL:sW w U aq [.blk b6 78 B1,.blk b2 28 B0] aw:=aK
 refine oR Z (zR Z (Zh c9.out) Z) (oA Z Z (eN (zU ?_)))
 have hE:=hJ aN;first | subst r | cases hE
 exact ⟨rfl,_,(ZL rfl),aq,_,(aL.pick [] _ (by decide) rfl),rfl,rfl⟩
 have av:=hm;rw [if_neg c9] at av;replace c9:=zS c9
 refine oF Z c9 (oF Z c9 (oF Z c9 (oF Z c9 (oF Z c9 (oF Z c9 (ZG Z Z Z (zO Z Z (zd c9.out) Z) (oR Z (zb Z (zd c9.out) Z) (oA Z Z (eN (zU ?_))))))))))
 have hE:=hJ av;first | subst r | cases hE
 exact ⟨rfl,_,(ZL rfl),U,_,(ae.pick [] _ (by decide) rfl),rfl,rfl⟩
theorem wGZ (p0:wAC) (a5:Option Addr) (a8:Nat) (a6:Option Addr) (a9:Nat) (a7:Option Addr) (ba:Nat) (aJ:Option Addr) (aK:Nat) (p1:wAD) (w:World) (U:PHeap) (hS:St0 w U []) (fS:Sl U 1 a5 a8 p0.Starts.length (hD KL.encI p0.Starts)) (fT:Sl U 2 a6 a9 p0.Splits.length (hD wAG p0.Splits)) (fU:Sl U 3 a7 ba p0.Clocks.length (hD wAA p0.Clocks)) (eE:Sl U 4 aJ aK p0.Readings.length (hD wAB p0.Readings)) {r:wAH × wAH} (hm:wDR p0 p1=some r):Gv Try.prog 118 [.agg #[.slice a5 p0.Starts.length a8,.slice a6 p0.Splits.length a9,.slice a7 p0.Clocks.length ba,.slice aJ p0.Readings.length aK],.agg #[jV p1.Kind,jV p1.Skier,jV p1.Index,.bool p1.Up]] w (wCB w [] U (fun U_ L_ v=>v=.tuple #[.agg #[jV r.1.skier,jV r.1.mat],.agg #[jV r.2.skier,jV r.2.mat]]/\L_=[])):=by
 unfold wDR at hm
 refine Gv.of Try.func118 Z Try.ntmps118 Try.results118 Z (sR gBh Z ?_)
 let B0:List Value:=[.slice a5 p0.Starts.length a8,.slice a6 p0.Splits.length a9,.slice a7 p0.Clocks.length ba,.slice aJ p0.Readings.length aK]
 refine zu (cs:=B0) rfl rfl rfl rfl rfl rfl (by rfl) hS ?_
 intro W1 b2 eh
 let B1:List Value:=[jV p1.Kind,jV p1.Skier,jV p1.Index,.bool p1.Up]
 refine zu (cs:=B1) rfl rfl rfl rfl rfl rfl (by rfl) eh ?_
 intro W5 b6 eD
 let B2:List Value:=[jV 0,jV 0]
 refine zT (cs:=B2) Z Z Z Z Z za Z eD ?_
 intro W9 ae dM
 refine zT (cs:=B2) Z Z Z Z Z za Z dM ?_
 intro fk af ax
 refine eN (sR (wFr (.fx 6 (.fx 7 .nil .stop) .stop)) Z (oR Z (zJ Z Z zQ Z Zr) (oL Z (ax.ldB (j:=3) Z Z Z yM (v:=.slice aJ p0.Readings.length aK) Z) (oR Z (zJ Z Z zm Z zC) (oL Z (ax.ldB (j:=2) Z Z Z zG (v:=jV p1.Index) Z) (bnK hm fun ab aW eG=>?_))))))
 have q:=eE.el (fun _=>rfl) (wAW aW)
 obtain ⟨fI,fY,dK,dL⟩:=q
 refine oR Z (ZO Z Z dK Z ZX Ze (wBJ aW) (wBL aW)) (oL Z (ax.ldCA (f:=0) dL Z Z yo Ze (us:=[jV ab.Skier,jV ab.Mat,jV ab.Clock,jV ab.Time]) Z Z) (zT (cs:=[jV 0,jV 0,jV 0,jV 0]) Z Z Z Z Z Zp Z ax ?_))
 intro fz aa dZ
 let B3:List Value:=[jV ab.Skier,jV ab.Mat,jV ab.Clock,jV ab.Time]
 refine zV (j:=0) (vs:=B3) Z Z Z Z dZ Z Z Z Z Ze (zA Z) Z Z Z ?_
 intro aO eg
 have ej:sW w U U [.blk aa 39 B3,.blk af 104 B2,.blk ae 104 B2,.blk b6 78 B1,.blk b2 28 B0] aO:=eg
 refine eN ?_
 have q:=bnd eG
 obtain ⟨⟨fb,fc⟩,eI,bP⟩:=q
 try dsimp only at bP
 let B4:List Value:=[jV ab.Skier,jV ab.Mat]
 let B5:List Value:=[jV fb,jV fc]
 refine yN (fun σ_ w_=>∃ (U_:PHeap),σ_ 4=.pointer (some ⟨ae,0,none⟩)/\σ_ 5=.pointer (some ⟨af,0,none⟩)/\PHeap.Le U U_/\sW w U U_ [.blk aa 39 B3,.blk af 104 B4,.blk ae 104 B5,.blk b6 78 B1,.blk b2 28 B0] w_) ?_ ?_
 refine bnK eI fun cc aw eH=>ZA ZB [3,1,2,3,2,3,2,3,0,0] (.fl 0 (.fl 1 (.fl 3 (.fl 5 (.fx 2 (.fx 4 gBo (.fx 6 gBp (.fx 8 (.fx 4 gBb (.fx 6 gBc .stop)) .stop))) (.fx 4 (.fx 2 gBo (.fx 6 gBk .stop)) (.fx 6 (.fx 2 gBp (.fx 4 gBk .stop)) .stop))))))) (by kernel_rfl) ?_
 have ap:=ej.drew
 generalize hw_W54:({ aO with drawn:=aO.drawn + 1 }:World)=aP at ap ⊢
 let B6:List Value:=[jV cc.skier,jV cc.mat]
 refine ZP (s:=.nil) (M:=fun σ_ w_=>∃ (U_:PHeap),σ_ 4=.pointer (some ⟨ae,0,none⟩)/\σ_ 5=.pointer (some ⟨af,0,none⟩)/\σ_ 6=.pointer (some ⟨aa,0,none⟩)/\σ_ 13=.pointer (some ⟨aa,2,none⟩)/\σ_ 14=jV ab.Clock/\σ_ 15=.agg B6.toArray/\σ_ 16=.pointer (some ⟨aa,0,none⟩)/\σ_ 17=jV ab.Skier/\σ_ 18=.pointer (some ⟨aa,1,none⟩)/\σ_ 19=jV ab.Mat/\σ_ 20=.agg B4.toArray/\PHeap.Le U U_/\sW w U U_ [.blk aa 39 B3,.blk af 104 B4,.blk ae 104 B6,.blk b6 78 B1,.blk b2 28 B0] w_) ?_ fun bQ=>?_
 rintro f8 fm ⟨cd,cA,cB,fJ,fK,fL,fM,fN,fO,fP,fQ,fR,eK,dN⟩
 refine zg ?_
 cases eH
 exact zL ⟨Z,⟨cd,cA,cB,eK,dN⟩⟩
 refine ZP (s:=.fx 9 .nil .stop) (M:=fun σ_ w_=>∃ (U_:PHeap),σ_ 4=.pointer (some ⟨ae,0,none⟩)/\σ_ 5=.pointer (some ⟨af,0,none⟩)/\σ_ 6=.pointer (some ⟨aa,0,none⟩)/\σ_ 13=.pointer (some ⟨aa,2,none⟩)/\σ_ 14=jV ab.Clock/\σ_ 15=.agg B6.toArray/\σ_ 16=.pointer (some ⟨aa,0,none⟩)/\σ_ 17=jV ab.Skier/\σ_ 18=.pointer (some ⟨aa,1,none⟩)/\σ_ 19=jV ab.Mat/\σ_ 20=.agg B4.toArray/\PHeap.Le U U_/\sW w U U_ [.blk aa 39 B3,.blk af 104 B2,.blk ae 104 B6,.blk b6 78 B1,.blk b2 28 B0] w_) ?_ fun bR=>?_
 rintro f9 fq ⟨bb,cC,bi,cD,cE,cG,cH,cI,cJ,cK,cL,bj,eL,dO⟩
 refine zV (j:=1) (vs:=B4) Z Z Z Z dO Z bi bj Z zI (zA Z) Z Z Z ?_
 intro cm dP
 have dQ:sW w U bb [.blk aa 39 B3,.blk af 104 B4,.blk ae 104 B6,.blk b6 78 B1,.blk b2 28 B0] cm:=dP
 exact bQ _ _ ⟨bb,cC,bi,cD,cE,cG,cH,cI,cJ,cK,cL,bj,eL,dQ⟩
 refine ZP (s:=gAn) (M:=fun σ_ w_=>∃ (U_:PHeap),σ_ 4=.pointer (some ⟨ae,0,none⟩)/\σ_ 5=.pointer (some ⟨af,0,none⟩)/\σ_ 6=.pointer (some ⟨aa,0,none⟩)/\σ_ 13=.pointer (some ⟨aa,2,none⟩)/\σ_ 14=jV ab.Clock/\σ_ 15=.agg B6.toArray/\σ_ 16=.pointer (some ⟨aa,0,none⟩)/\σ_ 17=jV ab.Skier/\σ_ 18=.pointer (some ⟨aa,1,none⟩)/\σ_ 19=jV ab.Mat/\σ_ 20=.agg B4.toArray/\PHeap.Le U U_/\sW w U U_ [.blk aa 39 B3,.blk af 104 B2,.blk ae 104 B2,.blk b6 78 B1,.blk b2 28 B0] w_) ?_ fun eJ=>?_
 rintro ga ft ⟨bc,bk,cM,cN,cO,cP,bm,cQ,cR,cS,cU,cV,eM,dR⟩
 refine zV (j:=2) (vs:=B6) Z Z Z Z dR Z bk bm Z zI (zA Z) Z Z Z ?_
 intro cn dS
 have dT:sW w U bc [.blk aa 39 B3,.blk af 104 B2,.blk ae 104 B6,.blk b6 78 B1,.blk b2 28 B0] cn:=dS
 exact bR _ _ ⟨bc,bk,cM,cN,cO,cP,bm,cQ,cR,cS,cU,cV,eM,dT⟩
 refine ZP (s:=gAo) (M:=fun σ_ w_=>∃ (U_:PHeap),σ_ 4=.pointer (some ⟨ae,0,none⟩)/\σ_ 5=.pointer (some ⟨af,0,none⟩)/\σ_ 6=.pointer (some ⟨aa,0,none⟩)/\σ_ 13=.pointer (some ⟨aa,2,none⟩)/\σ_ 14=jV ab.Clock/\σ_ 15=.agg B6.toArray/\σ_ 16=.pointer (some ⟨aa,0,none⟩)/\σ_ 17=jV ab.Skier/\σ_ 18=.pointer (some ⟨aa,1,none⟩)/\σ_ 19=jV ab.Mat/\PHeap.Le U U_/\sW w U U_ [.blk aa 39 B3,.blk af 104 B2,.blk ae 104 B6,.blk b6 78 B1,.blk b2 28 B0] w_) ?_ fun bS=>?_
 rintro gb fu ⟨bd,cW,bn,cX,cY,cZ,c6,c8,bo,da,bp,eO,dU⟩
 refine oR Z (zo (pv:=[(0,jV ab.Skier),(1,jV ab.Mat)]) (z:=B2) (cs:=B4) Z (wAF bo (wAF bp wAO)) za wBa Z Z) (zV (j:=1) (vs:=B4) Z Z Z Z dU Z bn Z Z zI (zA Z) Z Z Z ?_)
 intro co dV
 have dW:sW w U bd [.blk aa 39 B3,.blk af 104 B4,.blk ae 104 B6,.blk b6 78 B1,.blk b2 28 B0] co:=dV
 exact bQ _ _ ⟨bd,cW,bn,cX,cY,cZ,c6,c8,bo,da,bp,Z,eO,dW⟩
 refine ZP (s:=gBc) (M:=fun σ_ w_=>∃ (U_:PHeap),σ_ 4=.pointer (some ⟨ae,0,none⟩)/\σ_ 5=.pointer (some ⟨af,0,none⟩)/\σ_ 6=.pointer (some ⟨aa,0,none⟩)/\σ_ 13=.pointer (some ⟨aa,2,none⟩)/\σ_ 14=jV ab.Clock/\σ_ 15=.agg B6.toArray/\σ_ 16=.pointer (some ⟨aa,0,none⟩)/\σ_ 18=.pointer (some ⟨aa,1,none⟩)/\σ_ 19=jV ab.Mat/\PHeap.Le U U_/\sW w U U_ [.blk aa 39 B3,.blk af 104 B2,.blk ae 104 B6,.blk b6 78 B1,.blk b2 28 B0] w_) ?_ fun bU=>?_
 rintro ge fw ⟨cf,db,dd,de,df,dg,dh,bq,di,dk,eQ,bM⟩
 exact ZY Z Z Z Z (bM.ldB (j:=0) Z Z bq zG (v:=jV ab.Skier) Z) (bS _ _ ⟨cf,db,dd,de,df,dg,dh,bq,Z,di,dk,eQ,bM⟩)
 refine ZP (s:=gBb) (M:=fun σ_ w_=>∃ (U_:PHeap),σ_ 4=.pointer (some ⟨ae,0,none⟩)/\σ_ 5=.pointer (some ⟨af,0,none⟩)/\σ_ 6=.pointer (some ⟨aa,0,none⟩)/\σ_ 13=.pointer (some ⟨aa,2,none⟩)/\σ_ 14=jV ab.Clock/\σ_ 15=.agg B6.toArray/\σ_ 16=.pointer (some ⟨aa,0,none⟩)/\σ_ 17=jV ab.Skier/\σ_ 18=.pointer (some ⟨aa,1,none⟩)/\PHeap.Le U U_/\sW w U U_ [.blk aa 39 B3,.blk af 104 B2,.blk ae 104 B6,.blk b6 78 B1,.blk b2 28 B0] w_) ?_ fun bV=>?_
 rintro gf fy ⟨cg,dl,dm,dn,dp,dq,dr,dt,du,br,eU,bN⟩
 exact ZY Z Z Z Z (bN.ldB (j:=0) Z Z br zG (v:=jV ab.Mat) Z) (bS _ _ ⟨cg,dl,dm,dn,dp,dq,dr,dt,du,br,Z,eU,bN⟩)
 refine ZP (s:=.fl 7 gAn) (M:=fun σ_ w_=>∃ (U_:PHeap),σ_ 4=.pointer (some ⟨ae,0,none⟩)/\σ_ 5=.pointer (some ⟨af,0,none⟩)/\σ_ 6=.pointer (some ⟨aa,0,none⟩)/\σ_ 13=.pointer (some ⟨aa,2,none⟩)/\σ_ 14=jV ab.Clock/\σ_ 15=.agg B6.toArray/\σ_ 16=.pointer (some ⟨aa,0,none⟩)/\σ_ 17=jV ab.Skier/\σ_ 18=.pointer (some ⟨aa,1,none⟩)/\σ_ 19=jV ab.Mat/\PHeap.Le U U_/\sW w U U_ [.blk aa 39 B3,.blk af 104 B2,.blk ae 104 B2,.blk b6 78 B1,.blk b2 28 B0] w_) ?_ fun bW=>?_
 rintro gg fA ⟨be,bs,dv,dw,dx,dz,bt,dA,bu,dB,bv,eV,dX⟩
 refine oR Z (zo (pv:=[(0,jV ab.Skier),(1,jV ab.Mat)]) (z:=B2) (cs:=B4) Z (wAF bu (wAF bv wAO)) za wBa Z Z) (zV (j:=2) (vs:=B6) Z Z Z Z dX Z bs bt Z zI (zA Z) Z Z Z ?_)
 intro cp dY
 have d7:sW w U be [.blk aa 39 B3,.blk af 104 B2,.blk ae 104 B6,.blk b6 78 B1,.blk b2 28 B0] cp:=dY
 exact bR _ _ ⟨be,bs,dv,dw,dx,dz,bt,dA,bu,dB,bv,Z,eV,d7⟩
 refine ZP (s:=gBk) (M:=fun σ_ w_=>∃ (U_:PHeap),σ_ 4=.pointer (some ⟨ae,0,none⟩)/\σ_ 5=.pointer (some ⟨af,0,none⟩)/\σ_ 6=.pointer (some ⟨aa,0,none⟩)/\σ_ 13=.pointer (some ⟨aa,2,none⟩)/\σ_ 14=jV ab.Clock/\σ_ 16=.pointer (some ⟨aa,0,none⟩)/\σ_ 17=jV ab.Skier/\σ_ 18=.pointer (some ⟨aa,1,none⟩)/\σ_ 19=jV ab.Mat/\PHeap.Le U U_/\sW w U U_ [.blk aa 39 B3,.blk af 104 B2,.blk ae 104 B2,.blk b6 78 B1,.blk b2 28 B0] w_) ?_ fun bX=>?_
 rintro gh cq ⟨ci,dC,dD,dE,dF,bw,dG,bx,dH,bz,eW,d9⟩
 refine oR Z (zo (pv:=[(0,jV ab.Skier),(1,jV ab.Mat)]) (z:=B2) (cs:=B4) Z (wAF bx (wAF bz wAO)) za wBa Z Z) (zE 0 Z Z Z Z (zD Z Z Try.call82 (zB bw zK) Z) d9 (fun hs=>wBx ab.Clock cq ci hs aw) (.inr Z) ?_)
 rintro bf fd fZ cr eX ec ⟨rfl,rfl⟩
 have ef:sW w U bf [.blk aa 39 B3,.blk af 104 B2,.blk ae 104 B2,.blk b6 78 B1,.blk b2 28 B0] cr:=ec
 exact eJ _ _ ⟨bf,dC,dD,dE,dF,bw,Z,dG,bx,dH,bz,Z,(eW.trans eX),ef⟩
 refine ZP (s:=gBp) (M:=fun σ_ w_=>∃ (U_:PHeap),σ_ 4=.pointer (some ⟨ae,0,none⟩)/\σ_ 5=.pointer (some ⟨af,0,none⟩)/\σ_ 6=.pointer (some ⟨aa,0,none⟩)/\σ_ 13=.pointer (some ⟨aa,2,none⟩)/\σ_ 14=jV ab.Clock/\σ_ 15=.agg B6.toArray/\σ_ 16=.pointer (some ⟨aa,0,none⟩)/\σ_ 18=.pointer (some ⟨aa,1,none⟩)/\σ_ 19=jV ab.Mat/\PHeap.Le U U_/\sW w U U_ [.blk aa 39 B3,.blk af 104 B2,.blk ae 104 B2,.blk b6 78 B1,.blk b2 28 B0] w_) ?_ fun bY=>?_
 rintro gi fB ⟨aM,aQ,bA,bB,bC,bD,aR,aS,bE,bF,ca,aX⟩
 refine zk ?_ ?_
 exact ZY Z Z Z Z (aX.ldB (j:=0) Z Z aS zG (v:=jV ab.Skier) Z) (bW _ _ ⟨aM,aQ,bA,bB,bC,bD,aR,aS,Z,bE,bF,ca,aX⟩)
 refine zV (j:=2) (vs:=B6) Z Z Z Z aX Z aQ aR Z zI (zA Z) Z Z Z ?_
 intro ct ek
 have en:sW w U aM [.blk aa 39 B3,.blk af 104 B2,.blk ae 104 B6,.blk b6 78 B1,.blk b2 28 B0] ct:=ek
 exact bU _ _ ⟨aM,aQ,bA,bB,bC,bD,aR,aS,bE,bF,ca,en⟩
 refine ZP (s:=gBo) (M:=fun σ_ w_=>∃ (U_:PHeap),σ_ 4=.pointer (some ⟨ae,0,none⟩)/\σ_ 5=.pointer (some ⟨af,0,none⟩)/\σ_ 6=.pointer (some ⟨aa,0,none⟩)/\σ_ 13=.pointer (some ⟨aa,2,none⟩)/\σ_ 14=jV ab.Clock/\σ_ 15=.agg B6.toArray/\σ_ 16=.pointer (some ⟨aa,0,none⟩)/\σ_ 17=jV ab.Skier/\σ_ 18=.pointer (some ⟨aa,1,none⟩)/\PHeap.Le U U_/\sW w U U_ [.blk aa 39 B3,.blk af 104 B2,.blk ae 104 B2,.blk b6 78 B1,.blk b2 28 B0] w_) ?_ fun bZ=>?_
 rintro gj fC ⟨aN,aT,bG,bH,bI,bJ,aU,bK,bL,aV,cb,aY⟩
 refine zk ?_ ?_
 exact ZY Z Z Z Z (aY.ldB (j:=0) Z Z aV zG (v:=jV ab.Mat) Z) (bW _ _ ⟨aN,aT,bG,bH,bI,bJ,aU,bK,bL,aV,Z,cb,aY⟩)
 refine zV (j:=2) (vs:=B6) Z Z Z Z aY Z aT aU Z zI (zA Z) Z Z Z ?_
 intro cu eo
 have ep:sW w U aN [.blk aa 39 B3,.blk af 104 B2,.blk ae 104 B6,.blk b6 78 B1,.blk b2 28 B0] cu:=eo
 exact bV _ _ ⟨aN,aT,bG,bH,bI,bJ,aU,bK,bL,aV,cb,ep⟩
 refine oR Z (zJ Z Z ZM Z zC) (oL Z (ap.ldB (j:=0) Z Z Z zG (v:=jV ab.Clock) Z) (oR Z (zJ Z Z ZM Z zC) (oR Z (zJ Z Z ZM Z zC) (zk ?_ ?_))))
 refine zE 0 Z Z Z Z (zD Z Z Try.call82 (zB Z zK) Z) ap (fun hs=>wBx ab.Clock aP U hs aw) (.inr Z) ?_
 rintro au ff f4 cw az er ⟨rfl,rfl⟩
 have av:sW w U au [.blk aa 39 B3,.blk af 104 B2,.blk ae 104 B2,.blk b6 78 B1,.blk b2 28 B0] cw:=er
 refine zk ?_ ?_
 exact ZY Z Z Z Z (av.ldB (j:=0) Z Z Z zG (v:=jV ab.Skier) Z) (bZ _ _ ⟨au,Z,Z,Z,Z,Z,Z,Z,Z,Z,az,av⟩)
 refine zk ?_ ?_
 exact ZY Z Z Z Z (av.ldB (j:=0) Z Z Z zG (v:=jV ab.Mat) Z) (bY _ _ ⟨au,Z,Z,Z,Z,Z,Z,Z,Z,Z,az,av⟩)
 refine zV (j:=2) (vs:=B6) Z Z Z Z av Z Z Z Z zI (zA Z) Z Z Z ?_
 intro cx eu
 have ay:sW w U au [.blk aa 39 B3,.blk af 104 B2,.blk ae 104 B6,.blk b6 78 B1,.blk b2 28 B0] cx:=eu
 refine zk ?_ ?_
 exact ZY Z Z Z Z (ay.ldB (j:=0) Z Z Z zG (v:=jV ab.Skier) Z) (bV _ _ ⟨au,Z,Z,Z,Z,Z,Z,Z,Z,Z,az,ay⟩)
 exact ZY Z Z Z Z (ay.ldB (j:=0) Z Z Z zG (v:=jV ab.Mat) Z) (bU _ _ ⟨au,Z,Z,Z,Z,Z,Z,Z,Z,Z,az,ay⟩)
 refine zk ?_ ?_
 refine ZY Z Z Z Z (ap.ldB (j:=0) Z Z Z zG (v:=jV ab.Skier) Z) (zk ?_ ?_)
 refine zE 0 Z Z Z Z (zD Z Z Try.call82 (zB Z zK) Z) ap (fun hs=>wBx ab.Clock aP U hs aw) (.inr Z) ?_
 rintro bg fg f5 cy eY ew ⟨rfl,rfl⟩
 have ey:sW w U bg [.blk aa 39 B3,.blk af 104 B2,.blk ae 104 B2,.blk b6 78 B1,.blk b2 28 B0] cy:=ew
 exact bZ _ _ ⟨bg,Z,Z,Z,Z,Z,Z,Z,Z,Z,eY,ey⟩
 exact ZY Z Z Z Z (ap.ldB (j:=0) Z Z Z zG (v:=jV ab.Mat) Z) (bX _ _ ⟨U,Z,Z,Z,Z,Z,Z,Z,Z,Z,(zW _),ap⟩)
 refine ZY Z Z Z Z (ap.ldB (j:=0) Z Z Z zG (v:=jV ab.Mat) Z) (zk ?_ ?_)
 refine zE 0 Z Z Z Z (zD Z Z Try.call82 (zB Z zK) Z) ap (fun hs=>wBx ab.Clock aP U hs aw) (.inr Z) ?_
 rintro bh fh f6 cz eZ eA ⟨rfl,rfl⟩
 have eB:sW w U bh [.blk aa 39 B3,.blk af 104 B2,.blk ae 104 B2,.blk b6 78 B1,.blk b2 28 B0] cz:=eA
 exact bY _ _ ⟨bh,Z,Z,Z,Z,Z,Z,Z,Z,Z,eZ,eB⟩
 exact ZY Z Z Z Z (ap.ldB (j:=0) Z Z Z zG (v:=jV ab.Skier) Z) (bX _ _ ⟨U,Z,Z,Z,Z,Z,Z,Z,Z,Z,(zW _),ap⟩)
 rintro gp fD ⟨cj,dI,dJ,fW,aZ⟩
 refine zU ?_
 cases bP
 exact ⟨rfl,_,(wCT (rs:=[.cell 4 104,.cell 5 104]) (vs:=[.agg B5.toArray,.agg B4.toArray]) ⟨⟨_,dI,(wAy zi zI (aZ.blkAt (k:=2) rfl) (vs:=B5) rfl rfl)⟩,⟨⟨_,dJ,(wAy zi zI (aZ.blkAt (k:=1) rfl) (vs:=B4) rfl rfl)⟩,trivial⟩⟩ rfl),cj,_,(aZ.pick [] _ (by decide) rfl),rfl,rfl⟩
end Go.Proofs.Ytlnfbjphfoipaaa
