import Derived.Test.YtlnfbjphfoipaaaY6
set_option linter.all false
open List renaming flatMap->hH
open Option.some renaming inj->nA
open Go.Value renaming bool->nB
open Bool renaming eq_false_iff->nD
open Prod.mk renaming injEq->nE
open Nat renaming blt->nG,le_of_ble_eq_true->nH
namespace Go.Proofs.Ytlnfbjphfoipaaa
open Go.KL
def gAa:Sch:=.fl 1 (.fl 2 .nil)
def gAb:Sch:=.fl 2 (.fl 3 .nil)
def gAc:Sch:=.fl 3 (.fl 4 .nil)
def gAd:Sch:=.fl 4 (.fl 5 .nil)
def gAe:Sch:=.fl 7 (.fl 8 .nil)
def gAf:Sch:=.fl 15 (.fl 16 .nil)
def gAg:Sch:=.fx 1 (.fl 2 .nil) .stop
def gAh:Sch:=.fx 2 (.fx 3 .nil .stop) .stop
def gAi:Sch:=.fx 3 (.fl 4 .nil) .stop
def gAj:Sch:=.fx 17 (.fl 18 .nil) .stop
def gAk:Sch:=.fx 0 (.fl 1 .nil) .stop
def gAl:Sch:=.fx 4 (.fx 5 .nil .stop) .stop
def gAm:Sch:=.fl 10 (.fx 12 .nil .stop)
def gAn:Sch:=.fx 8 (.fx 9 .nil .stop) .stop
def gAo:Sch:=.fl 7 (.fx 9 .nil .stop)
def gAp:Sch:=.fx 6 gAe .stop
def gAq:Sch:=.fx 1 gAb .stop
def gAr:Sch:=.fl 0 gAg
def gAs:Sch:=.fx 15 gAj .stop
def gAt:Sch:=.fx 15 (.fl 16 (.fx 18 .nil .stop)) .stop
def gAu:Sch:=.fx 3 gAd .stop
def gAv:Sch:=.fx 13 (.fl 14 (.fl 15 .nil)) .stop
def gAw:Sch:=.fl 10 (.fx 11 (.fx 12 .nil .stop) .stop)
def gAx:Sch:=.fx 6 gAm .stop
def gAy:Sch:=.fx 6 gAo .stop
def gAz:Sch:=.fx 4 gAo .stop
def gBa:Sch:=.fl 0 (.fl 1 (.fx 2 (.fl 3 .nil) .stop))
def gBb:Sch:=.fl 0 (.fl 1 gAh)
def gBc:Sch:=.fx 14 gAs .stop
def gBd:Sch:=.fx 10 gAt .stop
def gBe:Sch:=.fx 0 (.fx 1 gAh .stop) .stop
def gBf:Sch:=.fx 0 gAq .stop
def gBg:Sch:=.fx 8 (.fl 9 gAm) .stop
def gBh:Sch:=.fl 7 (.fx 2 gAn .stop)
def gBi:Sch:=.fl 0 (.fl 1 (.fx 2 gAi .stop))
def gBj:Sch:=.fx 13 gBc .stop
def gBk:Sch:=.fl 0 (.fl 1 (.fx 2 gAc .stop))
def gBl:Sch:=.fx 6 (.fl 7 gAn) (.fx 8 gAy .stop)
def gBm:Sch:=.fx 4 (.fl 7 gAn) (.fx 8 gAz .stop)
def gBn:Sch:=.fx 12 gBj .stop
def gBo:Sch:=.fx 9 gBj .stop
def gBp:Sch:=.fx 4 (.fl 16 gBj) .stop
def gBq:Sch:=.fx 3 gBp .stop
def gBr:Sch:=.fx 4 (.fl 16 gBn) (.fx 12 gBp .stop)
def gBs:Sch:=.fx 4 (.fl 16 gBo) (.fx 9 gBp .stop)
set_option maxHeartbeats 4000000
theorem Z {α:Type} {a:α}:a=a:=rfl
section
variable {r:Option Nat} {N:Nat} {P:Program} {l:List Oper} {Q:wDP} {D:List Deferred} {ks:List Nat} {σ:Env} {w:World} {i d j e:Nat} {s:Sch} {o:Oper} {b:Bool} {x:Operand} {v:Value} {p:Prop} {inst:Decidable p} {K:List Deferred->Env->World->Prop} {c1 c2:Code}
abbrev jV (n:Int):Value:=.int .i64 n
abbrev SW (w:World) (X:List Res) (U U':PHeap) (L:List Res) (w':World):Prop:=St ⟨w,X,U⟩ U' L w'
abbrev sW (w:World) (U U':PHeap) (L:List Res) (w':World):Prop:=St ⟨w,[],U⟩ U' L w'
abbrev St0 (w:World) (U:PHeap) (L:List Res):Prop:=St ⟨w,L,U⟩ U L w
theorem ifc {α:Type} {G p:Prop} {inst:Decidable p} {a b r:α} (h:@ite α p inst a b=r) (h1:Hid p->a=r->G) (h2:Hid (¬ p)->b=r->G):G:=by
 by_cases c:p
 rw [if_pos c] at h;exact h1 ⟨c⟩ h
 rw [if_neg c] at h;exact h2 ⟨c⟩ h
theorem bnK {α β:Type} {G:Prop} {o:Option α} {f:α->Option β} {r:β} (h:o.bind f=some r) (k:∀ x,o=some x->f x=some r->G):G:=by
 obtain ⟨x,h1,h2⟩:=bnd h
 exact k x h1 h2
theorem oR (h:(l[i]?,o.dst,nG d N,wanted l σ o)=(some o,some d,true,true)) (hr:∀ {w'},Runs P σ w' o v w') (k:OKS N P l Q D ks s (upd σ d v) w):OKS N P l Q D ks (.fl i s) σ w:=by
 simp only [nE] at h;exact OKS.r h.1 h.2.1 h.2.2.1 h.2.2.2 (fun _=>hr) k
theorem oL (h:(l[i]?,o.dst,nG d N,wanted l σ o,wRJ (kOf ks i))=(some o,some d,true,true,false)) (hr:RunsK P σ w o v) (k:OKS N P l Q D ks s (upd σ d v) w):OKS N P l Q D ks (.fl i s) σ w:=by
 simp only [nE] at h;exact OKS.m h.1 h.2.1 h.2.2.1 h.2.2.2.1 hr h.2.2.2.2 k
theorem oM (h:(l[i]?,o.dst,nG d N,wanted l σ o,o.op)=(some o,some d,true,true,.move x)) (hx:ev σ x=v) (k:OKS N P l Q D ks s (upd σ d v) w):OKS N P l Q D ks (.fl i s) σ w:=by
 simp only [nE] at h;exact OKS.rm h.1 h.2.1 h.2.2.1 h.2.2.2.1 h.2.2.2.2 hx k
theorem oA (h:(l[i]?,o.dst,nG d N,wanted l σ o,o.op)=(some o,some d,true,true,.assign x)) (hx:ev σ x=v) (k:OKS N P l Q D ks s (upd σ d v) w):OKS N P l Q D ks (.fl i s) σ w:=by
 simp only [nE] at h;exact OKS.ra h.1 h.2.1 h.2.2.1 h.2.2.2.1 h.2.2.2.2 hx k
theorem oF (h:(l[i]?,o.dst,nG d N,o.guard,(l[j]?).bind (·.dst),σ e,false == b)=(some o,some d,true,some (j,b),some e,.bool (decide p),false)) (c:Hid (¬ p)) (k:OKS N P l Q D ks s (upd σ d undef) w):OKS N P l Q D ks (.fl i s) σ w:=by
 simp only [nE] at h;exact OKS.p h.1 h.2.1 h.2.2.1 (wGU h.2.2.2.1 h.2.2.2.2.1 (h.2.2.2.2.2.1.trans (wRI c.out)) h.2.2.2.2.2.2) k
theorem oT (h:(l[i]?,o.dst,nG d N,o.guard,(l[j]?).bind (·.dst),σ e,true == b)=(some o,some d,true,some (j,b),some e,.bool (decide p),false)) (c:Hid p) (k:OKS N P l Q D ks s (upd σ d undef) w):OKS N P l Q D ks (.fl i s) σ w:=by
 simp only [nE] at h;exact OKS.p h.1 h.2.1 h.2.2.1 (wGU h.2.2.2.1 h.2.2.2.2.1 (h.2.2.2.2.2.1.trans (wRH c.out)) h.2.2.2.2.2.2) k
theorem oN {b2:Bool} (h:(l[i]?,o.dst,nG d N,o.guard,(l[j]?).bind (·.dst),σ e,b2 == b)=(some o,some d,true,some (j,b),some e,.bool b2,false)) (k:OKS N P l Q D ks s (upd σ d undef) w):OKS N P l Q D ks (.fl i s) σ w:=by
 simp only [nE] at h;exact OKS.p h.1 h.2.1 h.2.2.1 (wGU h.2.2.2.1 h.2.2.2.2.1 h.2.2.2.2.2.1 h.2.2.2.2.2.2) k
theorem nC {a b:Bool} (h:a=b):nB (!a)=nB (!b):=h ▸ rfl
theorem nF {a:Bool} (h:¬ a=true):nB (!a)=nB (!false):=nC (nD.2 h)
theorem wT (h:(o.guard,(l[j]?).bind (·.dst),σ e)=(some (j,true),some e,.bool (decide p))) (c:Hid p):wanted l σ o=true:=by
 simp only [nE] at h;exact wID h.1 h.2.1 (h.2.2.trans (wRH c.out))
theorem wF (h:(o.guard,(l[j]?).bind (·.dst),σ e)=(some (j,false),some e,.bool (decide p))) (c:Hid (¬ p)):wanted l σ o=true:=by
 simp only [nE] at h;exact wID h.1 h.2.1 (h.2.2.trans (wRI c.out))
theorem rU (h:(l[i]?,o.dst,nG d N)=(some o,some d,true)) (hw:wanted l σ o=true) (hr:∀ {w'},Runs P σ w' o v w') (k:OKS N P l Q D ks s (upd σ d v) w):OKS N P l Q D ks (.fl i s) σ w:=by
 simp only [nE] at h;exact OKS.r h.1 h.2.1 h.2.2 hw (fun _=>hr) k
theorem sR {id:Nat} (s:Sch) (hs:inOrder 0 s l.length=true) (h:OKS N P l (wFK (fun D σ w=>CK r N P c2 Q D σ w) Q) D [] s σ w):CK r N P (.seq (.region id l.toArray false) c2) Q D σ w:=CK.seq (CK.reg s hs h)
theorem rR {id:Nat} (s:Sch) (hs:inOrder 0 s l.length=true) (h:OKS N P l Q D [] s σ w):CK r N P (.region id l.toArray false) Q D σ w:=CK.reg s hs h
theorem eN (h:K D σ w):OKS N P l (wFK K Q) D ks .nil σ w:=OKS.e (wHz h)
theorem cT (hz:ev σ x=.bool (decide p)) (c:Hid p) (h:CK r N P c1 Q D σ w):CK r N P (.cond x c1 c2) Q D σ w:=CK.condT (hz.trans (wRH c.out)) h
theorem cF (hz:ev σ x=.bool (decide p)) (c:Hid (¬ p)) (h:CK r N P c2 Q D σ w):CK r N P (.cond x c1 c2) Q D σ w:=CK.condF (hz.trans (wRI c.out)) h
theorem kN (h:K D σ w):CK r N P .skip (wFK K Q) D σ w:=CK.skip (wHz h)
end
def fL1:Sch:=.fl 0 .nil
def fL2:Sch:=.fl 0 (.fl 1 .nil)
def fL3:Sch:=.fl 0 gAa
def fL4:Sch:=.fl 0 (.fl 1 gAb)
def fL5:Sch:=.fl 0 (.fl 1 (.fl 2 gAc))
def fL6:Sch:=.fl 0 (.fl 1 (.fl 2 (.fl 3 gAd)))
def fL7:Sch:=.fl 0 (.fl 1 (.fl 2 (.fl 3 (.fl 4 (.fl 5 (.fl 6 .nil))))))
def fL8:Sch:=.fl 0 (.fl 1 (.fl 2 (.fl 3 (.fl 4 (.fl 5 (.fl 6 (.fl 7 .nil)))))))
def fL9:Sch:=.fl 0 (.fl 1 (.fl 2 (.fl 3 (.fl 4 (.fl 5 (.fl 6 gAe))))))
def fL10:Sch:=.fl 0 (.fl 1 (.fl 2 (.fl 3 (.fl 4 (.fl 5 (.fl 6 (.fl 7 (.fl 8 (.fl 9 .nil)))))))))
def wSR:Sch:=.fl 0 (.fl 1 (.fl 2 (.fl 3 (.fl 4 (.fl 5 (.fl 6 (.fl 7 (.fl 8 (.fl 9 (.fl 10 .nil))))))))))
def fL12:Sch:=.fl 0 (.fl 1 (.fl 2 (.fl 3 (.fl 4 (.fl 5 (.fl 6 (.fl 7 (.fl 8 (.fl 9 (.fl 10 (.fl 11 .nil)))))))))))
def fL14:Sch:=.fl 0 (.fl 1 (.fl 2 (.fl 3 (.fl 4 (.fl 5 (.fl 6 (.fl 7 (.fl 8 (.fl 9 (.fl 10 (.fl 11 (.fl 12 (.fl 13 .nil)))))))))))))
def fL15:Sch:=.fl 0 (.fl 1 (.fl 2 (.fl 3 (.fl 4 (.fl 5 (.fl 6 (.fl 7 (.fl 8 (.fl 9 (.fl 10 (.fl 11 (.fl 12 (.fl 13 (.fl 14 .nil))))))))))))))
def fL17:Sch:=.fl 0 (.fl 1 (.fl 2 (.fl 3 (.fl 4 (.fl 5 (.fl 6 (.fl 7 (.fl 8 (.fl 9 (.fl 10 (.fl 11 (.fl 12 (.fl 13 (.fl 14 gAf))))))))))))))
def fL18:Sch:=.fl 0 (.fl 1 (.fl 2 (.fl 3 (.fl 4 (.fl 5 (.fl 6 (.fl 7 (.fl 8 (.fl 9 (.fl 10 (.fl 11 (.fl 12 (.fl 13 (.fl 14 (.fl 15 (.fl 16 (.fl 17 .nil)))))))))))))))))
def fL19:Sch:=.fl 0 (.fl 1 (.fl 2 (.fl 3 (.fl 4 (.fl 5 (.fl 6 (.fl 7 (.fl 8 (.fl 9 (.fl 10 (.fl 11 (.fl 12 (.fl 13 (.fl 14 (.fl 15 (.fl 16 (.fl 17 (.fl 18 .nil))))))))))))))))))
def fL21:Sch:=.fl 0 (.fl 1 (.fl 2 (.fl 3 (.fl 4 (.fl 5 (.fl 6 (.fl 7 (.fl 8 (.fl 9 (.fl 10 (.fl 11 (.fl 12 (.fl 13 (.fl 14 (.fl 15 (.fl 16 (.fl 17 (.fl 18 (.fl 19 (.fl 20 .nil))))))))))))))))))))
def fL22:Sch:=.fl 0 (.fl 1 (.fl 2 (.fl 3 (.fl 4 (.fl 5 (.fl 6 (.fl 7 (.fl 8 (.fl 9 (.fl 10 (.fl 11 (.fl 12 (.fl 13 (.fl 14 (.fl 15 (.fl 16 (.fl 17 (.fl 18 (.fl 19 (.fl 20 (.fl 21 .nil)))))))))))))))))))))
def fL25:Sch:=.fl 0 (.fl 1 (.fl 2 (.fl 3 (.fl 4 (.fl 5 (.fl 6 (.fl 7 (.fl 8 (.fl 9 (.fl 10 (.fl 11 (.fl 12 (.fl 13 (.fl 14 (.fl 15 (.fl 16 (.fl 17 (.fl 18 (.fl 19 (.fl 20 (.fl 21 (.fl 22 (.fl 23 (.fl 24 .nil))))))))))))))))))))))))
def fL30:Sch:=.fl 0 (.fl 1 (.fl 2 (.fl 3 (.fl 4 (.fl 5 (.fl 6 (.fl 7 (.fl 8 (.fl 9 (.fl 10 (.fl 11 (.fl 12 (.fl 13 (.fl 14 (.fl 15 (.fl 16 (.fl 17 (.fl 18 (.fl 19 (.fl 20 (.fl 21 (.fl 22 (.fl 23 (.fl 24 (.fl 25 (.fl 26 (.fl 27 (.fl 28 (.fl 29 .nil)))))))))))))))))))))))))))))
def fL40:Sch:=.fl 0 (.fl 1 (.fl 2 (.fl 3 (.fl 4 (.fl 5 (.fl 6 (.fl 7 (.fl 8 (.fl 9 (.fl 10 (.fl 11 (.fl 12 (.fl 13 (.fl 14 (.fl 15 (.fl 16 (.fl 17 (.fl 18 (.fl 19 (.fl 20 (.fl 21 (.fl 22 (.fl 23 (.fl 24 (.fl 25 (.fl 26 (.fl 27 (.fl 28 (.fl 29 (.fl 30 (.fl 31 (.fl 32 (.fl 33 (.fl 34 (.fl 35 (.fl 36 (.fl 37 (.fl 38 (.fl 39 .nil)))))))))))))))))))))))))))))))))))))))
def wCz (s:Sch):Sch:=.fl 0 (.fl 1 (.fl 2 (s)))
def wEi (s:Sch):Sch:=.fl 0 (.fl 1 (.fl 2 (.fl 3 (s))))
def wKS (s:Sch):Sch:=.fl 0 (.fl 1 (.fl 2 (.fl 3 (.fl 4 (s)))))
def wHf (s:Sch):Sch:=.fl 0 (.fl 1 (.fl 2 (.fl 3 (.fl 4 (.fl 5 (s))))))
def wLt (s:Sch):Sch:=.fl 0 (.fl 1 (.fl 2 (.fl 3 (.fl 4 (.fl 5 (.fl 6 (s)))))))
def fC0_7 (s:Sch):Sch:=.fl 0 (.fl 1 (.fl 2 (.fl 3 (.fl 4 (.fl 5 (.fl 6 (.fl 7 (s))))))))
def fC0_8 (s:Sch):Sch:=.fl 0 (.fl 1 (.fl 2 (.fl 3 (.fl 4 (.fl 5 (.fl 6 (.fl 7 (.fl 8 (s)))))))))
def fC0_9 (s:Sch):Sch:=.fl 0 (.fl 1 (.fl 2 (.fl 3 (.fl 4 (.fl 5 (.fl 6 (.fl 7 (.fl 8 (.fl 9 (s))))))))))
def wSS (s:Sch):Sch:=.fl 0 (.fl 1 (.fl 2 (.fl 3 (.fl 4 (.fl 5 (.fl 6 (.fl 7 (.fl 8 (.fl 9 (.fl 10 (.fl 11 (.fl 12 (s)))))))))))))
def wST (s:Sch):Sch:=.fl 0 (.fl 1 (.fl 2 (.fl 3 (.fl 4 (.fl 5 (.fl 6 (.fl 7 (.fl 8 (.fl 9 (.fl 10 (.fl 11 (.fl 12 (.fl 13 (s))))))))))))))
def wSU (s:Sch):Sch:=.fl 0 (.fl 1 (.fl 2 (.fl 3 (.fl 4 (.fl 5 (.fl 6 (.fl 7 (.fl 8 (.fl 9 (.fl 10 (.fl 11 (.fl 12 (.fl 13 (.fl 14 (s)))))))))))))))
def wSV (s:Sch):Sch:=.fl 0 (.fl 1 (.fl 2 (.fl 3 (.fl 4 (.fl 5 (.fl 6 (.fl 7 (.fl 8 (.fl 9 (.fl 10 (.fl 11 (.fl 12 (.fl 13 (.fl 14 (.fl 15 (s))))))))))))))))
def wSW (s:Sch):Sch:=.fl 0 (.fl 1 (.fl 2 (.fl 3 (.fl 4 (.fl 5 (.fl 6 (.fl 7 (.fl 8 (.fl 9 (.fl 10 (.fl 11 (.fl 12 (.fl 13 (.fl 14 (.fl 15 (.fl 16 (.fl 17 (.fl 18 (s)))))))))))))))))))
def wSX (s:Sch):Sch:=.fl 0 (.fl 1 (.fl 2 (.fl 3 (.fl 4 (.fl 5 (.fl 6 (.fl 7 (.fl 8 (.fl 9 (.fl 10 (.fl 11 (.fl 12 (.fl 13 (.fl 14 (.fl 15 (.fl 16 (.fl 17 (.fl 18 (.fl 19 (.fl 20 (.fl 21 (s))))))))))))))))))))))
def fC1_5 (s:Sch):Sch:=.fl 1 (.fl 2 (.fl 3 (.fl 4 (.fl 5 (s)))))
def wSY (s:Sch):Sch:=.fl 1 (.fl 2 (.fl 3 (.fl 4 (.fl 5 (.fl 6 (.fl 7 (.fl 8 (.fl 9 (.fl 10 (.fl 11 (.fl 12 (.fl 13 (.fl 14 (.fl 15 (.fl 16 (.fl 17 (.fl 18 (.fl 19 (s)))))))))))))))))))
def fC2_4 (s:Sch):Sch:=.fl 2 (.fl 3 (.fl 4 (s)))
def fC2_5 (s:Sch):Sch:=.fl 2 (.fl 3 (.fl 4 (.fl 5 (s))))
def fC2_6 (s:Sch):Sch:=.fl 2 (.fl 3 (.fl 4 (.fl 5 (.fl 6 (s)))))
def fC3_5 (s:Sch):Sch:=.fl 3 (.fl 4 (.fl 5 (s)))
def wQt (s:Sch):Sch:=.fl 3 (.fl 4 (.fl 5 (.fl 6 (s))))
def wOp (s:Sch):Sch:=.fl 3 (.fl 4 (.fl 5 (.fl 6 (.fl 7 (s)))))
def fC4_6 (s:Sch):Sch:=.fl 4 (.fl 5 (.fl 6 (s)))
def fC4_7 (s:Sch):Sch:=.fl 4 (.fl 5 (.fl 6 (.fl 7 (s))))
def wQu (s:Sch):Sch:=.fl 4 (.fl 5 (.fl 6 (.fl 7 (.fl 8 (s)))))
def wSZ (s:Sch):Sch:=.fl 4 (.fl 5 (.fl 6 (.fl 7 (.fl 8 (.fl 9 (.fl 10 (.fl 11 (.fl 12 (.fl 13 (.fl 14 (.fl 15 (.fl 16 (.fl 17 (.fl 18 (.fl 19 (.fl 20 (.fl 21 (.fl 22 (.fl 23 (s))))))))))))))))))))
def wOq (s:Sch):Sch:=.fl 5 (.fl 6 (.fl 7 (s)))
def wSa (s:Sch):Sch:=.fl 5 (.fl 6 (.fl 7 (.fl 8 (s))))
def wLu (s:Sch):Sch:=.fl 5 (.fl 6 (.fl 7 (.fl 8 (.fl 9 (s)))))
def wPW (s:Sch):Sch:=.fl 5 (.fl 6 (.fl 7 (.fl 8 (.fl 9 (.fl 10 (.fl 11 (.fl 12 (.fl 13 (.fl 14 (.fl 15 (s)))))))))))
def fC6_8 (s:Sch):Sch:=.fl 6 (.fl 7 (.fl 8 (s)))
def wSb (s:Sch):Sch:=.fl 6 (.fl 7 (.fl 8 (.fl 9 (.fl 10 (s)))))
def wOA (s:Sch):Sch:=.fl 6 (.fl 7 (.fl 8 (.fl 9 (.fl 10 (.fl 11 (.fl 12 (s)))))))
def wPX (s:Sch):Sch:=.fl 7 (.fl 8 (.fl 9 (.fl 10 (.fl 11 (.fl 12 (s))))))
def wSc (s:Sch):Sch:=.fl 7 (.fl 8 (.fl 9 (.fl 10 (.fl 11 (.fl 12 (.fl 13 (s)))))))
def wJQ (s:Sch):Sch:=.fl 8 (.fl 9 (.fl 10 (s)))
def wJR (s:Sch):Sch:=.fl 8 (.fl 9 (.fl 10 (.fl 11 (s))))
def wSd (s:Sch):Sch:=.fl 9 (.fl 10 (.fl 11 (.fl 12 (s))))
def wSe (s:Sch):Sch:=.fl 9 (.fl 10 (.fl 11 (.fl 12 (.fl 13 (.fl 14 (.fl 15 (.fl 16 (.fl 17 (.fl 18 (.fl 19 (.fl 20 (.fl 21 (.fl 22 (.fl 23 (.fl 24 (.fl 25 (.fl 26 (.fl 27 (.fl 28 (.fl 29 (.fl 30 (.fl 31 (.fl 32 (.fl 33 (s)))))))))))))))))))))))))
def wQv (s:Sch):Sch:=.fl 10 (.fl 11 (.fl 12 (.fl 13 (s))))
def wFJ (s:Sch):Sch:=.fl 11 (.fl 12 (.fl 13 (.fl 14 (s))))
def wQw (s:Sch):Sch:=.fl 14 (.fl 15 (.fl 16 (.fl 17 (.fl 18 (.fl 19 (.fl 20 (.fl 21 (.fl 22 (.fl 23 (.fl 24 (.fl 25 (.fl 26 (s)))))))))))))
def wQx (s:Sch):Sch:=.fl 20 (.fl 21 (.fl 22 (s)))
theorem zA:type_of% @nH:=@nH
theorem zB:type_of% @Try.sizeOf3:=@Try.sizeOf3
theorem zC:type_of% @wLy:=@wLy
theorem zD:type_of% @Try.runUnderlying23:=@Try.runUnderlying23
theorem zE:type_of% @Try.isAgg3:=@Try.isAgg3
theorem zF:type_of% @Runs.fa:=@Runs.fa
theorem zG:type_of% @Try.sizeOf104:=@Try.sizeOf104
theorem zH:type_of% @wHz:=@wHz
theorem zI:type_of% @Hid.mk:=@Hid.mk
theorem zJ:type_of% @wLx:=@wLx
theorem zK:type_of% @CK.seq:=@CK.seq
theorem zL:type_of% @Enters.mk:=@Enters.mk
theorem zM:type_of% @OKS.callH:=@OKS.callH
theorem zN:type_of% @Try.runUnderlying28:=@Try.runUnderlying28
theorem zO:type_of% @PHeap.Le.refl:=@PHeap.Le.refl
theorem zP:type_of% @wKU:=@wKU
theorem zQ:type_of% @wOr:=@wOr
theorem zR:type_of% @wID:=@wID
theorem zS:type_of% @OKS.alloc:=@OKS.alloc
theorem zU:type_of% @CK.ret:=@CK.ret
theorem zV:type_of% @OKS.st:=@OKS.st
theorem zW:type_of% @Runs.addw:=@Runs.addw
theorem zX:type_of% @Runs.ext:=@Runs.ext
theorem zY:type_of% @Runs.lss:=@Runs.lss
theorem zZ:type_of% @Try.sizeOf23:=@Try.sizeOf23
theorem zd:type_of% @CK.block:=@CK.block
theorem ze:type_of% @Try.isAgg104:=@Try.isAgg104
theorem zf:type_of% @Try.zeroValue104:=@Try.zeroValue104
theorem zg:type_of% @OKS.r:=@OKS.r
theorem zh:type_of% @OKS.both:=@OKS.both
theorem zi:type_of% @OKS.e:=@OKS.e
theorem zj:type_of% @Try.isAgg23:=@Try.isAgg23
theorem zk:type_of% @OKS.rm:=@OKS.rm
theorem zl:type_of% @wLw:=@wLw
theorem zm:type_of% @Try.sizeOf28:=@Try.sizeOf28
theorem zn:type_of% @Try.runUnderlying41:=@Try.runUnderlying41
theorem zo:type_of% @Try.runUnderlying124:=@Try.runUnderlying124
theorem zq:type_of% @Try.sizeOf41:=@Try.sizeOf41
theorem zr:type_of% @Try.runUnderlying24:=@Try.runUnderlying24
theorem zt:type_of% @Runs.len:=@Runs.len
theorem zu:type_of% @wKT:=@wKT
theorem zw:type_of% @Try.runUnderlying121:=@Try.runUnderlying121
theorem zx:type_of% @Try.runUnderlying39:=@Try.runUnderlying39
theorem zy:type_of% @Runs.build:=@Runs.build
theorem zz:type_of% @Runs.pickT:=@Runs.pickT
theorem ZA:type_of% @CK.anyOrd:=@CK.anyOrd
theorem ZB:type_of% @Try.mixed:=@Try.mixed
theorem ZC:type_of% @OKS.buildSlice:=@OKS.buildSlice
theorem ZD:type_of% @OKS.mx2:=@OKS.mx2
theorem ZE:type_of% @Try.zeroValue3:=@Try.zeroValue3
theorem ZF:type_of% @OKS.cutD:=@OKS.cutD
theorem ZG:type_of% @OKS.m:=@OKS.m
theorem ZH:type_of% @Try.runUnderlying118:=@Try.runUnderlying118
theorem ZI:type_of% @Try.runUnderlying29:=@Try.runUnderlying29
theorem ZJ:type_of% @Try.runUnderlying78:=@Try.runUnderlying78
theorem ZK:type_of% @Try.isAgg28:=@Try.isAgg28
theorem ZL:type_of% @wGU:=@wGU
theorem ZM:type_of% @Runs.pickF:=@Runs.pickF
theorem ZN:type_of% @OKS.box:=@OKS.box
theorem ZO:type_of% @Try.runUnderlying25:=@Try.runUnderlying25
theorem ZP:type_of% @CK.condT:=@CK.condT
theorem ZQ:type_of% @Runs.iaI:=@Runs.iaI
theorem ZR:type_of% @Runs.to:=@Runs.to
theorem ZS:type_of% @wRI:=@wRI
theorem ZT:type_of% @Runs.nilp:=@Runs.nilp
theorem ZU:type_of% @CK.condF:=@CK.condF
theorem ZV:type_of% @Runs.iaN:=@Runs.iaN
theorem ZW:type_of% @res1:=@res1
theorem ZX:type_of% @wIA:=@wIA
theorem ZY:type_of% @Try.sizeOf169:=@Try.sizeOf169
theorem Za:type_of% @Try.zeroValue118:=@Try.zeroValue118
theorem Zb:type_of% @CK.exit:=@CK.exit
theorem Zc:type_of% @Runs.notT:=@Runs.notT
theorem Zd:type_of% @Try.zeroValue41:=@Try.zeroValue41
theorem Ze:type_of% @Try.sizeOf25:=@Try.sizeOf25
theorem Zf:type_of% @Try.runUnderlying43:=@Try.runUnderlying43
theorem Zg:type_of% @OKS.p:=@OKS.p
theorem Zh:type_of% @Try.sizeOf43:=@Try.sizeOf43
theorem Zi:type_of% @Try.runUnderlying94:=@Try.runUnderlying94
theorem Zj:type_of% @Try.sizeOf39:=@Try.sizeOf39
theorem Zk:type_of% @Try.sizeOf121:=@Try.sizeOf121
theorem Zl:type_of% @Try.sizeOf118:=@Try.sizeOf118
theorem Zm:type_of% @Try.zeroValue169:=@Try.zeroValue169
theorem Zn:type_of% @wRH:=@wRH
theorem Zo:type_of% @Try.isAgg121:=@Try.isAgg121
theorem Zp:type_of% @Try.sizeOf45:=@Try.sizeOf45
theorem Zq:type_of% @CK.skip:=@CK.skip
theorem Zr:type_of% @Try.zeroValue39:=@Try.zeroValue39
theorem Zs:type_of% @Runs.neq:=@Runs.neq
theorem Zt:type_of% @Try.sizeOf24:=@Try.sizeOf24
theorem Zu:type_of% @Try.runUnderlying170:=@Try.runUnderlying170
theorem Zv:type_of% @Try.zeroValue99:=@Try.zeroValue99
theorem Zw:type_of% @Try.isAgg25:=@Try.isAgg25
theorem Zx:type_of% @Try.runUnderlying26:=@Try.runUnderlying26
theorem Zy:type_of% @Try.call32:=@Try.call32
theorem Zz:type_of% @OKS.append:=@OKS.append
theorem yA:type_of% @Try.runUnderlying169:=@Try.runUnderlying169
theorem yB:type_of% @Try.isAgg24:=@Try.isAgg24
theorem yC:type_of% @CK.forN:=@CK.forN
theorem yD:type_of% @CK.cut:=@CK.cut
theorem yE:type_of% @Try.isAgg41:=@Try.isAgg41
theorem yF:type_of% @Try.sizeOf78:=@Try.sizeOf78
theorem yG:type_of% @Try.runUnderlying3:=@Try.runUnderlying3
theorem yH:type_of% @OKS.ra:=@OKS.ra
theorem yI:type_of% @Try.isAgg45:=@Try.isAgg45
theorem yJ:type_of% @Try.zeroValue43:=@Try.zeroValue43
theorem yK:type_of% @Try.sizeOf26:=@Try.sizeOf26
theorem yL:type_of% @Try.zeroValue45:=@Try.zeroValue45
theorem yM:type_of% @Try.runUnderlying130:=@Try.runUnderlying130
theorem yN:type_of% @Runs.subw:=@Runs.subw
theorem yO:type_of% @Try.call48:=@Try.call48
theorem yP:type_of% @Try.call103:=@Try.call103
theorem yQ:type_of% @Try.isAgg78:=@Try.isAgg78
theorem yR:type_of% @Try.isAgg99:=@Try.isAgg99
theorem yS:type_of% @Try.sizeOf122:=@Try.sizeOf122
theorem yU:type_of% @CK.fresh:=@CK.fresh
theorem yV:type_of% @Try.underlying23:=@Try.underlying23
theorem yW:type_of% @Runs.gtr:=@Runs.gtr
theorem yX:type_of% @Try.isAgg169:=@Try.isAgg169
theorem yY:type_of% @OKS.callHT:=@OKS.callHT
theorem yZ:type_of% @Try.call57:=@Try.call57
end Go.Proofs.Ytlnfbjphfoipaaa
namespace Go.Proofs.Ytlnfbjphfoipaaa
open Go.KL
set_option maxHeartbeats 4000000
theorem wHC (p0:List Int) (ab:Option Addr) (ae:Nat) (w:World) (U:PHeap) (hS:St0 w U []) (am:Sl U 1 ab ae p0.length (hH KL.encB8 p0)) {r:wAE} (hm:wCk p0=some r):Gv Try.prog 9 [.slice ab p0.length ae] w (wCh w [] U (fun U_ L_ v=>∃ (b0:Nat) (A0p0:Option Addr) (c0p0:Nat),v=.pointer (some ⟨b0,0,none⟩)/\L_=[.blk b0 94 [.slice A0p0 r.bytes.length c0p0,jV r.next,.int .u32 r.state]]/\Sl U_ 1 A0p0 c0p0 r.bytes.length (hH KL.encB8 r.bytes))):=by
 unfold wCk at hm
 refine Gv.of Try.func9 Z Try.ntmps9 Try.results9 Z (sR fL1 Z (oA Z Z (eN (sR gBa Z (oM Z Z ?_)))))
 let B0:List Value:=[.slice ab p0.length ae,jV 0,.int .u32 17]
 refine zg rfl rfl rfl rfl (fun _=>zy (pv:=[(0,.slice ab p0.length ae),(2,.int .u32 17)]) (z:=[.slice none 0 0,jV 0,.int .u32 0]) (cs:=B0) rfl (wAD rfl (wAD rfl wAO)) Try.zeroValue94 wOg rfl rfl) (ZN (cs:=B0) rfl rfl rfl rfl rfl rfl (by rfl) hS ?_)
 intro W1 b2 ak
 refine oA Z Z (eN (zU ?_))
 cases hm
 exact ⟨Z,_,(ZW Z),U,_,ak,b2,ab,ae,Z,Z,am⟩
theorem wAP (p0:wAE) (aj:Nat) (ae:Option Addr) (ah:Nat) (p1:Int) (w:World) (U:PHeap) (hS:St0 w U [.blk aj 94 [.slice ae p0.bytes.length ah,jV p0.next,.int .u32 p0.state]]) (am:Sl U 1 ae ah p0.bytes.length (hH KL.encB8 p0.bytes)) {r:Int × wAE} (hm:wAL p0 p1=some r):Gv Try.prog 32 [.pointer (some ⟨aj,0,none⟩),jV p1] w (wCh w [.blk aj 94 [.slice ae p0.bytes.length ah,jV p0.next,.int .u32 p0.state]] U (fun U_ L_ v=>∃ (bd:Option Addr) (bf:Nat),v=jV r.1/\L_=[.blk aj 94 [.slice bd r.2.bytes.length bf,jV r.2.next,.int .u32 r.2.state]]/\Sl U_ 1 bd bf r.2.bytes.length (hH KL.encB8 r.2.bytes))):=by
 unfold wAL at hm
 refine Gv.of Try.func32 Z Try.ntmps32 Try.results32 Z (sR fL1 Z (oA Z Z (eN (zK (sR fL10 Z (oM Z Z (oR Z (Runs.leq Z Z Z) (oM Z Z ?_))))))))
 by_cases c2:p1 <= 1
 have bi:=hm;rw [if_pos c2] at bi;replace c2:=zI c2
 refine oT Z c2 (oT Z c2 (oT Z c2 (oT Z c2 (oT Z c2 (oT Z c2 (oR Z (zz Z (Zn c2.out) Z) (eN (ZP Z (sR fL1 Z (oA Z Z (eN (zU (zJ ?_)))))))))))))
 cases bi
 exact ⟨Z,_,(ZW Z),U,_,hS,ae,ah,Z,Z,am⟩
 have bj:=hm;rw [if_neg c2] at bj;replace c2:=zI c2
 refine zk Z Z Z (wF Z c2) Z Z (rU Z (wF Z c2) (ZT Z Z) (rU Z (wF Z c2) (zF Z Z Zi Z Try.sizeOf22) (ZG Z Z Z (wF Z c2) (hS.ldB (j:=0) Z Z Z Try.isAgg22 (v:=.slice ae p0.bytes.length ah) Z) Z (rU Z (wF Z c2) (zt Z Z Try.runUnderlying22) (rU Z (wF Z c2) (Runs.eql Z Z Z) (oR Z (ZM Z (ZS c2.out) Z) (eN (ifc bj ?_ ?_))))))))
 intro c5 bL
 refine cT Z c5 (sR fL1 Z (oA Z Z (eN (zU (zJ ?_)))))
 cases bL
 exact ⟨Z,_,(ZW Z),U,_,hS,ae,ah,Z,Z,am⟩
 intro c5 bM
 refine cF Z c5 (kN (zK (ZA ZB [3,3,3,1,3,3,3,1,3,3,3,1,3,3,3,1,3,3,3,3,1,3,3,3,1,3,3,3,3,3] fL30 (by kernel_rfl) ?_)))
 have ai:=hS.drew
 generalize hw_W9:({ w with drawn:=w.drawn + 1 }:World)=W9 at ai ⊢
 refine oM Z Z (oR Z (ZT Z Z) (oR Z (zF Z Z Zi Z Try.sizeOf22) (oL Z (ai.ldB (j:=0) Z Z Z Try.isAgg22 (v:=.slice ae p0.bytes.length ah) Z) (oM Z Z (oR Z (ZT Z Z) (oR Z (zF Z Z Zi Z zB) (oL Z (ai.ldB (j:=0) Z Z Z zE (v:=jV p0.next) Z) (oM Z Z (oR Z (ZT Z Z) (oR Z (zF Z Z Zi Z Try.sizeOf22) (oL Z (ai.ldB (j:=0) Z Z Z Try.isAgg22 (v:=.slice ae p0.bytes.length ah) Z) (oR Z (zt Z Z Try.runUnderlying22) (bnK bM fun bS bo bA=>oR Z (Runs.rem Z Z Z bo) (bnK bA fun bk bb bB=>?_))))))))))))))
 have q:=am.el (fun _=>rfl) (wAW bb)
 obtain ⟨bQ,bR,bu,bv⟩:=q
 refine oR Z (ZQ Z Z bu Z Try.runUnderlying22 Try.sizeOf5 (wBM bb) (wBP bb)) (oL Z (ai.ldC (f:=0) bv (v:=.int .u8 bk) Z Z Try.isAgg5 Z) (oR Z (Runs.cvu Z Z Try.runUnderlying5 Try.runUnderlying92 Z Z) (oM Z Z (oR Z (ZT Z Z) (oR Z (zF Z Z Zi Z zB) (oL Z (ai.ldB (j:=0) Z Z Z zE (v:=jV p0.next) Z) (oM Z Z (oR Z (ZT Z Z) (oR Z (zF Z Z Zi Z Try.sizeOf22) (oL Z (ai.ldB (j:=0) Z Z Z Try.isAgg22 (v:=.slice ae p0.bytes.length ah) Z) (oR Z (zt Z Z Try.runUnderlying22) (bnK bB fun bN bp bC=>oR Z (Runs.quo Z Z Z bp) (oR Z (Runs.cvu Z Z yG Try.runUnderlying92 Z Z) (oA Z Z (oA Z Z (eN (zK (yU fun aY au=>?_))))))))))))))))))
 have ap:aY 0=.pointer (some ⟨aj,0,none⟩):=(au 0).trans rfl
 have av:aY 1=jV p1:=(au 1).trans rfl
 have az:aY 5=.int .u32 (wEI bk):=(au 5).trans rfl
 have bg:aY 6=.int .u32 (wEI bN):=(au 6).trans rfl
 clear au
 refine rR (wLt (.fx 7 .nil .stop)) Z (oM Z ap (oR Z (ZT Z Z) (oR Z (zF Z Z Zi Z zB) (oL Z (ai.ldB (j:=0) Z Z Z zE (v:=jV p0.next) Z) (oR Z (zW Z Z Z) (oR Z (ZT Z Z) (oR Z (zF Z Z Zi Z zB) (zV (j:=0) (vs:=[jV (w64 (p0.next + 1))]) Z Z Z Z ai Z Z Z Z zB (zA Z) Z Z Z ?_))))))))
 intro bm bw
 let B0:Res:=.blk aj 94 [.slice ae p0.bytes.length ah,jV p0.next,.int .u32 p0.state]
 have bh:SW w [B0] U U [.blk aj 94 [.slice ae p0.bytes.length ah,jV (w64 (p0.next + 1)),.int .u32 p0.state]] bm:=bw
 refine eN (sR (wSU (.fx 15 .nil .stop)) Z (oM Z ap (oM Z ap (oR Z (ZT Z Z) (oR Z (zF Z Z Zi Z Try.sizeOf92) (oL Z (bh.ldB (j:=0) Z Z Z Try.isAgg92 (v:=.int .u32 p0.state) Z) (oR Z (Runs.mulu Z Z Z) (oM Z az (oR Z (Runs.addu Z Z Z) (oM Z bg (oR Z (Runs.mulu Z Z Z) (oR Z (Runs.addu Z Z Z) (oR Z (Runs.addu Z Z Z) (bnK bC fun aX bq bD=>oR Z (Runs.rem Z Z Z bq) (oR Z (ZT Z Z) (oR Z (zF Z Z Zi Z Try.sizeOf92) (zV (j:=0) (vs:=[.int .u32 aX]) Z Z Z Z bh Z Z Z Z Try.sizeOf92 (zA Z) Z Z Z ?_)))))))))))))))))
 intro bn bz
 have aq:SW w [B0] U U [.blk aj 94 [.slice ae p0.bytes.length ah,jV (w64 (p0.next + 1)),.int .u32 aX]] bn:=bz
 refine eN (zK (sR fL6 Z (oM Z bg (oR Z (Runs.eql Z Z Z) (oM Z Z (ifc bD ?_ ?_))))))
 intro ak bE
 refine zk Z Z Z (wT Z ak) Z av (rU Z (wT Z ak) (Runs.leq Z Z Z) (oR Z (zz Z (Zn ak.out) Z) (eN (ifc bE ?_ ?_))))
 intro aZ bF
 refine cT Z aZ (sR fL5 Z (oM Z az (oR Z (Runs.cvw Z Z Try.runUnderlying92 yG Z Z) (oM Z av (bnK bF fun bU br bG=>oR Z (Runs.rem Z Z Z br) (oA Z Z (eN (zU (zJ ?_)))))))))
 cases bG
 exact ⟨Z,_,(ZW Z),U,_,aq,ae,ah,Z,Z,am⟩
 intro aZ bH
 refine cF Z aZ (kN (sR wSR Z (oM Z ap (oR Z (ZT Z Z) (oR Z (zF Z Z Zi Z Try.sizeOf92) (oL Z (aq.ldB (j:=0) Z Z Z Try.isAgg92 (v:=.int .u32 aX) Z) (oR Z (Runs.mulu Z Z Z) (oM Z az (oR Z (Runs.addu Z Z Z) (oR Z (Runs.cvw Z Z Try.runUnderlying92 yG Z Z) (oM Z av (bnK bH fun x46 bs bI=>oR Z (Runs.rem Z Z Z bs) (oA Z Z (eN (zU ?_)))))))))))))))
 cases bI
 exact ⟨Z,_,(ZW Z),U,_,aq,ae,ah,Z,Z,am⟩
 intro ak bJ
 refine oF Z ak (oF Z ak (oR Z (ZM Z (ZS ak.out) Z) (eN (ZU Z (kN (sR wSR Z (oM Z ap (oR Z (ZT Z Z) (oR Z (zF Z Z Zi Z Try.sizeOf92) (oL Z (aq.ldB (j:=0) Z Z Z Try.isAgg92 (v:=.int .u32 aX) Z) (oR Z (Runs.mulu Z Z Z) (oM Z az (oR Z (Runs.addu Z Z Z) (oR Z (Runs.cvw Z Z Try.runUnderlying92 yG Z Z) (oM Z av (bnK bJ fun x50 bt bK=>oR Z (Runs.rem Z Z Z bt) (oA Z Z (eN (zU ?_)))))))))))))))))))
 cases bK
 exact ⟨Z,_,(ZW Z),U,_,aq,ae,ah,Z,Z,am⟩
theorem wAc (p0:wAE) (ab:Nat) (ae:Option Addr) (ah:Nat) (p1:Int) (p2:Int) (w:World) (U:PHeap) (hS:St0 w U [.blk ab 94 [.slice ae p0.bytes.length ah,jV p0.next,.int .u32 p0.state]]) (bb:Sl U 1 ae ah p0.bytes.length (hH KL.encB8 p0.bytes)) {r:Int × wAE} (hm:wAM p0 p1 p2=some r):Gv Try.prog 31 [.pointer (some ⟨ab,0,none⟩),jV p1,jV p2] w (wCh w [.blk ab 94 [.slice ae p0.bytes.length ah,jV p0.next,.int .u32 p0.state]] U (fun U_ L_ v=>∃ (ap:Option Addr) (av:Nat),v=jV r.1/\L_=[.blk ab 94 [.slice ap r.2.bytes.length av,jV r.2.next,.int .u32 r.2.state]]/\Sl U_ 1 ap av r.2.bytes.length (hH KL.encB8 r.2.bytes))):=by
 unfold wAM at hm
 refine Gv.of Try.func31 Z Try.ntmps31 Try.results31 Z (sR fL1 Z (oA Z Z (eN (sR (wHf gAp) Z (oM Z Z (oM Z Z (oM Z Z (oM Z Z (oR Z (yN Z Z Z) (oR Z (zW Z Z Z) ?_))))))))))
 have q:=bnd hm
 obtain ⟨⟨x2,x3⟩,h4,az⟩:=q
 try dsimp only at az
 refine zM 1 Z Z Z Z (zL Z Z Zy (zC Z (zC Z zQ)) Z) hS (fun hs=>wAP p0 ab ae ah (w64 ((w64 (p2 - p1)) + 1)) w U hs bb h4) (.inl Z) ?_
 rintro U6 L7 v8 W9 be aZ ⟨am,au,rfl,rfl,aX⟩
 have ba:SW w [.blk ab 94 [.slice ae p0.bytes.length ah,jV p0.next,.int .u32 p0.state]] U U6 [.blk ab 94 [.slice am x3.bytes.length au,jV x3.next,.int .u32 x3.state]] W9:=aZ
 refine oR Z (zW Z Z Z) (oA Z Z (eN (zU ?_)))
 cases az
 exact ⟨Z,_,(ZW Z),U6,_,ba,am,au,Z,Z,aX⟩
theorem wFC (p0:wAE) (ab:Nat) (fz:Option Addr) (fA:Nat) (p1:Int) (p2:Int) (p3:Int) (w:World) (U:PHeap) (hS:St0 w U [.blk ab 94 [.slice fz p0.bytes.length fA,jV p0.next,.int .u32 p0.state]]) (E2:Sl U 1 fz fA p0.bytes.length (hH KL.encB8 p0.bytes)) {r:wAB × (List (List Int)) × (List Int) × wAE} (hm:wBX p0 p1 p2 p3=some r):Gv Try.prog 8 [.pointer (some ⟨ab,0,none⟩),jV p1,jV p2,jV p3] w (wCh w [.blk ab 94 [.slice fz p0.bytes.length fA,jV p0.next,.int .u32 p0.state]] U (fun U_ L_ v=>∃ (lm:Option Addr) (oc:Nat) (ln:Option Addr) (od:Nat) (lp:Option Addr) (oe:Nat) (lq:Option Addr) (og:Nat) (A1:Option Addr) (c1:Nat) (A2:Option Addr) (c2:Nat) (l3:Option Addr) (pn:Nat),v=.tuple #[.agg #[.slice lm r.1.Starts.length oc,.slice ln r.1.Splits.length od,.slice lp r.1.Clocks.length oe,.slice lq r.1.Readings.length og],.slice A1 r.2.1.length c1,.slice A2 r.2.2.1.length c2]/\L_=[.row lm oc 3 1 (hH KL.encI r.1.Starts),.row ln od 41 2 (hH wAJ r.1.Splits),.row lp oe 43 3 (hH wAA r.1.Clocks),.row lq og 39 4 (hH wAH r.1.Readings),.row A2 c2 3 1 (hH KL.encI r.2.2.1),.blk ab 94 [.slice l3 r.2.2.2.bytes.length pn,jV r.2.2.2.next,.int .u32 r.2.2.2.state]]/\SlR U_ wJT A1 c1 r.2.1/\Sl U_ 1 l3 pn r.2.2.2.bytes.length (hH KL.encB8 r.2.2.2.bytes))):=by
 unfold wBX at hm
 refine Gv.of Try.func8 Z Try.ntmps8 Try.results8 Z (sR (.fx 0 gAa .stop) Z ?_)
 let B0:List Value:=[.slice none 0 0,.slice none 0 0,.slice none 0 0,.slice none 0 0]
 refine zS (cs:=B0) Z Z Z Z Z Try.zeroValue28 Z hS ?_
 intro W2 b3 Eg
 refine oA Z Z (oA Z Z (eN (sR (.fx 0 .nil .stop) Z (zS (cs:=B0) Z Z Z Z Z Try.zeroValue28 Z Eg ?_))))
 intro W6 b7 ED
 refine eN (sR fL1 Z (oA Z Z (eN (sR fL1 Z (oA Z Z (eN (zK (sR gBa Z (oM Z Z (oM Z Z ?_))))))))))
 have q:=bnd hm
 obtain ⟨⟨ic,j3⟩,AZ,rE⟩:=q
 try dsimp only at rE
 let B1:Res:=.blk ab 94 [.slice fz p0.bytes.length fA,jV p0.next,.int .u32 p0.state]
 have CI:SW w [B1] U U [B1,.blk b7 28 B0,.blk b3 28 B0] W6:=ED.pick [2,0,1] _ (by decide) rfl
 refine zM 1 Z Z Z Z (zL Z Z Try.call31 (zC Z (zC Z (zC Z zQ))) Z) CI (fun hs=>wAc p0 ab fz fA 1 p1 W6 U hs E2 AZ) (.inl Z) ?_
 rintro iM GV Iv tv Ij Dy ⟨lO,oW,rfl,rfl,BD⟩
 have DZ:SW w [B1] U iM [.blk ab 94 [.slice lO j3.bytes.length oW,jV j3.next,.int .u32 j3.state],.blk b7 28 B0,.blk b3 28 B0] tv:=Dy
 refine oM Z Z (eN (zd ?_))
 have q:=bnd rE
 obtain ⟨⟨GM,GN,GO,ba⟩,Fb,rW⟩:=q
 try dsimp only at rW
 have q:=wBH Fb
 obtain ⟨jU,Fc⟩:=q
 replace jU:=zI jU
 refine CK.forN' (fun fj (fu,x56,x57,cP) σ_ w_=>∃ (U_:PHeap) (fY:Option Addr) (gJ:Nat) (da:Option Addr) (dq:Nat),σ_ 28=jV (↑fj:Int)/\σ_ 0=.pointer (some ⟨ab,0,none⟩)/\σ_ 2=jV p2/\σ_ 3=jV p3/\σ_ 8=.pointer (some ⟨b3,0,none⟩)/\σ_ 11=.pointer (some ⟨b7,0,none⟩)/\σ_ 12=.slice none 0 0/\σ_ 13=.slice none 0 0/\σ_ 27=jV ic/\PHeap.Le iM U_/\SW w [B1] U U_ [.blk ab 94 [.slice fY fu.length gJ,jV x56,.int .u32 x57],.row da dq 3 1 (hH KL.encI cP),.blk b7 28 [.slice da cP.length dq,.slice none 0 0,.slice none 0 0,.slice none 0 0],.blk b3 28 B0] w_/\Sl U_ 1 fY gJ fu.length (hH KL.encB8 fu)) Fc ?_ ?_ ?_
 have Ez:=DZ.nilrow 3 1
 exact ⟨iM,lO,oW,none,0,rfl,rfl,rfl,rfl,rfl,rfl,rfl,rfl,rfl,(zO _),(Ez.pick [1,0,2,3] _ (by decide) rfl),BD⟩
 rintro fj ⟨fu,x56,x57,cP⟩ IW Jr m7 jN ⟨sY,fY,gJ,da,dq,qP,jq,AI,AJ,AL,jr,AM,AN,qN,Gu,EH,Ci⟩ sj
 try dsimp only at sj
 have pm:Hid ((↑fj:Int) < ic):=zI (wAy jN)
 replace jN:=zI jN
 have Fs:Hid (w64 ((↑fj:Int) + 1)=(↑(fj + 1):Int)):=zI (by have h1:=jU.out;have h2:=pm.out;rw [wAV] <;> omega)
 refine sR fL1 rfl (zg rfl rfl rfl rfl (fun _=>zY rfl qP qN) (eN (zK (cT Z pm (kN (zK (zd (ZA ZB [3,1004,3,1005,3,3,1005,3,2,0,3,0,ab] (wCz (.fl 5 (.fx 3 (.fl 4 (.fx 6 (.fl 7 (.fx 8 (.fx 9 (.fl 10 (.fx 11 .nil .stop)) .stop) .stop)) .stop)) .stop))) (by kernel_rfl) ?_))))))))
 have jB:=EH.drew
 generalize hw_W140:({ m7 with drawn:=m7.drawn + 1 }:World)=tc at jB ⊢
 refine oR Z (zF Z jr zN Z zZ) ?_
 let B2:Res:=.blk b7 28 [.slice da cP.length dq,.slice none 0 0,.slice none 0 0,.slice none 0 0]
 let B3:Res:=.row da dq 3 1 (hH KL.encI cP)
 refine OKS.mt (T:=[ab]) [0] [1,2,3] [B3,B2,.blk b3 28 B0] rfl rfl rfl rfl jB rfl ⟨⟨0,by decide,_,rfl,rfl⟩,trivial⟩ (by decide) rfl (by decide) (fun _ ER=>(ER.ldB (j:=1) rfl rfl rfl zj (v:=.slice da cP.length dq) rfl)) rfl (zk rfl rfl rfl rfl rfl jq (zk rfl rfl rfl rfl rfl jq ?_))
 have q:=bnd sj
 obtain ⟨⟨fB,ie⟩,A9,rF⟩:=q
 try dsimp only at rF
 refine yY 1 rfl rfl rfl rfl (zL rfl rfl Zy (zC rfl (zC rfl zQ)) rfl) jB (fun hs=>wAP (⟨fu,x56,x57⟩:wAE) ab fY gJ 4 tc sY hs Ci A9) rfl (T:=[ab]) rfl ⟨fun b h=>(by cases h;exact .head _),trivial⟩ ?_
 rintro mD GU Is mQ F8 CN ⟨ly,ot,rfl,rfl,Ba⟩
 have CQ:SW w [B1] U mD [.blk ab 94 [.slice ly ie.bytes.length ot,jV ie.next,.int .u32 ie.state],B3,B2,.blk b3 28 B0] mQ:=CN
 refine oR Z (Runs.mulw Z Z Z) ?_
 have q:=bnd rF
 obtain ⟨⟨fC,j4⟩,Bb,rG⟩:=q
 try dsimp only at rG
 refine yY 1 rfl rfl rfl rfl (zL rfl rfl Zy (zC rfl (zC rfl zQ)) rfl) CQ (fun hs=>wAP ie ab ly ot 3 mQ mD hs Ba Bb) rfl (T:=[ab]) rfl ⟨fun b h=>(by cases h;exact .head _),trivial⟩ ?_
 rintro dZ GW It tq F9 C2 ⟨lE,ox,rfl,rfl,Bf⟩
 let B4:Res:=.blk ab 94 [.slice lE j4.bytes.length ox,jV j4.next,.int .u32 j4.state]
 have C6:SW w [B1] U dZ [B4,B3,B2,.blk b3 28 B0] tq:=C2
 refine oR Z (zW Z Z Z) (ZC (pv:=[(0,jV (w64 ((w64 (300 * fB)) + fC)))]) (zs:=[jV 0]) (cs:=[jV (w64 ((w64 (300 * fB)) + fC))]) Z Z Z Z Z (wAD Z wAO) zD zB ZE Z Z Z Z Z C6 ?_)
 intro tu uh C9
 let B5:Res:=.row (some ⟨uh,0,none⟩) 1 3 1 (hH KL.encI [w64 ((w64 (300 * fB)) + fC)])
 have rk:SW w [B1] U dZ [B5,B4,B3,B2,.blk b3 28 B0] tu:=C9
 refine bnK rG fun ig Bk Ft=>Zz (j:=2) (enc:=KL.encI) (xs:=cP) (ys:=[w64 ((w64 (300 * fB)) + fC)]) (zs:=ig) rfl rfl rfl rfl rfl yV wKF rfl rfl rfl rfl rfl rfl rk rfl rfl rfl (rk.srcR (j:=0) rfl (by decide) (wAG (f:=KL.encI) (sz:=1) (fun _=>rfl) [w64 ((w64 (300 * fB)) + fC)])) (fun _=>rfl) (fun _=>rfl) Bk rfl ?_
 intro fR gD tw Dc
 let B6:Res:=.row fR gD 3 1 (hH KL.encI ig)
 have Dd:SW w [B1] U dZ [B5,B4,B6,B2,.blk b3 28 B0] tw:=Dc
 refine oR Z (zF Z jr zN Z zZ) (zV (j:=3) (vs:=[.slice fR ig.length gD]) Z Z Z Z Dd Z Z Z Z zZ (zA Z) Z Z Z ?_)
 intro tz De
 have Df:SW w [B1] U dZ [B5,B4,B6,.blk b7 28 [.slice fR ig.length gD,.slice none 0 0,.slice none 0 0,.slice none 0 0],.blk b3 28 B0] tz:=De
 refine zi (zu (zH (rR fL2 Z (oR Z (ZR (zW Z qP Z) (congrArg (jV) Fs.out)) (oM Z Z (zi ?_))))))
 cases Ft
 exact zH ⟨rfl,⟨dZ,lE,ox,fR,gD,rfl,jq,AI,AJ,AL,jr,AM,AN,qN,((Gu.trans F8).trans F9),(Df.pick [1,2,3,4] _ (by decide) rfl),Bf⟩⟩
 rintro Ji tD ⟨sU,sL,uu,bm,bn,AQ,qB,ym,yn,yo,yp,yq,yr,yt,Ik,DM,Bx⟩
 have uv:Hid (¬ ((↑((ic:Int) - 0).toNat:Int) < ic)):=zI (wAi)
 refine sR fL1 Z (oR Z (zY Z AQ yt) (eN (zK (cF Z uv (Zb (zl (zl (ZX (zH (zK (sR gBa Z (oM Z qB (oM Z ym ?_)))))))))))))
 have q:=bnd rW
 obtain ⟨⟨ik,j7⟩,BA,rN⟩:=q
 try dsimp only at rN
 refine zM 1 Z Z Z Z (zL Z Z Zy (zC Z (zC Z zQ)) Z) DM (fun hs=>wAP (⟨GM,GN,GO⟩:wAE) ab sL uu p2 tD sU hs Bx BA) (.inl Z) ?_
 rintro iV Hk IG tR Il DX ⟨lQ,oY,rfl,rfl,BE⟩
 let B7:Res:=.row bm bn 3 1 (hH KL.encI ba)
 have DY:SW w [B1] U iV [.blk ab 94 [.slice lQ j7.bytes.length oY,jV j7.next,.int .u32 j7.state],B7,.blk b7 28 [.slice bm ba.length bn,.slice none 0 0,.slice none 0 0,.slice none 0 0],.blk b3 28 B0] tR:=DX
 refine oM Z Z (eN (zd ?_))
 have q:=bnd rN
 obtain ⟨⟨IY,IZ,I0,bb⟩,E5,rO⟩:=q
 try dsimp only at rO
 have q:=wBH E5
 obtain ⟨jQ,E6⟩:=q
 replace jQ:=zI jQ
 refine CK.forN' (fun fh (fm,j8,j9,cO) σ_ w_=>∃ (U_:PHeap) (fU:Option Addr) (gG:Nat) (cZ:Option Addr) (dp:Nat),σ_ 45=jV (↑fh:Int)/\σ_ 0=.pointer (some ⟨ab,0,none⟩)/\σ_ 3=jV p3/\σ_ 8=.pointer (some ⟨b3,0,none⟩)/\σ_ 11=.pointer (some ⟨b7,0,none⟩)/\σ_ 12=.slice none 0 0/\σ_ 13=.slice none 0 0/\σ_ 44=jV ik/\PHeap.Le iV U_/\SW w [B1] U U_ [.blk ab 94 [.slice fU fm.length gG,jV j8,.int .u32 j9],B7,.row cZ dp 41 2 (hH wAJ cO),.blk b7 28 [.slice bm ba.length bn,.slice cZ cO.length dp,.slice none 0 0,.slice none 0 0],.blk b3 28 B0] w_/\Sl U_ 1 fU gG fm.length (hH KL.encB8 fm)) E6 ?_ ?_ ?_
 have D0:=DY.nilrow 41 2
 exact ⟨iV,lQ,oY,none,0,rfl,qB,yn,yo,yp,yq,yr,rfl,(zO _),(D0.pick [1,2,0,3,4] _ (by decide) rfl),BE⟩
 rintro fh ⟨fm,j8,j9,cO⟩ IT Jl tS jK ⟨sV,fU,gG,cZ,dp,qO,jo,yz,y4,jp,y5,y6,qE,Gm,D5,BF⟩ sf
 try dsimp only at sf
 have o0:Hid ((↑fh:Int) < ik):=zI (wAy jK)
 replace jK:=zI jK
 have Fm:Hid (w64 ((↑fh:Int) + 1)=(↑(fh + 1):Int)):=zI (by have h1:=jQ.out;have h2:=o0.out;rw [wAV] <;> omega)
 refine sR fL1 Z (oR Z (zY Z qO qE) (eN (zK (cT Z o0 (kN (zK (zd (sR (.fl 0 gAq) Z (oM Z jo ?_)))))))))
 have q:=bnd sf
 obtain ⟨⟨bV,il⟩,BG,rP⟩:=q
 try dsimp only at rP
 refine zM 1 Z Z Z Z (zL Z Z Try.call31 (zC Z (zC Z (zC Z zQ))) Z) D5 (fun hs=>wAc (⟨fm,j8,j9⟩:wAE) ab fU gG 3 9 tS sV hs BF BG) (.inl Z) ?_
 rintro mK Hl II i3 Gn D6 ⟨lR,o3,rfl,rfl,BH⟩
 let B8:Res:=.blk b7 28 [.slice bm ba.length bn,.slice cZ cO.length dp,.slice none 0 0,.slice none 0 0]
 let B9:Res:=.row cZ dp 41 2 (hH wAJ cO)
 have D7:SW w [B1] U mK [.blk ab 94 [.slice lR il.bytes.length o3,jV il.next,.int .u32 il.state],B7,B9,B8,.blk b3 28 B0] i3:=D6
 refine zg rfl rfl rfl rfl (fun _=>Runs.mulw rfl rfl rfl) (yH rfl rfl rfl rfl rfl rfl (eN (ZA ZB [3,1004,3,3,3,1005,3,3,3,2,0,3,0,ab] (wKS (.fx 5 (fC6_8 (.fx 9 (.fx 10 (.fl 11 (.fx 12 .nil .stop)) .stop) .stop)) .stop)) (by kernel_rfl) ?_)))
 have jC:=D7.drew
 generalize hw_W351:({ i3 with drawn:=i3.drawn + 1 }:World)=tT at jC ⊢
 refine zg rfl rfl rfl rfl (fun _=>zF rfl jp zN rfl Zt) (OKS.mt (T:=[ab]) [0] [1,2,3,4] [B7,B9,B8,.blk b3 28 B0] rfl rfl rfl rfl jC rfl ⟨⟨0,by decide,_,rfl,rfl⟩,trivial⟩ (by decide) rfl (by decide) (fun _ E1=>(E1.ldB (j:=2) rfl rfl rfl yB (v:=.slice cZ cO.length dp) rfl)) rfl (zk rfl rfl rfl rfl rfl rfl (zk rfl rfl rfl rfl rfl rfl (zk rfl rfl rfl rfl rfl jo ?_))))
 have q:=bnd rP
 obtain ⟨⟨fG,k9⟩,BI,rQ⟩:=q
 try dsimp only at rQ
 refine yY 1 rfl rfl rfl rfl (zL rfl rfl Zy (zC rfl (zC rfl zQ)) rfl) jC (fun hs=>wAP il ab lR o3 30 tT mK hs BH BI) rfl (T:=[ab]) rfl ⟨fun b h=>(by cases h;exact .head _),trivial⟩ ?_
 rintro d5 Hm IJ tU Gp D8 ⟨lS,o5,rfl,rfl,BJ⟩
 let gb:Res:=.blk ab 94 [.slice lS k9.bytes.length o5,jV k9.next,.int .u32 k9.state]
 have D9:SW w [B1] U d5 [gb,B7,B9,B8,.blk b3 28 B0] tU:=D8
 refine oR Z (Runs.mulw Z Z Z) (oR Z (zW Z Z Z) ?_)
 let iC:List Value:=[jV (w64 (100 * bV)),jV (w64 ((w64 (100 * bV)) + (w64 (10 * fG))))]
 refine oR Z (zy (pv:=[(0,jV (w64 (100 * bV))),(1,jV (w64 ((w64 (100 * bV)) + (w64 (10 * fG)))))]) (z:=[jV 0,jV 0]) (cs:=iC) Z (wAD Z (wAD Z wAO)) Zd wEd Z Z) (ZC (pv:=[(0,.agg iC.toArray)]) (zs:=[jV 0,jV 0]) (cs:=iC) Z Z Z Z Z (wAD Z wAO) zr zq Zd Z Z Z Z Z D9 ?_)
 intro tV ul Ea
 let iD:Res:=.row (some ⟨ul,0,none⟩) 1 41 2 (hH wAJ [(⟨w64 (100 * bV),w64 ((w64 (100 * bV)) + (w64 (10 * fG)))⟩:wAF)])
 have ry:SW w [B1] U d5 [iD,gb,B7,B9,B8,.blk b3 28 B0] tV:=Ea
 refine bnK rQ fun im BK FF=>Zz (j:=3) (enc:=wAJ) (xs:=cO) (ys:=[(⟨w64 (100 * bV),w64 ((w64 (100 * bV)) + (w64 (10 * fG)))⟩:wAF)]) (zs:=im) rfl rfl rfl rfl rfl Try.underlying24 wPQ rfl rfl rfl rfl rfl rfl ry rfl rfl rfl (ry.srcR (j:=0) rfl (by decide) (wAG (f:=wAJ) (sz:=2) (fun _=>rfl) [(⟨w64 (100 * bV),w64 ((w64 (100 * bV)) + (w64 (10 * fG)))⟩:wAF)])) (fun _=>rfl) (fun _=>rfl) BK rfl ?_
 intro fV gH tW Eb
 let l4:Res:=.row fV gH 41 2 (hH wAJ im)
 have Ec:SW w [B1] U d5 [iD,gb,B7,l4,B8,.blk b3 28 B0] tW:=Eb
 refine oR Z (zF Z jp zN Z Zt) (zV (j:=4) (vs:=[.slice fV im.length gH]) Z Z Z Z Ec Z Z Z Z Zt (zA Z) Z Z Z ?_)
 intro tX Ee
 have Ef:SW w [B1] U d5 [iD,gb,B7,l4,.blk b7 28 [.slice bm ba.length bn,.slice fV im.length gH,.slice none 0 0,.slice none 0 0],.blk b3 28 B0] tX:=Ee
 refine zi (zu (zH (rR fL2 Z (oR Z (ZR (zW Z qO Z) (congrArg (jV) Fm.out)) (oM Z Z (zi ?_))))))
 cases FF
 exact zH ⟨rfl,⟨d5,lS,o5,fV,gH,rfl,jo,yz,y4,jp,y5,y6,qE,((Gm.trans Gn).trans Gp),(Ef.pick [1,2,3,4,5] _ (by decide) rfl),BJ⟩⟩
 rintro Jm HJ ⟨mL,sM,ux,bs,bt,AT,y7,y8,y9,qF,z4,z5,z6,Im,rA,BL⟩
 have uy:Hid (¬ ((↑((ik:Int) - 0).toNat:Int) < ik)):=zI (wAi)
 refine sR fL1 Z (oR Z (zY Z AT z6) (eN (zK (cF Z uy (Zb (zl (zl (ZX (zH (zK (sR fL4 Z (oR Z (zF Z qF zN Z zZ) (oL Z (rA.ldB (j:=3) Z Z Z zj (v:=.slice bm ba.length bn) Z) (oR Z (zt Z Z zD) (oM Z Z (eN (zd ?_)))))))))))))))))
 have q:=bnd rO
 obtain ⟨⟨GG,GH,GI,bz⟩,E7,rS⟩:=q
 try dsimp only at rS
 have q:=wBH E7
 obtain ⟨jR,E8⟩:=q
 replace jR:=zI jR
 let bI:Res:=.blk b7 28 [.slice bm ba.length bn,.slice bs bb.length bt,.slice none 0 0,.slice none 0 0]
 refine CK.forN' (fun cj (fq,lc,lf,ft) σ_ w_=>∃ (U_:PHeap) (dS:Option Addr) (eV:Nat) (dT:Option Addr) (eW:Nat) (gL:List Value),σ_ 66=jV (↑cj:Int)/\σ_ 0=.pointer (some ⟨ab,0,none⟩)/\σ_ 3=jV p3/\σ_ 8=.pointer (some ⟨b3,0,none⟩)/\σ_ 11=.pointer (some ⟨b7,0,none⟩)/\σ_ 12=.slice dT ft.length eW/\σ_ 13=.slice none 0 0/\σ_ 64=.slice bm ba.length bn/\σ_ 65=jV (↑ba.length:Int)/\PHeap.Le mL U_/\SW w [B1] U U_ [.blk ab 94 [.slice dS fq.length eV,jV lc,.int .u32 lf],.row bm bn 3 1 (hH KL.encI ba),.row bs bt 41 2 (hH wAJ bb),bI,.blk b3 28 B0,.row dT eW 23 1 gL] w_/\Sl U_ 1 dS eV fq.length (hH KL.encB8 fq)/\RlL U_ wJT ft gL) E8 ?_ ?_ ?_
 have Eh:=rA.nilrow 23 1
 exact ⟨mL,sM,ux,none,0,[],rfl,y7,y8,y9,qF,z4,z5,rfl,rfl,(zO _),(Eh.pick [1,2,3,4,5,0] _ (by decide) rfl),BL,RlL.nil⟩
 rintro cj ⟨fq,lc,lf,ft⟩ IU Jn HK jL ⟨iW,dS,eV,dT,eW,gL,jt,z7,z8,z9,qG,Aa,Ab,qH,qI,Gq,jD,BM,BN⟩ sg
 try dsimp only at sg
 have o6:Hid ((↑cj:Int) < (↑ba.length:Int)):=zI (wAy jL)
 replace jL:=zI jL
 have Fo:Hid (w64 ((↑cj:Int) + 1)=(↑(cj + 1):Int)):=zI (by have h1:=jR.out;have h2:=o6.out;rw [wAV] <;> omega)
 refine sR fL1 Z (oR Z (zY Z jt qI) (eN (zK (cT Z o6 (kN (zK (zd (sR fL3 Z (bnK sg fun _ jx FG=>?_)))))))))
 obtain ⟨HV,qY⟩:=jD.rowSome (j:=1) rfl (by rw [wAG (f:=KL.encI) (sz:=1) (fun _=>rfl) ba];have hz:=wAU jx;omega)
 refine oR Z (ZV Z qH qY jt zD zB (wAU jx)) ?_
 have Fj:=wBK (xs:=ba) (wAU jx)
 refine ZG rfl rfl rfl rfl (jD.ldR (j:=1) rfl qY rfl rfl zE (wAX (sz:=1) (fun _=>rfl) _ _ 0 _ Fj (by first | omega | rfl | simp) rfl)) rfl (yH rfl rfl rfl rfl rfl rfl (eN (sR gAr rfl (zk rfl rfl rfl rfl rfl rfl (ZC (pv:=[(0,jV (gd ba cj))]) (zs:=[jV 0]) (cs:=[jV (gd ba cj)]) rfl rfl rfl rfl rfl (wAD rfl wAO) zD zB ZE rfl rfl rfl rfl rfl jD ?_)))))
 intro tY oa Ei
 let bQ:Res:=.row bs bt 41 2 (hH wAJ bb)
 let bX:Res:=.row dT eW 23 1 gL
 have rB:SW w [B1] U iW [.row (some ⟨oa,0,none⟩) 1 3 1 (hH KL.encI [(gd ba cj)]),.blk ab 94 [.slice dS fq.length eV,jV lc,.int .u32 lf],B7,bQ,bI,.blk b3 28 B0,bX] tY:=Ei
 refine oA Z Z (eN (zK (sR fL4 Z (oR Z (zF Z qG zN Z Zt) (oL Z (rB.ldB (j:=4) Z Z Z yB (v:=.slice bs bb.length bt) Z) (oR Z (zt Z Z zr) (oM Z Z (eN (zd ?_)))))))))
 have q:=bnd FG
 obtain ⟨⟨GJ,GK,GL,I3,cU⟩,E9,rT⟩:=q
 try dsimp only at rT
 have q:=wBH E9
 obtain ⟨jS,Fa⟩:=q
 replace jS:=zI jS
 refine CK.forN' (fun bN (dy,io,ip,cR,fw) σ_ w_=>∃ (U_:PHeap) (dU:Option Addr) (eX:Nat) (fW:Option Addr) (gI:Nat),σ_ 75=jV (↑bN:Int)/\σ_ 0=.pointer (some ⟨ab,0,none⟩)/\σ_ 3=jV p3/\σ_ 8=.pointer (some ⟨b3,0,none⟩)/\σ_ 11=.pointer (some ⟨b7,0,none⟩)/\σ_ 12=.slice dT ft.length eW/\σ_ 13=.slice none 0 0/\σ_ 16=jV cR/\σ_ 17=.slice fW fw.length gI/\σ_ 64=.slice bm ba.length bn/\σ_ 65=jV (↑ba.length:Int)/\σ_ 66=jV (↑cj:Int)/\σ_ 73=.slice bs bb.length bt/\σ_ 74=jV (↑bb.length:Int)/\PHeap.Le iW U_/\SW w [B1] U U_ [.blk ab 94 [.slice dU dy.length eX,jV io,.int .u32 ip],B7,bQ,bI,.blk b3 28 B0,bX,.row fW gI 3 1 (hH KL.encI fw)] w_/\Sl U_ 1 dU eX dy.length (hH KL.encB8 dy)) Fa ?_ ?_ ?_
 exact ⟨iW,dS,eV,(some ⟨oa,0,none⟩),1,rfl,z7,z8,z9,qG,Aa,Ab,rfl,rfl,qH,qI,jt,rfl,rfl,(zO _),(rB.pick [1,2,3,4,5,6,0] _ (by decide) rfl),BM⟩
 rintro bN ⟨dy,io,ip,cR,fw⟩ IV Jo HM jM ⟨iX,dU,eX,fW,gI,ju,qJ,Ac,Ad,Ae,Af,Ag,Ah,Ai,Aj,Ak,Al,qK,qL,Gr,jE,BO⟩ sh
 try dsimp only at sh
 have o7:Hid ((↑bN:Int) < (↑bb.length:Int)):=zI (wAy jM)
 replace jM:=zI jM
 have Fp:Hid (w64 ((↑bN:Int) + 1)=(↑(bN + 1):Int)):=zI (by have h1:=jS.out;have h2:=o7.out;rw [wAV] <;> omega)
 refine sR fL1 Z (oR Z (zY Z ju qL) (eN (zK (cT Z o7 (kN (zK (zd (sR gBb Z (bnK sh fun _ jy FH=>?_)))))))))
 obtain ⟨HW,qZ⟩:=jE.rowSome (j:=2) rfl (by rw [wAG (f:=wAJ) (sz:=2) (fun _=>rfl) bb];have hz:=wAU jy;omega)
 refine oR Z (ZV Z qK qZ ju zr zq (wAU jy)) ?_
 have Fk:=wBK (xs:=bb) (wAU jy)
 let cE:List Value:=[jV ((gd bb bN).Lo),jV ((gd bb bN).Hi)]
 refine ZG rfl rfl rfl rfl (jE.ldRA (j:=2) rfl qZ rfl rfl yE zq (vs:=cE) (wGX (sz:=2) (fun _=>rfl) _ _ _ Fk (by first | omega | rfl | simp) rfl) rfl) rfl (zS (cs:=[jV 0,jV 0]) rfl rfl rfl rfl rfl Zd rfl jE ?_)
 intro HN ef Ej
 refine zV (j:=0) (vs:=cE) Z Z Z Z Ej Z Z Z Z zq (zA Z) Z Z Z ?_
 intro i4 Ek
 let ge:Res:=.row fW gI 3 1 (hH KL.encI fw)
 let l5:Res:=.blk ab 94 [.slice dU dy.length eX,jV io,.int .u32 ip]
 have jG:SW w [B1] U iX [.blk ef 41 cE,l5,B7,bQ,bI,.blk b3 28 B0,bX,ge] i4:=Ek
 refine eN (sR (wHf gAp) Z (oM Z Ah (oM Z qJ (oR Z (zF Z Z zn Z zB) (oL Z (jG.ldB (j:=0) Z Z Z zE (v:=jV ((gd bb bN).Lo)) Z) (oR Z (zF Z Z zn Z zB) (oL Z (jG.ldB (j:=0) Z Z Z zE (v:=jV ((gd bb bN).Hi)) Z) ?_)))))))
 have q:=bnd FH
 obtain ⟨⟨fH,lg⟩,BP,rV⟩:=q
 try dsimp only at rV
 have El:SW w [B1] U iX [l5,.blk ef 41 cE,B7,bQ,bI,.blk b3 28 B0,bX,ge] i4:=jG.pick [1,0,2,3,4,5,6,7] _ (by decide) rfl
 refine zM 1 Z Z Z Z (zL Z Z Try.call31 (zC Z (zC Z (zC Z zQ))) Z) El (fun hs=>wAc (⟨dy,io,ip⟩:wAE) ab dU eX ((gd bb bN).Lo) ((gd bb bN).Hi) i4 iX hs BO BP) (.inl Z) ?_
 rintro gu Hn IK tZ Gs Em ⟨lT,o8,rfl,rfl,BQ⟩
 let iE:Res:=.blk ab 94 [.slice lT lg.bytes.length o8,jV lg.next,.int .u32 lg.state]
 have En:SW w [B1] U gu [iE,.blk ef 41 cE,B7,bQ,bI,.blk b3 28 B0,bX,ge] tZ:=Em
 refine oR Z (zW Z Z Z) (oA Z Z (eN (rR gBi Z (oM Z Ai (oM Z Z (ZC (pv:=[(0,jV (w64 (cR + fH)))]) (zs:=[jV 0]) (cs:=[jV (w64 (cR + fH))]) Z Z Z Z Z (wAD Z wAO) zD zB ZE Z Z Z Z Z En ?_))))))
 intro t7 um Eo
 let l6:Res:=.row (some ⟨um,0,none⟩) 1 3 1 (hH KL.encI [w64 (cR + fH)])
 have rC:SW w [B1] U gu [l6,iE,.blk ef 41 cE,B7,bQ,bI,.blk b3 28 B0,bX,ge] t7:=Eo
 refine bnK rV fun sI BR FI=>Zz (j:=8) (enc:=KL.encI) (xs:=fw) (ys:=[w64 (cR + fH)]) (zs:=sI) rfl rfl rfl rfl rfl yV wKF rfl rfl rfl rfl rfl rfl rC rfl rfl rfl (rC.srcR (j:=0) rfl (by decide) (wAG (f:=KL.encI) (sz:=1) (fun _=>rfl) [w64 (cR + fH)])) (fun _=>rfl) (fun _=>rfl) BR rfl ?_
 intro lU o9 t8 Ep
 have Er:SW w [B1] U gu [l6,iE,.blk ef 41 cE,B7,bQ,bI,.blk b3 28 B0,bX,.row lU o9 3 1 (hH KL.encI sI)] t8:=Ep
 refine oA Z Z (zi (zu (zH (rR fL2 Z (oR Z (ZR (zW Z ju Z) (congrArg (jV) Fp.out)) (oM Z Z (zi ?_)))))))
 cases FI
 exact zH ⟨rfl,⟨gu,lT,o8,lU,o9,rfl,qJ,Ac,Ad,Ae,Af,Ag,rfl,rfl,Aj,Ak,Al,qK,qL,(Gr.trans Gs),(Er.pick [1,3,4,5,6,7,8] _ (by decide) rfl),BQ⟩⟩
 rintro Jp t9 ⟨Hs,lV,pe,iA,jd,AU,Am,An,Ao,Ap,Aq,Ar,Ig,As,Au,Av,Aw,Ih,Ax,sB,Es,BS⟩
 have uz:Hid (¬ ((↑(((↑bb.length:Int):Int) - 0).toNat:Int) < (↑bb.length:Int))):=zI (wAi)
 refine sR fL1 Z (oR Z (zY Z AU Ax) (eN (zK (cF Z uz (Zb (zl (zl (ZX (zH (rR gBi Z (oM Z Aq (oM Z As ?_))))))))))))
 have q:=Es.freezeR (k:=6) (n:=cU.length) rfl (wAG (f:=KL.encI) (sz:=1) (fun _=>rfl) cU) (by decide)
 obtain ⟨d7,jZ,FP,Eu⟩:=q
 let iF:Res:=.blk ab 94 [.slice lV GJ.length pe,jV GK,.int .u32 GL]
 have Ev:SW w [B1] U d7 [iF,B7,bQ,bI,.blk b3 28 B0,bX] t9:=Eu
 let gf:List Value:=[.slice iA cU.length jd]
 refine ZC (pv:=[(0,.slice iA cU.length jd)]) (zs:=[.slice none 0 0]) (cs:=gf) Z Z Z Z Z (wAD Z wAO) ZI zZ Try.zeroValue23 Z Z Z Z Z Ev ?_
 intro ua uo Et
 have r9:RlL d7 wJT [cU] gf:=(RlL.cons (R:=wJT) (x:=cU) (vs:=gf) ⟨iA,jd,rfl,FP⟩ RlL.nil)
 let l7:Res:=.row (some ⟨uo,0,none⟩) 1 23 1 gf
 have rD:SW w [B1] U d7 [l7,iF,B7,bQ,bI,.blk b3 28 B0,bX] ua:=Et
 refine bnK rT fun GC BT FJ=>?_
 have BU:=BN.le sB
 have BV:=BU.le jZ
 refine OKS.appendR (R:=wJT) (j:=6) (xs:=ft) (ys:=[cU]) (zs:=GC) rfl rfl rfl rfl rfl Try.underlying29 wNg rfl rfl rfl rfl rfl rfl rfl rD rfl rfl rfl BV r9 (rD.srcR (j:=0) rfl (by decide) (RlL.len r9)) BT rfl ?_
 intro lW pf po ub Ew FO
 have Ey:SW w [B1] U d7 [l7,iF,B7,bQ,bI,.blk b3 28 B0,.row lW pf 23 1 po] ub:=Ew
 refine oA Z Z (zi (zu (zH (rR fL2 Z (oR Z (ZR (zW Z Aw Z) (congrArg (jV) Fo.out)) (oM Z Z (zi ?_)))))))
 cases FJ
 have BW:=BS.le jZ
 exact zH ⟨rfl,⟨d7,lV,pe,lW,pf,po,rfl,Am,An,Ao,Ap,rfl,Ar,Au,Av,((Gq.trans sB).trans jZ),(Ey.pick [1,2,3,4,5,6] _ (by decide) rfl),BW,FO⟩⟩
 rintro Jq ud ⟨sX,sN,uA,bq,br,uB,AW,qM,Ay,Az,AA,AD,AE,Ii,AG,In,EA,BX,BY⟩
 have uC:Hid (¬ ((↑(((↑ba.length:Int):Int) - 0).toNat:Int) < (↑ba.length:Int))):=zI (wAi)
 refine sR fL1 Z (oR Z (zY Z AW AG) (eN (zK (cF Z uC (Zb (zl (zl (ZX (zH (zK (sR gAr Z (oM Z qM ?_))))))))))))
 have q:=bnd rS
 obtain ⟨⟨bB,lh⟩,BZ,rX⟩:=q
 try dsimp only at rX
 refine zM 1 Z Z Z Z (zL Z Z Try.call31 (zC Z (zC Z (zC Z zQ))) Z) EA (fun hs=>wAc (⟨GG,GH,GI⟩:wAE) ab sN uA 1 3 ud sX hs BX BZ) (.inl Z) ?_
 rintro iY Ho IL ue Gt EB ⟨lX,pg,rfl,rfl,Ca⟩
 let am:Res:=.row bs bt 41 2 (hH wAJ bb)
 let aW:Res:=.row bq br 23 1 uB
 have EC:SW w [B1] U iY [.blk ab 94 [.slice lX lh.bytes.length pg,jV lh.next,.int .u32 lh.state],B7,am,bI,.blk b3 28 B0,aW] ue:=EB
 refine oM Z Z (eN (zd ?_))
 have q:=bnd rX
 obtain ⟨⟨GP,GQ,GR,bA,bE⟩,Fd,rY⟩:=q
 try dsimp only at rY
 have q:=wBH Fd
 obtain ⟨jW,Ff⟩:=q
 replace jW:=zI jW
 refine CK.forN' (fun bu (fy,li,lj,bD,bi) σ_ w_=>∃ (U_:PHeap) (fZ:Option Addr) (gK:Nat) (bP:Option Addr) (bR:Nat) (bj:Option Addr) (bk:Nat),σ_ 99=jV (↑bu:Int)/\σ_ 0=.pointer (some ⟨ab,0,none⟩)/\σ_ 3=jV p3/\σ_ 8=.pointer (some ⟨b3,0,none⟩)/\σ_ 11=.pointer (some ⟨b7,0,none⟩)/\σ_ 12=.slice bq bz.length br/\σ_ 13=.slice bj bi.length bk/\σ_ 98=jV bB/\PHeap.Le iY U_/\SW w [B1] U U_ [.blk ab 94 [.slice fZ fy.length gK,jV li,.int .u32 lj],B7,am,.row bP bR 43 3 (hH wAA bD),.blk b7 28 [.slice bm ba.length bn,.slice bs bb.length bt,.slice bP bD.length bR,.slice none 0 0],.blk b3 28 B0,aW,.row bj bk 3 1 (hH KL.encI bi)] w_/\Sl U_ 1 fZ gK fy.length (hH KL.encB8 fy)) Ff ?_ ?_ ?_
 have EE:=EC.nilrow 43 3
 have EF:=EE.nilrow 3 1
 exact ⟨iY,lX,pg,none,0,none,0,rfl,qM,Ay,Az,AA,AD,AE,rfl,(zO _),(EF.pick [2,3,4,1,5,6,7,0] _ (by decide) rfl),Ca⟩
 rintro bu ⟨fy,li,lj,bD,bi⟩ IX Js uf jO ⟨sZ,fZ,gK,bP,bR,bj,bk,cg,bK,cu,cw,bS,cx,cd,cf,Gw,EG,Cb⟩ sk
 try dsimp only at sk
 have ph:Hid ((↑bu:Int) < bB):=zI (wAy jO)
 replace jO:=zI jO
 have Fq:Hid (w64 ((↑bu:Int) + 1)=(↑(bu + 1):Int)):=zI (by have h1:=jW.out;have h2:=ph.out;rw [wAV] <;> omega)
 refine sR fL1 Z (oR Z (zY Z cg cf) (eN (zK (cT Z ph (kN (zK (zd (sR gAr Z (oM Z bK ?_)))))))))
 have q:=bnd sk
 obtain ⟨⟨aa,iq⟩,Cc,rZ⟩:=q
 try dsimp only at rZ
 refine zM 1 Z Z Z Z (zL Z Z Try.call31 (zC Z (zC Z (zC Z zQ))) Z) EG (fun hs=>wAc (⟨fy,li,lj⟩:wAE) ab fZ gK (-60) 20 uf sZ hs Cb Cc) (.inl Z) ?_
 rintro mM Hp IM m8 Gx EI ⟨lY,pj,rfl,rfl,Cd⟩
 let bd:Res:=.blk b7 28 [.slice bm ba.length bn,.slice bs bb.length bt,.slice bP bD.length bR,.slice none 0 0]
 let bg:Res:=.row bj bk 3 1 (hH KL.encI bi)
 let bJ:Res:=.row bP bR 43 3 (hH wAA bD)
 have EJ:SW w [B1] U mM [.blk ab 94 [.slice lY iq.bytes.length pj,jV iq.next,.int .u32 iq.state],B7,am,bJ,bd,.blk b3 28 B0,aW,bg] m8:=EI
 refine oA Z Z (eN (sR (wCz (.fx 3 (fC4_6 (.fx 7 (.fl 8 (.fx 9 (.fx 10 .nil .stop) .stop)) .stop)) .stop)) Z (oM Z Z (oM Z Z (oM Z bK ?_)))))
 have q:=bnd rZ
 obtain ⟨⟨ap,ir⟩,Ce,r6⟩:=q
 try dsimp only at r6
 refine zM 1 Z Z Z Z (zL Z Z Zy (zC Z (zC Z zQ)) Z) EJ (fun hs=>wAP iq ab lY pj 50 m8 mM hs Cd Ce) (.inl Z) ?_
 rintro mN Hq IN m9 Gy EK ⟨lZ,pk,rfl,rfl,Cf⟩
 have EL:SW w [B1] U mN [.blk ab 94 [.slice lZ ir.bytes.length pk,jV ir.next,.int .u32 ir.state],B7,am,bJ,bd,.blk b3 28 B0,aW,bg] m9:=EK
 refine oR Z (zW Z Z Z) ?_
 let l8:List Value:=[jV aa,jV (w64 (aa + ap))]
 refine oR Z (zy (pv:=[(0,jV aa),(1,jV (w64 (aa + ap)))]) (z:=[jV 0,jV 0]) (cs:=l8) Z (wAD Z (wAD Z wAO)) Zd wEd Z Z) (oM Z bK ?_)
 have q:=bnd r6
 obtain ⟨⟨av,fJ⟩,Cg,r7⟩:=q
 try dsimp only at r7
 refine zM 1 Z Z Z Z (zL Z Z Zy (zC Z (zC Z zQ)) Z) EL (fun hs=>wAP ir ab lZ pk 6 m9 mN hs Cf Cg) (.inl Z) ?_
 rintro bh Hr IP ug Gz EM ⟨iB,je,rfl,rfl,qV⟩
 let bo:Res:=.blk ab 94 [.slice iB fJ.bytes.length je,jV fJ.next,.int .u32 fJ.state]
 have EN:SW w [B1] U bh [bo,B7,am,bJ,bd,.blk b3 28 B0,aW,bg] ug:=EM
 let au:List Value:=[jV aa,jV (w64 (aa + ap)),jV av]
 let db:List Value:=[jV 0,jV 0,jV 0]
 refine oR Z (zy (pv:=[(0,.agg l8.toArray),(1,jV av)]) (z:=db) (cs:=au) Z (wAD Z (wAD Z wAO)) yJ wOf Z Z) (zS (cs:=db) Z Z Z Z Z yJ Z EN ?_)
 intro HO ai EO
 refine zV (j:=0) (vs:=au) Z Z Z Z EO Z Z Z Z Zh (zA Z) Z Z Z ?_
 intro i5 EP
 have EQ:SW w [B1] U bh [.blk ai 43 au,bo,B7,am,bJ,bd,.blk b3 28 B0,aW,bg] i5:=EP
 refine eN (bnK r7 fun aZ gT FK=>?_)
 have q:=bnd FK
 obtain ⟨⟨bw,az⟩,qW,r8⟩:=q
 try dsimp only at r8
 refine bnK r8 fun cS Ch FL=>ZA ZB [3,1,1,2,0,3,3,3,3,2,3,3,2,0,2,0,3,0,3] (wCz (wSa (.fl 10 (.fl 11 (.fx 3 (.fx 4 (.fl 16 (.fx 9 gBn (.fx 12 gBo .stop))) (.fx 9 gBr (.fx 12 gBs .stop))) (.fx 9 (.fx 3 gBr (.fx 12 gBq .stop)) (.fx 12 (.fx 3 gBs (.fx 9 gBq .stop)) .stop))))))) (by kernel_rfl) ?_
 have bL:=EQ.drew
 generalize hw_W923:({ i5 with drawn:=i5.drawn + 1 }:World)=HP at bL ⊢
 refine ZF (s:=.fl 18 .nil) (M:=fun σ_ w_=>∃ (U_:PHeap) (fK:Option Addr) (gw:Nat) (dB:Option Addr) (eg:Nat) (it:Option Addr) (i6:Nat) (iu:Option Addr) (i7:Nat) (fL:Option Addr) (gx:Nat),σ_ 0=.pointer (some ⟨ab,0,none⟩)/\σ_ 3=jV p3/\σ_ 8=.pointer (some ⟨b3,0,none⟩)/\σ_ 11=.pointer (some ⟨b7,0,none⟩)/\σ_ 12=.slice bq bz.length br/\σ_ 21=.pointer (some ⟨ai,0,none⟩)/\σ_ 98=jV bB/\σ_ 99=jV (↑bu:Int)/\σ_ 112=.pointer (some ⟨b7,2,none⟩)/\σ_ 114=.agg au.toArray/\σ_ 115=.slice it ([(⟨(⟨aa,w64 (aa + ap)⟩:wAF),av⟩:wAI)].length) i6/\σ_ 116=.slice dB aZ.length eg/\σ_ 118=.pointer (some ⟨ab,0,none⟩)/\σ_ 119=.pointer (some ⟨ai,0,none⟩)/\σ_ 120=.pointer (some ⟨ai,0,none⟩)/\σ_ 121=jV aa/\σ_ 122=.pointer (some ⟨ai,0,none⟩)/\σ_ 123=.pointer (some ⟨ai,1,none⟩)/\σ_ 124=jV (w64 (aa + ap))/\σ_ 125=jV bw/\σ_ 126=.slice iu ([bw].length) i7/\σ_ 127=.slice fL cS.length gx/\σ_ 128=.pointer (some ⟨b7,2,none⟩)/\PHeap.Le bh U_/\SW w [B1] U U_ [.blk ab 94 [.slice fK az.bytes.length gw,jV az.next,.int .u32 az.state],.blk ai 43 au,B7,am,.row dB eg 43 3 (hH wAA aZ),.blk b7 28 [.slice bm ba.length bn,.slice bs bb.length bt,.slice dB aZ.length eg,.slice none 0 0],.blk b3 28 B0,aW,.row it i6 43 3 (hH wAA [(⟨(⟨aa,w64 (aa + ap)⟩:wAF),av⟩:wAI)]),.row iu i7 3 1 (hH KL.encI [bw]),.row fL gx 3 1 (hH KL.encI cS)] w_/\Sl U_ 1 fK gw az.bytes.length (hH KL.encB8 az.bytes)) ?_ fun FR=>?_
 rintro I4 Ht ⟨sO,fK,gw,dB,eg,it,i6,iu,i7,fL,gx,uD,uE,uF,uG,uH,HX,uI,uJ,HZ,H0,H1,H2,H3,H4,H5,H6,H7,H8,H9,Ia,Ib,uK,Ic,FX,Cq,AX⟩
 refine oA Z uK (zi (zu (zH (rR fL2 Z (oR Z (ZR (zW Z uJ Z) (congrArg (jV) Fq.out)) (oM Z Z (zi ?_)))))))
 cases FL
 exact zH ⟨rfl,⟨sO,fK,gw,dB,eg,fL,gx,rfl,uD,uE,uF,uG,uH,rfl,uI,((((Gw.trans Gx).trans Gy).trans Gz).trans FX),(Cq.pick [0,2,3,4,5,6,7,10] _ (by decide) rfl),AX⟩⟩
 refine ZF (s:=gAj) (M:=fun σ_ w_=>∃ (U_:PHeap) (dC:Option Addr) (eh:Nat) (dD:Option Addr) (en:Nat) (cD:Option Addr) (cH:Nat) (dE:Option Addr) (eu:Nat) (dF:Option Addr) (ey:Nat),σ_ 0=.pointer (some ⟨ab,0,none⟩)/\σ_ 3=jV p3/\σ_ 8=.pointer (some ⟨b3,0,none⟩)/\σ_ 11=.pointer (some ⟨b7,0,none⟩)/\σ_ 12=.slice bq bz.length br/\σ_ 21=.pointer (some ⟨ai,0,none⟩)/\σ_ 98=jV bB/\σ_ 99=jV (↑bu:Int)/\σ_ 112=.pointer (some ⟨b7,2,none⟩)/\σ_ 114=.agg au.toArray/\σ_ 115=.slice dD ([(⟨(⟨aa,w64 (aa + ap)⟩:wAF),av⟩:wAI)].length) en/\σ_ 116=.slice cD aZ.length cH/\σ_ 118=.pointer (some ⟨ab,0,none⟩)/\σ_ 119=.pointer (some ⟨ai,0,none⟩)/\σ_ 120=.pointer (some ⟨ai,0,none⟩)/\σ_ 121=jV aa/\σ_ 122=.pointer (some ⟨ai,0,none⟩)/\σ_ 123=.pointer (some ⟨ai,1,none⟩)/\σ_ 124=jV (w64 (aa + ap))/\σ_ 125=jV bw/\σ_ 126=.slice dE ([bw].length) eu/\σ_ 127=.slice dF cS.length ey/\σ_ 128=.pointer (some ⟨b7,2,none⟩)/\PHeap.Le bh U_/\SW w [B1] U U_ [.blk ab 94 [.slice dC az.bytes.length eh,jV az.next,.int .u32 az.state],.blk ai 43 au,B7,am,bd,.blk b3 28 B0,aW,.row dD en 43 3 (hH wAA [(⟨(⟨aa,w64 (aa + ap)⟩:wAF),av⟩:wAI)]),.row cD cH 43 3 (hH wAA aZ),.row dE eu 3 1 (hH KL.encI [bw]),.row dF ey 3 1 (hH KL.encI cS)] w_/\Sl U_ 1 dC eh az.bytes.length (hH KL.encB8 az.bytes)) ?_ fun FS=>?_
 rintro I5 Hu ⟨ms,dC,eh,dD,en,cD,cH,dE,eu,dF,ey,uL,uM,uN,uO,uP,uQ,uR,uS,uT,uU,uV,pp,uW,uX,uY,uZ,u0,u3,u4,u5,u6,u7,pq,FZ,Cr,AY⟩
 refine zV (j:=4) (vs:=[.slice cD aZ.length cH]) Z Z Z Z Cr Z pq pp Z Ze (zA Z) Z Z Z ?_
 intro s5 Cs
 have Ct:SW w [B1] U ms [.blk ab 94 [.slice dC az.bytes.length eh,jV az.next,.int .u32 az.state],.blk ai 43 au,B7,am,.blk b7 28 [.slice bm ba.length bn,.slice bs bb.length bt,.slice cD aZ.length cH,.slice none 0 0],.blk b3 28 B0,aW,.row dD en 43 3 (hH wAA [(⟨(⟨aa,w64 (aa + ap)⟩:wAF),av⟩:wAI)]),.row cD cH 43 3 (hH wAA aZ),.row dE eu 3 1 (hH KL.encI [bw]),.row dF ey 3 1 (hH KL.encI cS)] s5:=Cs
 exact FR _ _ ⟨ms,dC,eh,cD,cH,dD,en,dE,eu,dF,ey,uL,uM,uN,uO,uP,uQ,uR,uS,uT,uU,uV,pp,uW,uX,uY,uZ,u0,u3,u4,u5,u6,u7,pq,FZ,(Ct.pick [0,1,2,3,8,4,5,6,7,9,10] _ (by decide) rfl),AY⟩
 refine ZF (s:=gAs) (M:=fun σ_ w_=>∃ (U_:PHeap) (dG:Option Addr) (eD:Nat) (dH:Option Addr) (eE:Nat) (dI:Option Addr) (eG:Nat) (dJ:Option Addr) (eH:Nat),σ_ 0=.pointer (some ⟨ab,0,none⟩)/\σ_ 3=jV p3/\σ_ 8=.pointer (some ⟨b3,0,none⟩)/\σ_ 11=.pointer (some ⟨b7,0,none⟩)/\σ_ 12=.slice bq bz.length br/\σ_ 13=.slice bj bi.length bk/\σ_ 21=.pointer (some ⟨ai,0,none⟩)/\σ_ 98=jV bB/\σ_ 99=jV (↑bu:Int)/\σ_ 112=.pointer (some ⟨b7,2,none⟩)/\σ_ 114=.agg au.toArray/\σ_ 115=.slice dH ([(⟨(⟨aa,w64 (aa + ap)⟩:wAF),av⟩:wAI)].length) eE/\σ_ 116=.slice dI aZ.length eG/\σ_ 117=.slice bj bi.length bk/\σ_ 118=.pointer (some ⟨ab,0,none⟩)/\σ_ 119=.pointer (some ⟨ai,0,none⟩)/\σ_ 120=.pointer (some ⟨ai,0,none⟩)/\σ_ 121=jV aa/\σ_ 122=.pointer (some ⟨ai,0,none⟩)/\σ_ 123=.pointer (some ⟨ai,1,none⟩)/\σ_ 124=jV (w64 (aa + ap))/\σ_ 125=jV bw/\σ_ 126=.slice dJ ([bw].length) eH/\σ_ 128=.pointer (some ⟨b7,2,none⟩)/\PHeap.Le bh U_/\SW w [B1] U U_ [.blk ab 94 [.slice dG az.bytes.length eD,jV az.next,.int .u32 az.state],.blk ai 43 au,B7,am,bd,.blk b3 28 B0,aW,bg,.row dH eE 43 3 (hH wAA [(⟨(⟨aa,w64 (aa + ap)⟩:wAF),av⟩:wAI)]),.row dI eG 43 3 (hH wAA aZ),.row dJ eH 3 1 (hH KL.encI [bw])] w_/\Sl U_ 1 dG eD az.bytes.length (hH KL.encB8 az.bytes)) ?_ fun FT=>?_
 rintro I6 Hv ⟨mu,dG,eD,dH,eE,dI,eG,dJ,eH,u9,va,vb,vc,vd,Ie,ve,vg,vh,vi,vj,vk,vl,vm,vn,vo,vp,vq,vr,vt,vu,vv,pu,vw,F0,rc,A3⟩
 refine Zz (j:=7) (enc:=KL.encI) (xs:=bi) (ys:=[bw]) (zs:=cS) rfl rfl rfl rfl rfl yV wKF rfl rfl rfl rfl rfl rfl rc rfl vm pu (rc.srcR (j:=10) rfl (by decide) (wAG (f:=KL.encI) (sz:=1) (fun _=>rfl) [bw])) (fun _=>rfl) (fun _=>rfl) Ch rfl ?_
 intro lu oi s6 Cu
 have Cv:SW w [B1] U mu [.blk ab 94 [.slice dG az.bytes.length eD,jV az.next,.int .u32 az.state],.blk ai 43 au,B7,am,bd,.blk b3 28 B0,aW,.row lu oi 3 1 (hH KL.encI cS),.row dH eE 43 3 (hH wAA [(⟨(⟨aa,w64 (aa + ap)⟩:wAF),av⟩:wAI)]),.row dI eG 43 3 (hH wAA aZ),.row dJ eH 3 1 (hH KL.encI [bw])] s6:=Cu
 exact FS _ _ ⟨mu,dG,eD,dH,eE,dI,eG,dJ,eH,lu,oi,u9,va,vb,vc,vd,ve,vg,vh,vi,vj,vk,vl,vn,vo,vp,vq,vr,vt,vu,vv,pu,rfl,vw,F0,(Cv.pick [0,1,2,3,4,5,6,8,9,10,7] _ (by decide) rfl),A3⟩
 refine ZF (s:=gBc) (M:=fun σ_ w_=>∃ (U_:PHeap) (dK:Option Addr) (eI:Nat) (dL:Option Addr) (eJ:Nat) (dM:Option Addr) (eK:Nat),σ_ 0=.pointer (some ⟨ab,0,none⟩)/\σ_ 3=jV p3/\σ_ 8=.pointer (some ⟨b3,0,none⟩)/\σ_ 11=.pointer (some ⟨b7,0,none⟩)/\σ_ 12=.slice bq bz.length br/\σ_ 13=.slice bj bi.length bk/\σ_ 21=.pointer (some ⟨ai,0,none⟩)/\σ_ 98=jV bB/\σ_ 99=jV (↑bu:Int)/\σ_ 112=.pointer (some ⟨b7,2,none⟩)/\σ_ 114=.agg au.toArray/\σ_ 115=.slice dL ([(⟨(⟨aa,w64 (aa + ap)⟩:wAF),av⟩:wAI)].length) eJ/\σ_ 116=.slice dM aZ.length eK/\σ_ 117=.slice bj bi.length bk/\σ_ 118=.pointer (some ⟨ab,0,none⟩)/\σ_ 119=.pointer (some ⟨ai,0,none⟩)/\σ_ 120=.pointer (some ⟨ai,0,none⟩)/\σ_ 121=jV aa/\σ_ 122=.pointer (some ⟨ai,0,none⟩)/\σ_ 123=.pointer (some ⟨ai,1,none⟩)/\σ_ 124=jV (w64 (aa + ap))/\σ_ 125=jV bw/\σ_ 128=.pointer (some ⟨b7,2,none⟩)/\PHeap.Le bh U_/\SW w [B1] U U_ [.blk ab 94 [.slice dK az.bytes.length eI,jV az.next,.int .u32 az.state],.blk ai 43 au,B7,am,bd,.blk b3 28 B0,aW,bg,.row dL eJ 43 3 (hH wAA [(⟨(⟨aa,w64 (aa + ap)⟩:wAF),av⟩:wAI)]),.row dM eK 43 3 (hH wAA aZ)] w_/\Sl U_ 1 dK eI az.bytes.length (hH KL.encB8 az.bytes)) ?_ fun sm=>?_
 rintro I7 Hw ⟨mw,dK,eI,dL,eJ,dM,eK,vx,vy,vz,vA,vB,vC,vD,vE,vG,vH,vJ,vK,vL,vM,vN,vO,vP,vQ,vR,vS,vU,py,vV,F1,Cw,A4⟩
 refine ZC (pv:=[(0,jV bw)]) (zs:=[jV 0]) (cs:=[jV bw]) Z Z Z Z Z (wAD py wAO) zD zB ZE Z Z Z Z Z Cw ?_
 intro s7 n5 Cx
 have Cy:SW w [B1] U mw [.row (some ⟨n5,0,none⟩) 1 3 1 (hH KL.encI [bw]),.blk ab 94 [.slice dK az.bytes.length eI,jV az.next,.int .u32 az.state],.blk ai 43 au,B7,am,bd,.blk b3 28 B0,aW,bg,.row dL eJ 43 3 (hH wAA [(⟨(⟨aa,w64 (aa + ap)⟩:wAF),av⟩:wAI)]),.row dM eK 43 3 (hH wAA aZ)] s7:=Cx
 exact FT _ _ ⟨mw,dK,eI,dL,eJ,dM,eK,(some ⟨n5,0,none⟩),1,vx,vy,vz,vA,vB,vC,vD,vE,vG,vH,vJ,vK,vL,vM,vN,vO,vP,vQ,vR,vS,vU,py,rfl,vV,F1,(Cy.pick [1,2,3,4,5,6,7,8,9,10,0] _ (by decide) rfl),A4⟩
 refine ZF (s:=gBj) (M:=fun σ_ w_=>∃ (U_:PHeap) (dN:Option Addr) (eL:Nat) (dO:Option Addr) (eM:Nat),σ_ 0=.pointer (some ⟨ab,0,none⟩)/\σ_ 3=jV p3/\σ_ 8=.pointer (some ⟨b3,0,none⟩)/\σ_ 11=.pointer (some ⟨b7,0,none⟩)/\σ_ 12=.slice bq bz.length br/\σ_ 13=.slice bj bi.length bk/\σ_ 21=.pointer (some ⟨ai,0,none⟩)/\σ_ 98=jV bB/\σ_ 99=jV (↑bu:Int)/\σ_ 112=.pointer (some ⟨b7,2,none⟩)/\σ_ 114=.agg au.toArray/\σ_ 115=.slice dN ([(⟨(⟨aa,w64 (aa + ap)⟩:wAF),av⟩:wAI)].length) eL/\σ_ 116=.slice dO aZ.length eM/\σ_ 117=.slice bj bi.length bk/\σ_ 118=.pointer (some ⟨ab,0,none⟩)/\σ_ 119=.pointer (some ⟨ai,0,none⟩)/\σ_ 120=.pointer (some ⟨ai,0,none⟩)/\σ_ 121=jV aa/\σ_ 122=.pointer (some ⟨ai,0,none⟩)/\σ_ 123=.pointer (some ⟨ai,1,none⟩)/\σ_ 124=jV (w64 (aa + ap))/\σ_ 128=.pointer (some ⟨b7,2,none⟩)/\PHeap.Le bh U_/\SW w [B1] U U_ [.blk ai 43 au,bo,B7,am,bd,.blk b3 28 B0,aW,bg,.row dN eL 43 3 (hH wAA [(⟨(⟨aa,w64 (aa + ap)⟩:wAF),av⟩:wAI)]),.row dO eM 43 3 (hH wAA aZ)] w_) ?_ fun gZ=>?_
 rintro I8 mO ⟨my,dN,eL,dO,eM,vW,vX,vY,vZ,v4,v5,v7,v9,wa,wb,wc,wd,we,wg,pz,wh,wi,pB,wj,wk,pC,wl,ss,Cz⟩
 have A5:=qV.le ss
 let ma:Res:=.row dN eL 43 3 (hH wAA [(⟨(⟨aa,w64 (aa + ap)⟩:wAF),av⟩:wAI)])
 let mb:Res:=.row dO eM 43 3 (hH wAA aZ)
 have CA:SW w [B1] U my [bo,.blk ai 43 au,B7,am,bd,.blk b3 28 B0,aW,bg,ma,mb] mO:=Cz.pick [1,0,2,3,4,5,6,7,8,9] _ (by decide) rfl
 refine zM 1 Z Z Z Z (zL Z Z Try.call31 (zC pz (zC pB (zC pC zQ))) Z) CA (fun hs=>wAc fJ ab iB je aa (w64 (aa + ap)) mO my hs A5 qW) (.inl Z) ?_
 rintro mz GS Iq s8 F2 CB ⟨lv,oj,rfl,rfl,A6⟩
 have CD:SW w [B1] U mz [.blk ab 94 [.slice lv az.bytes.length oj,jV az.next,.int .u32 az.state],.blk ai 43 au,B7,am,bd,.blk b3 28 B0,aW,bg,ma,mb] s8:=CB
 exact sm _ _ ⟨mz,lv,oj,dN,eL,dO,eM,vW,vX,vY,vZ,v4,v5,v7,v9,wa,wb,wc,wd,we,wg,pz,wh,wi,pB,wj,wk,pC,Z,wl,(ss.trans F2),CD,A6⟩
 refine ZF (s:=.fl 16 gBj) (M:=fun σ_ w_=>∃ (U_:PHeap) (dP:Option Addr) (eO:Nat) (dQ:Option Addr) (eQ:Nat),σ_ 0=.pointer (some ⟨ab,0,none⟩)/\σ_ 3=jV p3/\σ_ 8=.pointer (some ⟨b3,0,none⟩)/\σ_ 11=.pointer (some ⟨b7,0,none⟩)/\σ_ 12=.slice bq bz.length br/\σ_ 13=.slice bj bi.length bk/\σ_ 21=.pointer (some ⟨ai,0,none⟩)/\σ_ 98=jV bB/\σ_ 99=jV (↑bu:Int)/\σ_ 112=.pointer (some ⟨b7,2,none⟩)/\σ_ 114=.agg au.toArray/\σ_ 115=.slice dP ([(⟨(⟨aa,w64 (aa + ap)⟩:wAF),av⟩:wAI)].length) eO/\σ_ 116=.slice dQ aZ.length eQ/\σ_ 117=.slice bj bi.length bk/\σ_ 118=.pointer (some ⟨ab,0,none⟩)/\σ_ 119=.pointer (some ⟨ai,0,none⟩)/\σ_ 120=.pointer (some ⟨ai,0,none⟩)/\σ_ 121=jV aa/\σ_ 122=.pointer (some ⟨ai,0,none⟩)/\σ_ 123=.pointer (some ⟨ai,1,none⟩)/\σ_ 124=jV (w64 (aa + ap))/\PHeap.Le bh U_/\SW w [B1] U U_ [.blk ai 43 au,bo,B7,am,bd,.blk b3 28 B0,aW,bg,.row dP eO 43 3 (hH wAA [(⟨(⟨aa,w64 (aa + ap)⟩:wAF),av⟩:wAI)]),.row dQ eQ 43 3 (hH wAA aZ)] w_) ?_ fun FU=>?_
 rintro I9 mP ⟨mA,dP,eO,dQ,eQ,wn,wo,wp,pD,wq,wt,wu,wv,ww,wx,wy,wz,wA,wB,pE,wC,wD,pF,wE,wG,pG,su,CE⟩
 refine oR Z (zF Z pD zN Z Ze) ?_
 have A7:=qV.le su
 let mc:Res:=.row dP eO 43 3 (hH wAA [(⟨(⟨aa,w64 (aa + ap)⟩:wAF),av⟩:wAI)])
 let md:Res:=.row dQ eQ 43 3 (hH wAA aZ)
 have CF:SW w [B1] U mA [bo,.blk ai 43 au,B7,am,bd,.blk b3 28 B0,aW,bg,mc,md] mP:=CE.pick [1,0,2,3,4,5,6,7,8,9] _ (by decide) rfl
 refine zM 1 Z Z Z Z (zL Z Z Try.call31 (zC pE (zC pF (zC pG zQ))) Z) CF (fun hs=>wAc fJ ab iB je aa (w64 (aa + ap)) mP mA hs A7 qW) (.inl Z) ?_
 rintro mB GT Ir s9 F3 CG ⟨lw,om,rfl,rfl,A8⟩
 have CH:SW w [B1] U mB [.blk ab 94 [.slice lw az.bytes.length om,jV az.next,.int .u32 az.state],.blk ai 43 au,B7,am,bd,.blk b3 28 B0,aW,bg,mc,md] s9:=CG
 exact sm _ _ ⟨mB,lw,om,dP,eO,dQ,eQ,wn,wo,wp,pD,wq,wt,wu,wv,ww,wx,wy,wz,wA,wB,pE,wC,wD,pF,wE,wG,pG,Z,Z,(su.trans F3),CH,A8⟩
 refine ZF (s:=.fl 16 gBo) (M:=fun σ_ w_=>∃ (U_:PHeap) (fM:Option Addr) (gy:Nat) (fN:Option Addr) (gz:Nat),σ_ 0=.pointer (some ⟨ab,0,none⟩)/\σ_ 3=jV p3/\σ_ 8=.pointer (some ⟨b3,0,none⟩)/\σ_ 11=.pointer (some ⟨b7,0,none⟩)/\σ_ 12=.slice bq bz.length br/\σ_ 13=.slice bj bi.length bk/\σ_ 21=.pointer (some ⟨ai,0,none⟩)/\σ_ 98=jV bB/\σ_ 99=jV (↑bu:Int)/\σ_ 112=.pointer (some ⟨b7,2,none⟩)/\σ_ 114=.agg au.toArray/\σ_ 115=.slice fM ([(⟨(⟨aa,w64 (aa + ap)⟩:wAF),av⟩:wAI)].length) gy/\σ_ 116=.slice fN aZ.length gz/\σ_ 117=.slice bj bi.length bk/\σ_ 118=.pointer (some ⟨ab,0,none⟩)/\σ_ 119=.pointer (some ⟨ai,0,none⟩)/\σ_ 120=.pointer (some ⟨ai,0,none⟩)/\σ_ 122=.pointer (some ⟨ai,0,none⟩)/\σ_ 123=.pointer (some ⟨ai,1,none⟩)/\σ_ 124=jV (w64 (aa + ap))/\PHeap.Le bh U_/\SW w [B1] U U_ [.blk ai 43 au,bo,B7,am,bd,.blk b3 28 B0,aW,bg,.row fM gy 43 3 (hH wAA [(⟨(⟨aa,w64 (aa + ap)⟩:wAF),av⟩:wAI)]),.row fN gz 43 3 (hH wAA aZ)] w_) ?_ fun FV=>?_
 rintro Ja Hx ⟨sP,fM,gy,fN,gz,wH,wI,wJ,pH,wK,wL,wM,wN,wO,wP,wQ,wR,wS,wU,wV,wW,pI,wX,wY,wZ,F4,re⟩
 exact oR Z (zF Z pH zN Z Ze) (ZD Z Z Z Z (re.ldB (j:=0) Z Z pI zE (v:=jV aa) Z) (gZ _ _ ⟨sP,fM,gy,fN,gz,wH,wI,wJ,pH,wK,wL,wM,wN,wO,wP,wQ,wR,wS,wU,wV,wW,pI,Z,wX,wY,wZ,Z,F4,re⟩))
 refine ZF (s:=gBp) (M:=fun σ_ w_=>∃ (U_:PHeap) (dR:Option Addr) (eU:Nat),σ_ 0=.pointer (some ⟨ab,0,none⟩)/\σ_ 3=jV p3/\σ_ 8=.pointer (some ⟨b3,0,none⟩)/\σ_ 11=.pointer (some ⟨b7,0,none⟩)/\σ_ 12=.slice bq bz.length br/\σ_ 13=.slice bj bi.length bk/\σ_ 21=.pointer (some ⟨ai,0,none⟩)/\σ_ 98=jV bB/\σ_ 99=jV (↑bu:Int)/\σ_ 112=.pointer (some ⟨b7,2,none⟩)/\σ_ 113=.slice bP bD.length bR/\σ_ 114=.agg au.toArray/\σ_ 115=.slice dR ([(⟨(⟨aa,w64 (aa + ap)⟩:wAF),av⟩:wAI)].length) eU/\σ_ 117=.slice bj bi.length bk/\σ_ 118=.pointer (some ⟨ab,0,none⟩)/\σ_ 119=.pointer (some ⟨ai,0,none⟩)/\σ_ 120=.pointer (some ⟨ai,0,none⟩)/\σ_ 121=jV aa/\σ_ 122=.pointer (some ⟨ai,0,none⟩)/\σ_ 123=.pointer (some ⟨ai,1,none⟩)/\σ_ 124=jV (w64 (aa + ap))/\PHeap.Le bh U_/\SW w [B1] U U_ [.blk ai 43 au,bo,B7,am,bJ,bd,.blk b3 28 B0,aW,bg,.row dR eU 43 3 (hH wAA [(⟨(⟨aa,w64 (aa + ap)⟩:wAF),av⟩:wAI)])] w_) ?_ fun jX=>?_
 rintro Jb Hy ⟨mC,dR,eU,w5,w6,w7,w8,w9,xa,xb,xc,xd,xe,xf,xg,pJ,xh,xi,xj,xk,xl,xm,xn,xo,F5,ri⟩
 refine Zz (j:=4) (enc:=wAA) (xs:=bD) (ys:=[(⟨(⟨aa,w64 (aa + ap)⟩:wAF),av⟩:wAI)]) (zs:=aZ) rfl rfl rfl rfl rfl Try.underlying25 wKr rfl rfl rfl rfl rfl rfl ri rfl xf pJ (ri.srcR (j:=9) rfl (by decide) (wAG (f:=wAA) (sz:=3) (fun _=>rfl) [(⟨(⟨aa,w64 (aa + ap)⟩:wAF),av⟩:wAI)])) (fun _=>rfl) (fun _=>rfl) gT rfl ?_
 intro lx oq td CJ
 have CL:SW w [B1] U mC [.blk ai 43 au,bo,B7,am,.row lx oq 43 3 (hH wAA aZ),bd,.blk b3 28 B0,aW,bg,.row dR eU 43 3 (hH wAA [(⟨(⟨aa,w64 (aa + ap)⟩:wAF),av⟩:wAI)])] td:=CJ
 exact FU _ _ ⟨mC,dR,eU,lx,oq,w5,w6,w7,w8,w9,xa,xb,xc,xd,xe,xg,pJ,rfl,xh,xi,xj,xk,xl,xm,xn,xo,F5,(CL.pick [0,1,2,3,5,6,7,8,9,4] _ (by decide) rfl)⟩
 refine ZF (s:=.fl 16 gBn) (M:=fun σ_ w_=>∃ (U_:PHeap) (fO:Option Addr) (gA:Nat) (fP:Option Addr) (gB:Nat),σ_ 0=.pointer (some ⟨ab,0,none⟩)/\σ_ 3=jV p3/\σ_ 8=.pointer (some ⟨b3,0,none⟩)/\σ_ 11=.pointer (some ⟨b7,0,none⟩)/\σ_ 12=.slice bq bz.length br/\σ_ 13=.slice bj bi.length bk/\σ_ 21=.pointer (some ⟨ai,0,none⟩)/\σ_ 98=jV bB/\σ_ 99=jV (↑bu:Int)/\σ_ 112=.pointer (some ⟨b7,2,none⟩)/\σ_ 114=.agg au.toArray/\σ_ 115=.slice fO ([(⟨(⟨aa,w64 (aa + ap)⟩:wAF),av⟩:wAI)].length) gA/\σ_ 116=.slice fP aZ.length gB/\σ_ 117=.slice bj bi.length bk/\σ_ 118=.pointer (some ⟨ab,0,none⟩)/\σ_ 119=.pointer (some ⟨ai,0,none⟩)/\σ_ 120=.pointer (some ⟨ai,0,none⟩)/\σ_ 121=jV aa/\σ_ 122=.pointer (some ⟨ai,0,none⟩)/\σ_ 123=.pointer (some ⟨ai,1,none⟩)/\PHeap.Le bh U_/\SW w [B1] U U_ [.blk ai 43 au,bo,B7,am,bd,.blk b3 28 B0,aW,bg,.row fO gA 43 3 (hH wAA [(⟨(⟨aa,w64 (aa + ap)⟩:wAF),av⟩:wAI)]),.row fP gB 43 3 (hH wAA aZ)] w_) ?_ fun FW=>?_
 rintro Jc Hz ⟨sQ,fO,gA,fP,gB,xp,xq,xr,pK,xt,xu,xw,xx,xz,xA,xB,xC,xD,xE,xF,xG,xH,xI,xJ,pL,F6,rj⟩
 exact oR Z (zF Z pK zN Z Ze) (ZD Z Z Z Z (rj.ldB (j:=0) Z Z pL zE (v:=jV (w64 (aa + ap))) Z) (gZ _ _ ⟨sQ,fO,gA,fP,gB,xp,xq,xr,pK,xt,xu,xw,xx,xz,xA,xB,xC,xD,xE,xF,xG,xH,xI,xJ,pL,Z,Z,F6,rj⟩))
 refine ZF (s:=gBq) (M:=fun σ_ w_=>∃ (U_:PHeap),σ_ 0=.pointer (some ⟨ab,0,none⟩)/\σ_ 3=jV p3/\σ_ 8=.pointer (some ⟨b3,0,none⟩)/\σ_ 11=.pointer (some ⟨b7,0,none⟩)/\σ_ 12=.slice bq bz.length br/\σ_ 13=.slice bj bi.length bk/\σ_ 21=.pointer (some ⟨ai,0,none⟩)/\σ_ 98=jV bB/\σ_ 99=jV (↑bu:Int)/\σ_ 112=.pointer (some ⟨b7,2,none⟩)/\σ_ 113=.slice bP bD.length bR/\σ_ 114=.agg au.toArray/\σ_ 117=.slice bj bi.length bk/\σ_ 118=.pointer (some ⟨ab,0,none⟩)/\σ_ 119=.pointer (some ⟨ai,0,none⟩)/\σ_ 120=.pointer (some ⟨ai,0,none⟩)/\σ_ 121=jV aa/\σ_ 122=.pointer (some ⟨ai,0,none⟩)/\σ_ 123=.pointer (some ⟨ai,1,none⟩)/\σ_ 124=jV (w64 (aa + ap))/\PHeap.Le bh U_/\SW w [B1] U U_ [.blk ai 43 au,bo,B7,am,bJ,bd,.blk b3 28 B0,aW,bg] w_) ?_ fun sn=>?_
 rintro Jd HA ⟨mE,xK,xL,xM,xN,xO,xP,xR,xS,xT,xU,xV,pM,xW,xX,xY,xZ,x8,ya,yb,yc,F7,CM⟩
 refine ZC (pv:=[(0,.agg au.toArray)]) (zs:=db) (cs:=au) Z Z Z Z Z (wAD pM wAO) ZO Zh yJ Z Z Z Z Z CM ?_
 intro te n6 CO
 have CP:SW w [B1] U mE [.row (some ⟨n6,0,none⟩) 1 43 3 (hH wAA [(⟨(⟨aa,w64 (aa + ap)⟩:wAF),av⟩:wAI)]),.blk ai 43 au,bo,B7,am,bJ,bd,.blk b3 28 B0,aW,bg] te:=CO
 exact jX _ _ ⟨mE,(some ⟨n6,0,none⟩),1,xK,xL,xM,xN,xO,xP,xR,xS,xT,xU,xV,pM,rfl,xW,xX,xY,xZ,x8,ya,yb,yc,F7,(CP.pick [1,2,3,4,5,6,7,8,9,0] _ (by decide) rfl)⟩
 refine ZF (s:=gBs) (M:=fun σ_ w_=>∃ (U_:PHeap) (cV:Option Addr) (dh:Nat),σ_ 0=.pointer (some ⟨ab,0,none⟩)/\σ_ 3=jV p3/\σ_ 8=.pointer (some ⟨b3,0,none⟩)/\σ_ 11=.pointer (some ⟨b7,0,none⟩)/\σ_ 12=.slice bq bz.length br/\σ_ 13=.slice bj bi.length bk/\σ_ 21=.pointer (some ⟨ai,0,none⟩)/\σ_ 98=jV bB/\σ_ 99=jV (↑bu:Int)/\σ_ 112=.pointer (some ⟨b7,2,none⟩)/\σ_ 113=.slice bP bD.length bR/\σ_ 114=.agg au.toArray/\σ_ 115=.slice cV ([(⟨(⟨aa,w64 (aa + ap)⟩:wAF),av⟩:wAI)].length) dh/\σ_ 117=.slice bj bi.length bk/\σ_ 118=.pointer (some ⟨ab,0,none⟩)/\σ_ 119=.pointer (some ⟨ai,0,none⟩)/\σ_ 120=.pointer (some ⟨ai,0,none⟩)/\σ_ 122=.pointer (some ⟨ai,0,none⟩)/\σ_ 123=.pointer (some ⟨ai,1,none⟩)/\σ_ 124=jV (w64 (aa + ap))/\PHeap.Le bh U_/\SW w [B1] U U_ [.blk ai 43 au,bo,B7,am,bJ,bd,.blk b3 28 B0,aW,bg,.row cV dh 43 3 (hH wAA [(⟨(⟨aa,w64 (aa + ap)⟩:wAF),av⟩:wAI)])] w_) ?_ fun so=>?_
 rintro Je HB ⟨iN,cV,dh,pN,pO,pP,pQ,pR,pS,pT,pU,pV,pW,pX,pY,jf,pZ,p6,p7,jg,p8,p9,qa,sv,gW⟩
 refine zh ?_ ?_
 refine Zz (j:=4) (enc:=wAA) (xs:=bD) (ys:=[(⟨(⟨aa,w64 (aa + ap)⟩:wAF),av⟩:wAI)]) (zs:=aZ) rfl rfl rfl rfl rfl Try.underlying25 wKr rfl rfl rfl rfl rfl rfl gW rfl pX jf (gW.srcR (j:=9) rfl (by decide) (wAG (f:=wAA) (sz:=3) (fun _=>rfl) [(⟨(⟨aa,w64 (aa + ap)⟩:wAF),av⟩:wAI)])) (fun _=>rfl) (fun _=>rfl) gT rfl ?_
 intro lz ou tf CR
 have CT:SW w [B1] U iN [.blk ai 43 au,bo,B7,am,.row lz ou 43 3 (hH wAA aZ),bd,.blk b3 28 B0,aW,bg,.row cV dh 43 3 (hH wAA [(⟨(⟨aa,w64 (aa + ap)⟩:wAF),av⟩:wAI)])] tf:=CR
 exact FV _ _ ⟨iN,cV,dh,lz,ou,pN,pO,pP,pQ,pR,pS,pT,pU,pV,pW,pY,jf,rfl,pZ,p6,p7,jg,p8,p9,qa,sv,(CT.pick [0,1,2,3,5,6,7,8,9,4] _ (by decide) rfl)⟩
 exact ZD Z Z Z Z (gW.ldB (j:=0) Z Z jg zE (v:=jV aa) Z) (jX _ _ ⟨iN,cV,dh,pN,pO,pP,pQ,pR,pS,pT,pU,pV,pW,pX,pY,jf,pZ,p6,p7,jg,Z,p8,p9,qa,sv,gW⟩)
 refine ZF (s:=gBr) (M:=fun σ_ w_=>∃ (U_:PHeap) (cW:Option Addr) (dk:Nat),σ_ 0=.pointer (some ⟨ab,0,none⟩)/\σ_ 3=jV p3/\σ_ 8=.pointer (some ⟨b3,0,none⟩)/\σ_ 11=.pointer (some ⟨b7,0,none⟩)/\σ_ 12=.slice bq bz.length br/\σ_ 13=.slice bj bi.length bk/\σ_ 21=.pointer (some ⟨ai,0,none⟩)/\σ_ 98=jV bB/\σ_ 99=jV (↑bu:Int)/\σ_ 112=.pointer (some ⟨b7,2,none⟩)/\σ_ 113=.slice bP bD.length bR/\σ_ 114=.agg au.toArray/\σ_ 115=.slice cW ([(⟨(⟨aa,w64 (aa + ap)⟩:wAF),av⟩:wAI)].length) dk/\σ_ 117=.slice bj bi.length bk/\σ_ 118=.pointer (some ⟨ab,0,none⟩)/\σ_ 119=.pointer (some ⟨ai,0,none⟩)/\σ_ 120=.pointer (some ⟨ai,0,none⟩)/\σ_ 121=jV aa/\σ_ 122=.pointer (some ⟨ai,0,none⟩)/\σ_ 123=.pointer (some ⟨ai,1,none⟩)/\PHeap.Le bh U_/\SW w [B1] U U_ [.blk ai 43 au,bo,B7,am,bJ,bd,.blk b3 28 B0,aW,bg,.row cW dk 43 3 (hH wAA [(⟨(⟨aa,w64 (aa + ap)⟩:wAF),av⟩:wAI)])] w_) ?_ fun sq=>?_
 rintro Jf HD ⟨iO,cW,dk,qb,qc,qd,qe,qf,qh,qi,qj,qk,qm,qn,qo,jh,qp,qq,qr,qt,qu,qv,ji,sw,gX⟩
 refine zh ?_ ?_
 refine Zz (j:=4) (enc:=wAA) (xs:=bD) (ys:=[(⟨(⟨aa,w64 (aa + ap)⟩:wAF),av⟩:wAI)]) (zs:=aZ) rfl rfl rfl rfl rfl Try.underlying25 wKr rfl rfl rfl rfl rfl rfl gX rfl qn jh (gX.srcR (j:=9) rfl (by decide) (wAG (f:=wAA) (sz:=3) (fun _=>rfl) [(⟨(⟨aa,w64 (aa + ap)⟩:wAF),av⟩:wAI)])) (fun _=>rfl) (fun _=>rfl) gT rfl ?_
 intro lD ow tg CU
 have CV:SW w [B1] U iO [.blk ai 43 au,bo,B7,am,.row lD ow 43 3 (hH wAA aZ),bd,.blk b3 28 B0,aW,bg,.row cW dk 43 3 (hH wAA [(⟨(⟨aa,w64 (aa + ap)⟩:wAF),av⟩:wAI)])] tg:=CU
 exact FW _ _ ⟨iO,cW,dk,lD,ow,qb,qc,qd,qe,qf,qh,qi,qj,qk,qm,qo,jh,rfl,qp,qq,qr,qt,qu,qv,ji,sw,(CV.pick [0,1,2,3,5,6,7,8,9,4] _ (by decide) rfl)⟩
 exact ZD Z Z Z Z (gX.ldB (j:=0) Z Z ji zE (v:=jV (w64 (aa + ap))) Z) (jX _ _ ⟨iO,cW,dk,qb,qc,qd,qe,qf,qh,qi,qj,qk,qm,qn,qo,jh,qp,qq,qr,qt,qu,qv,ji,Z,sw,gX⟩)
 refine oR Z (zF Z bS zN Z Ze) (oL Z (bL.ldB (j:=5) Z Z Z Zw (v:=.slice bP bD.length bR) Z) (oL Z (bL.ldBA (j:=0) Z Z Z Try.isAgg43 Zh (vs:=au) Z Z) (oM Z cd (oM Z bK (oR Z (zF Z Z Zf Z zq) (oR Z (zF Z Z zn Z zB) (oR Z (zF Z Z Zf Z zq) (oR Z (zF Z Z zn Z zB) (zh ?_ ?_)))))))))
 refine ZC (pv:=[(0,.agg au.toArray)]) (zs:=db) (cs:=au) Z Z Z Z Z (wAD Z wAO) ZO Zh yJ Z Z Z Z Z bL ?_
 intro th d9 CW
 let me:Res:=.row (some ⟨d9,0,none⟩) 1 43 3 (hH wAA [(⟨(⟨aa,w64 (aa + ap)⟩:wAF),av⟩:wAI)])
 have dv:SW w [B1] U bh [me,.blk ai 43 au,bo,B7,am,bJ,bd,.blk b3 28 B0,aW,bg] th:=CW
 refine zh ?_ ?_
 refine Zz (j:=5) (enc:=wAA) (xs:=bD) (ys:=[(⟨(⟨aa,w64 (aa + ap)⟩:wAF),av⟩:wAI)]) (zs:=aZ) rfl rfl rfl rfl rfl Try.underlying25 wKr rfl rfl rfl rfl rfl rfl dv rfl rfl rfl (dv.srcR (j:=0) rfl (by decide) (wAG (f:=wAA) (sz:=3) (fun _=>rfl) [(⟨(⟨aa,w64 (aa + ap)⟩:wAF),av⟩:wAI)])) (fun _=>rfl) (fun _=>rfl) gT rfl ?_
 intro iv i8 tm CX
 have dw:SW w [B1] U bh [me,.blk ai 43 au,bo,B7,am,.row iv i8 43 3 (hH wAA aZ),bd,.blk b3 28 B0,aW,bg] tm:=CX
 refine oR Z (zF Z bS zN Z Ze) (zh ?_ ?_)
 exact ZD rfl rfl rfl rfl (dw.ldB (j:=1) rfl rfl rfl zE (v:=jV aa) rfl) (ZD rfl rfl rfl rfl (dw.ldB (j:=1) rfl rfl rfl zE (v:=jV (w64 (aa + ap))) rfl) (gZ _ _ ⟨bh,(some ⟨d9,0,none⟩),1,iv,i8,bK,cu,cw,bS,cx,cd,rfl,cf,cg,rfl,rfl,rfl,rfl,rfl,rfl,rfl,rfl,rfl,rfl,rfl,rfl,rfl,(zO _),(dw.pick [1,2,3,4,6,7,8,9,0,5] _ (by decide) rfl)⟩))
 exact ZD rfl rfl rfl rfl (dw.ldB (j:=1) rfl rfl rfl zE (v:=jV (w64 (aa + ap))) rfl) (ZD rfl rfl rfl rfl (dw.ldB (j:=1) rfl rfl rfl zE (v:=jV aa) rfl) (gZ _ _ ⟨bh,(some ⟨d9,0,none⟩),1,iv,i8,bK,cu,cw,bS,cx,cd,rfl,cf,cg,rfl,rfl,rfl,rfl,rfl,rfl,rfl,rfl,rfl,rfl,rfl,rfl,rfl,(zO _),(dw.pick [1,2,3,4,6,7,8,9,0,5] _ (by decide) rfl)⟩))
 refine zh ?_ ?_
 exact ZD rfl rfl rfl rfl (dv.ldB (j:=1) rfl rfl rfl zE (v:=jV aa) rfl) (sq _ _ ⟨bh,(some ⟨d9,0,none⟩),1,bK,cu,cw,bS,cx,cd,rfl,cf,cg,rfl,rfl,rfl,rfl,rfl,rfl,rfl,rfl,rfl,rfl,rfl,(zO _),(dv.pick [1,2,3,4,5,6,7,8,9,0] _ (by decide) rfl)⟩)
 exact ZD rfl rfl rfl rfl (dv.ldB (j:=1) rfl rfl rfl zE (v:=jV (w64 (aa + ap))) rfl) (so _ _ ⟨bh,(some ⟨d9,0,none⟩),1,bK,cu,cw,bS,cx,cd,rfl,cf,cg,rfl,rfl,rfl,rfl,rfl,rfl,rfl,rfl,rfl,rfl,rfl,(zO _),(dv.pick [1,2,3,4,5,6,7,8,9,0] _ (by decide) rfl)⟩)
 refine zh ?_ ?_
 refine ZD Z Z Z Z (bL.ldB (j:=0) Z Z Z zE (v:=jV aa) Z) (zh ?_ ?_)
 refine ZC (pv:=[(0,.agg au.toArray)]) (zs:=db) (cs:=au) Z Z Z Z Z (wAD Z wAO) ZO Zh yJ Z Z Z Z Z bL ?_
 intro tn n7 CY
 have CZ:SW w [B1] U bh [.row (some ⟨n7,0,none⟩) 1 43 3 (hH wAA [(⟨(⟨aa,w64 (aa + ap)⟩:wAF),av⟩:wAI)]),.blk ai 43 au,bo,B7,am,bJ,bd,.blk b3 28 B0,aW,bg] tn:=CY
 exact sq _ _ ⟨bh,(some ⟨n7,0,none⟩),1,bK,cu,cw,bS,cx,cd,rfl,cf,cg,rfl,rfl,rfl,rfl,rfl,rfl,rfl,rfl,rfl,rfl,rfl,(zO _),(CZ.pick [1,2,3,4,5,6,7,8,9,0] _ (by decide) rfl)⟩
 exact ZD Z Z Z Z (bL.ldB (j:=0) Z Z Z zE (v:=jV (w64 (aa + ap))) Z) (sn _ _ ⟨bh,bK,cu,cw,bS,cx,cd,Z,cf,cg,Z,Z,Z,Z,Z,Z,Z,Z,Z,Z,Z,(zO _),bL⟩)
 refine ZD Z Z Z Z (bL.ldB (j:=0) Z Z Z zE (v:=jV (w64 (aa + ap))) Z) (zh ?_ ?_)
 refine ZC (pv:=[(0,.agg au.toArray)]) (zs:=db) (cs:=au) Z Z Z Z Z (wAD Z wAO) ZO Zh yJ Z Z Z Z Z bL ?_
 intro tp n8 C0
 have C1:SW w [B1] U bh [.row (some ⟨n8,0,none⟩) 1 43 3 (hH wAA [(⟨(⟨aa,w64 (aa + ap)⟩:wAF),av⟩:wAI)]),.blk ai 43 au,bo,B7,am,bJ,bd,.blk b3 28 B0,aW,bg] tp:=C0
 exact so _ _ ⟨bh,(some ⟨n8,0,none⟩),1,bK,cu,cw,bS,cx,cd,rfl,cf,cg,rfl,rfl,rfl,rfl,rfl,rfl,rfl,rfl,rfl,rfl,rfl,(zO _),(C1.pick [1,2,3,4,5,6,7,8,9,0] _ (by decide) rfl)⟩
 exact ZD Z Z Z Z (bL.ldB (j:=0) Z Z Z zE (v:=jV aa) Z) (sn _ _ ⟨bh,bK,cu,cw,bS,cx,cd,Z,cf,cg,Z,Z,Z,Z,Z,Z,Z,Z,Z,Z,Z,(zO _),bL⟩)
 rintro Jg tr ⟨sS,sK,uq,bW,bZ,cX,dl,AP,qw,yd,ye,yf,yg,yh,yi,Ga,C3,Bc⟩
 have ur:Hid (¬ ((↑((bB:Int) - 0).toNat:Int) < bB)):=zI (wAi)
 refine sR fL1 Z (oR Z (zY Z AP yi) (eN (zK (cF Z ur (Zb (zl (zl (ZX (zH (zK (sR (wCz gAi) Z (oM Z qw (oM Z yd (oR Z (zW Z Z Z) ?_))))))))))))))
 have q:=bnd rY
 obtain ⟨⟨dz,j5⟩,Bd,rH⟩:=q
 try dsimp only at rH
 refine zM 1 Z Z Z Z (zL Z Z Zy (zC Z (zC Z zQ)) Z) C3 (fun hs=>wAP (⟨GP,GQ,GR⟩:wAE) ab sK uq (w64 (p3 + 1)) tr sS hs Bc Bd) (.inl Z) ?_
 rintro sT GX Iu mR Gb C4 ⟨lF,oy,rfl,rfl,Be⟩
 let aX:Res:=.row bW bZ 43 3 (hH wAA bA)
 let aY:Res:=.row cX dl 3 1 (hH KL.encI bE)
 let mf:Res:=.blk b7 28 [.slice bm ba.length bn,.slice bs bb.length bt,.slice bW bA.length bZ,.slice none 0 0]
 let mg:Res:=.blk ab 94 [.slice lF j5.bytes.length oy,jV j5.next,.int .u32 j5.state]
 have C5:SW w [B1] U sT [mg,B7,am,aX,mf,.blk b3 28 B0,aW,aY] mR:=C4
 refine oM Z Z (eN (zd ?_))
 have Bg:=BY.le Gt
 have Bh:=Bg.le Ga
 have Bi:=Bh.le Gb
 have q:=C5.freezeRR (R:=wJT) (k:=6) rfl Bi rfl (by decide)
 obtain ⟨iP,Gc,sc,C7⟩:=q
 have C8:SW w [B1] U iP [mg,B7,am,aX,mf,.blk b3 28 B0,aY] mR:=C7
 have q:=bnd rH
 obtain ⟨⟨GD,GE,GF,sJ⟩,E3,rI⟩:=q
 try dsimp only at rI
 have q:=wBH E3
 obtain ⟨jP,E4⟩:=q
 replace jP:=zI jP
 refine CK.forN' (fun cL (cM,fD,fE,cN) σ_ w_=>∃ (U_:PHeap) (cY:Option Addr) (dm:Nat) (cq:Option Addr) (ct:Nat),σ_ 134=jV (↑cL:Int)/\σ_ 0=.pointer (some ⟨ab,0,none⟩)/\σ_ 8=.pointer (some ⟨b3,0,none⟩)/\σ_ 11=.pointer (some ⟨b7,0,none⟩)/\σ_ 12=.slice bq bz.length br/\σ_ 13=.slice cX bE.length dl/\σ_ 133=jV dz/\PHeap.Le iP U_/\SW w [B1] U U_ [.blk ab 94 [.slice cY cM.length dm,jV fD,.int .u32 fE],B7,am,aX,.row cq ct 39 4 (hH wAH cN),.blk b7 28 [.slice bm ba.length bn,.slice bs bb.length bt,.slice bW bA.length bZ,.slice cq cN.length ct],.blk b3 28 B0,aY] w_/\Sl U_ 1 cY dm cM.length (hH KL.encB8 cM)) E4 ?_ ?_ ?_
 have Da:=C8.nilrow 39 4
 have Bj:=Be.le Gc
 exact ⟨iP,lF,oy,none,0,rfl,qw,ye,yf,yg,yh,rfl,(zO _),(Da.pick [1,2,3,4,0,5,6,7] _ (by decide) rfl),Bj⟩
 rintro cL ⟨cM,fD,fE,cN⟩ IS Jh mS jJ ⟨gm,cY,dm,cq,ct,fd,cI,gM,cJ,gN,gO,eZ,g7,Db,qQ⟩ sd
 try dsimp only at sd
 have oz:Hid ((↑cL:Int) < dz):=zI (wAy jJ)
 replace jJ:=zI jJ
 have jH:Hid (w64 ((↑cL:Int) + 1)=(↑(cL + 1):Int)):=zI (by have h1:=jP.out;have h2:=oz.out;rw [wAV] <;> omega)
 refine sR fL1 Z (oR Z (zY Z fd eZ) (eN (zK (cT Z oz (kN (zK (zd ?_)))))))
 have q:=bnd sd
 obtain ⟨⟨g6,sG,sH,cm,cQ,bv⟩,FQ,rJ⟩:=q
 try dsimp only at rJ
 let be:Res:=.blk b7 28 [.slice bm ba.length bn,.slice bs bb.length bt,.slice bW bA.length bZ,.slice cq cN.length ct]
 let bf:Res:=.row cq ct 39 4 (hH wAH cN)
 let cr:List Value:=[jV cm,jV cQ,jV bv,jV 0]
 refine yD (fun σ_ w_=>∃ (U_:PHeap) (fQ:Option Addr) (gC:Nat) (bC:Nat),σ_ 0=.pointer (some ⟨ab,0,none⟩)/\σ_ 8=.pointer (some ⟨b3,0,none⟩)/\σ_ 11=.pointer (some ⟨b7,0,none⟩)/\σ_ 12=.slice bq bz.length br/\σ_ 13=.slice cX bE.length dl/\σ_ 22=.pointer (some ⟨bC,0,none⟩)/\σ_ 133=jV dz/\σ_ 134=jV (↑cL:Int)/\PHeap.Le gm U_/\SW w [B1] U U_ [.blk ab 94 [.slice fQ g6.length gC,jV sG,.int .u32 sH],B7,am,aX,bf,be,.blk b3 28 B0,aY,.blk bC 39 cr] w_/\Sl U_ 1 fQ gC g6.length (hH KL.encB8 g6)) ?_ ?_
 have q:=bnd FQ
 obtain ⟨⟨cy,cn⟩,qR,rK⟩:=q
 try dsimp only at rK
 have q:=bnd rK
 obtain ⟨⟨cz,bH⟩,jv,rL⟩:=q
 try dsimp only at rL
 have q:=bnd rL
 obtain ⟨⟨cB,bM⟩,gR,fg⟩:=q
 try dsimp only at fg
 refine ZA ZB [3,3,1,3,1005,3,3,1004,3,3,1005,3,3,1004,3,0,3,2,0,ab] (wEi (wLu (wFJ (.fx 4 (.fx 10 (.fx 15 (.fl 16 (.fx 17 (.fx 18 .nil .stop) .stop)) (.fx 17 gAt .stop)) (.fx 17 gBd .stop)) (.fx 17 (.fx 4 gBd .stop) .stop))))) (by kernel_rfl) ?_
 have dx:=Db.drew
 generalize hw_W1886:({ mS with drawn:=mS.drawn + 1 }:World)=tA at dx ⊢
 refine zk rfl rfl rfl rfl rfl cI (zg rfl rfl rfl rfl (fun _=>zF rfl cJ zN rfl zZ) (ZG rfl rfl rfl rfl (dx.ldB (j:=5) rfl rfl rfl zj (v:=.slice bm ba.length bn) rfl) rfl (zg rfl rfl rfl rfl (fun _=>zt rfl rfl zD) (zk rfl rfl rfl rfl rfl cI (zg rfl rfl rfl rfl (fun _=>zF rfl cJ zN rfl Zt) (OKS.mt (T:=[ab]) [0] [1,2,3,4,5,6,7] [B7,am,aX,bf,be,.blk b3 28 B0,aY] rfl rfl rfl rfl dx rfl ⟨⟨0,by decide,_,rfl,rfl⟩,trivial⟩ (by decide) rfl (by decide) (fun _ ES=>(ES.ldB (j:=4) rfl rfl rfl yB (v:=.slice bs bb.length bt) rfl)) rfl (zg rfl rfl rfl rfl (fun _=>zt rfl rfl zr) (zg rfl rfl rfl rfl (fun _=>zW rfl rfl rfl) (zk rfl rfl rfl rfl rfl cI (zg rfl rfl rfl rfl (fun _=>zF rfl cJ zN rfl Ze) (OKS.mt (T:=[ab]) [0] [1,2,3,4,5,6,7] [B7,am,aX,bf,be,.blk b3 28 B0,aY] rfl rfl rfl rfl dx rfl ⟨⟨0,by decide,_,rfl,rfl⟩,trivial⟩ (by decide) rfl (by decide) (fun _ ET=>(ET.ldB (j:=4) rfl rfl rfl Zw (v:=.slice bW bA.length bZ) rfl)) rfl (zg rfl rfl rfl rfl (fun _=>zt rfl rfl ZO) (zh ?_ ?_)))))))))))))
 refine yY 1 rfl rfl rfl rfl (zL rfl rfl Zy (zC rfl (zC rfl zQ)) rfl) dx (fun hs=>wAP (⟨cM,fD,fE⟩:wAE) ab cY dm (↑ba.length:Int) tA gm hs qQ qR) rfl (T:=[ab]) rfl ⟨fun b h=>(by cases h;exact .head _),trivial⟩ ?_
 rintro gq GY Iw mT jY Dg ⟨iw,i9,rfl,rfl,qS⟩
 let mh:Res:=.blk ab 94 [.slice iw cn.bytes.length i9,jV cn.next,.int .u32 cn.state]
 have rn:SW w [B1] U gq [mh,B7,am,aX,bf,be,.blk b3 28 B0,aY] mT:=Dg
 refine zh ?_ ?_
 refine yY 1 rfl rfl rfl rfl (zL rfl rfl Zy (zC rfl (zC rfl zQ)) rfl) rn (fun hs=>wAP cn ab iw i9 (w64 ((↑bb.length:Int) + 1)) mT gq hs qS jv) rfl (T:=[ab]) rfl ⟨fun b h=>(by cases h;exact .head _),trivial⟩ ?_
 rintro gt GZ Ix mU sA Dh ⟨iy,ja,rfl,rfl,qT⟩
 let mi:Res:=.blk ab 94 [.slice iy bH.bytes.length ja,jV bH.next,.int .u32 bH.state]
 have ro:SW w [B1] U gt [mi,B7,am,aX,bf,be,.blk b3 28 B0,aY] mU:=Dh
 refine zh ?_ ?_
 refine zM 1 Z Z Z Z (zL Z Z Zy (zC Z (zC Z zQ)) Z) ro (fun hs=>wAP bH ab iy ja (↑bA.length:Int) mU gt hs qT gR) (.inl Z) ?_
 rintro iQ G0 Iy tB Gd Di ⟨lG,oB,rfl,rfl,Bl⟩
 let mj:Res:=.blk ab 94 [.slice lG bM.bytes.length oB,jV bM.next,.int .u32 bM.state]
 have Dj:SW w [B1] U iQ [mj,B7,am,aX,bf,be,.blk b3 28 B0,aY] tB:=Di
 let iG:List Value:=[jV cy,jV cz,jV cB,jV 0]
 let ml:List Value:=[jV 0,jV 0,jV 0,jV 0]
 refine oR Z (zy (pv:=[(0,jV cy),(1,jV cz),(2,jV cB)]) (z:=ml) (cs:=iG) Z (wAD Z (wAD Z (wAD Z wAO))) Zr wGM Z Z) (zS (cs:=ml) Z Z Z Z Z Zr Z Dj ?_)
 intro HF n9 Dk
 refine zV (j:=0) (vs:=iG) Z Z Z Z Dk Z Z Z Z Zj (zA Z) Z Z Z ?_
 intro tC Dl
 have Dm:SW w [B1] U iQ [.blk n9 39 iG,mj,B7,am,aX,bf,be,.blk b3 28 B0,aY] tC:=Dl
 refine zi ?_
 cases fg
 exact zH ⟨rfl,⟨iQ,lG,oB,n9,cI,gM,cJ,gN,gO,rfl,eZ,fd,((jY.trans sA).trans Gd),(Dm.pick [1,2,3,4,5,6,7,8,0] _ (by decide) rfl),Bl⟩⟩
 let gi:List Value:=[jV 0,jV 0,jV 0,jV 0]
 refine zS (cs:=gi) Z Z Z Z Z Zr Z ro ?_
 intro mV gv Dn
 have Do:SW w [B1] U gt [mi,.blk gv 39 gi,B7,am,aX,bf,be,.blk b3 28 B0,aY] mV:=Dn.pick [1,0,2,3,4,5,6,7,8] _ (by decide) rfl
 refine zM 1 Z Z Z Z (zL Z Z Zy (zC Z (zC Z zQ)) Z) Do (fun hs=>wAP bH ab iy ja (↑bA.length:Int) mV gt hs qT gR) (.inl Z) ?_
 rintro iR Ha Iz tE Ge Dp ⟨lH,oG,rfl,rfl,Bm⟩
 let mn:Res:=.blk ab 94 [.slice lH bM.bytes.length oG,jV bM.next,.int .u32 bM.state]
 have Dq:SW w [B1] U iR [mn,.blk gv 39 gi,B7,am,aX,bf,be,.blk b3 28 B0,aY] tE:=Dp
 let iI:List Value:=[jV cy,jV cz,jV cB,jV 0]
 refine oR Z (zy (pv:=[(0,jV cy),(1,jV cz),(2,jV cB)]) (z:=gi) (cs:=iI) Z (wAD Z (wAD Z (wAD Z wAO))) Zr wGM Z Z) (zV (j:=1) (vs:=iI) Z Z Z Z Dq Z Z Z Z Zj (zA Z) Z Z Z ?_)
 intro tF Dr
 have Ds:SW w [B1] U iR [mn,.blk gv 39 iI,B7,am,aX,bf,be,.blk b3 28 B0,aY] tF:=Dr
 refine zi ?_
 cases fg
 exact zH ⟨rfl,⟨iR,lH,oG,gv,cI,gM,cJ,gN,gO,rfl,eZ,fd,((jY.trans sA).trans Ge),(Ds.pick [0,2,3,4,5,6,7,8,1] _ (by decide) rfl),Bm⟩⟩
 let dW:List Value:=[jV 0,jV 0,jV 0,jV 0]
 refine zS (cs:=dW) Z Z Z Z Z Zr Z rn ?_
 intro mW ec Dt
 have Du:SW w [B1] U gq [mh,.blk ec 39 dW,B7,am,aX,bf,be,.blk b3 28 B0,aY] mW:=Dt.pick [1,0,2,3,4,5,6,7,8] _ (by decide) rfl
 refine yY 1 rfl rfl rfl rfl (zL rfl rfl Zy (zC rfl (zC rfl zQ)) rfl) Du (fun hs=>wAP cn ab iw i9 (w64 ((↑bb.length:Int) + 1)) mW gq hs qS jv) rfl (T:=[ab]) rfl ⟨fun b h=>(by cases h;exact .head _),trivial⟩ ?_
 rintro mF Hb IA mX Gf Dv ⟨lI,oH,rfl,rfl,Bn⟩
 have Dw:SW w [B1] U mF [.blk ab 94 [.slice lI bH.bytes.length oH,jV bH.next,.int .u32 bH.state],.blk ec 39 dW,B7,am,aX,bf,be,.blk b3 28 B0,aY] mX:=Dv
 refine zM 1 Z Z Z Z (zL Z Z Zy (zC Z (zC Z zQ)) Z) Dw (fun hs=>wAP bH ab lI oH (↑bA.length:Int) mX mF hs Bn gR) (.inl Z) ?_
 rintro iT Hc IB tG Gg Dx ⟨lJ,oI,rfl,rfl,Bo⟩
 let mo:Res:=.blk ab 94 [.slice lJ bM.bytes.length oI,jV bM.next,.int .u32 bM.state]
 have Dz:SW w [B1] U iT [mo,.blk ec 39 dW,B7,am,aX,bf,be,.blk b3 28 B0,aY] tG:=Dx
 let iJ:List Value:=[jV cy,jV cz,jV cB,jV 0]
 refine oR Z (zy (pv:=[(0,jV cy),(1,jV cz),(2,jV cB)]) (z:=dW) (cs:=iJ) Z (wAD Z (wAD Z (wAD Z wAO))) Zr wGM Z Z) (zV (j:=1) (vs:=iJ) Z Z Z Z Dz Z Z Z Z Zj (zA Z) Z Z Z ?_)
 intro tH DA
 have DB:SW w [B1] U iT [mo,.blk ec 39 iJ,B7,am,aX,bf,be,.blk b3 28 B0,aY] tH:=DA
 refine zi ?_
 cases fg
 exact zH ⟨rfl,⟨iT,lJ,oI,ec,cI,gM,cJ,gN,gO,rfl,eZ,fd,((jY.trans Gf).trans Gg),(DB.pick [0,2,3,4,5,6,7,8,1] _ (by decide) rfl),Bo⟩⟩
 let de:List Value:=[jV 0,jV 0,jV 0,jV 0]
 refine zS (cs:=de) Z Z Z Z Z Zr Z dx ?_
 intro mY dg DC
 have DD:SW w [B1] U gm [.blk ab 94 [.slice cY cM.length dm,jV fD,.int .u32 fE],.blk dg 39 de,B7,am,aX,bf,be,.blk b3 28 B0,aY] mY:=DC.pick [1,0,2,3,4,5,6,7,8] _ (by decide) rfl
 refine yY 1 rfl rfl rfl rfl (zL rfl rfl Zy (zC rfl (zC rfl zQ)) rfl) DD (fun hs=>wAP (⟨cM,fD,fE⟩:wAE) ab cY dm (↑ba.length:Int) mY gm hs qQ qR) rfl (T:=[ab]) rfl ⟨fun b h=>(by cases h;exact .head _),trivial⟩ ?_
 rintro mG He IC mZ Gi DE ⟨lL,oO,rfl,rfl,Bp⟩
 have DF:SW w [B1] U mG [.blk ab 94 [.slice lL cn.bytes.length oO,jV cn.next,.int .u32 cn.state],.blk dg 39 de,B7,am,aX,bf,be,.blk b3 28 B0,aY] mZ:=DE
 refine yY 1 rfl rfl rfl rfl (zL rfl rfl Zy (zC rfl (zC rfl zQ)) rfl) DF (fun hs=>wAP cn ab lL oO (w64 ((↑bb.length:Int) + 1)) mZ mG hs Bp jv) rfl (T:=[ab]) rfl ⟨fun b h=>(by cases h;exact .head _),trivial⟩ ?_
 rintro mH Hf ID m4 Gj DG ⟨lM,oP,rfl,rfl,Bq⟩
 have DH:SW w [B1] U mH [.blk ab 94 [.slice lM bH.bytes.length oP,jV bH.next,.int .u32 bH.state],.blk dg 39 de,B7,am,aX,bf,be,.blk b3 28 B0,aY] m4:=DG
 refine zM 1 Z Z Z Z (zL Z Z Zy (zC Z (zC Z zQ)) Z) DH (fun hs=>wAP bH ab lM oP (↑bA.length:Int) m4 mH hs Bq gR) (.inl Z) ?_
 rintro iU Hh IE tI Gk DI ⟨lN,oU,rfl,rfl,Br⟩
 let mp:Res:=.blk ab 94 [.slice lN bM.bytes.length oU,jV bM.next,.int .u32 bM.state]
 have DJ:SW w [B1] U iU [mp,.blk dg 39 de,B7,am,aX,bf,be,.blk b3 28 B0,aY] tI:=DI
 let iK:List Value:=[jV cy,jV cz,jV cB,jV 0]
 refine oR Z (zy (pv:=[(0,jV cy),(1,jV cz),(2,jV cB)]) (z:=de) (cs:=iK) Z (wAD Z (wAD Z (wAD Z wAO))) Zr wGM Z Z) (zV (j:=1) (vs:=iK) Z Z Z Z DJ Z Z Z Z Zj (zA Z) Z Z Z ?_)
 intro tJ DK
 have DL:SW w [B1] U iU [mp,.blk dg 39 iK,B7,am,aX,bf,be,.blk b3 28 B0,aY] tJ:=DK
 refine zi ?_
 cases fg
 exact zH ⟨rfl,⟨iU,lN,oU,dg,cI,gM,cJ,gN,gO,rfl,eZ,fd,((Gi.trans Gj).trans Gk),(DL.pick [0,2,3,4,5,6,7,8,1] _ (by decide) rfl),Br⟩⟩
 rintro Jj m5 ⟨mI,fQ,gC,bC,qx,yj,qy,qz,qA,dr,yk,yl,g8,ff,Bs⟩
 refine sR fL8 Z (oR Z (zF Z qy zN Z Ze) (oL Z (ff.ldB (j:=5) Z Z Z Zw (v:=.slice bW bA.length bZ) Z) (oR Z (zF Z dr zx Z zB) (oL Z (ff.ldB (j:=8) Z Z Z zE (v:=jV bv) Z) (bnK rJ fun _ gS Fu=>?_)))))
 obtain ⟨HQ,qX⟩:=ff.rowSome (j:=3) rfl (by rw [wAG (f:=wAA) (sz:=3) (fun _=>rfl) bA];have hz:=wAU gS;omega)
 refine oR Z (ZQ Z Z qX Z ZO Zh (wBV gS) (wBW gS)) (oR Z (zF Z Z Zf Z zB) ?_)
 have Fg:=wBK (xs:=bA) (wAU gS)
 refine ZG rfl rfl rfl rfl (ff.ldR (j:=3) rfl qX rfl rfl zE (wAX (sz:=3) (fun _=>rfl) _ _ 2 _ Fg (by first | omega | rfl | simp) rfl)) rfl (yH rfl rfl rfl rfl rfl rfl (eN (zK (ZA ZB [3,3,1004,3,1004,3,1004,3,1004,3,3,1004,3,1004,3,3,3,3,3,1005,3,3,3,0,ab] (wSW (.fx 19 (wQx (.fx 23 .nil .stop)) .stop)) (by kernel_rfl) ?_))))
 have ci:=ff.drew
 generalize hw_W2138:({ m5 with drawn:=m5.drawn + 1 }:World)=tK at ci ⊢
 refine zk rfl rfl rfl rfl rfl qz (zg rfl rfl rfl rfl (fun _=>zF rfl dr zx rfl zB) (OKS.mt (T:=[ab]) [0] [1,2,3,4,5,6,7,8] [B7,am,aX,bf,be,.blk b3 28 B0,aY,.blk bC 39 cr] rfl rfl rfl rfl ci rfl ⟨⟨0,by decide,_,rfl,rfl⟩,trivial⟩ (by decide) rfl (by decide) (fun _ EU=>(EU.ldB (j:=7) rfl rfl rfl zE (v:=jV cm) rfl)) rfl (bnK Fu fun ii dt Fv=>?_)))
 have Bt:=sc.le g7
 have qU:=Bt.le g8
 have q:=qU.el (wAW dt)
 obtain ⟨ui,GA,IQ,Cj,jz,FM⟩:=q
 obtain ⟨sC,sE,rfl,Bu⟩:=FM
 replace jz:Cl mI ui (GA + cm.toNat * 1) [.slice sC ii.length sE]:=jz
 refine zg rfl rfl rfl rfl (fun _=>ZQ rfl rfl Cj rfl ZI zZ (wBM dt) (wBP dt)) (OKS.mt (T:=[ab]) [0] [1,2,3,4,5,6,7,8] [B7,am,aX,bf,be,.blk b3 28 B0,aY,.blk bC 39 cr] rfl rfl rfl rfl ci rfl ⟨⟨0,by decide,_,rfl,rfl⟩,trivial⟩ (by decide) rfl (by decide) (fun _ EV=>(EV.ldC (f:=0) jz (v:=.slice sC ii.length sE) rfl rfl zj rfl)) rfl (zg rfl rfl rfl rfl (fun _=>zF rfl dr zx rfl zB) (OKS.mt (T:=[ab]) [0] [1,2,3,4,5,6,7,8] [B7,am,aX,bf,be,.blk b3 28 B0,aY,.blk bC 39 cr] rfl rfl rfl rfl ci rfl ⟨⟨0,by decide,_,rfl,rfl⟩,trivial⟩ (by decide) rfl (by decide) (fun _ EW=>(EW.ldB (j:=7) rfl rfl rfl zE (v:=jV cQ) rfl)) rfl (bnK Fv fun cC du Fw=>?_))))
 have q:=Bu.el (fun _=>rfl) (wAW du)
 obtain ⟨HS,Io,Ck,Co⟩:=q
 refine zg rfl rfl rfl rfl (fun _=>ZQ rfl rfl Ck rfl zD zB (wBM du) (wBP du)) (OKS.mt (T:=[ab]) [0] [1,2,3,4,5,6,7,8] [B7,am,aX,bf,be,.blk b3 28 B0,aY,.blk bC 39 cr] rfl rfl rfl rfl ci rfl ⟨⟨0,by decide,_,rfl,rfl⟩,trivial⟩ (by decide) rfl (by decide) (fun _ EX=>(EX.ldC (f:=0) Co (v:=jV cC) rfl rfl zE rfl)) rfl (zk rfl rfl rfl rfl rfl qA (zg rfl rfl rfl rfl (fun _=>zF rfl dr zx rfl zB) (OKS.mt (T:=[ab]) [0] [1,2,3,4,5,6,7,8] [B7,am,aX,bf,be,.blk b3 28 B0,aY,.blk bC 39 cr] rfl rfl rfl rfl ci rfl ⟨⟨0,by decide,_,rfl,rfl⟩,trivial⟩ (by decide) rfl (by decide) (fun _ EY=>(EY.ldB (j:=7) rfl rfl rfl zE (v:=jV bv) rfl)) rfl (bnK Fw fun _ cK Fx=>?_)))))
 obtain ⟨HT,gU⟩:=ci.rowSome (j:=7) rfl (by rw [wAG (f:=KL.encI) (sz:=1) (fun _=>rfl) bE];have hz:=wAU cK;omega)
 refine oR Z (ZQ Z Z gU Z zD zB (wBV cK) (wBW cK)) ?_
 have Fh:=wBK (xs:=bE) (wAU cK)
 refine OKS.mt (T:=[ab]) [0] [1,2,3,4,5,6,7,8] [B7,am,aX,bf,be,.blk b3 28 B0,aY,.blk bC 39 cr] rfl rfl rfl rfl ci rfl ⟨⟨0,by decide,_,rfl,rfl⟩,trivial⟩ (by decide) rfl (by decide) (fun _ EZ=>(EZ.ldR (j:=6) rfl gU rfl rfl zE (wAX (sz:=1) (fun _=>rfl) _ _ 0 _ Fh (by first | omega | rfl | simp) rfl))) rfl (zg rfl rfl rfl rfl (fun _=>zW rfl rfl rfl) (zk rfl rfl rfl rfl rfl qx (zk rfl rfl rfl rfl rfl rfl (zg rfl rfl rfl rfl (fun _=>Runs.negw rfl rfl) (zk rfl rfl rfl rfl rfl rfl ?_)))))
 have q:=bnd Fx
 obtain ⟨⟨dA,j6⟩,Bv,rM⟩:=q
 try dsimp only at rM
 refine yY 1 rfl rfl rfl rfl (zL rfl rfl Try.call31 (zC rfl (zC rfl (zC rfl zQ))) rfl) ci (fun hs=>wAc (⟨g6,sG,sH⟩:wAE) ab fQ gC (w64 (-((gd bA bv.toNat).Error))) ((gd bA bv.toNat).Error) tK mI hs Bs Bv) rfl (T:=[ab]) rfl ⟨fun b h=>(by cases h;exact .head _),trivial⟩ ?_
 rintro bY Hj IF tL g9 DN ⟨fS,gE,rfl,rfl,jw⟩
 let dX:Res:=.blk ab 94 [.slice fS j6.bytes.length gE,jV j6.next,.int .u32 j6.state]
 have DO:SW w [B1] U bY [dX,B7,am,aX,bf,be,.blk b3 28 B0,aY,.blk bC 39 cr] tL:=DN
 refine oR Z (zW Z Z Z) (oR Z (Runs.max Z Z Z) (oR Z (zF Z dr zx Z zB) (zV (j:=8) (vs:=[jV (max 0 (w64 ((w64 (cC + (gd bE bv.toNat))) + dA)))]) Z Z Z Z DO Z Z Z Z zB (zA Z) Z Z Z ?_)))
 intro iZ DP
 let cG:List Value:=[jV cm,jV cQ,jV bv,jV (max 0 (w64 ((w64 (cC + (gd bE bv.toNat))) + dA)))]
 have DQ:SW w [B1] U bY [dX,B7,am,aX,bf,be,.blk b3 28 B0,aY,.blk bC 39 cG] iZ:=DP
 refine eN (zK (yU fun cp bU=>?_))
 have jj:cp 0=.pointer (some ⟨ab,0,none⟩):=(bU 0).trans qx
 have jk:cp 8=.pointer (some ⟨b3,0,none⟩):=(bU 8).trans yj
 have fb:cp 11=.pointer (some ⟨b7,0,none⟩):=(bU 11).trans qy
 have gP:cp 12=.slice bq bz.length br:=(bU 12).trans qz
 have gQ:cp 13=.slice cX bE.length dl:=(bU 13).trans qA
 have fc:cp 22=.pointer (some ⟨bC,0,none⟩):=(bU 22).trans dr
 have qC:cp 23=jV ((gd bA bv.toNat).Error):=(bU 23).trans rfl
 have jl:cp 133=jV dz:=(bU 133).trans yk
 have jm:cp 134=jV (↑cL:Int):=(bU 134).trans yl
 clear bU
 refine ZA ZB [3,1,3,3,1,3,1,3,1,3,1,3,3,3,1,3,1,3,3] fL19 (by kernel_rfl) ?_
 have bF:=DQ.drew
 generalize hw_W2200:({ iZ with drawn:=iZ.drawn + 1 }:World)=HH at bF ⊢
 refine oR Z (zF Z fc zx Z zB) (oL Z (bF.ldB (j:=8) Z Z Z zE (v:=jV (max 0 (w64 ((w64 (cC + (gd bE bv.toNat))) + dA)))) Z) (oM Z gP (oR Z (zF Z fc zx Z zB) (oL Z (bF.ldB (j:=8) Z Z Z zE (v:=jV cm) Z) ?_))))
 have Bw:=qU.le g9
 have q:=Bw.el (wAW dt)
 obtain ⟨uj,GB,IR,Cm,jA,FN⟩:=q
 obtain ⟨sD,sF,rfl,By⟩:=FN
 replace jA:Cl bY uj (GB + cm.toNat * 1) [.slice sD ii.length sF]:=jA
 refine oR Z (ZQ Z Z Cm Z ZI zZ (wBM dt) (wBP dt)) (oL Z (bF.ldC (f:=0) jA (v:=.slice sD ii.length sF) Z Z zj Z) (oR Z (zF Z fc zx Z zB) (oL Z (bF.ldB (j:=8) Z Z Z zE (v:=jV cQ) Z) ?_)))
 have q:=By.el (fun _=>rfl) (wAW du)
 obtain ⟨HU,Ip,Cn,Cp⟩:=q
 refine oR Z (ZQ Z Z Cn Z zD zB (wBM du) (wBP du)) (oL Z (bF.ldC (f:=0) Cp (v:=jV cC) Z Z zE Z) (oR Z (yN Z Z Z) (oM Z gQ (oR Z (zF Z fc zx Z zB) (oL Z (bF.ldB (j:=8) Z Z Z zE (v:=jV bv) Z) (oR Z (ZQ Z Z gU Z zD zB (wBV cK) (wBW cK)) ?_))))))
 have Fi:=wBK (xs:=bE) (wAU cK)
 refine ZG rfl rfl rfl rfl (bF.ldR (j:=7) rfl gU rfl rfl zE (wAX (sz:=1) (fun _=>rfl) _ _ 0 _ Fi (by first | omega | rfl | simp) rfl)) rfl (zg rfl rfl rfl rfl (fun _=>yN rfl rfl rfl) (yH rfl rfl rfl rfl rfl rfl (eN (sR fL9 rfl (zk rfl rfl rfl rfl rfl rfl (zk rfl rfl rfl rfl rfl qC (zg rfl rfl rfl rfl (fun _=>Runs.negw rfl rfl) (zg rfl rfl rfl rfl (fun _=>Runs.geq rfl rfl rfl) (zk rfl rfl rfl rfl rfl rfl (ifc rM ?_ ?_))))))))))
 intro cb Fz
 refine zk Z Z Z (wT Z cb) Z Z (zk Z Z Z (wT Z cb) Z qC (rU Z (wT Z cb) (Runs.leq Z Z Z) (oR Z (zz Z (Zn cb.out) Z) (eN (ifc Fz ?_ ?_)))))
 intro jb FA
 refine cT Z jb (rR (wCz (.fx 3 (.fx 4 (.fl 5 (.fx 6 .nil .stop)) .stop) .stop)) Z (oR Z (zF Z fb zN Z yK) (oL Z (bF.ldB (j:=5) Z Z Z Try.isAgg26 (v:=.slice cq cN.length ct) Z) (oL Z (bF.ldBA (j:=8) Z Z fc Try.isAgg39 Zj (vs:=cG) Z Z) (ZC (pv:=[(0,.agg cG.toArray)]) (zs:=[jV 0,jV 0,jV 0,jV 0]) (cs:=cG) Z Z Z Z Z (wAD Z wAO) Zx Zj Zr Z Z Z Z Z bF ?_)))))
 intro tM uk DR
 let iL:Res:=.row (some ⟨uk,0,none⟩) 1 39 4 (hH wAH [(⟨cm,cQ,bv,max 0 (w64 ((w64 (cC + (gd bE bv.toNat))) + dA))⟩:wAR)])
 have rp:SW w [B1] U bY [iL,dX,B7,am,aX,bf,be,.blk b3 28 B0,aY,.blk bC 39 cG] tM:=DR
 refine bnK FA fun ij Bz FB=>Zz (j:=5) (enc:=wAH) (xs:=cN) (ys:=[(⟨cm,cQ,bv,max 0 (w64 ((w64 (cC + (gd bE bv.toNat))) + dA))⟩:wAR)]) (zs:=ij) rfl rfl rfl rfl rfl Try.underlying26 wSF rfl rfl rfl rfl rfl rfl rp rfl rfl rfl (rp.srcR (j:=0) rfl (by decide) (wAG (f:=wAH) (sz:=4) (fun _=>rfl) [(⟨cm,cQ,bv,max 0 (w64 ((w64 (cC + (gd bE bv.toNat))) + dA))⟩:wAR)])) (fun _=>rfl) (fun _=>rfl) Bz rfl ?_
 intro fT gF tO DS
 let mr:Res:=.row fT gF 39 4 (hH wAH ij)
 have DT:SW w [B1] U bY [iL,dX,B7,am,aX,mr,be,.blk b3 28 B0,aY,.blk bC 39 cG] tO:=DS
 refine oR Z (zF Z fb zN Z yK) (zV (j:=6) (vs:=[.slice fT ij.length gF]) Z Z Z Z DT Z Z Z Z yK (zA Z) Z Z Z ?_)
 intro tP DU
 have DV:SW w [B1] U bY [iL,dX,B7,am,aX,mr,.blk b7 28 [.slice bm ba.length bn,.slice bs bb.length bt,.slice bW bA.length bZ,.slice fT ij.length gF],.blk b3 28 B0,aY,.blk bC 39 cG] tP:=DU
 refine zi (zu (zH (rR fL2 Z (oR Z (ZR (zW Z jm Z) (congrArg (jV) jH.out)) (oM Z Z (zi ?_))))))
 cases FB
 exact zH ⟨rfl,⟨bY,fS,gE,fT,gF,rfl,jj,jk,fb,gP,gQ,jl,((g7.trans g8).trans g9),(DV.pick [1,2,3,4,5,6,7,8] _ (by decide) rfl),jw⟩⟩
 intro jb FC
 refine cF Z jb (Zq (zu (zH (rR fL2 Z (oR Z (ZR (zW Z jm Z) (congrArg (jV) jH.out)) (oM Z Z (zi ?_)))))))
 cases FC
 exact zH ⟨rfl,⟨bY,fS,gE,cq,ct,rfl,jj,jk,fb,gP,gQ,jl,((g7.trans g8).trans g9),(bF.pick [0,1,2,3,4,5,6,7] _ (by decide) rfl),jw⟩⟩
 intro cb FD
 refine oF Z cb (oF Z cb (oF Z cb (oR Z (ZM Z (ZS cb.out) Z) (eN (ZU Z (Zq (zu (zH (rR fL2 Z (oR Z (ZR (zW Z jm Z) (congrArg (jV) jH.out)) (oM Z Z (zi ?_))))))))))))
 cases FD
 exact zH ⟨rfl,⟨bY,fS,gE,cq,ct,rfl,jj,jk,fb,gP,gQ,jl,((g7.trans g8).trans g9),(bF.pick [0,1,2,3,4,5,6,7] _ (by decide) rfl),jw⟩⟩
 rintro Jk HI ⟨mJ,lP,oX,iz,jc,AS,If,qD,yu,yv,yw,yy,Gl,rq,BB⟩
 have uw:Hid (¬ ((↑((dz:Int) - 0).toNat:Int) < dz)):=zI (wAi)
 refine sR fL1 Z (oR Z (zY Z AS yy) (eN (zK (cF Z uw (Zb (zl (zl (ZX (zH (sR (wCz gAu) Z ?_))))))))))
 let df:List Value:=[.slice bm ba.length bn,.slice bs bb.length bt,.slice bW bA.length bZ,.slice iz sJ.length jc]
 refine oL Z (rq.ldBA (j:=5) Z Z yu ZK zm (vs:=df) Z Z) (oM Z yv (oM Z yw (zV (j:=6) (vs:=df) Z Z Z Z rq Z qD Z Z zm (zA Z) Z Z Z ?_)))
 intro tQ DW
 have rx:SW w [B1] U mJ [.blk ab 94 [.slice lP GD.length oX,jV GE,.int .u32 GF],B7,am,aX,.row iz jc 39 4 (hH wAH sJ),.blk b7 28 df,.blk b3 28 df,aY] tQ:=DW
 refine oA Z Z (oA Z Z (eN (zU ?_)))
 have BC:=sc.le Gl
 cases rI
 exact ⟨rfl,_,(wDt (rs:=[.cell 8 28,.tmp 9,.tmp 10]) (vs:=[.agg df.toArray,.slice bq bz.length br,.slice cX bE.length dl]) ⟨⟨_,qD,(wBB ZK zm (rx.blkAt (k:=6) rfl) (vs:=df) rfl rfl)⟩,⟨rfl,⟨rfl,trivial⟩⟩⟩ rfl),mJ,_,(rx.pick [1,2,3,4,7,0] _ (by decide) rfl),bm,bn,bs,bt,bW,bZ,iz,jc,bq,br,cX,dl,lP,oX,rfl,rfl,BC,BB⟩
end Go.Proofs.Ytlnfbjphfoipaaa
namespace Go.Proofs.Ytlnfbjphfoipaaa
open Go.KL
set_option maxHeartbeats 4000000
theorem wFn (p0:Int) (p1:Int) (w:World) (U:PHeap) (hS:St0 w U [])  {r:Int} (hm:wBn p0 p1=some r):Gv Try.prog 11 [jV p0,jV p1] w (wCh w [] U (fun U_ L_ v=>v=jV r/\L_=[])):=by
 unfold wBn at hm
 refine Gv.of Try.func11 Z Try.ntmps11 Try.results11 Z (sR fL1 Z (oA Z Z (eN (zK (sR fL2 Z (oM Z Z (oR Z (Runs.leq Z Z Z) (eN ?_))))))))
 by_cases c1:p1 <= 0
 have ae:=hm;rw [if_pos c1] at ae;replace c1:=zI c1
 refine cT Z c1 (sR fL1 Z (oA Z Z (eN (zU (zJ ?_)))))
 cases ae
 exact ⟨Z,_,(ZW Z),U,_,hS,Z,Z⟩
 have ah:=hm;rw [if_neg c1] at ah;replace c1:=zI c1
 refine cF Z c1 (kN (sR fL8 Z (oM Z Z (oM Z Z (bnK ah fun x4 h5 am=>oR Z (Runs.rem Z Z Z h5) (oM Z Z (oR Z (zW Z Z Z) (oM Z Z (bnK am fun x7 h8 ap=>oR Z (Runs.rem Z Z Z h8) (oA Z Z (eN (zU ?_))))))))))))
 have hE:=nA ap;first | subst r | cases hE
 exact ⟨Z,_,(ZW Z),U,_,hS,Z,Z⟩
theorem wDZ (p0:Int) (p1:Int) (p2:Int) (w:World) (U:PHeap) (hS:St0 w U [])  {r:Bool} (hm:wCG p0 p1 p2=some r):Gv Try.prog 75 [jV p0,jV p1,jV p2] w (wCh w [] U (fun U_ L_ v=>v=.bool r/\L_=[])):=by
 unfold wCG at hm
 refine Gv.of Try.func75 Z Try.ntmps75 Try.results75 Z (sR fL1 Z (oA Z Z (eN (sR fL9 Z (oM Z Z (oM Z Z (oR Z (Runs.geq Z Z Z) (oM Z Z ?_))))))))
 by_cases c1:p1 <= p0
 have ab:=hm;rw [if_pos c1] at ab;replace c1:=zI c1
 refine zk Z Z Z (wT Z c1) Z Z (zk Z Z Z (wT Z c1) Z Z (rU Z (wT Z c1) (Runs.leq Z Z Z) (oR Z (zz Z (Zn c1.out) Z) (oA Z Z (eN (zU ?_))))))
 first | (obtain rfl:=nA ab) | cases ab
 exact ⟨Z,_,(ZW Z),U,_,hS,Z,Z⟩
 have ai:=hm;rw [if_neg c1] at ai;replace c1:=zI c1
 refine oF Z c1 (oF Z c1 (oF Z c1 (oR Z (ZM Z (ZS c1.out) Z) (oA Z Z (eN (zU ?_))))))
 have hE:=nA ai;first | subst r | cases hE
 exact ⟨Z,_,(ZW Z),U,_,hS,Z,Z⟩
theorem wFo (p0:List Int) (aq:Option Addr) (au:Nat) (p1:(Int->Option Bool)) (av:Value) (w:World) (U:PHeap) (hS:St0 w U []) (bv:Sl U 1 aq au p0.length (hH KL.encI p0)) (bw:FnOK Try.prog U av ar76 rr76 p1) {r:Bool} (hm:wBo p0 p1=some r):Gv Try.prog 79 [.slice aq p0.length au,av] w (wCh w [] U (fun U_ L_ v=>v=.bool r/\L_=[])):=by
 unfold wBo at hm
 refine Gv.of Try.func79 Z Try.ntmps79 Try.results79 Z (sR fL1 Z (oA Z Z (eN (zK (sR fL3 Z (oM Z Z (oR Z (zt Z Z zD) (oM Z Z (eN (zd ?_))))))))))
 have q:=wBm hm
 obtain ⟨r3,aj⟩:=q
 have q:=wBl aj
 obtain ⟨am,bB⟩:=q
 replace am:=zI am
 refine yC (fun k2 _ σ_ w_=>∃ (U_:PHeap),σ_ 9=jV (↑k2:Int)/\σ_ 1=av/\σ_ 7=.slice aq p0.length au/\σ_ 8=jV (↑p0.length:Int)/\PHeap.Le U U_/\sW w U U_ [] w_) bB ?_ ?_ ?_
 exact ⟨U,Z,Z,Z,Z,(zO _),hS⟩
 rintro k2 ⟨⟩ bX bZ W8 ak ⟨bL,ai,aW,aX,aY,ap,ba⟩ be bz
 try dsimp only at be
 have az:Hid ((↑k2:Int) < (↑p0.length:Int)):=zI (wAy ak)
 replace ak:=zI ak
 have bC:Hid (w64 ((↑k2:Int) + 1)=(↑(k2 + 1):Int)):=zI (by have h1:=am.out;have h2:=az.out;rw [wAV] <;> omega)
 refine sR fL1 Z (oR Z (zY Z ai aY) (eN (zK (cT Z az (kN (zK (zd (sR fL3 Z (bnK be fun bg aZ bD=>?_)))))))))
 have bo:=bv.le ap
 have q:=bo.el (fun _=>rfl) (wAW aZ)
 obtain ⟨bP,bU,br,bs⟩:=q
 refine oR Z (ZV Z aX br ai zD zB (wBd aZ)) (oL Z (ba.ldC (f:=0) bs (v:=jV bg) Z Z zE Z) (oA Z Z (eN (sR gBa Z (oM Z aW (oM Z Z (bnK bD fun x30 bp bE=>?_)))))))
 have bq:=bw.le ap
 refine OKS.callV (a:=bg) Z Z Z Z Z Z (zC Z zQ) ba bq Z bp ?_
 rintro ae bK bW bi bI bt ⟨rfl,rfl⟩
 have bb:sW w U ae [] bi:=bt
 refine oR Z (Zc Z Z) (eN (ifc bE ?_ ?_))
 intro ah bF
 refine ZU (nC ah.out) (Zq (zu (zH (rR fL2 Z (oR Z (ZR (zW Z ai Z) (congrArg (jV) bC.out)) (oM Z Z (zi ?_)))))))
 obtain rfl:=nA bF
 exact zH ⟨Z,_,Z,⟨ae,Z,aW,aX,aY,(ap.trans bI),bb⟩⟩
 intro ah bG
 refine ZP (nF (ah.out)) (sR fL1 Z (oA Z Z (eN (zU (zP (zJ ?_))))))
 have q:=wAT bG
 obtain ⟨bJ,bH,bk⟩:=q
 obtain rfl:=wAh hm aj (bz bJ bk)
 refine zJ (zP (zJ ?_))
 have hE:=nA bH;first | subst r | cases hE
 exact ⟨Z,_,(ZW Z),ae,_,bb,Z,Z⟩
 rintro ⟨⟩ bY bM ⟨bh,bn,bQ,bR,bm,bS,bu⟩ bA
 have bd:=wCZ hm aj bA
 try dsimp only at bd
 have bj:Hid (¬ ((↑(((↑p0.length:Int):Int) - 0).toNat:Int) < (↑p0.length:Int))):=zI (wAi)
 refine sR fL1 Z (oR Z (zY Z bn bm) (eN (zK (cF Z bj (Zb (zl (zl (ZX (zH (sR fL1 Z (oA Z Z (eN (zU ?_)))))))))))))
 have hE:=nA bd;first | subst r | cases hE
 exact ⟨Z,_,(ZW Z),bh,_,bu,Z,Z⟩
theorem wHQ (p0:Int) (w:World) (U:PHeap) (hS:St0 w U [])  {r:Bool} (hm:wBv p0=some r):Gv Try.prog 92 [jV p0] w (wCh w [] U (fun U_ L_ v=>v=.bool r/\L_=[])):=by
 unfold wBv at hm
 refine Gv.of Try.func92 Z Try.ntmps92 Try.results92 Z (sR fL1 Z (oA Z Z (eN (sR gAr Z (oM Z Z (bnK hm fun x1 h2 ak=>zM 0 Z Z Z Z (zL Z Z Try.call75 (zC Z (zC Z (zC Z zQ))) Z) hS (fun hs=>wDZ p0 0 360000 w U hs h2) (.inr Z) ?_))))))
 rintro U4 L5 v6 W7 ap aj ⟨rfl,rfl⟩
 have ai:sW w U U4 [] W7:=aj
 refine oA Z Z (eN (zU ?_))
 have hE:=nA ak;first | subst r | cases hE
 exact ⟨Z,_,(ZW Z),U4,_,ai,Z,Z⟩
theorem wEG (p0:List wAF) (av:Option Addr) (az:Nat) (p1:(wAF->Option Bool)) (aW:Value) (w:World) (U:PHeap) (hS:St0 w U []) (bE:Sl U 2 av az p0.length (hH wAJ p0)) (bF:FnOK Try.prog U aW wSA wSB p1) {r:Bool} (hm:wBD p0 p1=some r):Gv Try.prog 93 [.slice av p0.length az,aW] w (wCh w [] U (fun U_ L_ v=>v=.bool r/\L_=[])):=by
 unfold wBD at hm
 refine Gv.of Try.func93 Z Try.ntmps93 Try.results93 Z (sR fL1 Z (oA Z Z (eN (zK (sR fL3 Z (oM Z Z (oR Z (zt Z Z zr) (oM Z Z (eN (zd ?_))))))))))
 have q:=wBm hm
 obtain ⟨r3,am⟩:=q
 have q:=wBl am
 obtain ⟨aq,bI⟩:=q
 replace aq:=zI aq
 refine yC (fun k2 _ σ_ w_=>∃ (U_:PHeap),σ_ 9=jV (↑k2:Int)/\σ_ 1=aW/\σ_ 7=.slice av p0.length az/\σ_ 8=jV (↑p0.length:Int)/\PHeap.Le U U_/\sW w U U_ [] w_) bI ?_ ?_ ?_
 exact ⟨U,Z,Z,Z,Z,(zO _),hS⟩
 rintro k2 ⟨⟩ cj cn W8 ap ⟨bk,ak,aZ,ba,bb,au,be⟩ bi bG
 try dsimp only at bi
 have aY:Hid ((↑k2:Int) < (↑p0.length:Int)):=zI (wAy ap)
 replace ap:=zI ap
 have bJ:Hid (w64 ((↑k2:Int) + 1)=(↑(k2 + 1):Int)):=zI (by have h1:=aq.out;have h2:=aY.out;rw [wAV] <;> omega)
 refine sR fL1 Z (oR Z (zY Z ak bb) (eN (zK (cT Z aY (kN (zK (zd (sR gBb Z (bnK bi fun ae bd bK=>?_)))))))))
 have bt:=bE.le au
 have q:=bt.el (fun _=>rfl) (wAW bd)
 obtain ⟨bX,cd,bw,bz⟩:=q
 refine oR Z (ZV Z ba bw ak zr zq (wBd bd)) (oL Z (be.ldCA (f:=0) bz Z Z yE zq (us:=[jV ae.Lo,jV ae.Hi]) Z Z) (zS (cs:=[jV 0,jV 0]) Z Z Z Z Z Zd Z be ?_))
 intro bU aX bA
 let B0:List Value:=[jV ae.Lo,jV ae.Hi]
 refine zV (j:=0) (vs:=B0) Z Z Z Z bA Z Z Z Z zq (zA Z) Z Z Z ?_
 intro bn bB
 have bf:sW w U bk [.blk aX 41 B0] bn:=bB
 refine eN (sR gBa Z (oM Z aZ (oL Z (bf.ldBA (j:=0) Z Z Z yE zq (vs:=B0) Z Z) (bnK bK fun ci bu bL=>?_))))
 have bv:=bF.le au
 refine OKS.callV (a:=ae) Z Z Z Z Z Z (zC Z zQ) bf bv Z bu ?_
 rintro ai bS cg bo bQ bC ⟨rfl,rfl⟩
 have bg:sW w U ai [.blk aX 41 B0] bo:=bC
 refine oR Z (Zc Z Z) (eN (ifc bL ?_ ?_))
 intro aj bM
 refine ZU (nC aj.out) (Zq (zu (zH (rR fL2 Z (oR Z (ZR (zW Z ak Z) (congrArg (jV) bJ.out)) (oM Z Z (zi ?_)))))))
 obtain rfl:=nA bM
 exact zH ⟨rfl,_,rfl,⟨ai,rfl,aZ,ba,bb,(au.trans bQ),(bg.pick [] _ (by decide) rfl)⟩⟩
 intro aj bN
 refine ZP (nF (aj.out)) (sR fL1 Z (oA Z Z (eN (zU (zP (zJ ?_))))))
 have q:=wAT bN
 obtain ⟨bR,bP,bq⟩:=q
 obtain rfl:=wAh hm am (bG bR bq)
 refine zJ (zP (zJ ?_))
 have hE:=nA bP;first | subst r | cases hE
 exact ⟨rfl,_,(ZW rfl),ai,_,(bg.pick [] _ (by decide) rfl),rfl,rfl⟩
 rintro ⟨⟩ cm bV ⟨bm,bs,bY,bZ,br,cb,bD⟩ bH
 have bh:=wCZ hm am bH
 try dsimp only at bh
 have bp:Hid (¬ ((↑(((↑p0.length:Int):Int) - 0).toNat:Int) < (↑p0.length:Int))):=zI (wAi)
 refine sR fL1 Z (oR Z (zY Z bs br) (eN (zK (cF Z bp (Zb (zl (zl (ZX (zH (sR fL1 Z (oA Z Z (eN (zU ?_)))))))))))))
 have hE:=nA bh;first | subst r | cases hE
 exact ⟨Z,_,(ZW Z),bm,_,bD,Z,Z⟩
theorem wEk (p0:wAF) (p1:Int) (p2:Int) (w:World) (U:PHeap) (hS:St0 w U [])  {r:Bool} (hm:wBw p0 p1 p2=some r):Gv Try.prog 95 [.agg #[jV p0.Lo,jV p0.Hi],jV p1,jV p2] w (wCh w [] U (fun U_ L_ v=>v=.bool r/\L_=[])):=by
 unfold wBw at hm
 refine Gv.of Try.func95 rfl Try.ntmps95 Try.results95 rfl (sR gAk rfl (ZN (cs:=[jV p0.Lo,jV p0.Hi]) rfl rfl rfl rfl rfl rfl (by rfl) hS ?_))
 intro W1 b2 ah
 refine oA Z Z (eN (sR fL18 Z (oR Z (zF Z Z zn Z zB) (oL Z (ah.ldB (j:=0) Z Z Z zE (v:=jV p0.Lo) Z) (oR Z (zF Z Z zn Z zB) (oL Z (ah.ldB (j:=0) Z Z Z zE (v:=jV p0.Hi) Z) (oR Z (Runs.leq Z Z Z) (oM Z Z ?_))))))))
 by_cases c5:p0.Lo <= p0.Hi
 have aj:=hm;rw [if_pos c5] at aj;replace c5:=zI c5
 refine rU Z (wT Z c5) (zF Z Z zn Z zB) (ZG Z Z Z (wT Z c5) (ah.ldB (j:=0) Z Z Z zE (v:=jV p0.Lo) Z) Z (zk Z Z Z (wT Z c5) Z Z (rU Z (wT Z c5) (Runs.geq Z Z Z) (oR Z (zz Z (Zn c5.out) Z) (oM Z Z (ifc aj ?_ ?_))))))
 intro c7 ak
 refine rU Z (wT Z c7) (zF Z Z zn Z zB) (ZG Z Z Z (wT Z c7) (ah.ldB (j:=0) Z Z Z zE (v:=jV p0.Hi) Z) Z (zk Z Z Z (wT Z c7) Z Z (rU Z (wT Z c7) (Runs.leq Z Z Z) (oR Z (zz Z (Zn c7.out) Z) (oA Z Z (eN (zU ?_)))))))
 first | (obtain rfl:=nA ak) | cases ak
 exact ⟨rfl,_,(ZW rfl),U,_,(ah.pick [] _ (by decide) rfl),rfl,rfl⟩
 intro c7 aq
 refine oF Z c7 (oF Z c7 (oF Z c7 (oF Z c7 (oR Z (ZM Z (ZS c7.out) Z) (oA Z Z (eN (zU ?_)))))))
 have hE:=nA aq;first | subst r | cases hE
 exact ⟨rfl,_,(ZW rfl),U,_,(ah.pick [] _ (by decide) rfl),rfl,rfl⟩
 have ai:=hm;rw [if_neg c5] at ai;replace c5:=zI c5
 refine oF Z c5 (oF Z c5 (oF Z c5 (oF Z c5 (oR Z (ZM Z (ZS c5.out) Z) (oM Z Z (oN Z (oN Z (oN Z (oN Z (oR Z (ZM Z Z Z) (oA Z Z (eN (zU ?_)))))))))))))
 have hE:=nA ai;first | subst r | cases hE
 exact ⟨rfl,_,(ZW rfl),U,_,(ah.pick [] _ (by decide) rfl),rfl,rfl⟩
theorem wHR (p0:wAF) (w:World) (U:PHeap) (hS:St0 w U [])  {r:Bool} (hm:wBx p0=some r):Gv Try.prog 94 [.agg #[jV p0.Lo,jV p0.Hi]] w (wCh w [] U (fun U_ L_ v=>v=.bool r/\L_=[])):=by
 unfold wBx at hm
 refine Gv.of Try.func94 Z Try.ntmps94 Try.results94 Z (sR gAk Z ?_)
 let B0:List Value:=[jV p0.Lo,jV p0.Hi]
 refine ZN (cs:=B0) rfl rfl rfl rfl rfl rfl (by rfl) hS ?_
 intro W1 b2 ah
 refine oA Z Z (eN (sR gAr Z (oL Z (ah.ldBA (j:=0) Z Z Z yE zq (vs:=B0) Z Z) (bnK hm fun x5 h6 au=>zM 0 Z Z Z Z (zL Z Z Try.call95 (zC Z (zC Z (zC Z zQ))) Z) ah (fun hs=>wEk p0 0 360000 W1 U hs h6) (.inr Z) ?_))))
 rintro U8 L9 aW aj az ap ⟨rfl,rfl⟩
 have aq:sW w U U8 [.blk b2 41 B0] aj:=ap
 refine oA Z Z (eN (zU ?_))
 have hE:=nA au;first | subst r | cases hE
 exact ⟨rfl,_,(ZW rfl),U8,_,(aq.pick [] _ (by decide) rfl),rfl,rfl⟩
theorem wDp (p0:List wAI) (av:Option Addr) (az:Nat) (p1:(wAI->Option Bool)) (aW:Value) (w:World) (U:PHeap) (hS:St0 w U []) (bE:Sl U 3 av az p0.length (hH wAA p0)) (bF:FnOK Try.prog U aW wSC wSD p1) {r:Bool} (hm:wAx p0 p1=some r):Gv Try.prog 96 [.slice av p0.length az,aW] w (wCh w [] U (fun U_ L_ v=>v=.bool r/\L_=[])):=by
 unfold wAx at hm
 refine Gv.of Try.func96 Z Try.ntmps96 Try.results96 Z (sR fL1 Z (oA Z Z (eN (zK (sR fL3 Z (oM Z Z (oR Z (zt Z Z ZO) (oM Z Z (eN (zd ?_))))))))))
 have q:=wBm hm
 obtain ⟨r3,am⟩:=q
 have q:=wBl am
 obtain ⟨aq,bI⟩:=q
 replace aq:=zI aq
 refine yC (fun k2 _ σ_ w_=>∃ (U_:PHeap),σ_ 9=jV (↑k2:Int)/\σ_ 1=aW/\σ_ 7=.slice av p0.length az/\σ_ 8=jV (↑p0.length:Int)/\PHeap.Le U U_/\sW w U U_ [] w_) bI ?_ ?_ ?_
 exact ⟨U,Z,Z,Z,Z,(zO _),hS⟩
 rintro k2 ⟨⟩ cj cn W8 ap ⟨bk,ak,aZ,ba,bb,au,be⟩ bi bG
 try dsimp only at bi
 have aY:Hid ((↑k2:Int) < (↑p0.length:Int)):=zI (wAy ap)
 replace ap:=zI ap
 have bJ:Hid (w64 ((↑k2:Int) + 1)=(↑(k2 + 1):Int)):=zI (by have h1:=aq.out;have h2:=aY.out;rw [wAV] <;> omega)
 refine sR fL1 Z (oR Z (zY Z ak bb) (eN (zK (cT Z aY (kN (zK (zd (sR gBb Z (bnK bi fun ab bd bK=>?_)))))))))
 have bt:=bE.le au
 have q:=bt.el (fun _=>rfl) (wAW bd)
 obtain ⟨bX,cd,bw,bz⟩:=q
 refine oR Z (ZV Z ba bw ak ZO Zh (wBd bd)) (oL Z (be.ldCA (f:=0) bz Z Z Try.isAgg43 Zh (us:=[jV ab.Offset.Lo,jV ab.Offset.Hi,jV ab.Error]) Z Z) (zS (cs:=[jV 0,jV 0,jV 0]) Z Z Z Z Z yJ Z be ?_))
 intro bU aX bA
 let B0:List Value:=[jV ab.Offset.Lo,jV ab.Offset.Hi,jV ab.Error]
 refine zV (j:=0) (vs:=B0) Z Z Z Z bA Z Z Z Z Zh (zA Z) Z Z Z ?_
 intro bn bB
 have bf:sW w U bk [.blk aX 43 B0] bn:=bB
 refine eN (sR gBa Z (oM Z aZ (oL Z (bf.ldBA (j:=0) Z Z Z Try.isAgg43 Zh (vs:=B0) Z Z) (bnK bK fun ci bu bL=>?_))))
 have bv:=bF.le au
 refine OKS.callV (a:=ab) Z Z Z Z Z Z (zC Z zQ) bf bv Z bu ?_
 rintro ai bS cg bo bQ bC ⟨rfl,rfl⟩
 have bg:sW w U ai [.blk aX 43 B0] bo:=bC
 refine oR Z (Zc Z Z) (eN (ifc bL ?_ ?_))
 intro aj bM
 refine ZU (nC aj.out) (Zq (zu (zH (rR fL2 Z (oR Z (ZR (zW Z ak Z) (congrArg (jV) bJ.out)) (oM Z Z (zi ?_)))))))
 obtain rfl:=nA bM
 exact zH ⟨rfl,_,rfl,⟨ai,rfl,aZ,ba,bb,(au.trans bQ),(bg.pick [] _ (by decide) rfl)⟩⟩
 intro aj bN
 refine ZP (nF (aj.out)) (sR fL1 Z (oA Z Z (eN (zU (zP (zJ ?_))))))
 have q:=wAT bN
 obtain ⟨bR,bP,bq⟩:=q
 obtain rfl:=wAh hm am (bG bR bq)
 refine zJ (zP (zJ ?_))
 have hE:=nA bP;first | subst r | cases hE
 exact ⟨rfl,_,(ZW rfl),ai,_,(bg.pick [] _ (by decide) rfl),rfl,rfl⟩
 rintro ⟨⟩ cm bV ⟨bm,bs,bY,bZ,br,cb,bD⟩ bH
 have bh:=wCZ hm am bH
 try dsimp only at bh
 have bp:Hid (¬ ((↑(((↑p0.length:Int):Int) - 0).toNat:Int) < (↑p0.length:Int))):=zI (wAi)
 refine sR fL1 Z (oR Z (zY Z bs br) (eN (zK (cF Z bp (Zb (zl (zl (ZX (zH (sR fL1 Z (oA Z Z (eN (zU ?_)))))))))))))
 have hE:=nA bh;first | subst r | cases hE
 exact ⟨Z,_,(ZW Z),bm,_,bD,Z,Z⟩
theorem wHS (p0:wAI) (w:World) (U:PHeap) (hS:St0 w U [])  {r:Bool} (hm:wBy p0=some r):Gv Try.prog 97 [.agg #[jV p0.Offset.Lo,jV p0.Offset.Hi,jV p0.Error]] w (wCh w [] U (fun U_ L_ v=>v=.bool r/\L_=[])):=by
 unfold wBy at hm
 refine Gv.of Try.func97 Z Try.ntmps97 Try.results97 Z (sR gAk Z ?_)
 let B0:List Value:=[jV p0.Offset.Lo,jV p0.Offset.Hi,jV p0.Error]
 refine ZN (cs:=B0) rfl rfl rfl rfl rfl rfl (by rfl) hS ?_
 intro W1 b2 ap
 refine oA Z Z (eN (sR (.fl 0 (.fl 1 (.fx 2 (fC3_5 gAp) .stop))) Z (oR Z (zF Z Z Zf Z zq) (oL Z (ap.ldBA (j:=0) Z Z Z yE zq (vs:=[jV p0.Offset.Lo,jV p0.Offset.Hi]) Z Z) (bnK hm fun x5 h6 bd=>zM 0 Z Z Z Z (zL Z Z Try.call95 (zC Z (zC Z (zC Z zQ))) Z) ap (fun hs=>wEk p0.Offset (-36000) 36000 W1 U hs h6) (.inr Z) ?_)))))
 rintro U8 L9 bi ak bg aW ⟨rfl,rfl⟩
 have ai:sW w U U8 [.blk b2 43 B0] ak:=aW
 refine oM Z Z (ifc bd ?_ ?_)
 intro ab aZ
 refine zg Z Z Z (zR Z Z (congrArg nB ab.out)) (fun _=>zF Z Z Zf Z zB) (ZG Z Z Z (zR Z Z (congrArg nB ab.out)) (ai.ldB (j:=0) Z Z Z zE (v:=jV p0.Error) Z) Z (bnK aZ fun x17 av ba=>zM 0 Z Z Z (zR Z Z (congrArg nB ab.out)) (zL Z Z Try.call75 (zC Z (zC Z (zC Z zQ))) Z) ai (fun hs=>wDZ p0.Error 0 600 ak U8 hs av) (.inr Z) ?_))
 rintro aj be bj au bh aX ⟨rfl,rfl⟩
 have aY:sW w U aj [.blk b2 43 B0] au:=aX
 refine oR Z (zz Z (congrArg nB ab.out) Z) (oA Z Z (eN (zU ?_)))
 have hE:=nA ba;first | subst r | cases hE
 exact ⟨rfl,_,(ZW rfl),aj,_,(aY.pick [] _ (by decide) rfl),rfl,rfl⟩
 intro ab bb
 refine Zg Z Z Z (ZL Z Z (congrArg nB (nD.2 ab.out)) Z) (Zg Z Z Z (ZL Z Z (congrArg nB (nD.2 ab.out)) Z) (OKS.px Z Z Z (ZL Z Z (congrArg nB (nD.2 ab.out)) Z) (oR Z (ZM Z (congrArg nB (nD.2 ab.out)) Z) (oA Z Z (eN (zU ?_))))))
 have hE:=nA bb;first | subst r | cases hE
 exact ⟨rfl,_,(ZW rfl),U8,_,(ai.pick [] _ (by decide) rfl),rfl,rfl⟩
theorem wCO (p0:List wAR) (av:Option Addr) (az:Nat) (p1:(wAR->Option Bool)) (aW:Value) (w:World) (U:PHeap) (hS:St0 w U []) (bE:Sl U 4 av az p0.length (hH wAH p0)) (bF:FnOK Try.prog U aW wQY wQZ p1) {r:Bool} (hm:wAj p0 p1=some r):Gv Try.prog 98 [.slice av p0.length az,aW] w (wCh w [] U (fun U_ L_ v=>v=.bool r/\L_=[])):=by
 unfold wAj at hm
 refine Gv.of Try.func98 Z Try.ntmps98 Try.results98 Z (sR fL1 Z (oA Z Z (eN (zK (sR fL3 Z (oM Z Z (oR Z (zt Z Z Zx) (oM Z Z (eN (zd ?_))))))))))
 have q:=wBm hm
 obtain ⟨r3,am⟩:=q
 have q:=wBl am
 obtain ⟨aq,bI⟩:=q
 replace aq:=zI aq
 refine yC (fun k2 _ σ_ w_=>∃ (U_:PHeap),σ_ 9=jV (↑k2:Int)/\σ_ 1=aW/\σ_ 7=.slice av p0.length az/\σ_ 8=jV (↑p0.length:Int)/\PHeap.Le U U_/\sW w U U_ [] w_) bI ?_ ?_ ?_
 exact ⟨U,Z,Z,Z,Z,(zO _),hS⟩
 rintro k2 ⟨⟩ cj cn W8 ap ⟨bk,ak,aZ,ba,bb,au,be⟩ bi bG
 try dsimp only at bi
 have aY:Hid ((↑k2:Int) < (↑p0.length:Int)):=zI (wAy ap)
 replace ap:=zI ap
 have bJ:Hid (w64 ((↑k2:Int) + 1)=(↑(k2 + 1):Int)):=zI (by have h1:=aq.out;have h2:=aY.out;rw [wAV] <;> omega)
 refine sR fL1 Z (oR Z (zY Z ak bb) (eN (zK (cT Z aY (kN (zK (zd (sR gBb Z (bnK bi fun ab bd bK=>?_)))))))))
 have bt:=bE.le au
 have q:=bt.el (fun _=>rfl) (wAW bd)
 obtain ⟨bX,cd,bw,bz⟩:=q
 refine oR Z (ZV Z ba bw ak Zx Zj (wBd bd)) (oL Z (be.ldCA (f:=0) bz Z Z Try.isAgg39 Zj (us:=[jV ab.Skier,jV ab.Mat,jV ab.Clock,jV ab.Time]) Z Z) (zS (cs:=[jV 0,jV 0,jV 0,jV 0]) Z Z Z Z Z Zr Z be ?_))
 intro bU aX bA
 let B0:List Value:=[jV ab.Skier,jV ab.Mat,jV ab.Clock,jV ab.Time]
 refine zV (j:=0) (vs:=B0) Z Z Z Z bA Z Z Z Z Zj (zA Z) Z Z Z ?_
 intro bn bB
 have bf:sW w U bk [.blk aX 39 B0] bn:=bB
 refine eN (sR gBa Z (oM Z aZ (oL Z (bf.ldBA (j:=0) Z Z Z Try.isAgg39 Zj (vs:=B0) Z Z) (bnK bK fun ci bu bL=>?_))))
 have bv:=bF.le au
 refine OKS.callV (a:=ab) Z Z Z Z Z Z (zC Z zQ) bf bv Z bu ?_
 rintro ai bS cg bo bQ bC ⟨rfl,rfl⟩
 have bg:sW w U ai [.blk aX 39 B0] bo:=bC
 refine oR Z (Zc Z Z) (eN (ifc bL ?_ ?_))
 intro aj bM
 refine ZU (nC aj.out) (Zq (zu (zH (rR fL2 Z (oR Z (ZR (zW Z ak Z) (congrArg (jV) bJ.out)) (oM Z Z (zi ?_)))))))
 obtain rfl:=nA bM
 exact zH ⟨rfl,_,rfl,⟨ai,rfl,aZ,ba,bb,(au.trans bQ),(bg.pick [] _ (by decide) rfl)⟩⟩
 intro aj bN
 refine ZP (nF (aj.out)) (sR fL1 Z (oA Z Z (eN (zU (zP (zJ ?_))))))
 have q:=wAT bN
 obtain ⟨bR,bP,bq⟩:=q
 obtain rfl:=wAh hm am (bG bR bq)
 refine zJ (zP (zJ ?_))
 have hE:=nA bP;first | subst r | cases hE
 exact ⟨rfl,_,(ZW rfl),ai,_,(bg.pick [] _ (by decide) rfl),rfl,rfl⟩
 rintro ⟨⟩ cm bV ⟨bm,bs,bY,bZ,br,cb,bD⟩ bH
 have bh:=wCZ hm am bH
 try dsimp only at bh
 have bp:Hid (¬ ((↑(((↑p0.length:Int):Int) - 0).toNat:Int) < (↑p0.length:Int))):=zI (wAi)
 refine sR fL1 Z (oR Z (zY Z bs br) (eN (zK (cF Z bp (Zb (zl (zl (ZX (zH (sR fL1 Z (oA Z Z (eN (zU ?_)))))))))))))
 have hE:=nA bh;first | subst r | cases hE
 exact ⟨Z,_,(ZW Z),bm,_,bD,Z,Z⟩
theorem wHT (p0:wAR) (w:World) (U:PHeap) (hS:St0 w U [])  {r:Bool} (hm:wBz p0=some r):Gv Try.prog 99 [.agg #[jV p0.Skier,jV p0.Mat,jV p0.Clock,jV p0.Time]] w (wCh w [] U (fun U_ L_ v=>v=.bool r/\L_=[])):=by
 unfold wBz at hm
 refine Gv.of Try.func99 Z Try.ntmps99 Try.results99 Z (sR gAk Z ?_)
 let B0:List Value:=[jV p0.Skier,jV p0.Mat,jV p0.Clock,jV p0.Time]
 refine ZN (cs:=B0) rfl rfl rfl rfl rfl rfl (by rfl) hS ?_
 intro W1 b2 ah
 refine oA Z Z (eN (sR gBa Z (oR Z (zF Z Z zx Z zB) (oL Z (ah.ldB (j:=0) Z Z Z zE (v:=jV p0.Time) Z) (bnK hm fun x5 h6 au=>zM 0 Z Z Z Z (zL Z Z Try.call75 (zC Z (zC Z (zC Z zQ))) Z) ah (fun hs=>wDZ p0.Time 0 360000 W1 U hs h6) (.inr Z) ?_)))))
 rintro U8 L9 aW aj az ap ⟨rfl,rfl⟩
 have aq:sW w U U8 [.blk b2 39 B0] aj:=ap
 refine oA Z Z (eN (zU ?_))
 have hE:=nA au;first | subst r | cases hE
 exact ⟨rfl,_,(ZW rfl),U8,_,(aq.pick [] _ (by decide) rfl),rfl,rfl⟩
theorem wDO (p0:wAB) (ai:Option Addr) (ak:Nat) (aj:Option Addr) (am:Nat) (az:Option Addr) (aX:Nat) (aW:Option Addr) (aY:Nat) (p1:wAQ) (w:World) (U:PHeap) (hS:St0 w U []) (bu:Sl U 1 ai ak p0.Starts.length (hH KL.encI p0.Starts)) (bv:Sl U 2 aj am p0.Splits.length (hH wAJ p0.Splits)) (bw:Sl U 3 az aX p0.Clocks.length (hH wAA p0.Clocks)) (bz:Sl U 4 aW aY p0.Readings.length (hH wAH p0.Readings)) {r:Bool} (hm:wAl p0 p1=some r):Gv Try.prog 84 [.agg #[.slice ai p0.Starts.length ak,.slice aj p0.Splits.length am,.slice az p0.Clocks.length aX,.slice aW p0.Readings.length aY],.agg #[jV p1.Skier,jV p1.Mat]] w (wCh w [] U (fun U_ L_ v=>v=.bool r/\L_=[])):=by
 unfold wAl at hm
 refine Gv.of Try.func84 Z Try.ntmps84 Try.results84 Z (sR (.fx 0 gAg .stop) Z ?_)
 let B0:List Value:=[.slice ai p0.Starts.length ak,.slice aj p0.Splits.length am,.slice az p0.Clocks.length aX,.slice aW p0.Readings.length aY]
 refine ZN (cs:=B0) rfl rfl rfl rfl rfl rfl (by rfl) hS ?_
 intro W1 b2 bk
 let B1:List Value:=[jV p1.Skier,jV p1.Mat]
 refine ZN (cs:=B1) rfl rfl rfl rfl rfl rfl (by rfl) bk ?_
 intro W5 b6 av
 refine oA Z Z (eN (sR (wHf (.fx 6 (wPX gAv) .stop)) Z (oR Z (zF Z Z Try.runUnderlying45 Z zB) (oL Z (av.ldB (j:=0) Z Z Z zE (v:=jV p1.Skier) Z) (oR Z (zF Z Z zN Z zZ) (oL Z (av.ldB (j:=1) Z Z Z zj (v:=.slice ai p0.Starts.length ak) Z) (oR Z (zt Z Z zD) (oR Z (yN Z Z Z) (bnK hm fun x9 bg bn=>zM 0 Z Z Z Z (zL Z Z Try.call75 (zC Z (zC Z (zC Z zQ))) Z) av (fun hs=>wDZ p1.Skier 0 (w64 ((↑p0.Starts.length:Int) - 1)) W5 U hs bg) (.inr Z) ?_)))))))))
 rintro au br bC ba bA bi ⟨rfl,rfl⟩
 have ah:sW w U au [.blk b6 45 B1,.blk b2 28 B0] ba:=bi
 refine oM Z Z (ifc bn ?_ ?_)
 intro ab bo
 refine zg Z Z Z (zR Z Z (congrArg nB ab.out)) (fun _=>zF Z Z Try.runUnderlying45 Z zB) (ZG Z Z Z (zR Z Z (congrArg nB ab.out)) (ah.ldB (j:=0) Z Z Z zE (v:=jV p1.Mat) Z) Z (zg Z Z Z (zR Z Z (congrArg nB ab.out)) (fun _=>zF Z Z zN Z Zt) (ZG Z Z Z (zR Z Z (congrArg nB ab.out)) (ah.ldB (j:=1) Z Z Z yB (v:=.slice aj p0.Splits.length am) Z) Z (zg Z Z Z (zR Z Z (congrArg nB ab.out)) (fun _=>zt Z Z zr) (bnK bo fun bE bh bp=>zM 0 Z Z Z (zR Z Z (congrArg nB ab.out)) (zL Z Z Try.call75 (zC Z (zC Z (zC Z zQ))) Z) ah (fun hs=>wDZ p1.Mat 0 (↑p0.Splits.length:Int) ba au hs bh) (.inr Z) ?_)))))
 rintro aZ bs bD be bB bj ⟨rfl,rfl⟩
 have bm:sW w U aZ [.blk b6 45 B1,.blk b2 28 B0] be:=bj
 refine oR Z (zz Z (congrArg nB ab.out) Z) (oA Z Z (eN (zU ?_)))
 have hE:=nA bp;first | subst r | cases hE
 exact ⟨rfl,_,(ZW rfl),aZ,_,(bm.pick [] _ (by decide) rfl),rfl,rfl⟩
 intro ab bq
 refine Zg Z Z Z (ZL Z Z (congrArg nB (nD.2 ab.out)) Z) (Zg Z Z Z (ZL Z Z (congrArg nB (nD.2 ab.out)) Z) (Zg Z Z Z (ZL Z Z (congrArg nB (nD.2 ab.out)) Z) (Zg Z Z Z (ZL Z Z (congrArg nB (nD.2 ab.out)) Z) (Zg Z Z Z (ZL Z Z (congrArg nB (nD.2 ab.out)) Z) (OKS.px Z Z Z (ZL Z Z (congrArg nB (nD.2 ab.out)) Z) (oR Z (ZM Z (congrArg nB (nD.2 ab.out)) Z) (oA Z Z (eN (zU ?_)))))))))
 have hE:=nA bq;first | subst r | cases hE
 exact ⟨rfl,_,(ZW rfl),au,_,(ah.pick [] _ (by decide) rfl),rfl,rfl⟩
theorem wHU (p0:wAR) (p1:wAB) (bd:Nat) (am:Option Addr) (au:Nat) (ap:Option Addr) (av:Nat) (ah:Option Addr) (ai:Nat) (aq:Option Addr) (az:Nat) (w:World) (U:PHeap) (hS:St0 w U []) (bb:Cl U bd 0 [.slice am p1.Starts.length au,.slice ap p1.Splits.length av,.slice ah p1.Clocks.length ai,.slice aq p1.Readings.length az]) (bn:Sl U 1 am au p1.Starts.length (hH KL.encI p1.Starts)) (bo:Sl U 2 ap av p1.Splits.length (hH wAJ p1.Splits)) (bp:Sl U 3 ah ai p1.Clocks.length (hH wAA p1.Clocks)) (bq:Sl U 4 aq az p1.Readings.length (hH wAH p1.Readings)) {r:Bool} (hm:wCA p0 p1=some r):Gv Try.prog 100 [.agg #[jV p0.Skier,jV p0.Mat,jV p0.Clock,jV p0.Time],.pointer (some ⟨bd,0,none⟩)] w (wCh w [] U (fun U_ L_ v=>v=.bool r/\L_=[])):=by
 unfold wCA at hm
 refine Gv.of Try.func100 Z Try.ntmps100 Try.results100 Z (sR gAk Z ?_)
 let B0:List Value:=[jV p0.Skier,jV p0.Mat,jV p0.Clock,jV p0.Time]
 refine ZN (cs:=B0) rfl rfl rfl rfl rfl rfl (by rfl) hS ?_
 intro W1 b2 ak
 refine oA Z Z (eN (sR (wHf (.fx 6 (wSc (.fx 14 gAf .stop)) .stop)) Z (oL Z (ak.ldCA (f:=0) bb Z Z ZK zm (us:=[.slice am p1.Starts.length au,.slice ap p1.Splits.length av,.slice ah p1.Clocks.length ai,.slice aq p1.Readings.length az]) Z Z) (oR Z (zF Z Z zx Z zB) (oL Z (ak.ldB (j:=0) Z Z Z zE (v:=jV p0.Skier) Z) (oR Z (zF Z Z zx Z zB) (oL Z (ak.ldB (j:=0) Z Z Z zE (v:=jV p0.Mat) Z) (oR Z (zy (pv:=[(0,jV p0.Skier),(1,jV p0.Mat)]) (z:=[jV 0,jV 0]) (cs:=[jV p0.Skier,jV p0.Mat]) Z (wAD Z (wAD Z wAO)) yL wIU Z Z) (bnK hm fun x5 h6 bu=>zM 0 Z Z Z Z (zL Z Z Try.call84 (zC Z (zC Z zQ)) Z) ak (fun hs=>wDO p1 am au ap av ah ai aq az (⟨p0.Skier,p0.Mat⟩:wAQ) W1 U hs bn bo bp bq h6) (.inr Z) ?_)))))))))
 rintro U8 L9 bB aZ bv bj ⟨rfl,rfl⟩
 have aj:sW w U U8 [.blk b2 39 B0] aZ:=bj
 refine oM Z Z (ifc bu ?_ ?_)
 intro ae br
 refine zg Z Z Z (zR Z Z (congrArg nB ae.out)) (fun _=>zF Z Z zx Z zB) (ZG Z Z Z (zR Z Z (congrArg nB ae.out)) (aj.ldB (j:=0) Z Z Z zE (v:=jV p0.Clock) Z) Z (zg Z Z Z (zR Z Z (congrArg nB ae.out)) (fun _=>zF Z Z zN Z Ze) ?_))
 have bg:=bb.le bv
 refine ZG Z Z Z (zR Z Z (congrArg nB ae.out)) (aj.ldC (f:=2) bg (v:=.slice ah p1.Clocks.length ai) Z Z Zw Z) Z (zg Z Z Z (zR Z Z (congrArg nB ae.out)) (fun _=>zt Z Z ZO) (zg Z Z Z (zR Z Z (congrArg nB ae.out)) (fun _=>yN Z Z Z) (bnK br fun x18 bh bs=>zM 0 Z Z Z (zR Z Z (congrArg nB ae.out)) (zL Z Z Try.call75 (zC Z (zC Z (zC Z zQ))) Z) aj (fun hs=>wDZ p0.Clock 0 (w64 ((↑p1.Clocks.length:Int) - 1)) aZ U8 hs bh) (.inr Z) ?_)))
 rintro aY bw bC bf bA bk ⟨rfl,rfl⟩
 have bm:sW w U aY [.blk b2 39 B0] bf:=bk
 refine oR Z (zz Z (congrArg nB ae.out) Z) (oA Z Z (eN (zU ?_)))
 have hE:=nA bs;first | subst r | cases hE
 exact ⟨rfl,_,(ZW rfl),aY,_,(bm.pick [] _ (by decide) rfl),rfl,rfl⟩
 intro ae bt
 refine Zg Z Z Z (ZL Z Z (congrArg nB (nD.2 ae.out)) Z) (Zg Z Z Z (ZL Z Z (congrArg nB (nD.2 ae.out)) Z) (Zg Z Z Z (ZL Z Z (congrArg nB (nD.2 ae.out)) Z) (Zg Z Z Z (ZL Z Z (congrArg nB (nD.2 ae.out)) Z) (Zg Z Z Z (ZL Z Z (congrArg nB (nD.2 ae.out)) Z) (Zg Z Z Z (ZL Z Z (congrArg nB (nD.2 ae.out)) Z) (OKS.px Z Z Z (ZL Z Z (congrArg nB (nD.2 ae.out)) Z) (oR Z (ZM Z (congrArg nB (nD.2 ae.out)) Z) (oA Z Z (eN (zU ?_))))))))))
 have hE:=nA bt;first | subst r | cases hE
 exact ⟨rfl,_,(ZW rfl),U8,_,(aj.pick [] _ (by decide) rfl),rfl,rfl⟩
theorem wJD (p0:wAB) (av:Option Addr) (aX:Nat) (az:Option Addr) (aY:Nat) (aW:Option Addr) (aZ:Nat) (am:Option Addr) (ap:Nat) (w:World) (U:PHeap) (hS:St0 w U []) (cX:Sl U 1 av aX p0.Starts.length (hH KL.encI p0.Starts)) (cY:Sl U 2 az aY p0.Splits.length (hH wAJ p0.Splits)) (cZ:Sl U 3 aW aZ p0.Clocks.length (hH wAA p0.Clocks)) (da:Sl U 4 am ap p0.Readings.length (hH wAH p0.Readings)) {r:Int} (hm:wDM p0=some r):Gv Try.prog 68 [.agg #[.slice av p0.Starts.length aX,.slice az p0.Splits.length aY,.slice aW p0.Clocks.length aZ,.slice am p0.Readings.length ap]] w (wCh w [] U (fun U_ L_ v=>v=jV r/\L_=[])):=by
 unfold wDM at hm
 refine Gv.of Try.func68 Z Try.ntmps68 Try.results68 Z (sR gAk Z ?_)
 let B0:List Value:=[.slice av p0.Starts.length aX,.slice az p0.Splits.length aY,.slice aW p0.Clocks.length aZ,.slice am p0.Readings.length ap]
 refine ZN (cs:=B0) rfl rfl rfl rfl rfl rfl (by rfl) hS ?_
 intro W1 b2 cR
 have q:=cR.freeze (k:=0) rfl
 obtain ⟨U5,bo,bb,cW⟩:=q
 replace bb:=Cl.of bb
 have bW:sW w U U5 [] W1:=cW
 replace bb:Cl U5 b2 0 B0:=bb
 refine oA Z Z (eN (zK (zd (sR (wCz (.fx 3 (wSZ (.nil)) .stop)) Z (oR Z (zF Z Z zN Z zZ) (oL Z (bW.ldC (f:=0) bb (v:=.slice av p0.Starts.length aX) Z Z zj Z) (oR Z (zt Z Z zD) (bnK hm fun dU cg df=>zM 0 Z Z Z Z (zL Z Z Try.call75 (zC Z (zC Z (zC Z zQ))) Z) bW (fun hs=>wDZ (↑p0.Starts.length:Int) 1 8 W1 U5 hs cg) (.inr Z) ?_))))))))
 rintro au dI dP bF be cQ ⟨rfl,rfl⟩
 have ak:sW w U au [] bF:=cQ
 refine oR Z (Zc Z Z) (oM Z Z (ifc df ?_ ?_))
 intro ab dr
 refine zg Z Z Z (zR Z Z (nC ab.out)) (fun _=>zF Z Z zN Z Zt) ?_
 have bd:=bb.le be
 refine ZG Z Z Z (zR Z Z (nC ab.out)) (ak.ldC (f:=1) bd (v:=.slice az p0.Splits.length aY) Z Z yB Z) Z (zg Z Z Z (zR Z Z (nC ab.out)) (fun _=>zt Z Z zr) (zg Z Z Z (zR Z Z (nC ab.out)) (fun _=>yW Z Z Z) (oR Z (ZM Z (nC ab.out) Z) (oM Z Z (ifc dr ?_ ?_)))))
 intro ae dt
 refine oT Z ae (oT Z ae (oT Z ae (oT Z ae (oR Z (zz Z (Zn ae.out) Z) (oM Z Z (oN Z (oN Z (oN Z (oN Z (oR Z (zz Z Z Z) (oA Z Z (eN (ZP Z (sR fL1 Z (oA Z Z (eN (zU (zP (zJ ?_)))))))))))))))))))
 cases dt
 exact ⟨Z,_,(ZW Z),au,_,ak,Z,Z⟩
 intro ae du
 refine rU Z (wF Z ae) (zF Z Z zN Z Ze) (ZG Z Z Z (wF Z ae) (ak.ldC (f:=2) bd (v:=.slice aW p0.Clocks.length aZ) Z Z Zw Z) Z (rU Z (wF Z ae) (zt Z Z ZO) (rU Z (wF Z ae) (yW Z Z Z) (oR Z (ZM Z (ZS ae.out) Z) (oM Z Z (ifc du ?_ ?_))))))
 intro ah dv
 refine oT Z ah (oT Z ah (oT Z ah (oT Z ah (oR Z (zz Z (Zn ah.out) Z) (oA Z Z (eN (ZP Z (sR fL1 Z (oA Z Z (eN (zU (zP (zJ ?_)))))))))))))
 cases dv
 exact ⟨Z,_,(ZW Z),au,_,ak,Z,Z⟩
 intro ah dw
 refine rU Z (wF Z ah) (zF Z Z zN Z yK) (ZG Z Z Z (wF Z ah) (ak.ldC (f:=3) bd (v:=.slice am p0.Readings.length ap) Z Z Try.isAgg26 Z) Z (rU Z (wF Z ah) (zt Z Z Zx) (rU Z (wF Z ah) (yW Z Z Z) (oR Z (ZM Z (ZS ah.out) Z) (oA Z Z (eN (ifc dw ?_ ?_)))))))
 intro bt dx
 refine cT Z bt (sR fL1 Z (oA Z Z (eN (zU (zP (zJ ?_))))))
 cases dx
 exact ⟨Z,_,(ZW Z),au,_,ak,Z,Z⟩
 intro bt dy
 refine cF Z bt (sR (.fl 0 (.fl 1 (.fx 2 (wQt (.fx 7 (wJQ (.nil)) .stop)) .stop))) Z (oR Z (zF Z Z zN Z zZ) (oL Z (ak.ldC (f:=0) bd (v:=.slice av p0.Starts.length aX) Z Z zj Z) ?_)))
 have cr:=cX.le bo
 have bM:=cr.le be
 have cK:FnOK Try.prog au (.func (.func 92) #[] #[]) ar76 rr76 wBv:=⟨92,[],[],rfl,Try.call92,fun U1 w1 x y vs le hs ha hm=>by obtain rfl:=ha;exact wHQ x w1 U1 hs  hm⟩
 refine bnK dy fun dV ct dz=>zM 0 Z Z Z Z (zL Z Z Try.call79 (zC Z (zC Z zQ)) Z) ak (fun hs=>wFo p0.Starts av aX wBv (.func (.func 92) #[] #[]) bF au hs bM cK ct) (.inr Z) ?_
 rintro bj dJ dQ bG bf cS ⟨rfl,rfl⟩
 have bA:sW w U bj [] bG:=cS
 refine oR Z (Zc Z Z) (oM Z Z (ifc dz ?_ ?_))
 intro ai dA
 refine zg Z Z Z (zR Z Z (nC ai.out)) (fun _=>zF Z Z zN Z Zt) ?_
 have bN:=bd.le bf
 refine ZG Z Z Z (zR Z Z (nC ai.out)) (bA.ldC (f:=1) bN (v:=.slice az p0.Splits.length aY) Z Z yB Z) Z ?_
 have cu:=cY.le bo
 have cw:=cu.le be
 have bP:=cw.le bf
 have cL:FnOK Try.prog bj (.func (.func 94) #[] #[]) wSA wSB wBx:=⟨94,[],[],rfl,Try.call94,fun U1 w1 x y vs le hs ha hm=>by obtain rfl:=ha;exact wHR x w1 U1 hs  hm⟩
 refine bnK dA fun x52 cx dB=>zM 0 Z Z Z (zR Z Z (nC ai.out)) (zL Z Z Try.call93 (zC Z (zC Z zQ)) Z) bA (fun hs=>wEG p0.Splits az aY wBx (.func (.func 94) #[] #[]) bG bj hs bP cL cx) (.inr Z) ?_
 rintro bk dK dR bH bg cU ⟨rfl,rfl⟩
 have bB:sW w U bk [] bH:=cU
 refine zg Z Z Z (zR Z Z (nC ai.out)) (fun _=>Zc Z Z) (oR Z (ZM Z (nC ai.out) Z) (oA Z Z (eN (ifc dB ?_ ?_))))
 intro bu dC
 refine ZU (nC bu.out) (sR gBk Z (oR Z (zF Z Z zN Z Ze) ?_))
 have bQ:=bN.le bg
 refine oL Z (bB.ldC (f:=2) bQ (v:=.slice aW p0.Clocks.length aZ) Z Z Zw Z) ?_
 have cy:=cZ.le bo
 have cz:=cy.le be
 have cB:=cz.le bf
 have bR:=cB.le bg
 have cM:FnOK Try.prog bk (.func (.func 97) #[] #[]) wSC wSD wBy:=⟨97,[],[],rfl,Try.call97,fun U1 w1 x y vs le hs ha hm=>by obtain rfl:=ha;exact wHS x w1 U1 hs  hm⟩
 refine bnK dC fun x70 cC dD=>zM 0 Z Z Z Z (zL Z Z Try.call96 (zC Z (zC Z zQ)) Z) bB (fun hs=>wDp p0.Clocks aW aZ wBy (.func (.func 97) #[] #[]) bH bk hs bR cM cC) (.inr Z) ?_
 rintro bm dL dS bI bh cV ⟨rfl,rfl⟩
 have bC:sW w U bm [] bI:=cV
 refine oR Z (Zc Z Z) (oA Z Z (eN (ifc dD ?_ ?_)))
 intro bv dE
 refine ZU (nC bv.out) (zK (yU fun dG bX=>?_))
 have bw:dG 1=.pointer (some ⟨b2,0,none⟩):=(bX 1).trans rfl
 clear bX
 refine rR gBk Z (oR Z (zF Z bw zN Z yK) ?_)
 have bS:=bQ.le bh
 refine oL Z (bC.ldC (f:=3) bS (v:=.slice am p0.Readings.length ap) Z Z Try.isAgg26 Z) ?_
 have cD:=da.le bo
 have cE:=cD.le be
 have cG:=cE.le bf
 have cH:=cG.le bg
 have bU:=cH.le bh
 have cN:FnOK Try.prog bm (.func (.func 99) #[] #[]) wQY wQZ wBz:=⟨99,[],[],rfl,Try.call99,fun U1 w1 x y vs le hs ha hm=>by obtain rfl:=ha;exact wHT x w1 U1 hs  hm⟩
 refine bnK dE fun x92 cI dF=>zM 0 Z Z Z Z (zL Z Z Try.call98 (zC Z (zC Z zQ)) Z) bC (fun hs=>wCO p0.Readings am ap wBz (.func (.func 99) #[] #[]) bI bm hs bU cN cI) (.inr Z) ?_
 rintro bn dM dT bJ bi cO ⟨rfl,rfl⟩
 have bz:sW w U bn [] bJ:=cO
 refine oR Z (Zc Z Z) (oA Z Z (eN (ifc dF ?_ ?_)))
 intro br db
 refine ZU (nC br.out) (sR (wCz gAu) Z (oR Z (zF Z bw zN Z yK) ?_))
 have bK:=bS.le bi
 refine oL Z (bz.ldC (f:=3) bK (v:=.slice am p0.Readings.length ap) Z Z Try.isAgg26 Z) (oR Z (Runs.mkf Z zQ (zC bw zQ)) ?_)
 have bL:=bU.le bi
 have bZ:=bM.le bf
 have cb:=bZ.le bg
 have cd:=cb.le bh
 have cf:=cd.le bi
 have ci:=bP.le bg
 have cj:=ci.le bh
 have cm:=cj.le bi
 have cn:=bR.le bh
 have cp:=cn.le bi
 have cJ:FnOK Try.prog bn (.func (.func 100) #[] #[.pointer (some ⟨b2,0,none⟩)]) wQY wQZ (fun x=>wCA x p0):=⟨100,[],[.pointer (some ⟨b2,0,none⟩)],rfl,Try.call100,fun U1 w1 x y vs le hs ha hm=>by obtain rfl:=ha;exact wHU x p0 b2 av aX az aY aW aZ am ap w1 U1 hs (bK.le le) (cf.le le) (cm.le le) (cp.le le) (bL.le le) hm⟩
 refine bnK db fun x116 cq de=>zM 0 Z Z Z Z (zL Z Z Try.call98 (zC Z (zC Z zQ)) Z) bz (fun hs=>wCO p0.Readings am ap (fun x=>wCA x p0) (.func (.func 100) #[] #[.pointer (some ⟨b2,0,none⟩)]) bJ bn hs bL cJ cq) (.inr Z) ?_
 rintro bp dH dO bY dN cP ⟨rfl,rfl⟩
 have bV:sW w U bp [] bY:=cP
 refine oR Z (Zc Z Z) (oA Z Z (eN (ifc de ?_ ?_)))
 intro bs dg
 refine ZU (nC bs.out) (Zq (zu (zH (sR fL1 Z (oA Z Z (eN (zU ?_)))))))
 cases dg
 exact ⟨Z,_,(ZW Z),bp,_,bV,Z,Z⟩
 intro bs dh
 refine ZP (nF (bs.out)) (sR fL1 Z (oA Z Z (eN (zU (zP (zJ ?_))))))
 cases dh
 exact ⟨Z,_,(ZW Z),bp,_,bV,Z,Z⟩
 intro br dk
 refine ZP (nF (br.out)) (sR fL1 Z (oA Z Z (eN (zU (zP (zJ ?_))))))
 cases dk
 exact ⟨Z,_,(ZW Z),bn,_,bz,Z,Z⟩
 intro bv dl
 refine ZP (nF (bv.out)) (sR fL1 Z (oA Z Z (eN (zU (zP (zJ ?_))))))
 cases dl
 exact ⟨Z,_,(ZW Z),bm,_,bC,Z,Z⟩
 intro bu dm
 refine ZP (nF (bu.out)) (sR fL1 Z (oA Z Z (eN (zU (zP (zJ ?_))))))
 cases dm
 exact ⟨Z,_,(ZW Z),bk,_,bB,Z,Z⟩
 intro ai dp
 refine Zg Z Z Z (ZL Z Z (nF (ai.out)) Z) (Zg Z Z Z (ZL Z Z (nF (ai.out)) Z) (OKS.px Z Z Z (ZL Z Z (nF (ai.out)) Z) (Zg Z Z Z (ZL Z Z (nF (ai.out)) Z) (oR Z (zz Z (nF (ai.out)) Z) (oA Z Z (eN (ZP Z (sR fL1 Z (oA Z Z (eN (zU (zP (zJ ?_)))))))))))))
 cases dp
 exact ⟨Z,_,(ZW Z),bj,_,bA,Z,Z⟩
 intro ab dq
 refine Zg Z Z Z (ZL Z Z (nF (ab.out)) Z) (Zg Z Z Z (ZL Z Z (nF (ab.out)) Z) (Zg Z Z Z (ZL Z Z (nF (ab.out)) Z) (Zg Z Z Z (ZL Z Z (nF (ab.out)) Z) (oR Z (zz Z (nF (ab.out)) Z) (oM Z Z (oN Z (oN Z (oN Z (oN Z (oR Z (zz Z Z Z) (oM Z Z (oN Z (oN Z (oN Z (oN Z (oR Z (zz Z Z Z) (oA Z Z (eN (ZP Z (sR fL1 Z (oA Z Z (eN (zU (zP (zJ ?_)))))))))))))))))))))))))
 cases dq
 exact ⟨Z,_,(ZW Z),au,_,ak,Z,Z⟩
end Go.Proofs.Ytlnfbjphfoipaaa
namespace Go.Proofs.Ytlnfbjphfoipaaa
open Go.KL
set_option maxHeartbeats 4000000
theorem wBa  (w:World) (U:PHeap) (hS:St0 w U [])  {r:wAC} (hm:wCV =some r):Gv Try.prog 48 [] w (wCh w [] U (fun U_ L_ v=>v=.agg #[jV r.skier,jV r.mat]/\L_=[])):=by
 unfold wCV at hm
 refine Gv.of Try.func48 Z Try.ntmps48 Try.results48 Z (sR (.fx 0 .nil .stop) Z (zS (cs:=[jV 0,jV 0]) Z Z Z Z Z zf Z hS ?_))
 intro W1 b2 ai
 refine eN (sR (.fl 0 (.fx 1 .nil .stop)) Z ?_)
 let B0:List Value:=[jV (-1),jV 0]
 refine oR Z (zy (pv:=[(0,jV (-1)),(1,jV 0)]) (z:=[jV 0,jV 0]) (cs:=B0) Z (wAD Z (wAD Z wAO)) zf wAz Z Z) (zV (j:=0) (vs:=B0) Z Z Z Z ai Z Z Z Z zG (zA Z) Z Z Z ?_)
 intro W5 aj
 have ab:sW w U U [.blk b2 104 B0] W5:=aj
 refine eN (zU ?_)
 cases hm
 exact ⟨rfl,_,(wIl (v:=.agg B0.toArray) ⟨⟨_,rfl,(wBB ze zG (ab.blkAt (k:=0) rfl) (vs:=B0) rfl rfl)⟩,trivial⟩),U,_,(ab.pick [] _ (by decide) rfl),rfl,rfl⟩
theorem wFD {S E:Type} (PY:S->PHeap->List Res->Prop) (PE:E->PHeap->List Res->Prop) (f:S->wAK->Option (S ⊕ E)) (y:Nat) (s0:S) (p1:wAB) (ap:Nat) (cu:Option Addr) (cz:Nat) (cw:Option Addr) (cB:Nat) (cx:Option Addr) (cC:Nat) (cy:Option Addr) (cD:Nat) (w:World) (L:List Res) (U:PHeap) (hS:St ⟨w,L,U⟩ U L w) (hP:PY s0 U L) (hY:YOK Try.prog y wSE PY PE f U) (bo:Cl U ap 0 [.slice cu p1.Starts.length cz,.slice cw p1.Splits.length cB,.slice cx p1.Clocks.length cC,.slice cy p1.Readings.length cD]) (jU:Sl U 1 cu cz p1.Starts.length (hH KL.encI p1.Starts)) (jW:Sl U 2 cw cB p1.Splits.length (hH wAJ p1.Splits)) (jX:Sl U 3 cx cC p1.Clocks.length (hH wAA p1.Clocks)) (jY:Sl U 4 cy cD p1.Readings.length (hH wAH p1.Readings)) {r:S ⊕ E} (hm:wBY f s0 p1=some r):Gv Try.prog 105 [.func (.yield y) #[] #[],.pointer (some ⟨ap,0,none⟩)] w (ItS w L U PY PE r):=by
 unfold wBY at hm
 refine Gv.of Try.func105 Z Try.ntmps105 Try.results105 Z (sR wSR Z (oR Z (zF Z Z zN Z Zt) (oL Z (hS.ldC (f:=1) bo (v:=.slice cw p1.Splits.length cB) Z Z yB Z) (oR Z (zt Z Z zr) (oR Z (zF Z Z zN Z Ze) (oL Z (hS.ldC (f:=2) bo (v:=.slice cx p1.Clocks.length cC) Z Z Zw Z) (oR Z (zt Z Z ZO) (oR Z (zF Z Z zN Z yK) (oL Z (hS.ldC (f:=3) bo (v:=.slice cy p1.Readings.length cD) Z Z Try.isAgg26 Z) (oR Z (zt Z Z Zx) ?_))))))))))
 let B0:List Value:=[jV 1,jV (↑p1.Splits.length:Int),jV (↑p1.Clocks.length:Int),jV (↑p1.Readings.length:Int)]
 refine oR Z (Runs.buildA (pv:=[(0,jV 1),(1,jV (↑p1.Splits.length:Int)),(2,jV (↑p1.Clocks.length:Int)),(3,jV (↑p1.Readings.length:Int))]) (z:=[jV 0,jV 0,jV 0,jV 0]) (cs:=B0) Z (wAD Z (wAD Z (wAD Z (wAD Z wAO)))) Try.zeroValue175 Try.runUnderlying175 zB Z Z) (oM Z Z (eN (zd ?_)))
 have q:=wBm hm
 obtain ⟨j3,av⟩:=q
 have q:=wBl av
 obtain ⟨ci,ic⟩:=q
 replace ci:=zI ci
 refine yC (fun ab dJ σ_ w_=>∃ (U_:PHeap) (aW:List Res),σ_ 18=jV (↑ab:Int)/\σ_ 0=.func (.yield y) #[] #[]/\σ_ 1=.pointer (some ⟨ap,0,none⟩)/\σ_ 17=.agg B0.toArray/\PHeap.Le U U_/\St ⟨w,L,U⟩ U_ aW w_/\PY dJ U_ aW) ic ?_ ?_ ?_
 exact ⟨U,L,Z,Z,Z,Z,(zO _),hS,hP⟩
 rintro ab dJ j8 ln ju bZ ⟨bF,aW,aY,cY,bL,bM,au,bX,dp⟩ iR bp
 have cU:Hid ((↑ab:Int) < 4):=zI (wAy bZ)
 replace bZ:=zI bZ
 have dB:Hid (w64 ((↑ab:Int) + 1)=(↑(ab + 1):Int)):=zI (by have h1:=ci.out;have h2:=cU.out;rw [wAV] <;> omega)
 refine sR fL1 Z (oR Z (zY Z aY Z) (eN (zK (cT Z cU (kN (zK (zd (sR fL4 Z (oM Z aY (bnK iR fun ai bW iB=>oR Z (Runs.ixA (cs:=hH KL.encI ([1,(↑p1.Splits.length:Int),(↑p1.Clocks.length:Int),(↑p1.Readings.length:Int)]:List Int)) Z bM aY Try.runUnderlying175 zB (wBM bW) (wBP bW) (wEK zE (wDT (sz:=1) (fun _=>Z) _ _ 0 _ _ (wAW bW) Z))) (oA Z Z (oA Z Z (eN (sR fL4 Z (oR Z (zF Z bL zN Z zZ) ?_)))))))))))))))
 have gC:=bo.le au
 refine oL Z (bX.ldC (f:=0) gC (v:=.slice cu p1.Starts.length cz) Z Z zj Z) (oR Z (zt Z Z zD) (oA Z Z (eN (zK ?_))))
 have q:=bnd iB
 obtain ⟨⟨dX,i7⟩,dF,dC⟩:=q
 try dsimp only at dC
 refine yD (fun σ_ w_=>∃ (U_:PHeap) (aX:List Res),σ_ 0=.func (.yield y) #[] #[]/\σ_ 1=.pointer (some ⟨ap,0,none⟩)/\σ_ 3=jV (↑ab:Int)/\σ_ 4=jV ai/\σ_ 5=jV (↑p1.Starts.length:Int)/\σ_ 17=.agg B0.toArray/\σ_ 18=jV (↑ab:Int)/\σ_ 30=.bool dX/\PHeap.Le bF U_/\St ⟨w,L,U⟩ U_ aX w_/\PY i7 U_ aX) ?_ ?_
 refine rR fL6 Z (oM Z Z (oR Z (Runs.eql Z Z Z) (oM Z Z ?_)))
 by_cases aj:(↑ab:Int)=2
 have dD:=dF;rw [if_pos aj] at dD;replace aj:=zI aj
 refine oT Z aj (oT Z aj (oR Z (zz Z (Zn aj.out) Z) (zi ?_)))
 cases dD
 exact zH ⟨Z,⟨bF,aW,cY,bL,Z,Z,Z,bM,aY,Z,(zO _),bX,dp⟩⟩
 have dE:=dF;rw [if_neg aj] at dE;replace aj:=zI aj
 refine zk Z Z Z (wF Z aj) Z Z (rU Z (wF Z aj) (Runs.eql Z Z Z) (oR Z (ZM Z (ZS aj.out) Z) (zi ?_)))
 cases dE
 exact zH ⟨Z,⟨bF,aW,cY,bL,Z,Z,Z,bM,aY,Z,(zO _),bX,dp⟩⟩
 rintro ly jC ⟨be,aX,da,db,de,df,fW,dg,dh,dk,az,dw,dq⟩
 refine ifc dC ?_ ?_
 intro bH bv
 refine ZP (dk.trans (congrArg nB bH.out)) (rR fL1 Z (oA Z Z (eN (sR fL2 Z (oM Z Z (oM Z Z (eN (zd ?_))))))))
 have q:=wBm bv
 obtain ⟨j6,bn⟩:=q
 have q:=wBl bn
 obtain ⟨cn,ii⟩:=q
 replace cn:=zI cn
 refine yC (fun ah dN σ_ w_=>∃ (U_:PHeap) (ba:List Res),σ_ 32=jV (↑ah:Int)/\σ_ 0=.func (.yield y) #[] #[]/\σ_ 1=.pointer (some ⟨ap,0,none⟩)/\σ_ 3=jV (↑ab:Int)/\σ_ 4=jV ai/\σ_ 17=.agg B0.toArray/\σ_ 18=jV (↑ab:Int)/\σ_ 31=jV 1/\PHeap.Le be U_/\St ⟨w,L,U⟩ U_ ba w_/\PY dN U_ ba) ii ?_ ?_ ?_
 exact ⟨be,aX,Z,da,db,de,df,dg,dh,Z,(zO _),dw,dq⟩
 rintro ah dN lc lz jD cf ⟨cK,ba,bV,fY,fZ,gb,dl,ge,gf,dm,ct,gX,gq⟩ bz dA
 have cP:Hid ((↑ah:Int) < 1):=zI (wAy cf)
 replace cf:=zI cf
 have ij:Hid (w64 ((↑ah:Int) + 1)=(↑(ah + 1):Int)):=zI (by have h1:=cn.out;have h2:=cP.out;rw [wAV] <;> omega)
 refine sR fL1 Z (oR Z (zY Z bV dm) (eN (zK (cT Z cP (kN (zK (zd (sR fL2 Z (oM Z bV (oA Z Z (eN (sR fL2 Z (oM Z dl (oM Z Z (eN (zd ?_))))))))))))))))
 have q:=wBm bz
 obtain ⟨j0,bj⟩:=q
 have q:=wBl bj
 obtain ⟨cg,ib⟩:=q
 replace cg:=zI cg
 refine yC (fun ak dK σ_ w_=>∃ (U_:PHeap) (bA:List Res),σ_ 36=jV (↑ak:Int)/\σ_ 0=.func (.yield y) #[] #[]/\σ_ 1=.pointer (some ⟨ap,0,none⟩)/\σ_ 3=jV (↑ab:Int)/\σ_ 4=jV ai/\σ_ 6=jV (↑ah:Int)/\σ_ 17=.agg B0.toArray/\σ_ 18=jV (↑ab:Int)/\σ_ 31=jV 1/\σ_ 32=jV (↑ah:Int)/\σ_ 35=jV ai/\PHeap.Le cK U_/\St ⟨w,L,U⟩ U_ bA w_/\PY dK U_ bA) ib ?_ ?_ ?_
 exact ⟨cK,ba,Z,fY,fZ,gb,dl,Z,ge,gf,dm,bV,Z,(zO _),gX,gq⟩
 rintro ak dK j7 lm jt bY ⟨jq,bA,bR,bI,eJ,bJ,eK,bK,eL,eM,eO,eQ,cV,cp,gG,gt⟩ iQ dx
 have cQ:Hid ((↑ak:Int) < ai):=zI (wAy bY)
 replace bY:=zI bY
 have ik:Hid (w64 ((↑ak:Int) + 1)=(↑(ak + 1):Int)):=zI (by have h1:=cg.out;have h2:=cQ.out;rw [wAV] <;> omega)
 refine sR fL1 Z (oR Z (zY Z bR cV) (eN (zK (cT Z cQ (kN (zK (zd (sR fL2 Z (oM Z bR (oA Z Z (eN (sR (wKS (.fx 5 (wOA gAv) .stop)) Z (oM Z bI (oM Z bJ (oM Z bK (oM Z Z ?_))))))))))))))))
 let B1:List Value:=[jV 0,jV 0,jV 0,.bool false]
 refine oR Z (zy (pv:=[(0,jV (↑ab:Int)),(1,jV (↑ah:Int)),(2,jV (↑ak:Int)),(3,.bool true)]) (z:=B1) (cs:=[jV (↑ab:Int),jV (↑ah:Int),jV (↑ak:Int),.bool true]) Z (wAD Z (wAD Z (wAD Z (wAD Z wAO)))) Try.zeroValue78 wGN Z Z) (bnK iQ fun jk gu bq=>OKS.yieldT 0 (a:=(⟨(↑ab:Int),(↑ah:Int),(↑ak:Int),true⟩:wAK)) Z Z Z Z Z Z (zC Z zQ) gG hY (((au.trans az).trans ct).trans cp) gt Z gu Z ?_)
 rintro bE cH jE cL dG dr bf
 rcases jk with i3 | i3
 try dsimp only at bq bf
 obtain ⟨rfl,iI⟩:=bf
 have gH:St ⟨w,L,U⟩ bE cH cL:=dr
 refine oR Z (Zc Z Z) (oM Z Z (zk Z Z Z (zR Z Z Z) Z bI (zk Z Z Z (zR Z Z Z) Z bJ (zk Z Z Z (zR Z Z Z) Z bK (zk Z Z Z (zR Z Z Z) Z Z (zg Z Z Z (zR Z Z Z) (fun _=>zy (pv:=[(0,jV (↑ab:Int)),(1,jV (↑ah:Int)),(2,jV (↑ak:Int)),(3,.bool false)]) (z:=B1) (cs:=[jV (↑ab:Int),jV (↑ah:Int),jV (↑ak:Int),.bool false]) Z (wAD Z (wAD Z (wAD Z (wAD Z wAO)))) Try.zeroValue78 wGN Z Z) (bnK bq fun jl gv br=>OKS.yieldT 0 (a:=(⟨(↑ab:Int),(↑ah:Int),(↑ak:Int),false⟩:wAK)) Z Z Z (zR Z Z Z) Z Z (zC Z zQ) gH hY ((((au.trans az).trans ct).trans cp).trans dG) iI Z gv Z ?_)))))))
 rintro bb bB jG cM iU dt bg
 rcases jl with i4 | i4
 try dsimp only at br bg
 obtain ⟨rfl,iJ⟩:=bg
 have gI:St ⟨w,L,U⟩ bb bB cM:=dt
 refine zg Z Z Z (zR Z Z Z) (fun _=>Zc Z Z) (oR Z (ZM Z Z Z) (eN (ZU Z (Zq (zu (zH (rR fL2 Z (oR Z (ZR (zW Z bR Z) (congrArg (jV) ik.out)) (oM Z Z (zi ?_))))))))))
 obtain rfl:=nA br
 exact zH ⟨Z,_,Z,⟨bb,bB,Z,bI,eJ,bJ,eK,bK,eL,eM,eO,eQ,cV,((cp.trans dG).trans iU),gI,iJ⟩⟩
 try dsimp only at br bg
 obtain ⟨rfl,iK⟩:=bg
 have gJ:St ⟨w,L,U⟩ bb bB cM:=dt
 refine zg Z Z Z (zR Z Z Z) (fun _=>Zc Z Z) (oR Z (ZM Z Z Z) (eN (ZP Z (zU (zP (zJ ?_))))))
 have q:=wAT br
 obtain ⟨i8,io,ec⟩:=q
 obtain rfl:=wAh bz bj (dx i8 ec)
 refine zJ (zP (zP (zJ ?_)))
 have q:=wAT io
 obtain ⟨i9,ip,ef⟩:=q
 obtain rfl:=wAh bv bn (dA i9 ef)
 refine zJ (zP (zP (zJ ?_)))
 have q:=wAT ip
 obtain ⟨ja,iq,eg⟩:=q
 obtain rfl:=wAh hm av (bp ja eg)
 refine zJ (zP ?_)
 cases iq
 exact ⟨Z,_,(wRG),bb,_,gJ,iK⟩
 try dsimp only at bq bf
 obtain ⟨rfl,iL⟩:=bf
 have gK:St ⟨w,L,U⟩ bE cH cL:=dr
 refine oR Z (Zc Z Z) (oM Z Z (oN Z (oN Z (oN Z (oN Z (oN Z (OKS.px Z Z Z (ZL Z Z Z Z) (oN Z (oR Z (zz Z Z Z) (eN (ZP Z (zU (zP (zJ ?_))))))))))))))
 have q:=wAT bq
 obtain ⟨jb,ir,eh⟩:=q
 obtain rfl:=wAh bz bj (dx jb eh)
 refine zJ (zP (zP (zJ ?_)))
 have q:=wAT ir
 obtain ⟨jc,it,en⟩:=q
 obtain rfl:=wAh bv bn (dA jc en)
 refine zJ (zP (zP (zJ ?_)))
 have q:=wAT it
 obtain ⟨jd,iu,eu⟩:=q
 obtain rfl:=wAh hm av (bp jd eu)
 refine zJ (zP ?_)
 cases iu
 exact ⟨Z,_,(wRG),bE,_,gK,iL⟩
 rintro lf lp jv ⟨dS,dO,gg,eU,eV,eW,eX,jK,eZ,fb,fc,fd,ff,iV,gL,gw⟩ gZ
 have iv:=wCZ bz bj gZ
 have dY:Hid (¬ ((↑((ai:Int) - 0).toNat:Int) < ai)):=zI (wAi)
 refine sR fL1 Z (oR Z (zY Z gg ff) (eN (zK (cF Z dY (Zb (zl (zl (ZX (zu (zH (rR fL2 Z (oR Z (ZR (zW Z fd Z) (congrArg (jV) ij.out)) (oM Z Z (zi ?_))))))))))))))
 obtain rfl:=nA iv
 exact zH ⟨Z,_,Z,⟨dS,dO,Z,eU,eV,eW,eX,eZ,fb,fc,(ct.trans iV),gL,gw⟩⟩
 rintro lg lq jw ⟨dT,dP,gh,fg,fh,jL,jM,fj,fm,fq,iW,gM,gx⟩ g6
 have iw:=wCZ bv bn g6
 have dZ:Hid (¬ ((↑((1:Int) - 0).toNat:Int) < 1)):=zI (wAi)
 refine sR fL1 Z (oR Z (zY Z gh fq) (eN (zK (cF Z dZ (Zb (zl (zl (ZX (zu (zH (rR fL2 Z (oR Z (ZR (zW Z fm Z) (congrArg (jV) dB.out)) (oM Z Z (zi ?_))))))))))))))
 obtain rfl:=nA iw
 exact zH ⟨Z,_,Z,⟨dT,dP,Z,fg,fh,fj,((au.trans az).trans iW),gM,gx⟩⟩
 intro bH bs
 refine ZU (dk.trans (congrArg nB (nD.2 bH.out))) (kN (sR fL2 Z (oM Z fW (oM Z Z (eN (zd ?_))))))
 have q:=wBm bs
 obtain ⟨j4,bk⟩:=q
 have q:=wBl bk
 obtain ⟨cj,ie⟩:=q
 replace cj:=zI cj
 refine yC (fun ae dL σ_ w_=>∃ (U_:PHeap) (aZ:List Res),σ_ 32=jV (↑ae:Int)/\σ_ 0=.func (.yield y) #[] #[]/\σ_ 1=.pointer (some ⟨ap,0,none⟩)/\σ_ 3=jV (↑ab:Int)/\σ_ 4=jV ai/\σ_ 17=.agg B0.toArray/\σ_ 18=jV (↑ab:Int)/\σ_ 31=jV (↑p1.Starts.length:Int)/\PHeap.Le be U_/\St ⟨w,L,U⟩ U_ aZ w_/\PY dL U_ aZ) ie ?_ ?_ ?_
 exact ⟨be,aX,Z,da,db,de,df,dg,dh,Z,(zO _),dw,dq⟩
 rintro ae dL j9 ls jx cb ⟨cJ,aZ,bS,ft,fu,fw,cW,fy,fz,cX,cq,gN,gy⟩ bw dy
 have cR:Hid ((↑ae:Int) < (↑p1.Starts.length:Int)):=zI (wAy cb)
 replace cb:=zI cb
 have il:Hid (w64 ((↑ae:Int) + 1)=(↑(ae + 1):Int)):=zI (by have h1:=cj.out;have h2:=cR.out;rw [wAV] <;> omega)
 refine sR fL1 Z (oR Z (zY Z bS cX) (eN (zK (cT Z cR (kN (zK (zd (sR fL2 Z (oM Z bS (oA Z Z (eN (sR fL2 Z (oM Z cW (oM Z Z (eN (zd ?_))))))))))))))))
 have q:=wBm bw
 obtain ⟨j5,bm⟩:=q
 have q:=wBl bm
 obtain ⟨cm,ig⟩:=q
 replace cm:=zI cm
 refine yC (fun am dM σ_ w_=>∃ (U_:PHeap) (bC:List Res),σ_ 36=jV (↑am:Int)/\σ_ 0=.func (.yield y) #[] #[]/\σ_ 1=.pointer (some ⟨ap,0,none⟩)/\σ_ 3=jV (↑ab:Int)/\σ_ 4=jV ai/\σ_ 6=jV (↑ae:Int)/\σ_ 17=.agg B0.toArray/\σ_ 18=jV (↑ab:Int)/\σ_ 31=jV (↑p1.Starts.length:Int)/\σ_ 32=jV (↑ae:Int)/\σ_ 35=jV ai/\PHeap.Le cJ U_/\St ⟨w,L,U⟩ U_ bC w_/\PY dM U_ bC) ig ?_ ?_ ?_
 exact ⟨cJ,aZ,Z,ft,fu,fw,cW,Z,fy,fz,cX,bS,Z,(zO _),gN,gy⟩
 rintro am dM k9 lu jy cd ⟨jr,bC,bU,bN,fA,bP,fB,bQ,fC,fD,fE,fG,cZ,cr,gO,gz⟩ iT dz
 have cS:Hid ((↑am:Int) < ai):=zI (wAy cd)
 replace cd:=zI cd
 have im:Hid (w64 ((↑am:Int) + 1)=(↑(am + 1):Int)):=zI (by have h1:=cm.out;have h2:=cS.out;rw [wAV] <;> omega)
 refine sR fL1 Z (oR Z (zY Z bU cZ) (eN (zK (cT Z cS (kN (zK (zd (sR fL2 Z (oM Z bU (oA Z Z (eN (sR (wKS (.fx 5 (wOA gAv) .stop)) Z (oM Z bN (oM Z bP (oM Z bQ (oM Z Z ?_))))))))))))))))
 let B2:List Value:=[jV 0,jV 0,jV 0,.bool false]
 refine oR Z (zy (pv:=[(0,jV (↑ab:Int)),(1,jV (↑ae:Int)),(2,jV (↑am:Int)),(3,.bool true)]) (z:=B2) (cs:=[jV (↑ab:Int),jV (↑ae:Int),jV (↑am:Int),.bool true]) Z (wAD Z (wAD Z (wAD Z (wAD Z wAO)))) Try.zeroValue78 wGN Z Z) (bnK iT fun jm gA bt=>OKS.yieldT 0 (a:=(⟨(↑ab:Int),(↑ae:Int),(↑am:Int),true⟩:wAK)) Z Z Z Z Z Z (zC Z zQ) gO hY (((au.trans az).trans cq).trans cr) gz Z gA Z ?_)
 rintro bG cI jH cN dH du bh
 rcases jm with i5 | i5
 try dsimp only at bt bh
 obtain ⟨rfl,iM⟩:=bh
 have gP:St ⟨w,L,U⟩ bG cI cN:=du
 refine oR Z (Zc Z Z) (oM Z Z (zk Z Z Z (zR Z Z Z) Z bN (zk Z Z Z (zR Z Z Z) Z bP (zk Z Z Z (zR Z Z Z) Z bQ (zk Z Z Z (zR Z Z Z) Z Z (zg Z Z Z (zR Z Z Z) (fun _=>zy (pv:=[(0,jV (↑ab:Int)),(1,jV (↑ae:Int)),(2,jV (↑am:Int)),(3,.bool false)]) (z:=B2) (cs:=[jV (↑ab:Int),jV (↑ae:Int),jV (↑am:Int),.bool false]) Z (wAD Z (wAD Z (wAD Z (wAD Z wAO)))) Try.zeroValue78 wGN Z Z) (bnK bt fun jo gB bu=>OKS.yieldT 0 (a:=(⟨(↑ab:Int),(↑ae:Int),(↑am:Int),false⟩:wAK)) Z Z Z (zR Z Z Z) Z Z (zC Z zQ) gP hY ((((au.trans az).trans cq).trans cr).trans dH) iM Z gB Z ?_)))))))
 rintro bd bD jJ cO iX dv bi
 rcases jo with i6 | i6
 try dsimp only at bu bi
 obtain ⟨rfl,iN⟩:=bi
 have gQ:St ⟨w,L,U⟩ bd bD cO:=dv
 refine zg Z Z Z (zR Z Z Z) (fun _=>Zc Z Z) (oR Z (ZM Z Z Z) (eN (ZU Z (Zq (zu (zH (rR fL2 Z (oR Z (ZR (zW Z bU Z) (congrArg (jV) im.out)) (oM Z Z (zi ?_))))))))))
 obtain rfl:=nA bu
 exact zH ⟨Z,_,Z,⟨bd,bD,Z,bN,fA,bP,fB,bQ,fC,fD,fE,fG,cZ,((cr.trans dH).trans iX),gQ,iN⟩⟩
 try dsimp only at bu bi
 obtain ⟨rfl,iO⟩:=bi
 have gR:St ⟨w,L,U⟩ bd bD cO:=dv
 refine zg Z Z Z (zR Z Z Z) (fun _=>Zc Z Z) (oR Z (ZM Z Z Z) (eN (ZP Z (zU (zP (zJ ?_))))))
 have q:=wAT bu
 obtain ⟨je,iy,ey⟩:=q
 obtain rfl:=wAh bw bm (dz je ey)
 refine zJ (zP (zP (zJ ?_)))
 have q:=wAT iy
 obtain ⟨jf,iz,eD⟩:=q
 obtain rfl:=wAh bs bk (dy jf eD)
 refine zJ (zP (zP (zJ ?_)))
 have q:=wAT iz
 obtain ⟨jg,iA,eE⟩:=q
 obtain rfl:=wAh hm av (bp jg eE)
 refine zJ (zP ?_)
 cases iA
 exact ⟨Z,_,(wRG),bd,_,gR,iO⟩
 try dsimp only at bt bh
 obtain ⟨rfl,iP⟩:=bh
 have gS:St ⟨w,L,U⟩ bG cI cN:=du
 refine oR Z (Zc Z Z) (oM Z Z (oN Z (oN Z (oN Z (oN Z (oN Z (OKS.px Z Z Z (ZL Z Z Z Z) (oN Z (oR Z (zz Z Z Z) (eN (ZP Z (zU (zP (zJ ?_))))))))))))))
 have q:=wAT bt
 obtain ⟨jh,iC,eG⟩:=q
 obtain rfl:=wAh bw bm (dz jh eG)
 refine zJ (zP (zP (zJ ?_)))
 have q:=wAT iC
 obtain ⟨ji,iD,eH⟩:=q
 obtain rfl:=wAh bs bk (dy ji eH)
 refine zJ (zP (zP (zJ ?_)))
 have q:=wAT iD
 obtain ⟨jj,iE,eI⟩:=q
 obtain rfl:=wAh hm av (bp jj eI)
 refine zJ (zP ?_)
 cases iE
 exact ⟨Z,_,(wRG),bG,_,gS,iP⟩
 rintro lh lv jz ⟨dU,dQ,gi,fH,fJ,fK,fL,jN,fM,fN,fO,fP,fQ,iY,gT,gD⟩ g7
 have iF:=wCZ bw bm g7
 have d5:Hid (¬ ((↑((ai:Int) - 0).toNat:Int) < ai)):=zI (wAi)
 refine sR fL1 Z (oR Z (zY Z gi fQ) (eN (zK (cF Z d5 (Zb (zl (zl (ZX (zu (zH (rR fL2 Z (oR Z (ZR (zW Z fP Z) (congrArg (jV) il.out)) (oM Z Z (zi ?_))))))))))))))
 obtain rfl:=nA iF
 exact zH ⟨Z,_,Z,⟨dU,dQ,Z,fH,fJ,fK,fL,fM,fN,fO,(cq.trans iY),gT,gD⟩⟩
 rintro li lw jA ⟨dV,dR,gj,fR,fS,jO,jP,fT,fU,fV,iZ,gU,gE⟩ g8
 have iG:=wCZ bs bk g8
 have d7:Hid (¬ ((↑(((↑p1.Starts.length:Int):Int) - 0).toNat:Int) < (↑p1.Starts.length:Int))):=zI (wAi)
 refine sR fL1 Z (oR Z (zY Z gj fV) (eN (zK (cF Z d7 (Zb (zl (zl (ZX (zu (zH (rR fL2 Z (oR Z (ZR (zW Z fU Z) (congrArg (jV) dB.out)) (oM Z Z (zi ?_))))))))))))))
 obtain rfl:=nA iG
 exact zH ⟨Z,_,Z,⟨dV,dR,Z,fR,fS,fT,((au.trans az).trans iZ),gU,gE⟩⟩
 rintro lj lx jB ⟨dW,jp,gm,jQ,jR,jS,jZ,gW,gF⟩ g9
 have iH:=wCZ hm av g9
 have d9:Hid (¬ ((↑((4:Int) - 0).toNat:Int) < 4)):=zI (wAi)
 refine sR fL1 Z (oR Z (zY Z gm Z) (eN (zK (cF Z d9 (Zb (zl (zl (ZX ?_))))))))
 cases iH
 exact ⟨Z,_,(wRG),dW,_,gW,gF⟩
theorem wFp (p0:wAB) (ae:Option Addr) (ak:Nat) (ah:Option Addr) (am:Nat) (ai:Option Addr) (ap:Nat) (aj:Option Addr) (aq:Nat) (w:World) (U:PHeap) (hS:St0 w U []) (bb:Sl U 1 ae ak p0.Starts.length (hH KL.encI p0.Starts)) (bd:Sl U 2 ah am p0.Splits.length (hH wAJ p0.Splits)) (be:Sl U 3 ai ap p0.Clocks.length (hH wAA p0.Clocks)) (bf:Sl U 4 aj aq p0.Readings.length (hH wAH p0.Readings)) {r:Unit} (hm:wCK p0=some r):Gv Try.prog 81 [.agg #[.slice ae p0.Starts.length ak,.slice ah p0.Splits.length am,.slice ai p0.Clocks.length ap,.slice aj p0.Readings.length aq]] w (wCh w [] U (fun U_ L_ v=>∃ (b0:Nat),v=.func (.func 105) #[] #[.pointer (some ⟨b0,0,none⟩)]/\L_=[]/\Cl U_ b0 0 [.slice ae p0.Starts.length ak,.slice ah p0.Splits.length am,.slice ai p0.Clocks.length ap,.slice aj p0.Readings.length aq])):=by
 unfold wCK at hm
 refine Gv.of Try.func81 Z Try.ntmps81 Try.results81 Z (sR gAk Z ?_)
 let B0:List Value:=[.slice ae p0.Starts.length ak,.slice ah p0.Splits.length am,.slice ai p0.Clocks.length ap,.slice aj p0.Readings.length aq]
 refine ZN (cs:=B0) rfl rfl rfl rfl rfl rfl (by rfl) hS ?_
 intro W1 b2 aY
 have q:=aY.freeze (k:=0) rfl
 obtain ⟨U5,bg,ab,aZ⟩:=q
 replace ab:=Cl.of ab
 have ba:sW w U U5 [] W1:=aZ
 replace ab:Cl U5 b2 0 B0:=ab
 refine oA Z Z (eN (sR fL2 Z (oR Z (Runs.mkf Z zQ (zC Z zQ)) (oA Z Z (eN (zU ?_))))))
 cases hm
 exact ⟨Z,_,(ZW Z),U5,_,ba,b2,Z,Z,ab⟩
theorem wHV (p0:wAB) (bf:Option Addr) (bj:Nat) (bg:Option Addr) (bk:Nat) (bh:Option Addr) (bm:Nat) (bi:Option Addr) (bn:Nat) (p1:wAK) (w:World) (U:PHeap) (hS:St0 w U []) (cq:Sl U 1 bf bj p0.Starts.length (hH KL.encI p0.Starts)) (cr:Sl U 2 bg bk p0.Splits.length (hH wAJ p0.Splits)) (ct:Sl U 3 bh bm p0.Clocks.length (hH wAA p0.Clocks)) (cu:Sl U 4 bi bn p0.Readings.length (hH wAH p0.Readings)) {r:wAC × wAC} (hm:wDC p0 p1=some r):Gv Try.prog 109 [.agg #[.slice bf p0.Starts.length bj,.slice bg p0.Splits.length bk,.slice bh p0.Clocks.length bm,.slice bi p0.Readings.length bn],.agg #[jV p1.Kind,jV p1.Skier,jV p1.Index,.bool p1.Up]] w (wCh w [] U (fun U_ L_ v=>v=.tuple #[.agg #[jV r.1.skier,jV r.1.mat],.agg #[jV r.2.skier,jV r.2.mat]]/\L_=[])):=by
 unfold wDC at hm
 refine Gv.of Try.func109 Z Try.ntmps109 Try.results109 Z (sR gBe Z ?_)
 let B0:List Value:=[.slice bf p0.Starts.length bj,.slice bg p0.Splits.length bk,.slice bh p0.Clocks.length bm,.slice bi p0.Readings.length bn]
 refine ZN (cs:=B0) rfl rfl rfl rfl rfl rfl (by rfl) hS ?_
 intro W1 b2 bJ
 let B1:List Value:=[jV p1.Kind,jV p1.Skier,jV p1.Index,.bool p1.Up]
 refine ZN (cs:=B1) rfl rfl rfl rfl rfl rfl (by rfl) bJ ?_
 intro W5 b6 bU
 let B2:List Value:=[jV 0,jV 0]
 refine zS (cs:=B2) Z Z Z Z Z zf Z bU ?_
 intro W9 ak bH
 refine zS (cs:=B2) Z Z Z Z Z zf Z bH ?_
 intro bo am bI
 refine eN ?_
 have q:=bnd hm
 obtain ⟨⟨x17,x18⟩,cd,bs⟩:=q
 try dsimp only at bs
 let B3:List Value:=[jV p1.Skier,jV 0]
 let B4:List Value:=[jV x17,jV x18]
 refine yD (fun σ_ w_=>∃ (U_:PHeap),σ_ 4=.pointer (some ⟨ak,0,none⟩)/\σ_ 5=.pointer (some ⟨am,0,none⟩)/\PHeap.Le U U_/\sW w U U_ [.blk am 104 B3,.blk ak 104 B4,.blk b6 78 B1,.blk b2 28 B0] w_) ?_ ?_
 refine bnK cd fun av bq be=>ZA ZB [2,3,2,3,0,0] (.fl 1 (.fx 0 (.fx 2 (.fl 3 gAl) (.fx 4 (.fx 2 (.fl 3 (.fx 5 .nil .stop)) .stop) .stop)) (.fx 2 (.fl 3 (.fx 0 gAl .stop)) .stop))) (by kernel_rfl) ?_
 have aW:=bI.drew
 generalize hw_W40:({ bo with drawn:=bo.drawn + 1 }:World)=bp at aW ⊢
 refine oR Z (zF Z Z ZJ Z zB) (zh ?_ ?_)
 refine zM 0 Z Z Z Z (zL Z Z yO zQ Z) aW (fun hs=>wBa bp U hs bq) (.inr Z) ?_
 rintro au cg cx bv bt bK ⟨rfl,rfl⟩
 have bb:sW w U au [.blk am 104 B2,.blk ak 104 B2,.blk b6 78 B1,.blk b2 28 B0] bv:=bK
 refine zh ?_ ?_
 refine ZD Z Z Z Z (bb.ldB (j:=2) Z Z Z zE (v:=jV p1.Skier) Z) (oR Z (zy (pv:=[(0,jV p1.Skier),(1,jV 0)]) (z:=B2) (cs:=B3) Z (wAD Z (wAD Z wAO)) zf wAz Z Z) ?_)
 let B5:List Value:=[jV av.skier,jV av.mat]
 refine zV (j:=1) (vs:=B5) Z Z Z Z bb Z Z Z Z zG (zA Z) Z Z Z ?_
 intro bw bL
 have bM:sW w U au [.blk am 104 B2,.blk ak 104 B5,.blk b6 78 B1,.blk b2 28 B0] bw:=bL
 refine zV (j:=0) (vs:=B3) Z Z Z Z bM Z Z Z Z zG (zA Z) Z Z Z ?_
 intro bz bN
 have bP:sW w U au [.blk am 104 B3,.blk ak 104 B5,.blk b6 78 B1,.blk b2 28 B0] bz:=bN
 refine zi ?_
 cases be
 exact zH ⟨Z,⟨au,Z,Z,bt,bP⟩⟩
 let B6:List Value:=[jV av.skier,jV av.mat]
 refine zV (j:=1) (vs:=B6) Z Z Z Z bb Z Z Z Z zG (zA Z) Z Z Z ?_
 intro bA bQ
 have br:sW w U au [.blk am 104 B2,.blk ak 104 B6,.blk b6 78 B1,.blk b2 28 B0] bA:=bQ
 refine ZD Z Z Z Z (br.ldB (j:=2) Z Z Z zE (v:=jV p1.Skier) Z) (oR Z (zy (pv:=[(0,jV p1.Skier),(1,jV 0)]) (z:=B2) (cs:=B3) Z (wAD Z (wAD Z wAO)) zf wAz Z Z) (zV (j:=0) (vs:=B3) Z Z Z Z br Z Z Z Z zG (zA Z) Z Z Z ?_))
 intro bB bR
 have bS:sW w U au [.blk am 104 B3,.blk ak 104 B6,.blk b6 78 B1,.blk b2 28 B0] bB:=bR
 refine zi ?_
 cases be
 exact zH ⟨Z,⟨au,Z,Z,bt,bS⟩⟩
 refine ZD Z Z Z Z (aW.ldB (j:=2) Z Z Z zE (v:=jV p1.Skier) Z) (oR Z (zy (pv:=[(0,jV p1.Skier),(1,jV 0)]) (z:=B2) (cs:=B3) Z (wAD Z (wAD Z wAO)) zf wAz Z Z) (zM 0 Z Z Z Z (zL Z Z yO zQ Z) aW (fun hs=>wBa bp U hs bq) (.inr Z) ?_))
 rintro az ci cy bC cf bV ⟨rfl,rfl⟩
 have bW:sW w U az [.blk am 104 B2,.blk ak 104 B2,.blk b6 78 B1,.blk b2 28 B0] bC:=bV
 let B7:List Value:=[jV av.skier,jV av.mat]
 refine zV (j:=1) (vs:=B7) Z Z Z Z bW Z Z Z Z zG (zA Z) Z Z Z ?_
 intro bD bX
 have bY:sW w U az [.blk am 104 B2,.blk ak 104 B7,.blk b6 78 B1,.blk b2 28 B0] bD:=bX
 refine zV (j:=0) (vs:=B3) Z Z Z Z bY Z Z Z Z zG (zA Z) Z Z Z ?_
 intro bE bZ
 have cb:sW w U az [.blk am 104 B3,.blk ak 104 B7,.blk b6 78 B1,.blk b2 28 B0] bE:=bZ
 refine zi ?_
 cases be
 exact zH ⟨Z,⟨az,Z,Z,cf,cb⟩⟩
 rintro cz cn ⟨bu,bF,bG,cw,bd⟩
 refine zU ?_
 cases bs
 exact ⟨rfl,_,(wDt (rs:=[.cell 4 104,.cell 5 104]) (vs:=[.agg B4.toArray,.agg B3.toArray]) ⟨⟨_,bF,(wBB ze zG (bd.blkAt (k:=1) rfl) (vs:=B4) rfl rfl)⟩,⟨⟨_,bG,(wBB ze zG (bd.blkAt (k:=0) rfl) (vs:=B3) rfl rfl)⟩,trivial⟩⟩ rfl),bu,_,(bd.pick [] _ (by decide) rfl),rfl,rfl⟩
theorem wHW (p0:wAB) (ai:Option Addr) (aj:Nat) (ak:Option Addr) (aq:Nat) (am:Option Addr) (au:Nat) (ap:Option Addr) (av:Nat) (p1:wAK) (w:World) (U:PHeap) (hS:St0 w U []) (aW:Sl U 1 ai aj p0.Starts.length (hH KL.encI p0.Starts)) (bn:Sl U 2 ak aq p0.Splits.length (hH wAJ p0.Splits)) (bo:Sl U 3 am au p0.Clocks.length (hH wAA p0.Clocks)) (bp:Sl U 4 ap av p0.Readings.length (hH wAH p0.Readings)) {r:Int × Int} (hm:wDD p0 p1=some r):Gv Try.prog 110 [.agg #[.slice ai p0.Starts.length aj,.slice ak p0.Splits.length aq,.slice am p0.Clocks.length au,.slice ap p0.Readings.length av],.agg #[jV p1.Kind,jV p1.Skier,jV p1.Index,.bool p1.Up]] w (wCh w [] U (fun U_ L_ v=>v=.tuple #[jV r.1,jV r.2]/\L_=[])):=by
 unfold wDD at hm
 refine Gv.of Try.func110 rfl Try.ntmps110 Try.results110 rfl (sR gBf rfl (ZN (cs:=[.slice ai p0.Starts.length aj,.slice ak p0.Splits.length aq,.slice am p0.Clocks.length au,.slice ap p0.Readings.length av]) rfl rfl rfl rfl rfl rfl (by rfl) hS ?_))
 intro W1 b2 bd
 refine ZN (cs:=[jV p1.Kind,jV p1.Skier,jV p1.Index,.bool p1.Up]) rfl rfl rfl rfl rfl rfl (by rfl) bd ?_
 intro W5 b6 be
 refine yH rfl rfl rfl rfl rfl rfl (yH rfl rfl rfl rfl rfl rfl (eN (zK (ZA ZB [3,1,3,1,3,1,3,1,3,1,3,1,3,3,3] fL15 (by kernel_rfl) ?_))))
 have ae:=be.drew
 generalize hw_W10:({ W5 with drawn:=W5.drawn + 1 }:World)=bh at ae ⊢
 refine oR Z (zF Z Z zN Z zZ) (oL Z (ae.ldB (j:=1) Z Z Z zj (v:=.slice ai p0.Starts.length aj) Z) (oR Z (zF Z Z ZJ Z zB) (oL Z (ae.ldB (j:=0) Z Z Z zE (v:=jV p1.Skier) Z) (bnK hm fun aX ah bf=>?_))))
 have q:=aW.el (fun _=>rfl) (wAW ah)
 obtain ⟨bi,bq,aY,ba⟩:=q
 refine oR Z (ZQ Z Z aY Z zD zB (wBM ah) (wBP ah)) (oL Z (ae.ldC (f:=0) ba (v:=jV aX) Z Z zE Z) (oR Z (zF Z Z zN Z zZ) (oL Z (ae.ldB (j:=1) Z Z Z zj (v:=.slice ai p0.Starts.length aj) Z) (oR Z (zF Z Z ZJ Z zB) (oL Z (ae.ldB (j:=0) Z Z Z zE (v:=jV p1.Skier) Z) ?_)))))
 have q:=aW.el (fun _=>rfl) (wAW ah)
 obtain ⟨bj,br,aZ,bb⟩:=q
 refine oR Z (ZQ Z Z aZ Z zD zB (wBM ah) (wBP ah)) (oL Z (ae.ldC (f:=0) bb (v:=jV aX) Z Z zE Z) (oR Z (Runs.negw Z Z) (oA Z Z (oA Z Z (eN (zU ?_))))))
 cases bf
 exact ⟨rfl,_,(wHL rfl rfl),U,_,(ae.pick [] _ (by decide) rfl),rfl,rfl⟩
end Go.Proofs.Ytlnfbjphfoipaaa
namespace Go.Proofs.Ytlnfbjphfoipaaa
open Go.KL
set_option maxHeartbeats 4000000
theorem wHX (p0:wAB) (aY:Option Addr) (bd:Nat) (aZ:Option Addr) (be:Nat) (ba:Option Addr) (bf:Nat) (bb:Option Addr) (bg:Nat) (p1:wAK) (w:World) (U:PHeap) (hS:St0 w U []) (cm:Sl U 1 aY bd p0.Starts.length (hH KL.encI p0.Starts)) (cn:Sl U 2 aZ be p0.Splits.length (hH wAJ p0.Splits)) (cp:Sl U 3 ba bf p0.Clocks.length (hH wAA p0.Clocks)) (cq:Sl U 4 bb bg p0.Readings.length (hH wAH p0.Readings)) {r:wAC × wAC} (hm:wDE p0 p1=some r):Gv Try.prog 112 [.agg #[.slice aY p0.Starts.length bd,.slice aZ p0.Splits.length be,.slice ba p0.Clocks.length bf,.slice bb p0.Readings.length bg],.agg #[jV p1.Kind,jV p1.Skier,jV p1.Index,.bool p1.Up]] w (wCh w [] U (fun U_ L_ v=>v=.tuple #[.agg #[jV r.1.skier,jV r.1.mat],.agg #[jV r.2.skier,jV r.2.mat]]/\L_=[])):=by
 unfold wDE at hm
 refine Gv.of Try.func112 Z Try.ntmps112 Try.results112 Z (sR gBe Z ?_)
 let B0:List Value:=[.slice aY p0.Starts.length bd,.slice aZ p0.Splits.length be,.slice ba p0.Clocks.length bf,.slice bb p0.Readings.length bg]
 refine ZN (cs:=B0) rfl rfl rfl rfl rfl rfl (by rfl) hS ?_
 intro W1 b2 bF
 let B1:List Value:=[jV p1.Kind,jV p1.Skier,jV p1.Index,.bool p1.Up]
 refine ZN (cs:=B1) rfl rfl rfl rfl rfl rfl (by rfl) bF ?_
 intro W5 b6 cb
 let B2:List Value:=[jV 0,jV 0]
 refine zS (cs:=B2) Z Z Z Z Z zf Z cb ?_
 intro W9 am bC
 refine zS (cs:=B2) Z Z Z Z Z zf Z bC ?_
 intro bh ap bD
 refine eN ?_
 have q:=bnd hm
 obtain ⟨⟨⟩,aW,bk⟩:=q
 try dsimp only at bk
 let B3:List Value:=[jV p1.Skier,jV (w64 (p1.Index + 1))]
 let B4:List Value:=[jV p1.Skier,jV p1.Index]
 refine yD (fun σ_ w_=>∃ (U_:PHeap),σ_ 4=.pointer (some ⟨am,0,none⟩)/\σ_ 5=.pointer (some ⟨ap,0,none⟩)/\PHeap.Le U U_/\sW w U U_ [.blk ap 104 B3,.blk am 104 B4,.blk b6 78 B1,.blk b2 28 B0] w_) ?_ ?_
 refine ZA ZB [3,1,3,1,3,3,2,3,2,3,3,0,0] (wHf (.fl 7 (.fx 6 (.fx 8 (.fl 9 gAw) (.fx 11 gBg .stop)) (.fx 8 (.fl 9 (.fx 6 gAw (.fx 11 gAx .stop))) (.fx 11 (.fx 6 gBg (.fx 8 (.fl 9 gAx) .stop)) .stop))))) (by kernel_rfl) ?_
 have av:=bD.drew
 generalize hw_W27:({ bh with drawn:=bh.drawn + 1 }:World)=cf at av ⊢
 refine oR Z (zF Z Z ZJ Z zB) (oL Z (av.ldB (j:=2) Z Z Z zE (v:=jV p1.Skier) Z) (oR Z (zF Z Z ZJ Z zB) (oL Z (av.ldB (j:=2) Z Z Z zE (v:=jV p1.Index) Z) (oR Z (zy (pv:=[(0,jV p1.Skier),(1,jV p1.Index)]) (z:=B2) (cs:=B4) Z (wAD Z (wAD Z wAO)) zf wAz Z Z) (oR Z (zF Z Z ZJ Z zB) (oR Z (zF Z Z ZJ Z zB) (zh ?_ ?_)))))))
 refine ZD Z Z Z Z (av.ldB (j:=2) Z Z Z zE (v:=jV p1.Skier) Z) (zh ?_ ?_)
 refine ZD Z Z Z Z (av.ldB (j:=2) Z Z Z zE (v:=jV p1.Index) Z) (oR Z (zW Z Z Z) (oR Z (zy (pv:=[(0,jV p1.Skier),(1,jV (w64 (p1.Index + 1)))]) (z:=B2) (cs:=B3) Z (wAD Z (wAD Z wAO)) zf wAz Z Z) (zV (j:=1) (vs:=B4) Z Z Z Z av Z Z Z Z zG (zA Z) Z Z Z ?_)))
 intro bn bE
 have bG:sW w U U [.blk ap 104 B2,.blk am 104 B4,.blk b6 78 B1,.blk b2 28 B0] bn:=bE
 refine zV (j:=0) (vs:=B3) Z Z Z Z bG Z Z Z Z zG (zA Z) Z Z Z ?_
 intro bo bH
 have bI:sW w U U [.blk ap 104 B3,.blk am 104 B4,.blk b6 78 B1,.blk b2 28 B0] bo:=bH
 refine zi ?_
 cases aW
 exact zH ⟨Z,⟨U,Z,Z,(zO _),bI⟩⟩
 refine zV (j:=1) (vs:=B4) Z Z Z Z av Z Z Z Z zG (zA Z) Z Z Z ?_
 intro bp bJ
 have bi:sW w U U [.blk ap 104 B2,.blk am 104 B4,.blk b6 78 B1,.blk b2 28 B0] bp:=bJ
 refine ZD Z Z Z Z (bi.ldB (j:=2) Z Z Z zE (v:=jV p1.Index) Z) (oR Z (zW Z Z Z) (oR Z (zy (pv:=[(0,jV p1.Skier),(1,jV (w64 (p1.Index + 1)))]) (z:=B2) (cs:=B3) Z (wAD Z (wAD Z wAO)) zf wAz Z Z) (zV (j:=0) (vs:=B3) Z Z Z Z bi Z Z Z Z zG (zA Z) Z Z Z ?_)))
 intro bq bK
 have bL:sW w U U [.blk ap 104 B3,.blk am 104 B4,.blk b6 78 B1,.blk b2 28 B0] bq:=bK
 refine zi ?_
 cases aW
 exact zH ⟨Z,⟨U,Z,Z,(zO _),bL⟩⟩
 refine zh ?_ ?_
 refine ZD Z Z Z Z (av.ldB (j:=2) Z Z Z zE (v:=jV p1.Index) Z) (oR Z (zW Z Z Z) (zh ?_ ?_))
 refine ZD Z Z Z Z (av.ldB (j:=2) Z Z Z zE (v:=jV p1.Skier) Z) (oR Z (zy (pv:=[(0,jV p1.Skier),(1,jV (w64 (p1.Index + 1)))]) (z:=B2) (cs:=B3) Z (wAD Z (wAD Z wAO)) zf wAz Z Z) (zV (j:=1) (vs:=B4) Z Z Z Z av Z Z Z Z zG (zA Z) Z Z Z ?_))
 intro br bM
 have bN:sW w U U [.blk ap 104 B2,.blk am 104 B4,.blk b6 78 B1,.blk b2 28 B0] br:=bM
 refine zV (j:=0) (vs:=B3) Z Z Z Z bN Z Z Z Z zG (zA Z) Z Z Z ?_
 intro bs bP
 have bQ:sW w U U [.blk ap 104 B3,.blk am 104 B4,.blk b6 78 B1,.blk b2 28 B0] bs:=bP
 refine zi ?_
 cases aW
 exact zH ⟨Z,⟨U,Z,Z,(zO _),bQ⟩⟩
 refine zV (j:=1) (vs:=B4) Z Z Z Z av Z Z Z Z zG (zA Z) Z Z Z ?_
 intro bt bR
 have bj:sW w U U [.blk ap 104 B2,.blk am 104 B4,.blk b6 78 B1,.blk b2 28 B0] bt:=bR
 refine ZD Z Z Z Z (bj.ldB (j:=2) Z Z Z zE (v:=jV p1.Skier) Z) (oR Z (zy (pv:=[(0,jV p1.Skier),(1,jV (w64 (p1.Index + 1)))]) (z:=B2) (cs:=B3) Z (wAD Z (wAD Z wAO)) zf wAz Z Z) (zV (j:=0) (vs:=B3) Z Z Z Z bj Z Z Z Z zG (zA Z) Z Z Z ?_))
 intro bu bS
 have bU:sW w U U [.blk ap 104 B3,.blk am 104 B4,.blk b6 78 B1,.blk b2 28 B0] bu:=bS
 refine zi ?_
 cases aW
 exact zH ⟨Z,⟨U,Z,Z,(zO _),bU⟩⟩
 refine zV (j:=1) (vs:=B4) Z Z Z Z av Z Z Z Z zG (zA Z) Z Z Z ?_
 intro bv bV
 have az:sW w U U [.blk ap 104 B2,.blk am 104 B4,.blk b6 78 B1,.blk b2 28 B0] bv:=bV
 refine zh ?_ ?_
 refine ZD Z Z Z Z (az.ldB (j:=2) Z Z Z zE (v:=jV p1.Skier) Z) (ZD Z Z Z Z (az.ldB (j:=2) Z Z Z zE (v:=jV p1.Index) Z) (oR Z (zW Z Z Z) (oR Z (zy (pv:=[(0,jV p1.Skier),(1,jV (w64 (p1.Index + 1)))]) (z:=B2) (cs:=B3) Z (wAD Z (wAD Z wAO)) zf wAz Z Z) (zV (j:=0) (vs:=B3) Z Z Z Z az Z Z Z Z zG (zA Z) Z Z Z ?_))))
 intro bw bW
 have bX:sW w U U [.blk ap 104 B3,.blk am 104 B4,.blk b6 78 B1,.blk b2 28 B0] bw:=bW
 refine zi ?_
 cases aW
 exact zH ⟨Z,⟨U,Z,Z,(zO _),bX⟩⟩
 refine ZD Z Z Z Z (az.ldB (j:=2) Z Z Z zE (v:=jV p1.Index) Z) (oR Z (zW Z Z Z) (ZD Z Z Z Z (az.ldB (j:=2) Z Z Z zE (v:=jV p1.Skier) Z) (oR Z (zy (pv:=[(0,jV p1.Skier),(1,jV (w64 (p1.Index + 1)))]) (z:=B2) (cs:=B3) Z (wAD Z (wAD Z wAO)) zf wAz Z Z) (zV (j:=0) (vs:=B3) Z Z Z Z az Z Z Z Z zG (zA Z) Z Z Z ?_))))
 intro bz bY
 have bZ:sW w U U [.blk ap 104 B3,.blk am 104 B4,.blk b6 78 B1,.blk b2 28 B0] bz:=bY
 refine zi ?_
 cases aW
 exact zH ⟨Z,⟨U,Z,Z,(zO _),bZ⟩⟩
 rintro ct ci ⟨bm,bA,bB,cr,aX⟩
 refine zU ?_
 cases bk
 exact ⟨rfl,_,(wDt (rs:=[.cell 4 104,.cell 5 104]) (vs:=[.agg B4.toArray,.agg B3.toArray]) ⟨⟨_,bA,(wBB ze zG (aX.blkAt (k:=1) rfl) (vs:=B4) rfl rfl)⟩,⟨⟨_,bB,(wBB ze zG (aX.blkAt (k:=0) rfl) (vs:=B3) rfl rfl)⟩,trivial⟩⟩ rfl),bm,_,(aX.pick [] _ (by decide) rfl),rfl,rfl⟩
theorem wHY (p0:wAB) (ak:Option Addr) (aq:Nat) (ai:Option Addr) (aj:Nat) (am:Option Addr) (au:Nat) (ap:Option Addr) (av:Nat) (p1:wAK) (w:World) (U:PHeap) (hS:St0 w U []) (bn:Sl U 1 ak aq p0.Starts.length (hH KL.encI p0.Starts)) (aW:Sl U 2 ai aj p0.Splits.length (hH wAJ p0.Splits)) (bo:Sl U 3 am au p0.Clocks.length (hH wAA p0.Clocks)) (bp:Sl U 4 ap av p0.Readings.length (hH wAH p0.Readings)) {r:Int × Int} (hm:wDF p0 p1=some r):Gv Try.prog 113 [.agg #[.slice ak p0.Starts.length aq,.slice ai p0.Splits.length aj,.slice am p0.Clocks.length au,.slice ap p0.Readings.length av],.agg #[jV p1.Kind,jV p1.Skier,jV p1.Index,.bool p1.Up]] w (wCh w [] U (fun U_ L_ v=>v=.tuple #[jV r.1,jV r.2]/\L_=[])):=by
 unfold wDF at hm
 refine Gv.of Try.func113 rfl Try.ntmps113 Try.results113 rfl (sR gBf rfl (ZN (cs:=[.slice ak p0.Starts.length aq,.slice ai p0.Splits.length aj,.slice am p0.Clocks.length au,.slice ap p0.Readings.length av]) rfl rfl rfl rfl rfl rfl (by rfl) hS ?_))
 intro W1 b2 bd
 refine ZN (cs:=[jV p1.Kind,jV p1.Skier,jV p1.Index,.bool p1.Up]) rfl rfl rfl rfl rfl rfl (by rfl) bd ?_
 intro W5 b6 be
 refine yH rfl rfl rfl rfl rfl rfl (yH rfl rfl rfl rfl rfl rfl (eN (zK (ZA ZB [3,1,3,1,3,3,1,3,1,3,1,3,3,1,3,3,3] fL17 (by kernel_rfl) ?_))))
 have ae:=be.drew
 generalize hw_W10:({ W5 with drawn:=W5.drawn + 1 }:World)=bh at ae ⊢
 refine oR Z (zF Z Z zN Z Zt) (oL Z (ae.ldB (j:=1) Z Z Z yB (v:=.slice ai p0.Splits.length aj) Z) (oR Z (zF Z Z ZJ Z zB) (oL Z (ae.ldB (j:=0) Z Z Z zE (v:=jV p1.Index) Z) (bnK hm fun aX ah bf=>?_))))
 have q:=aW.el (fun _=>rfl) (wAW ah)
 obtain ⟨bi,bq,aY,ba⟩:=q
 refine oR Z (ZQ Z Z aY Z zr zq (wBM ah) (wBP ah)) (oR Z (zF Z Z zn Z zB) (oL Z (ae.ldC (f:=1) ba (v:=jV aX.Hi) Z Z zE Z) (oR Z (zF Z Z zN Z Zt) (oL Z (ae.ldB (j:=1) Z Z Z yB (v:=.slice ai p0.Splits.length aj) Z) (oR Z (zF Z Z ZJ Z zB) (oL Z (ae.ldB (j:=0) Z Z Z zE (v:=jV p1.Index) Z) ?_))))))
 have q:=aW.el (fun _=>rfl) (wAW ah)
 obtain ⟨bj,br,aZ,bb⟩:=q
 refine oR Z (ZQ Z Z aZ Z zr zq (wBM ah) (wBP ah)) (oR Z (zF Z Z zn Z zB) (oL Z (ae.ldC (f:=0) bb (v:=jV aX.Lo) Z Z zE Z) (oR Z (Runs.negw Z Z) (oA Z Z (oA Z Z (eN (zU ?_)))))))
 cases bf
 exact ⟨rfl,_,(wHL rfl rfl),U,_,(ae.pick [] _ (by decide) rfl),rfl,rfl⟩
theorem wCC (p0:Int) (w:World) (U:PHeap) (hS:St0 w U [])  {r:wAC} (hm:wBQ p0=some r):Gv Try.prog 82 [jV p0] w (wCh w [] U (fun U_ L_ v=>v=.agg #[jV r.skier,jV r.mat]/\L_=[])):=by
 unfold wBQ at hm
 refine Gv.of Try.func82 Z Try.ntmps82 Try.results82 Z (sR (.fx 0 .nil .stop) Z (zS (cs:=[jV 0,jV 0]) Z Z Z Z Z zf Z hS ?_))
 intro W1 b2 aj
 refine eN (sR (wCz (.fx 3 .nil .stop)) Z (oM Z Z (oR Z (zW Z Z Z) ?_)))
 let B0:List Value:=[jV (-1),jV (w64 (1 + p0))]
 refine oR Z (zy (pv:=[(0,jV (-1)),(1,jV (w64 (1 + p0)))]) (z:=[jV 0,jV 0]) (cs:=B0) Z (wAD Z (wAD Z wAO)) zf wAz Z Z) (zV (j:=0) (vs:=B0) Z Z Z Z aj Z Z Z Z zG (zA Z) Z Z Z ?_)
 intro W5 ak
 have ae:sW w U U [.blk b2 104 B0] W5:=ak
 refine eN (zU ?_)
 cases hm
 exact ⟨rfl,_,(wIl (v:=.agg B0.toArray) ⟨⟨_,rfl,(wBB ze zG (ae.blkAt (k:=0) rfl) (vs:=B0) rfl rfl)⟩,trivial⟩),U,_,(ae.pick [] _ (by decide) rfl),rfl,rfl⟩
theorem wHZ (p0:wAB) (aX:Option Addr) (bb:Nat) (aY:Option Addr) (bd:Nat) (aZ:Option Addr) (be:Nat) (ba:Option Addr) (bf:Nat) (p1:wAK) (w:World) (U:PHeap) (hS:St0 w U []) (bK:Sl U 1 aX bb p0.Starts.length (hH KL.encI p0.Starts)) (bL:Sl U 2 aY bd p0.Splits.length (hH wAJ p0.Splits)) (bM:Sl U 3 aZ be p0.Clocks.length (hH wAA p0.Clocks)) (bN:Sl U 4 ba bf p0.Readings.length (hH wAH p0.Readings)) {r:wAC × wAC} (hm:wDG p0 p1=some r):Gv Try.prog 115 [.agg #[.slice aX p0.Starts.length bb,.slice aY p0.Splits.length bd,.slice aZ p0.Clocks.length be,.slice ba p0.Readings.length bf],.agg #[jV p1.Kind,jV p1.Skier,jV p1.Index,.bool p1.Up]] w (wCh w [] U (fun U_ L_ v=>v=.tuple #[.agg #[jV r.1.skier,jV r.1.mat],.agg #[jV r.2.skier,jV r.2.mat]]/\L_=[])):=by
 unfold wDG at hm
 refine Gv.of Try.func115 Z Try.ntmps115 Try.results115 Z (sR gBe Z ?_)
 let B0:List Value:=[.slice aX p0.Starts.length bb,.slice aY p0.Splits.length bd,.slice aZ p0.Clocks.length be,.slice ba p0.Readings.length bf]
 refine ZN (cs:=B0) rfl rfl rfl rfl rfl rfl (by rfl) hS ?_
 intro W1 b2 bu
 let B1:List Value:=[jV p1.Kind,jV p1.Skier,jV p1.Index,.bool p1.Up]
 refine ZN (cs:=B1) rfl rfl rfl rfl rfl rfl (by rfl) bu ?_
 intro W5 b6 bC
 let B2:List Value:=[jV 0,jV 0]
 refine zS (cs:=B2) Z Z Z Z Z zf Z bC ?_
 intro W9 ap bq
 refine zS (cs:=B2) Z Z Z Z Z zf Z bq ?_
 intro bh aq br
 refine eN (zK (ZA ZB [2,3,1,2,0,0] (.fl 1 (.fl 2 (.fx 0 (.fx 3 gAl .stop) .stop))) (by kernel_rfl) ?_))
 have az:=br.drew
 generalize hw_W18:({ bh with drawn:=bh.drawn + 1 }:World)=bj at az ⊢
 refine oR Z (zF Z Z ZJ Z zB) (oL Z (az.ldB (j:=2) Z Z Z zE (v:=jV p1.Index) Z) (bnK hm fun x19 bo bD=>zM 0 Z Z Z Z (zL Z Z yO zQ Z) az (fun hs=>wBa bj U hs bo) (.inr Z) ?_))
 rintro bg bF bR bi bP bs ⟨rfl,rfl⟩
 have bt:sW w U bg [.blk aq 104 B2,.blk ap 104 B2,.blk b6 78 B1,.blk b2 28 B0] bi:=bs
 refine bnK bD fun x29 bp bE=>zM 0 Z Z Z Z (zL Z Z Try.call82 (zC Z zQ) Z) bt (fun hs=>wCC p1.Index bi bg hs bp) (.inr Z) ?_
 rintro am bG bS bk bQ bv ⟨rfl,rfl⟩
 have bw:sW w U am [.blk aq 104 B2,.blk ap 104 B2,.blk b6 78 B1,.blk b2 28 B0] bk:=bv
 let B3:List Value:=[jV x19.skier,jV x19.mat]
 refine zV (j:=1) (vs:=B3) Z Z Z Z bw Z Z Z Z zG (zA Z) Z Z Z ?_
 intro bm bz
 have bA:sW w U am [.blk aq 104 B2,.blk ap 104 B3,.blk b6 78 B1,.blk b2 28 B0] bm:=bz
 let B4:List Value:=[jV x29.skier,jV x29.mat]
 refine zV (j:=0) (vs:=B4) Z Z Z Z bA Z Z Z Z zG (zA Z) Z Z Z ?_
 intro bn bB
 have aW:sW w U am [.blk aq 104 B4,.blk ap 104 B3,.blk b6 78 B1,.blk b2 28 B0] bn:=bB
 refine eN (zU ?_)
 cases bE
 exact ⟨rfl,_,(wDt (rs:=[.cell 4 104,.cell 5 104]) (vs:=[.agg B3.toArray,.agg B4.toArray]) ⟨⟨_,rfl,(wBB ze zG (aW.blkAt (k:=1) rfl) (vs:=B3) rfl rfl)⟩,⟨⟨_,rfl,(wBB ze zG (aW.blkAt (k:=0) rfl) (vs:=B4) rfl rfl)⟩,trivial⟩⟩ rfl),am,_,(aW.pick [] _ (by decide) rfl),rfl,rfl⟩
theorem wHa (p0:wAB) (ak:Option Addr) (aq:Nat) (am:Option Addr) (au:Nat) (ai:Option Addr) (aj:Nat) (ap:Option Addr) (av:Nat) (p1:wAK) (w:World) (U:PHeap) (hS:St0 w U []) (bn:Sl U 1 ak aq p0.Starts.length (hH KL.encI p0.Starts)) (bo:Sl U 2 am au p0.Splits.length (hH wAJ p0.Splits)) (aW:Sl U 3 ai aj p0.Clocks.length (hH wAA p0.Clocks)) (bp:Sl U 4 ap av p0.Readings.length (hH wAH p0.Readings)) {r:Int × Int} (hm:wDH p0 p1=some r):Gv Try.prog 116 [.agg #[.slice ak p0.Starts.length aq,.slice am p0.Splits.length au,.slice ai p0.Clocks.length aj,.slice ap p0.Readings.length av],.agg #[jV p1.Kind,jV p1.Skier,jV p1.Index,.bool p1.Up]] w (wCh w [] U (fun U_ L_ v=>v=.tuple #[jV r.1,jV r.2]/\L_=[])):=by
 unfold wDH at hm
 refine Gv.of Try.func116 rfl Try.ntmps116 Try.results116 rfl (sR gBf rfl (ZN (cs:=[.slice ak p0.Starts.length aq,.slice am p0.Splits.length au,.slice ai p0.Clocks.length aj,.slice ap p0.Readings.length av]) rfl rfl rfl rfl rfl rfl (by rfl) hS ?_))
 intro W1 b2 bd
 refine ZN (cs:=[jV p1.Kind,jV p1.Skier,jV p1.Index,.bool p1.Up]) rfl rfl rfl rfl rfl rfl (by rfl) bd ?_
 intro W5 b6 be
 refine yH rfl rfl rfl rfl rfl rfl (yH rfl rfl rfl rfl rfl rfl (eN (zK (ZA ZB [3,1,3,1,3,3,3,1,3,3,1,3,1,3,3,3,1,3,3] fL19 (by kernel_rfl) ?_))))
 have ae:=be.drew
 generalize hw_W10:({ W5 with drawn:=W5.drawn + 1 }:World)=bh at ae ⊢
 refine oR Z (zF Z Z zN Z Ze) (oL Z (ae.ldB (j:=1) Z Z Z Zw (v:=.slice ai p0.Clocks.length aj) Z) (oR Z (zF Z Z ZJ Z zB) (oL Z (ae.ldB (j:=0) Z Z Z zE (v:=jV p1.Index) Z) (bnK hm fun aX ah bf=>?_))))
 have q:=aW.el (fun _=>rfl) (wAW ah)
 obtain ⟨bi,bq,aY,ba⟩:=q
 refine oR Z (ZQ Z Z aY Z ZO Zh (wBM ah) (wBP ah)) (oR Z (zF Z Z Zf Z zq) (oR Z (zF Z Z zn Z zB) (oL Z (ae.ldC (f:=0) ba (v:=jV aX.Offset.Lo) Z Z zE Z) (oR Z (Runs.negw Z Z) (oR Z (zF Z Z zN Z Ze) (oL Z (ae.ldB (j:=1) Z Z Z Zw (v:=.slice ai p0.Clocks.length aj) Z) (oR Z (zF Z Z ZJ Z zB) (oL Z (ae.ldB (j:=0) Z Z Z zE (v:=jV p1.Index) Z) ?_))))))))
 have q:=aW.el (fun _=>rfl) (wAW ah)
 obtain ⟨bj,br,aZ,bb⟩:=q
 refine oR Z (ZQ Z Z aZ Z ZO Zh (wBM ah) (wBP ah)) (oR Z (zF Z Z Zf Z zq) (oR Z (zF Z Z zn Z zB) (oL Z (ae.ldC (f:=1) bb (v:=jV aX.Offset.Hi) Z Z zE Z) (oA Z Z (oA Z Z (eN (zU ?_)))))))
 cases bf
 exact ⟨rfl,_,(wHL rfl rfl),U,_,(ae.pick [] _ (by decide) rfl),rfl,rfl⟩
theorem wHD (p0:wAB) (bw:Option Addr) (bB:Nat) (bz:Option Addr) (bC:Nat) (bA:Option Addr) (bD:Nat) (be:Option Addr) (bf:Nat) (p1:wAK) (w:World) (U:PHeap) (hS:St0 w U []) (gW:Sl U 1 bw bB p0.Starts.length (hH KL.encI p0.Starts)) (gX:Sl U 2 bz bC p0.Splits.length (hH wAJ p0.Splits)) (gZ:Sl U 3 bA bD p0.Clocks.length (hH wAA p0.Clocks)) (fP:Sl U 4 be bf p0.Readings.length (hH wAH p0.Readings)) {r:wAC × wAC} (hm:wCl p0 p1=some r):Gv Try.prog 118 [.agg #[.slice bw p0.Starts.length bB,.slice bz p0.Splits.length bC,.slice bA p0.Clocks.length bD,.slice be p0.Readings.length bf],.agg #[jV p1.Kind,jV p1.Skier,jV p1.Index,.bool p1.Up]] w (wCh w [] U (fun U_ L_ v=>v=.tuple #[.agg #[jV r.1.skier,jV r.1.mat],.agg #[jV r.2.skier,jV r.2.mat]]/\L_=[])):=by
 unfold wCl at hm
 refine Gv.of Try.func118 Z Try.ntmps118 Try.results118 Z (sR gBe Z ?_)
 let B0:List Value:=[.slice bw p0.Starts.length bB,.slice bz p0.Splits.length bC,.slice bA p0.Clocks.length bD,.slice be p0.Readings.length bf]
 refine ZN (cs:=B0) rfl rfl rfl rfl rfl rfl (by rfl) hS ?_
 intro W1 b2 fA
 let B1:List Value:=[jV p1.Kind,jV p1.Skier,jV p1.Index,.bool p1.Up]
 refine ZN (cs:=B1) rfl rfl rfl rfl rfl rfl (by rfl) fA ?_
 intro W5 b6 fO
 let B2:List Value:=[jV 0,jV 0]
 refine zS (cs:=B2) Z Z Z Z Z zf Z fO ?_
 intro W9 ae eU
 refine zS (cs:=B2) Z Z Z Z Z zf Z eU ?_
 intro gx ah ba
 refine eN (sR (wHf (.fx 6 (.fx 7 .nil .stop) .stop)) Z (oR Z (zF Z Z zN Z yK) (oL Z (ba.ldB (j:=3) Z Z Z Try.isAgg26 (v:=.slice be p0.Readings.length bf) Z) (oR Z (zF Z Z ZJ Z zB) (oL Z (ba.ldB (j:=2) Z Z Z zE (v:=jV p1.Index) Z) (bnK hm fun x17 bs fQ=>?_))))))
 have q:=fP.el (fun _=>rfl) (wAW bs)
 obtain ⟨gL,g7,eO,eQ⟩:=q
 refine oR Z (ZQ Z Z eO Z Zx Zj (wBM bs) (wBP bs)) (oL Z (ba.ldCA (f:=0) eQ Z Z Try.isAgg39 Zj (us:=[jV x17.Skier,jV x17.Mat,jV x17.Clock,jV x17.Time]) Z Z) (zS (cs:=[jV 0,jV 0,jV 0,jV 0]) Z Z Z Z Z Zr Z ba ?_))
 intro gE aa fq
 let B3:List Value:=[jV x17.Skier,jV x17.Mat,jV x17.Clock,jV x17.Time]
 refine zV (j:=0) (vs:=B3) Z Z Z Z fq Z Z Z Z Zj (zA Z) Z Z Z ?_
 intro bj fz
 have fB:sW w U U [.blk aa 39 B3,.blk ah 104 B2,.blk ae 104 B2,.blk b6 78 B1,.blk b2 28 B0] bj:=fz
 refine eN ?_
 have q:=bnd fQ
 obtain ⟨⟨gj,gm⟩,fS,cB⟩:=q
 try dsimp only at cB
 let B4:List Value:=[jV x17.Skier,jV x17.Mat]
 let B5:List Value:=[jV gj,jV gm]
 refine yD (fun σ_ w_=>∃ (U_:PHeap),σ_ 4=.pointer (some ⟨ae,0,none⟩)/\σ_ 5=.pointer (some ⟨ah,0,none⟩)/\PHeap.Le U U_/\sW w U U_ [.blk aa 39 B3,.blk ah 104 B4,.blk ae 104 B5,.blk b6 78 B1,.blk b2 28 B0] w_) ?_ ?_
 refine bnK fS fun cO aZ fR=>ZA ZB [3,1,2,3,2,3,2,3,0,0] (.fl 0 (.fl 1 (.fl 3 (.fl 5 (.fx 2 (.fx 4 gBl (.fx 6 gBm (.fx 8 (.fx 4 gAy (.fx 6 gAz .stop)) .stop))) (.fx 4 (.fx 2 gBl (.fx 6 gBh .stop)) (.fx 6 (.fx 2 gBm (.fx 4 gBh .stop)) .stop))))))) (by kernel_rfl) ?_
 have az:=fB.drew
 generalize hw_W54:({ bj with drawn:=bj.drawn + 1 }:World)=bk at az ⊢
 let B6:List Value:=[jV cO.skier,jV cO.mat]
 refine ZF (s:=.nil) (M:=fun σ_ w_=>∃ (U_:PHeap),σ_ 4=.pointer (some ⟨ae,0,none⟩)/\σ_ 5=.pointer (some ⟨ah,0,none⟩)/\σ_ 6=.pointer (some ⟨aa,0,none⟩)/\σ_ 13=.pointer (some ⟨aa,2,none⟩)/\σ_ 14=jV x17.Clock/\σ_ 15=.agg B6.toArray/\σ_ 16=.pointer (some ⟨aa,0,none⟩)/\σ_ 17=jV x17.Skier/\σ_ 18=.pointer (some ⟨aa,1,none⟩)/\σ_ 19=jV x17.Mat/\σ_ 20=.agg B4.toArray/\PHeap.Le U U_/\sW w U U_ [.blk aa 39 B3,.blk ah 104 B4,.blk ae 104 B6,.blk b6 78 B1,.blk b2 28 B0] w_) ?_ fun cC=>?_
 rintro ie gy ⟨cP,dl,dm,gM,gN,gO,gP,gQ,gR,gS,gT,gU,fU,eV⟩
 refine zi ?_
 cases fR
 exact zH ⟨Z,⟨cP,dl,dm,fU,eV⟩⟩
 refine ZF (s:=.fx 9 .nil .stop) (M:=fun σ_ w_=>∃ (U_:PHeap),σ_ 4=.pointer (some ⟨ae,0,none⟩)/\σ_ 5=.pointer (some ⟨ah,0,none⟩)/\σ_ 6=.pointer (some ⟨aa,0,none⟩)/\σ_ 13=.pointer (some ⟨aa,2,none⟩)/\σ_ 14=jV x17.Clock/\σ_ 15=.agg B6.toArray/\σ_ 16=.pointer (some ⟨aa,0,none⟩)/\σ_ 17=jV x17.Skier/\σ_ 18=.pointer (some ⟨aa,1,none⟩)/\σ_ 19=jV x17.Mat/\σ_ 20=.agg B4.toArray/\PHeap.Le U U_/\sW w U U_ [.blk aa 39 B3,.blk ah 104 B2,.blk ae 104 B6,.blk b6 78 B1,.blk b2 28 B0] w_) ?_ fun cD=>?_
 rintro ig gz ⟨bE,dp,bL,dq,dr,dt,du,dv,dw,dx,dy,bM,fV,eW⟩
 refine zV (j:=1) (vs:=B4) Z Z Z Z eW Z bL bM Z zG (zA Z) Z Z Z ?_
 intro cV eX
 have eZ:sW w U bE [.blk aa 39 B3,.blk ah 104 B4,.blk ae 104 B6,.blk b6 78 B1,.blk b2 28 B0] cV:=eX
 exact cC _ _ ⟨bE,dp,bL,dq,dr,dt,du,dv,dw,dx,dy,bM,fV,eZ⟩
 refine ZF (s:=gAn) (M:=fun σ_ w_=>∃ (U_:PHeap),σ_ 4=.pointer (some ⟨ae,0,none⟩)/\σ_ 5=.pointer (some ⟨ah,0,none⟩)/\σ_ 6=.pointer (some ⟨aa,0,none⟩)/\σ_ 13=.pointer (some ⟨aa,2,none⟩)/\σ_ 14=jV x17.Clock/\σ_ 15=.agg B6.toArray/\σ_ 16=.pointer (some ⟨aa,0,none⟩)/\σ_ 17=jV x17.Skier/\σ_ 18=.pointer (some ⟨aa,1,none⟩)/\σ_ 19=jV x17.Mat/\σ_ 20=.agg B4.toArray/\PHeap.Le U U_/\sW w U U_ [.blk aa 39 B3,.blk ah 104 B2,.blk ae 104 B2,.blk b6 78 B1,.blk b2 28 B0] w_) ?_ fun fT=>?_
 rintro ii gA ⟨bF,bN,dz,dA,dB,dC,bP,dD,dE,dF,dG,dH,fW,fb⟩
 refine zV (j:=2) (vs:=B6) Z Z Z Z fb Z bN bP Z zG (zA Z) Z Z Z ?_
 intro cW fc
 have fd:sW w U bF [.blk aa 39 B3,.blk ah 104 B2,.blk ae 104 B6,.blk b6 78 B1,.blk b2 28 B0] cW:=fc
 exact cD _ _ ⟨bF,bN,dz,dA,dB,dC,bP,dD,dE,dF,dG,dH,fW,fd⟩
 refine ZF (s:=gAo) (M:=fun σ_ w_=>∃ (U_:PHeap),σ_ 4=.pointer (some ⟨ae,0,none⟩)/\σ_ 5=.pointer (some ⟨ah,0,none⟩)/\σ_ 6=.pointer (some ⟨aa,0,none⟩)/\σ_ 13=.pointer (some ⟨aa,2,none⟩)/\σ_ 14=jV x17.Clock/\σ_ 15=.agg B6.toArray/\σ_ 16=.pointer (some ⟨aa,0,none⟩)/\σ_ 17=jV x17.Skier/\σ_ 18=.pointer (some ⟨aa,1,none⟩)/\σ_ 19=jV x17.Mat/\PHeap.Le U U_/\sW w U U_ [.blk aa 39 B3,.blk ah 104 B2,.blk ae 104 B6,.blk b6 78 B1,.blk b2 28 B0] w_) ?_ fun cE=>?_
 rintro ij gB ⟨bG,dI,bQ,dJ,dK,dL,dM,dN,bR,dO,bS,fY,ff⟩
 refine oR Z (zy (pv:=[(0,jV x17.Skier),(1,jV x17.Mat)]) (z:=B2) (cs:=B4) Z (wAD bR (wAD bS wAO)) zf wAz Z Z) (zV (j:=1) (vs:=B4) Z Z Z Z ff Z bQ Z Z zG (zA Z) Z Z Z ?_)
 intro cX fg
 have fh:sW w U bG [.blk aa 39 B3,.blk ah 104 B4,.blk ae 104 B6,.blk b6 78 B1,.blk b2 28 B0] cX:=fg
 exact cC _ _ ⟨bG,dI,bQ,dJ,dK,dL,dM,dN,bR,dO,bS,Z,fY,fh⟩
 refine ZF (s:=gAz) (M:=fun σ_ w_=>∃ (U_:PHeap),σ_ 4=.pointer (some ⟨ae,0,none⟩)/\σ_ 5=.pointer (some ⟨ah,0,none⟩)/\σ_ 6=.pointer (some ⟨aa,0,none⟩)/\σ_ 13=.pointer (some ⟨aa,2,none⟩)/\σ_ 14=jV x17.Clock/\σ_ 15=.agg B6.toArray/\σ_ 16=.pointer (some ⟨aa,0,none⟩)/\σ_ 18=.pointer (some ⟨aa,1,none⟩)/\σ_ 19=jV x17.Mat/\PHeap.Le U U_/\sW w U U_ [.blk aa 39 B3,.blk ah 104 B2,.blk ae 104 B6,.blk b6 78 B1,.blk b2 28 B0] w_) ?_ fun cG=>?_
 rintro ik gC ⟨cQ,dP,dQ,dR,dS,dT,dU,bU,dV,dW,fZ,cy⟩
 exact ZD Z Z Z Z (cy.ldB (j:=0) Z Z bU zE (v:=jV x17.Skier) Z) (cE _ _ ⟨cQ,dP,dQ,dR,dS,dT,dU,bU,Z,dV,dW,fZ,cy⟩)
 refine ZF (s:=gAy) (M:=fun σ_ w_=>∃ (U_:PHeap),σ_ 4=.pointer (some ⟨ae,0,none⟩)/\σ_ 5=.pointer (some ⟨ah,0,none⟩)/\σ_ 6=.pointer (some ⟨aa,0,none⟩)/\σ_ 13=.pointer (some ⟨aa,2,none⟩)/\σ_ 14=jV x17.Clock/\σ_ 15=.agg B6.toArray/\σ_ 16=.pointer (some ⟨aa,0,none⟩)/\σ_ 17=jV x17.Skier/\σ_ 18=.pointer (some ⟨aa,1,none⟩)/\PHeap.Le U U_/\sW w U U_ [.blk aa 39 B3,.blk ah 104 B2,.blk ae 104 B6,.blk b6 78 B1,.blk b2 28 B0] w_) ?_ fun cH=>?_
 rintro il gD ⟨cR,dX,dY,dZ,d5,d7,d9,ec,ef,bV,gb,cz⟩
 exact ZD Z Z Z Z (cz.ldB (j:=0) Z Z bV zE (v:=jV x17.Mat) Z) (cE _ _ ⟨cR,dX,dY,dZ,d5,d7,d9,ec,ef,bV,Z,gb,cz⟩)
 refine ZF (s:=.fl 7 gAn) (M:=fun σ_ w_=>∃ (U_:PHeap),σ_ 4=.pointer (some ⟨ae,0,none⟩)/\σ_ 5=.pointer (some ⟨ah,0,none⟩)/\σ_ 6=.pointer (some ⟨aa,0,none⟩)/\σ_ 13=.pointer (some ⟨aa,2,none⟩)/\σ_ 14=jV x17.Clock/\σ_ 15=.agg B6.toArray/\σ_ 16=.pointer (some ⟨aa,0,none⟩)/\σ_ 17=jV x17.Skier/\σ_ 18=.pointer (some ⟨aa,1,none⟩)/\σ_ 19=jV x17.Mat/\PHeap.Le U U_/\sW w U U_ [.blk aa 39 B3,.blk ah 104 B2,.blk ae 104 B2,.blk b6 78 B1,.blk b2 28 B0] w_) ?_ fun cI=>?_
 rintro im gF ⟨bH,bW,eg,eh,en,eu,bX,ey,bY,eD,bZ,ge,fj⟩
 refine oR Z (zy (pv:=[(0,jV x17.Skier),(1,jV x17.Mat)]) (z:=B2) (cs:=B4) Z (wAD bY (wAD bZ wAO)) zf wAz Z Z) (zV (j:=2) (vs:=B6) Z Z Z Z fj Z bW bX Z zG (zA Z) Z Z Z ?_)
 intro cY fm
 have ft:sW w U bH [.blk aa 39 B3,.blk ah 104 B2,.blk ae 104 B6,.blk b6 78 B1,.blk b2 28 B0] cY:=fm
 exact cD _ _ ⟨bH,bW,eg,eh,en,eu,bX,ey,bY,eD,bZ,Z,ge,ft⟩
 refine ZF (s:=gBh) (M:=fun σ_ w_=>∃ (U_:PHeap),σ_ 4=.pointer (some ⟨ae,0,none⟩)/\σ_ 5=.pointer (some ⟨ah,0,none⟩)/\σ_ 6=.pointer (some ⟨aa,0,none⟩)/\σ_ 13=.pointer (some ⟨aa,2,none⟩)/\σ_ 14=jV x17.Clock/\σ_ 16=.pointer (some ⟨aa,0,none⟩)/\σ_ 17=jV x17.Skier/\σ_ 18=.pointer (some ⟨aa,1,none⟩)/\σ_ 19=jV x17.Mat/\PHeap.Le U U_/\sW w U U_ [.blk aa 39 B3,.blk ah 104 B2,.blk ae 104 B2,.blk b6 78 B1,.blk b2 28 B0] w_) ?_ fun cJ=>?_
 rintro io cZ ⟨cS,eE,eG,eH,eI,cb,eJ,cd,eK,cf,gf,fu⟩
 refine oR Z (zy (pv:=[(0,jV x17.Skier),(1,jV x17.Mat)]) (z:=B2) (cs:=B4) Z (wAD cd (wAD cf wAO)) zf wAz Z Z) (zM 0 Z Z Z Z (zL Z Z Try.call82 (zC cb zQ) Z) fu (fun hs=>wCC x17.Clock cZ cS hs aZ) (.inr Z) ?_)
 rintro bI gq g8 da gg fw ⟨rfl,rfl⟩
 have fy:sW w U bI [.blk aa 39 B3,.blk ah 104 B2,.blk ae 104 B2,.blk b6 78 B1,.blk b2 28 B0] da:=fw
 exact fT _ _ ⟨bI,eE,eG,eH,eI,cb,Z,eJ,cd,eK,cf,Z,(gf.trans gg),fy⟩
 refine ZF (s:=gBm) (M:=fun σ_ w_=>∃ (U_:PHeap),σ_ 4=.pointer (some ⟨ae,0,none⟩)/\σ_ 5=.pointer (some ⟨ah,0,none⟩)/\σ_ 6=.pointer (some ⟨aa,0,none⟩)/\σ_ 13=.pointer (some ⟨aa,2,none⟩)/\σ_ 14=jV x17.Clock/\σ_ 15=.agg B6.toArray/\σ_ 16=.pointer (some ⟨aa,0,none⟩)/\σ_ 18=.pointer (some ⟨aa,1,none⟩)/\σ_ 19=jV x17.Mat/\PHeap.Le U U_/\sW w U U_ [.blk aa 39 B3,.blk ah 104 B2,.blk ae 104 B2,.blk b6 78 B1,.blk b2 28 B0] w_) ?_ fun cK=>?_
 rintro ip gG ⟨bh,bm,cg,ci,cj,cm,bn,bo,cn,cp,cM,bt⟩
 refine zh ?_ ?_
 exact ZD Z Z Z Z (bt.ldB (j:=0) Z Z bo zE (v:=jV x17.Skier) Z) (cI _ _ ⟨bh,bm,cg,ci,cj,cm,bn,bo,Z,cn,cp,cM,bt⟩)
 refine zV (j:=2) (vs:=B6) Z Z Z Z bt Z bm bn Z zG (zA Z) Z Z Z ?_
 intro db fC
 have fD:sW w U bh [.blk aa 39 B3,.blk ah 104 B2,.blk ae 104 B6,.blk b6 78 B1,.blk b2 28 B0] db:=fC
 exact cG _ _ ⟨bh,bm,cg,ci,cj,cm,bn,bo,cn,cp,cM,fD⟩
 refine ZF (s:=gBl) (M:=fun σ_ w_=>∃ (U_:PHeap),σ_ 4=.pointer (some ⟨ae,0,none⟩)/\σ_ 5=.pointer (some ⟨ah,0,none⟩)/\σ_ 6=.pointer (some ⟨aa,0,none⟩)/\σ_ 13=.pointer (some ⟨aa,2,none⟩)/\σ_ 14=jV x17.Clock/\σ_ 15=.agg B6.toArray/\σ_ 16=.pointer (some ⟨aa,0,none⟩)/\σ_ 17=jV x17.Skier/\σ_ 18=.pointer (some ⟨aa,1,none⟩)/\PHeap.Le U U_/\sW w U U_ [.blk aa 39 B3,.blk ah 104 B2,.blk ae 104 B2,.blk b6 78 B1,.blk b2 28 B0] w_) ?_ fun cL=>?_
 rintro iq gH ⟨bi,bp,cq,cr,ct,cu,bq,cw,cx,br,cN,bu⟩
 refine zh ?_ ?_
 exact ZD Z Z Z Z (bu.ldB (j:=0) Z Z br zE (v:=jV x17.Mat) Z) (cI _ _ ⟨bi,bp,cq,cr,ct,cu,bq,cw,cx,br,Z,cN,bu⟩)
 refine zV (j:=2) (vs:=B6) Z Z Z Z bu Z bp bq Z zG (zA Z) Z Z Z ?_
 intro de fE
 have fG:sW w U bi [.blk aa 39 B3,.blk ah 104 B2,.blk ae 104 B6,.blk b6 78 B1,.blk b2 28 B0] de:=fE
 exact cH _ _ ⟨bi,bp,cq,cr,ct,cu,bq,cw,cx,br,cN,fG⟩
 refine oR Z (zF Z Z zx Z zB) (oL Z (az.ldB (j:=0) Z Z Z zE (v:=jV x17.Clock) Z) (oR Z (zF Z Z zx Z zB) (oR Z (zF Z Z zx Z zB) (zh ?_ ?_))))
 refine zM 0 Z Z Z Z (zL Z Z Try.call82 (zC Z zQ) Z) az (fun hs=>wCC x17.Clock bk U hs aZ) (.inr Z) ?_
 rintro aX gt g9 df bd fH ⟨rfl,rfl⟩
 have aY:sW w U aX [.blk aa 39 B3,.blk ah 104 B2,.blk ae 104 B2,.blk b6 78 B1,.blk b2 28 B0] df:=fH
 refine zh ?_ ?_
 exact ZD Z Z Z Z (aY.ldB (j:=0) Z Z Z zE (v:=jV x17.Skier) Z) (cL _ _ ⟨aX,Z,Z,Z,Z,Z,Z,Z,Z,Z,bd,aY⟩)
 refine zh ?_ ?_
 exact ZD Z Z Z Z (aY.ldB (j:=0) Z Z Z zE (v:=jV x17.Mat) Z) (cK _ _ ⟨aX,Z,Z,Z,Z,Z,Z,Z,Z,Z,bd,aY⟩)
 refine zV (j:=2) (vs:=B6) Z Z Z Z aY Z Z Z Z zG (zA Z) Z Z Z ?_
 intro dg fJ
 have bb:sW w U aX [.blk aa 39 B3,.blk ah 104 B2,.blk ae 104 B6,.blk b6 78 B1,.blk b2 28 B0] dg:=fJ
 refine zh ?_ ?_
 exact ZD Z Z Z Z (bb.ldB (j:=0) Z Z Z zE (v:=jV x17.Skier) Z) (cH _ _ ⟨aX,Z,Z,Z,Z,Z,Z,Z,Z,Z,bd,bb⟩)
 exact ZD Z Z Z Z (bb.ldB (j:=0) Z Z Z zE (v:=jV x17.Mat) Z) (cG _ _ ⟨aX,Z,Z,Z,Z,Z,Z,Z,Z,Z,bd,bb⟩)
 refine zh ?_ ?_
 refine ZD Z Z Z Z (az.ldB (j:=0) Z Z Z zE (v:=jV x17.Skier) Z) (zh ?_ ?_)
 refine zM 0 Z Z Z Z (zL Z Z Try.call82 (zC Z zQ) Z) az (fun hs=>wCC x17.Clock bk U hs aZ) (.inr Z) ?_
 rintro bJ gu ib dh gh fK ⟨rfl,rfl⟩
 have fL:sW w U bJ [.blk aa 39 B3,.blk ah 104 B2,.blk ae 104 B2,.blk b6 78 B1,.blk b2 28 B0] dh:=fK
 exact cL _ _ ⟨bJ,Z,Z,Z,Z,Z,Z,Z,Z,Z,gh,fL⟩
 exact ZD Z Z Z Z (az.ldB (j:=0) Z Z Z zE (v:=jV x17.Mat) Z) (cJ _ _ ⟨U,Z,Z,Z,Z,Z,Z,Z,Z,Z,(zO _),az⟩)
 refine ZD Z Z Z Z (az.ldB (j:=0) Z Z Z zE (v:=jV x17.Mat) Z) (zh ?_ ?_)
 refine zM 0 Z Z Z Z (zL Z Z Try.call82 (zC Z zQ) Z) az (fun hs=>wCC x17.Clock bk U hs aZ) (.inr Z) ?_
 rintro bK gv ic dk gi fM ⟨rfl,rfl⟩
 have fN:sW w U bK [.blk aa 39 B3,.blk ah 104 B2,.blk ae 104 B2,.blk b6 78 B1,.blk b2 28 B0] dk:=fM
 exact cK _ _ ⟨bK,Z,Z,Z,Z,Z,Z,Z,Z,Z,gi,fN⟩
 exact ZD Z Z Z Z (az.ldB (j:=0) Z Z Z zE (v:=jV x17.Skier) Z) (cJ _ _ ⟨U,Z,Z,Z,Z,Z,Z,Z,Z,Z,(zO _),az⟩)
 rintro ir gI ⟨cU,eL,eM,g6,bv⟩
 refine zU ?_
 cases cB
 exact ⟨rfl,_,(wDt (rs:=[.cell 4 104,.cell 5 104]) (vs:=[.agg B5.toArray,.agg B4.toArray]) ⟨⟨_,eL,(wBB ze zG (bv.blkAt (k:=2) rfl) (vs:=B5) rfl rfl)⟩,⟨⟨_,eM,(wBB ze zG (bv.blkAt (k:=1) rfl) (vs:=B4) rfl rfl)⟩,trivial⟩⟩ rfl),cU,_,(bv.pick [] _ (by decide) rfl),rfl,rfl⟩
end Go.Proofs.Ytlnfbjphfoipaaa
