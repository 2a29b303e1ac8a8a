import Derived.Test.YtlnfbjphfoipaaaGreatY6
set_option linter.all false
open List renaming flatMap->hH
open Option.some renaming inj->nA
open Go.Value renaming bool->nB
open Bool renaming eq_false_iff->nD
open Prod.mk renaming injEq->nE
open Nat renaming blt->nG,le_of_ble_eq_true->nH
namespace Go.Proofs.YtlnfbjphfoipaaaGreat
open Go.KL
def gAa:Sch:=.fl 2 (.fl 3 .nil)
def gAb:Sch:=.fl 3 (.fl 4 .nil)
def gAc:Sch:=.fl 4 (.fl 5 .nil)
def gAd:Sch:=.fl 7 (.fl 8 .nil)
def gAe:Sch:=.fl 15 (.fl 16 .nil)
def gAf:Sch:=.fx 0 (.fl 1 .nil) .stop
def gAg:Sch:=.fx 1 (.fl 2 .nil) .stop
def gAh:Sch:=.fx 0 (.fx 1 .nil .stop) .stop
def gAi:Sch:=.fx 7 (.fx 8 .nil .stop) .stop
def gAj:Sch:=.fx 2 (.fx 3 .nil .stop) .stop
def gAk:Sch:=.fl 0 (.fx 1 .nil .stop)
def gAl:Sch:=.fx 4 (.fx 5 .nil .stop) .stop
def gAm:Sch:=.fl 3 (.fx 5 .nil .stop)
def gAn:Sch:=.fl 10 (.fx 12 .nil .stop)
def gAo:Sch:=.fx 6 (.fx 7 .nil .stop) .stop
def gAp:Sch:=.fx 8 (.fx 9 .nil .stop) .stop
def gAq:Sch:=.fl 7 (.fx 9 .nil .stop)
def gAr:Sch:=.fx 4 (.fl 5 .nil) .stop
def gAs:Sch:=.fx 6 (.fx 8 .nil .stop) .stop
def gAt:Sch:=.fl 0 gAg
def gAu:Sch:=.fx 5 (.fl 6 (.fx 8 .nil .stop)) .stop
def gAv:Sch:=.fx 13 (.fl 14 (.fl 15 .nil)) .stop
def gAw:Sch:=.fl 10 (.fx 11 (.fx 12 .nil .stop) .stop)
def gAx:Sch:=.fx 6 gAn .stop
def gAy:Sch:=.fx 6 gAq .stop
def gAz:Sch:=.fx 4 gAq .stop
def gBa:Sch:=.fx 3 gAr .stop
def gBb:Sch:=.fl 22 (.fl 23 (.fx 24 .nil .stop))
def gBc:Sch:=.fl 0 (.fl 1 gAj)
def gBd:Sch:=.fx 3 (.fx 4 (.fl 5 (.fx 6 .nil .stop)) .stop) .stop
def gBe:Sch:=.fl 0 (.fl 1 (.fx 2 (.fl 3 .nil) .stop))
def gBf:Sch:=.fx 0 (.fx 1 gAj .stop) .stop
def gBg:Sch:=.fx 0 (.fx 1 gAa .stop) .stop
def gBh:Sch:=.fx 8 (.fl 9 gAn) .stop
def gBi:Sch:=.fl 7 (.fx 2 gAp .stop)
def gBj:Sch:=.fl 4 (.fl 5 gAs)
def gBk:Sch:=.fx 0 (.fl 5 gAs) .stop
def gBl:Sch:=.fx 21 gBb .stop
def gBm:Sch:=.fl 0 (.fl 1 (.fx 2 gAb .stop))
def gBn:Sch:=.fx 6 (.fl 7 gAp) (.fx 8 gAy .stop)
def gBo:Sch:=.fx 4 (.fl 7 gAp) (.fx 8 gAz .stop)
def gBp:Sch:=.fx 0 (.fx 1 (.fx 2 (.fx 3 (.fl 4 .nil) .stop) .stop) .stop) .stop
def gBq:Sch:=.fl 5 (.fx 6 gAi (.fx 7 gAs .stop))
def gBr:Sch:=.fx 3 gBj .stop
def gBs:Sch:=.fx 2 gBr .stop
def gBt:Sch:=.fx 1 gBr .stop
def gBu:Sch:=.fl 1 (.fl 2 (.fx 0 (.fl 3 gAl) (.fx 4 (.fx 0 gAm .stop) .stop)))
def gBv:Sch:=.fl 0 (.fl 2 (.fx 1 gBa (.fx 3 (.fx 1 gAr .stop) .stop)))
def gBw:Sch:=.fx 3 (.fl 4 gBq) (.fx 7 gBr .stop)
def gBx:Sch:=.fl 4 (.fx 0 gBq (.fx 7 gBk .stop))
def gBy:Sch:=.fx 0 gBr (.fx 3 (.fl 4 gBk) .stop)
def gBz:Sch:=.fx 2 gBw (.fx 7 gBs .stop)
def gCa:Sch:=.fx 1 gBw (.fx 7 gBt .stop)
def gCb:Sch:=.fx 1 gBs (.fx 2 gBt .stop)
def gCc:Sch:=.fx 0 gBs (.fx 2 gBy .stop)
def gCd:Sch:=.fx 0 gBt (.fx 1 gBy .stop)
def gCe:Sch:=.fx 0 gBw (.fx 3 gBx (.fx 7 gBy .stop))
set_option maxHeartbeats 4000000
theorem Z {α:Type} {a:α}:a=a:=rfl
section
variable {r:Option Nat} {N:Nat} {P:Program} {l:List Oper} {Q:wEP} {D:List Deferred} {ks:List Nat} {σ:Env} {w:World} {i d j e:Nat} {s:Sch} {o:Oper} {b:Bool} {x:Operand} {v:Value} {p:Prop} {inst:Decidable p} {K:List Deferred->Env->World->Prop} {c1 c2:Code}
abbrev jV (n:Int):Value:=.int .i64 n
abbrev SW (w:World) (X:List Res) (U U':PHeap) (L:List Res) (w':World):Prop:=St ⟨w,X,U⟩ U' L w'
abbrev sW (w:World) (U U':PHeap) (L:List Res) (w':World):Prop:=St ⟨w,[],U⟩ U' L w'
abbrev St0 (w:World) (U:PHeap) (L:List Res):Prop:=St ⟨w,L,U⟩ U L w
theorem ifc {α:Type} {G p:Prop} {inst:Decidable p} {a b r:α} (h:@ite α p inst a b=r) (h1:Hid p->a=r->G) (h2:Hid (¬ p)->b=r->G):G:=by
 by_cases c:p
 rw [if_pos c] at h;exact h1 ⟨c⟩ h
 rw [if_neg c] at h;exact h2 ⟨c⟩ h
theorem bnK {α β:Type} {G:Prop} {o:Option α} {f:α->Option β} {r:β} (h:o.bind f=some r) (k:∀ x,o=some x->f x=some r->G):G:=by
 obtain ⟨x,h1,h2⟩:=bnd h
 exact k x h1 h2
theorem oR (h:(l[i]?,o.dst,nG d N,wanted l σ o)=(some o,some d,true,true)) (hr:∀ {w'},Runs P σ w' o v w') (k:OKS N P l Q D ks s (upd σ d v) w):OKS N P l Q D ks (.fl i s) σ w:=by
 simp only [nE] at h;exact OKS.r h.1 h.2.1 h.2.2.1 h.2.2.2 (fun _=>hr) k
theorem oL (h:(l[i]?,o.dst,nG d N,wanted l σ o,wTO (kOf ks i))=(some o,some d,true,true,false)) (hr:RunsK P σ w o v) (k:OKS N P l Q D ks s (upd σ d v) w):OKS N P l Q D ks (.fl i s) σ w:=by
 simp only [nE] at h;exact OKS.m h.1 h.2.1 h.2.2.1 h.2.2.2.1 hr h.2.2.2.2 k
theorem oM (h:(l[i]?,o.dst,nG d N,wanted l σ o,o.op)=(some o,some d,true,true,.move x)) (hx:ev σ x=v) (k:OKS N P l Q D ks s (upd σ d v) w):OKS N P l Q D ks (.fl i s) σ w:=by
 simp only [nE] at h;exact OKS.rm h.1 h.2.1 h.2.2.1 h.2.2.2.1 h.2.2.2.2 hx k
theorem oA (h:(l[i]?,o.dst,nG d N,wanted l σ o,o.op)=(some o,some d,true,true,.assign x)) (hx:ev σ x=v) (k:OKS N P l Q D ks s (upd σ d v) w):OKS N P l Q D ks (.fl i s) σ w:=by
 simp only [nE] at h;exact OKS.ra h.1 h.2.1 h.2.2.1 h.2.2.2.1 h.2.2.2.2 hx k
theorem oF (h:(l[i]?,o.dst,nG d N,o.guard,(l[j]?).bind (·.dst),σ e,false == b)=(some o,some d,true,some (j,b),some e,.bool (decide p),false)) (c:Hid (¬ p)) (k:OKS N P l Q D ks s (upd σ d undef) w):OKS N P l Q D ks (.fl i s) σ w:=by
 simp only [nE] at h;exact OKS.p h.1 h.2.1 h.2.2.1 (wHf h.2.2.2.1 h.2.2.2.2.1 (h.2.2.2.2.2.1.trans (wTN c.out)) h.2.2.2.2.2.2) k
theorem oT (h:(l[i]?,o.dst,nG d N,o.guard,(l[j]?).bind (·.dst),σ e,true == b)=(some o,some d,true,some (j,b),some e,.bool (decide p),false)) (c:Hid p) (k:OKS N P l Q D ks s (upd σ d undef) w):OKS N P l Q D ks (.fl i s) σ w:=by
 simp only [nE] at h;exact OKS.p h.1 h.2.1 h.2.2.1 (wHf h.2.2.2.1 h.2.2.2.2.1 (h.2.2.2.2.2.1.trans (wTM c.out)) h.2.2.2.2.2.2) k
theorem oN {b2:Bool} (h:(l[i]?,o.dst,nG d N,o.guard,(l[j]?).bind (·.dst),σ e,b2 == b)=(some o,some d,true,some (j,b),some e,.bool b2,false)) (k:OKS N P l Q D ks s (upd σ d undef) w):OKS N P l Q D ks (.fl i s) σ w:=by
 simp only [nE] at h;exact OKS.p h.1 h.2.1 h.2.2.1 (wHf h.2.2.2.1 h.2.2.2.2.1 h.2.2.2.2.2.1 h.2.2.2.2.2.2) k
theorem nC {a b:Bool} (h:a=b):nB (!a)=nB (!b):=h ▸ rfl
theorem nF {a:Bool} (h:¬ a=true):nB (!a)=nB (!false):=nC (nD.2 h)
theorem wT (h:(o.guard,(l[j]?).bind (·.dst),σ e)=(some (j,true),some e,.bool (decide p))) (c:Hid p):wanted l σ o=true:=by
 simp only [nE] at h;exact wJW h.1 h.2.1 (h.2.2.trans (wTM c.out))
theorem wF (h:(o.guard,(l[j]?).bind (·.dst),σ e)=(some (j,false),some e,.bool (decide p))) (c:Hid (¬ p)):wanted l σ o=true:=by
 simp only [nE] at h;exact wJW h.1 h.2.1 (h.2.2.trans (wTN c.out))
theorem rU (h:(l[i]?,o.dst,nG d N)=(some o,some d,true)) (hw:wanted l σ o=true) (hr:∀ {w'},Runs P σ w' o v w') (k:OKS N P l Q D ks s (upd σ d v) w):OKS N P l Q D ks (.fl i s) σ w:=by
 simp only [nE] at h;exact OKS.r h.1 h.2.1 h.2.2 hw (fun _=>hr) k
theorem sR {id:Nat} (s:Sch) (hs:inOrder 0 s l.length=true) (h:OKS N P l (wGG (fun D σ w=>CK r N P c2 Q D σ w) Q) D [] s σ w):CK r N P (.seq (.region id l.toArray false) c2) Q D σ w:=CK.seq (CK.reg s hs h)
theorem rR {id:Nat} (s:Sch) (hs:inOrder 0 s l.length=true) (h:OKS N P l Q D [] s σ w):CK r N P (.region id l.toArray false) Q D σ w:=CK.reg s hs h
theorem eN (h:K D σ w):OKS N P l (wGG K Q) D ks .nil σ w:=OKS.e (wJS h)
theorem cT (hz:ev σ x=.bool (decide p)) (c:Hid p) (h:CK r N P c1 Q D σ w):CK r N P (.cond x c1 c2) Q D σ w:=CK.condT (hz.trans (wTM c.out)) h
theorem cF (hz:ev σ x=.bool (decide p)) (c:Hid (¬ p)) (h:CK r N P c2 Q D σ w):CK r N P (.cond x c1 c2) Q D σ w:=CK.condF (hz.trans (wTN c.out)) h
theorem kN (h:K D σ w):CK r N P .skip (wGG K Q) D σ w:=CK.skip (wJS h)
end
def fL1:Sch:=.fl 0 .nil
def fL2:Sch:=.fl 0 (.fl 1 .nil)
def fL3:Sch:=.fl 0 (.fl 1 (.fl 2 .nil))
def fL4:Sch:=.fl 0 (.fl 1 gAa)
def fL5:Sch:=.fl 0 (.fl 1 (.fl 2 gAb))
def fL6:Sch:=.fl 0 (.fl 1 (.fl 2 (.fl 3 gAc)))
def fL7:Sch:=.fl 0 (.fl 1 (.fl 2 (.fl 3 (.fl 4 (.fl 5 (.fl 6 .nil))))))
def fL8:Sch:=.fl 0 (.fl 1 (.fl 2 (.fl 3 (.fl 4 (.fl 5 (.fl 6 (.fl 7 .nil)))))))
def fL9:Sch:=.fl 0 (.fl 1 (.fl 2 (.fl 3 (.fl 4 (.fl 5 (.fl 6 gAd))))))
def fL10:Sch:=.fl 0 (.fl 1 (.fl 2 (.fl 3 (.fl 4 (.fl 5 (.fl 6 (.fl 7 (.fl 8 (.fl 9 .nil)))))))))
def fL11:Sch:=.fl 0 (.fl 1 (.fl 2 (.fl 3 (.fl 4 (.fl 5 (.fl 6 (.fl 7 (.fl 8 (.fl 9 (.fl 10 .nil))))))))))
def fL12:Sch:=.fl 0 (.fl 1 (.fl 2 (.fl 3 (.fl 4 (.fl 5 (.fl 6 (.fl 7 (.fl 8 (.fl 9 (.fl 10 (.fl 11 .nil)))))))))))
def fL14:Sch:=.fl 0 (.fl 1 (.fl 2 (.fl 3 (.fl 4 (.fl 5 (.fl 6 (.fl 7 (.fl 8 (.fl 9 (.fl 10 (.fl 11 (.fl 12 (.fl 13 .nil)))))))))))))
def fL15:Sch:=.fl 0 (.fl 1 (.fl 2 (.fl 3 (.fl 4 (.fl 5 (.fl 6 (.fl 7 (.fl 8 (.fl 9 (.fl 10 (.fl 11 (.fl 12 (.fl 13 (.fl 14 .nil))))))))))))))
def fL17:Sch:=.fl 0 (.fl 1 (.fl 2 (.fl 3 (.fl 4 (.fl 5 (.fl 6 (.fl 7 (.fl 8 (.fl 9 (.fl 10 (.fl 11 (.fl 12 (.fl 13 (.fl 14 gAe))))))))))))))
def fL18:Sch:=.fl 0 (.fl 1 (.fl 2 (.fl 3 (.fl 4 (.fl 5 (.fl 6 (.fl 7 (.fl 8 (.fl 9 (.fl 10 (.fl 11 (.fl 12 (.fl 13 (.fl 14 (.fl 15 (.fl 16 (.fl 17 .nil)))))))))))))))))
def fL19:Sch:=.fl 0 (.fl 1 (.fl 2 (.fl 3 (.fl 4 (.fl 5 (.fl 6 (.fl 7 (.fl 8 (.fl 9 (.fl 10 (.fl 11 (.fl 12 (.fl 13 (.fl 14 (.fl 15 (.fl 16 (.fl 17 (.fl 18 .nil))))))))))))))))))
def fL22:Sch:=.fl 0 (.fl 1 (.fl 2 (.fl 3 (.fl 4 (.fl 5 (.fl 6 (.fl 7 (.fl 8 (.fl 9 (.fl 10 (.fl 11 (.fl 12 (.fl 13 (.fl 14 (.fl 15 (.fl 16 (.fl 17 (.fl 18 (.fl 19 (.fl 20 (.fl 21 .nil)))))))))))))))))))))
def fL23:Sch:=.fl 0 (.fl 1 (.fl 2 (.fl 3 (.fl 4 (.fl 5 (.fl 6 (.fl 7 (.fl 8 (.fl 9 (.fl 10 (.fl 11 (.fl 12 (.fl 13 (.fl 14 (.fl 15 (.fl 16 (.fl 17 (.fl 18 (.fl 19 (.fl 20 (.fl 21 (.fl 22 .nil))))))))))))))))))))))
def fL26:Sch:=.fl 0 (.fl 1 (.fl 2 (.fl 3 (.fl 4 (.fl 5 (.fl 6 (.fl 7 (.fl 8 (.fl 9 (.fl 10 (.fl 11 (.fl 12 (.fl 13 (.fl 14 (.fl 15 (.fl 16 (.fl 17 (.fl 18 (.fl 19 (.fl 20 (.fl 21 (.fl 22 (.fl 23 (.fl 24 (.fl 25 .nil)))))))))))))))))))))))))
def fL32:Sch:=.fl 0 (.fl 1 (.fl 2 (.fl 3 (.fl 4 (.fl 5 (.fl 6 (.fl 7 (.fl 8 (.fl 9 (.fl 10 (.fl 11 (.fl 12 (.fl 13 (.fl 14 (.fl 15 (.fl 16 (.fl 17 (.fl 18 (.fl 19 (.fl 20 (.fl 21 (.fl 22 (.fl 23 (.fl 24 (.fl 25 (.fl 26 (.fl 27 (.fl 28 (.fl 29 (.fl 30 (.fl 31 .nil)))))))))))))))))))))))))))))))
def fL43:Sch:=.fl 0 (.fl 1 (.fl 2 (.fl 3 (.fl 4 (.fl 5 (.fl 6 (.fl 7 (.fl 8 (.fl 9 (.fl 10 (.fl 11 (.fl 12 (.fl 13 (.fl 14 (.fl 15 (.fl 16 (.fl 17 (.fl 18 (.fl 19 (.fl 20 (.fl 21 (.fl 22 (.fl 23 (.fl 24 (.fl 25 (.fl 26 (.fl 27 (.fl 28 (.fl 29 (.fl 30 (.fl 31 (.fl 32 (.fl 33 (.fl 34 (.fl 35 (.fl 36 (.fl 37 (.fl 38 (.fl 39 (.fl 40 (.fl 41 (.fl 42 .nil))))))))))))))))))))))))))))))))))))))))))
def wEG (s:Sch):Sch:=.fl 0 (.fl 1 (.fl 2 (s)))
def wEZ (s:Sch):Sch:=.fl 0 (.fl 1 (.fl 2 (.fl 3 (s))))
def wIc (s:Sch):Sch:=.fl 0 (.fl 1 (.fl 2 (.fl 3 (.fl 4 (s)))))
def wId (s:Sch):Sch:=.fl 0 (.fl 1 (.fl 2 (.fl 3 (.fl 4 (.fl 5 (s))))))
def wNc (s:Sch):Sch:=.fl 0 (.fl 1 (.fl 2 (.fl 3 (.fl 4 (.fl 5 (.fl 6 (s)))))))
def wUh (s:Sch):Sch:=.fl 0 (.fl 1 (.fl 2 (.fl 3 (.fl 4 (.fl 5 (.fl 6 (.fl 7 (s))))))))
def fC0_8 (s:Sch):Sch:=.fl 0 (.fl 1 (.fl 2 (.fl 3 (.fl 4 (.fl 5 (.fl 6 (.fl 7 (.fl 8 (s)))))))))
def wUi (s:Sch):Sch:=.fl 0 (.fl 1 (.fl 2 (.fl 3 (.fl 4 (.fl 5 (.fl 6 (.fl 7 (.fl 8 (.fl 9 (s))))))))))
def wUj (s:Sch):Sch:=.fl 0 (.fl 1 (.fl 2 (.fl 3 (.fl 4 (.fl 5 (.fl 6 (.fl 7 (.fl 8 (.fl 9 (.fl 10 (s)))))))))))
def wUk (s:Sch):Sch:=.fl 0 (.fl 1 (.fl 2 (.fl 3 (.fl 4 (.fl 5 (.fl 6 (.fl 7 (.fl 8 (.fl 9 (.fl 10 (.fl 11 (.fl 12 (.fl 13 (s))))))))))))))
def wUl (s:Sch):Sch:=.fl 0 (.fl 1 (.fl 2 (.fl 3 (.fl 4 (.fl 5 (.fl 6 (.fl 7 (.fl 8 (.fl 9 (.fl 10 (.fl 11 (.fl 12 (.fl 13 (.fl 14 (.fl 15 (s))))))))))))))))
def wRQ (s:Sch):Sch:=.fl 0 (.fl 1 (.fl 2 (.fl 3 (.fl 4 (.fl 5 (.fl 6 (.fl 7 (.fl 8 (.fl 9 (.fl 10 (.fl 11 (.fl 12 (.fl 13 (.fl 14 (.fl 15 (.fl 16 (s)))))))))))))))))
def wUm (s:Sch):Sch:=.fl 0 (.fl 1 (.fl 2 (.fl 3 (.fl 4 (.fl 5 (.fl 6 (.fl 7 (.fl 8 (.fl 9 (.fl 10 (.fl 11 (.fl 12 (.fl 13 (.fl 14 (.fl 15 (.fl 16 (.fl 17 (s))))))))))))))))))
def wUn (s:Sch):Sch:=.fl 0 (.fl 1 (.fl 2 (.fl 3 (.fl 4 (.fl 5 (.fl 6 (.fl 7 (.fl 8 (.fl 9 (.fl 10 (.fl 11 (.fl 12 (.fl 13 (.fl 14 (.fl 15 (.fl 16 (.fl 17 (.fl 18 (.fl 19 (.fl 20 (s)))))))))))))))))))))
def wUo (s:Sch):Sch:=.fl 0 (.fl 1 (.fl 2 (.fl 3 (.fl 4 (.fl 5 (.fl 6 (.fl 7 (.fl 8 (.fl 9 (.fl 10 (.fl 11 (.fl 12 (.fl 13 (.fl 14 (.fl 15 (.fl 16 (.fl 17 (.fl 18 (.fl 19 (.fl 20 (.fl 21 (s))))))))))))))))))))))
def wUp (s:Sch):Sch:=.fl 0 (.fl 1 (.fl 2 (.fl 3 (.fl 4 (.fl 5 (.fl 6 (.fl 7 (.fl 8 (.fl 9 (.fl 10 (.fl 11 (.fl 12 (.fl 13 (.fl 14 (.fl 15 (.fl 16 (.fl 17 (.fl 18 (.fl 19 (.fl 20 (.fl 21 (.fl 22 (.fl 23 (.fl 24 (.fl 25 (.fl 26 (.fl 27 (s))))))))))))))))))))))))))))
def fC1_5 (s:Sch):Sch:=.fl 1 (.fl 2 (.fl 3 (.fl 4 (.fl 5 (s)))))
def wUq (s:Sch):Sch:=.fl 1 (.fl 2 (.fl 3 (.fl 4 (.fl 5 (.fl 6 (.fl 7 (.fl 8 (.fl 9 (.fl 10 (.fl 11 (.fl 12 (.fl 13 (.fl 14 (.fl 15 (.fl 16 (.fl 17 (.fl 18 (.fl 19 (s)))))))))))))))))))
def fC2_4 (s:Sch):Sch:=.fl 2 (.fl 3 (.fl 4 (s)))
def fC2_5 (s:Sch):Sch:=.fl 2 (.fl 3 (.fl 4 (.fl 5 (s))))
def fC2_6 (s:Sch):Sch:=.fl 2 (.fl 3 (.fl 4 (.fl 5 (.fl 6 (s)))))
def wUr (s:Sch):Sch:=.fl 3 (.fl 4 (.fl 5 (s)))
def wUs (s:Sch):Sch:=.fl 3 (.fl 4 (.fl 5 (.fl 6 (s))))
def wSv (s:Sch):Sch:=.fl 3 (.fl 4 (.fl 5 (.fl 6 (.fl 7 (s)))))
def wLt (s:Sch):Sch:=.fl 4 (.fl 5 (.fl 6 (.fl 7 (.fl 8 (s)))))
def wUt (s:Sch):Sch:=.fl 4 (.fl 5 (.fl 6 (.fl 7 (.fl 8 (.fl 9 (.fl 10 (s)))))))
def wUu (s:Sch):Sch:=.fl 4 (.fl 5 (.fl 6 (.fl 7 (.fl 8 (.fl 9 (.fl 10 (.fl 11 (.fl 12 (.fl 13 (.fl 14 (s)))))))))))
def wUv (s:Sch):Sch:=.fl 4 (.fl 5 (.fl 6 (.fl 7 (.fl 8 (.fl 9 (.fl 10 (.fl 11 (.fl 12 (.fl 13 (.fl 14 (.fl 15 (.fl 16 (.fl 17 (.fl 18 (s)))))))))))))))
def wUw (s:Sch):Sch:=.fl 4 (.fl 5 (.fl 6 (.fl 7 (.fl 8 (.fl 9 (.fl 10 (.fl 11 (.fl 12 (.fl 13 (.fl 14 (.fl 15 (.fl 16 (.fl 17 (.fl 18 (.fl 19 (.fl 20 (.fl 21 (s))))))))))))))))))
def wUx (s:Sch):Sch:=.fl 4 (.fl 5 (.fl 6 (.fl 7 (.fl 8 (.fl 9 (.fl 10 (.fl 11 (.fl 12 (.fl 13 (.fl 14 (.fl 15 (.fl 16 (.fl 17 (.fl 18 (.fl 19 (.fl 20 (.fl 21 (.fl 22 (.fl 23 (s))))))))))))))))))))
def wPo (s:Sch):Sch:=.fl 5 (.fl 6 (.fl 7 (s)))
def wUy (s:Sch):Sch:=.fl 5 (.fl 6 (.fl 7 (.fl 8 (s))))
def wLu (s:Sch):Sch:=.fl 5 (.fl 6 (.fl 7 (.fl 8 (.fl 9 (s)))))
def wRR (s:Sch):Sch:=.fl 5 (.fl 6 (.fl 7 (.fl 8 (.fl 9 (.fl 10 (.fl 11 (.fl 12 (.fl 13 (.fl 14 (.fl 15 (s)))))))))))
def wUz (s:Sch):Sch:=.fl 6 (.fl 7 (.fl 8 (.fl 9 (.fl 10 (s)))))
def wRS (s:Sch):Sch:=.fl 6 (.fl 7 (.fl 8 (.fl 9 (.fl 10 (.fl 11 (.fl 12 (s)))))))
def wVA (s:Sch):Sch:=.fl 7 (.fl 8 (.fl 9 (s)))
def wPp (s:Sch):Sch:=.fl 7 (.fl 8 (.fl 9 (.fl 10 (.fl 11 (.fl 12 (s))))))
def wRT (s:Sch):Sch:=.fl 7 (.fl 8 (.fl 9 (.fl 10 (.fl 11 (.fl 12 (.fl 13 (s)))))))
def wVB (s:Sch):Sch:=.fl 8 (.fl 9 (.fl 10 (s)))
def wVC (s:Sch):Sch:=.fl 8 (.fl 9 (.fl 10 (.fl 11 (s))))
def wVD (s:Sch):Sch:=.fl 9 (.fl 10 (.fl 11 (.fl 12 (s))))
def wSw (s:Sch):Sch:=.fl 10 (.fl 11 (.fl 12 (.fl 13 (s))))
def wSx (s:Sch):Sch:=.fl 10 (.fl 11 (.fl 12 (.fl 13 (.fl 14 (.fl 15 (.fl 16 (.fl 17 (.fl 18 (.fl 19 (.fl 20 (.fl 21 (.fl 22 (s)))))))))))))
def wPq (s:Sch):Sch:=.fl 11 (.fl 12 (.fl 13 (s)))
def wHC (s:Sch):Sch:=.fl 11 (.fl 12 (.fl 13 (.fl 14 (s))))
def wSy (s:Sch):Sch:=.fl 11 (.fl 12 (.fl 13 (.fl 14 (.fl 15 (.fl 16 (s))))))
def wSz (s:Sch):Sch:=.fl 11 (.fl 12 (.fl 13 (.fl 14 (.fl 15 (.fl 16 (.fl 17 (.fl 18 (s))))))))
def wTA (s:Sch):Sch:=.fl 12 (.fl 13 (.fl 14 (.fl 15 (.fl 16 (s)))))
def wTB (s:Sch):Sch:=.fl 14 (.fl 15 (.fl 16 (.fl 17 (.fl 18 (.fl 19 (.fl 20 (.fl 21 (s))))))))
def wTC (s:Sch):Sch:=.fl 18 (.fl 19 (.fl 20 (.fl 21 (.fl 22 (.fl 23 (s))))))
theorem zA:type_of% @nH:=@nH
theorem zB:type_of% @Tryz.sizeOf3:=@Tryz.sizeOf3
theorem zC:type_of% @Tryz.runUnderlying22:=@Tryz.runUnderlying22
theorem zD:type_of% @wNg:=@wNg
theorem zE:type_of% @Runs.fa:=@Runs.fa
theorem zF:type_of% @Tryz.isAgg3:=@Tryz.isAgg3
theorem zG:type_of% @wJS:=@wJS
theorem zH:type_of% @CK.seq:=@CK.seq
theorem zI:type_of% @Hid.mk:=@Hid.mk
theorem zJ:type_of% @Tryz.sizeOf123:=@Tryz.sizeOf123
theorem zK:type_of% @OKS.callH:=@OKS.callH
theorem zL:type_of% @Enters.mk:=@Enters.mk
theorem zM:type_of% @PHeap.Le.refl:=@PHeap.Le.refl
theorem zN:type_of% @wNf:=@wNf
theorem zO:type_of% @wJW:=@wJW
theorem zP:type_of% @CK.ret:=@CK.ret
theorem zQ:type_of% @wQp:=@wQp
theorem zR:type_of% @Tryz.runUnderlying49:=@Tryz.runUnderlying49
theorem zS:type_of% @Tryz.sizeOf22:=@Tryz.sizeOf22
theorem zU:type_of% @Tryz.runUnderlying27:=@Tryz.runUnderlying27
theorem zV:type_of% @Tryz.runUnderlying36:=@Tryz.runUnderlying36
theorem zW:type_of% @CK.block:=@CK.block
theorem zX:type_of% @Runs.lss:=@Runs.lss
theorem zY:type_of% @Tryz.isAgg22:=@Tryz.isAgg22
theorem zZ:type_of% @Runs.addw:=@Runs.addw
theorem zd:type_of% @Runs.len:=@Runs.len
theorem ze:type_of% @OKS.alloc:=@OKS.alloc
theorem zf:type_of% @wNe:=@wNe
theorem zg:type_of% @wLw:=@wLw
theorem zh:type_of% @OKS.e:=@OKS.e
theorem zi:type_of% @wHf:=@wHf
theorem zj:type_of% @Tryz.zeroValue123:=@Tryz.zeroValue123
theorem zk:type_of% @OKS.r:=@OKS.r
theorem zl:type_of% @Runs.pickT:=@Runs.pickT
theorem zm:type_of% @OKS.st:=@OKS.st
theorem zn:type_of% @Tryz.isAgg123:=@Tryz.isAgg123
theorem zo:type_of% @Tryz.sizeOf27:=@Tryz.sizeOf27
theorem zq:type_of% @wLv:=@wLv
theorem zr:type_of% @Tryz.runUnderlying23:=@Tryz.runUnderlying23
theorem zt:type_of% @Runs.pickF:=@Runs.pickF
theorem zu:type_of% @Runs.ext:=@Runs.ext
theorem zw:type_of% @OKS.both:=@OKS.both
theorem zx:type_of% @CK.condF:=@CK.condF
theorem zy:type_of% @Tryz.mixed:=@Tryz.mixed
theorem zz:type_of% @OKS.rm:=@OKS.rm
theorem ZA:type_of% @Tryz.runUnderlying39:=@Tryz.runUnderlying39
theorem ZB:type_of% @Tryz.isAgg27:=@Tryz.isAgg27
theorem ZC:type_of% @Runs.iaI:=@Runs.iaI
theorem ZD:type_of% @CK.anyOrd:=@CK.anyOrd
theorem ZE:type_of% @OKS.box:=@OKS.box
theorem ZF:type_of% @OKS.p:=@OKS.p
theorem ZG:type_of% @CK.condT:=@CK.condT
theorem ZH:type_of% @res1:=@res1
theorem ZI:type_of% @OKS.m:=@OKS.m
theorem ZJ:type_of% @Tryz.runUnderlying139:=@Tryz.runUnderlying139
theorem ZK:type_of% @wJT:=@wJT
theorem ZL:type_of% @Runs.iaN:=@Runs.iaN
theorem ZM:type_of% @Tryz.runUnderlying93:=@Tryz.runUnderlying93
theorem ZN:type_of% @Tryz.sizeOf36:=@Tryz.sizeOf36
theorem ZO:type_of% @Runs.build:=@Runs.build
theorem ZP:type_of% @Runs.to:=@Runs.to
theorem ZQ:type_of% @Tryz.runUnderlying136:=@Tryz.runUnderlying136
theorem ZR:type_of% @Tryz.sizeOf39:=@Tryz.sizeOf39
theorem ZS:type_of% @OKS.cutD:=@OKS.cutD
theorem ZT:type_of% @CK.exit:=@CK.exit
theorem ZU:type_of% @Tryz.runUnderlying29:=@Tryz.runUnderlying29
theorem ZV:type_of% @Tryz.runUnderlying133:=@Tryz.runUnderlying133
theorem ZW:type_of% @OKS.buildSlice:=@OKS.buildSlice
theorem ZX:type_of% @Tryz.runUnderlying24:=@Tryz.runUnderlying24
theorem ZY:type_of% @Tryz.isAgg36:=@Tryz.isAgg36
theorem Za:type_of% @Tryz.zeroValue3:=@Tryz.zeroValue3
theorem Zb:type_of% @OKS.mx2:=@OKS.mx2
theorem Zc:type_of% @Tryz.sizeOf200:=@Tryz.sizeOf200
theorem Zd:type_of% @Tryz.sizeOf23:=@Tryz.sizeOf23
theorem Ze:type_of% @wTN:=@wTN
theorem Zf:type_of% @Runs.notT:=@Runs.notT
theorem Zg:type_of% @Tryz.runUnderlying117:=@Tryz.runUnderlying117
theorem Zh:type_of% @CK.skip:=@CK.skip
theorem Zi:type_of% @Tryz.isAgg23:=@Tryz.isAgg23
theorem Zj:type_of% @Tryz.runUnderlying33:=@Tryz.runUnderlying33
theorem Zk:type_of% @Tryz.runUnderlying25:=@Tryz.runUnderlying25
theorem Zl:type_of% @wTM:=@wTM
theorem Zm:type_of% @Tryz.zeroValue133:=@Tryz.zeroValue133
theorem Zn:type_of% @Tryz.sizeOf115:=@Tryz.sizeOf115
theorem Zo:type_of% @Runs.neq:=@Runs.neq
theorem Zp:type_of% @Tryz.runUnderlying115:=@Tryz.runUnderlying115
theorem Zq:type_of% @Tryz.sizeOf112:=@Tryz.sizeOf112
theorem Zr:type_of% @Tryz.sizeOf33:=@Tryz.sizeOf33
theorem Zs:type_of% @Tryz.zeroValue200:=@Tryz.zeroValue200
theorem Zt:type_of% @Tryz.zeroValue36:=@Tryz.zeroValue36
theorem Zu:type_of% @Runs.nilp:=@Runs.nilp
theorem Zv:type_of% @Tryz.zeroValue118:=@Tryz.zeroValue118
theorem Zw:type_of% @Tryz.runUnderlying34:=@Tryz.runUnderlying34
theorem Zx:type_of% @Tryz.runUnderlying201:=@Tryz.runUnderlying201
theorem Zy:type_of% @Tryz.sizeOf24:=@Tryz.sizeOf24
theorem Zz:type_of% @Tryz.sizeOf136:=@Tryz.sizeOf136
theorem yA:type_of% @Tryz.sizeOf133:=@Tryz.sizeOf133
theorem yB:type_of% @Tryz.isAgg33:=@Tryz.isAgg33
theorem yC:type_of% @Tryz.isAgg136:=@Tryz.isAgg136
theorem yD:type_of% @Tryz.isAgg24:=@Tryz.isAgg24
theorem yE:type_of% @Tryz.runUnderlying200:=@Tryz.runUnderlying200
theorem yF:type_of% @Tryz.runUnderlying116:=@Tryz.runUnderlying116
theorem yG:type_of% @CK.forN:=@CK.forN
theorem yH:type_of% @OKS.append:=@OKS.append
theorem yI:type_of% @Tryz.sizeOf34:=@Tryz.sizeOf34
theorem yJ:type_of% @OKS.px:=@OKS.px
theorem yK:type_of% @Tryz.sizeOf29:=@Tryz.sizeOf29
theorem yL:type_of% @Tryz.sizeOf117:=@Tryz.sizeOf117
theorem yM:type_of% @Tryz.call71:=@Tryz.call71
theorem yN:type_of% @Runs.gtr:=@Runs.gtr
theorem yO:type_of% @Tryz.sizeOf25:=@Tryz.sizeOf25
theorem yP:type_of% @Tryz.sizeOf93:=@Tryz.sizeOf93
theorem yQ:type_of% @Tryz.isAgg25:=@Tryz.isAgg25
theorem yR:type_of% @Tryz.isAgg118:=@Tryz.isAgg118
theorem yS:type_of% @Tryz.zeroValue27:=@Tryz.zeroValue27
theorem yU:type_of% @CK.cut:=@CK.cut
theorem yV:type_of% @Tryz.sizeOf116:=@Tryz.sizeOf116
theorem yW:type_of% @Tryz.runUnderlying112:=@Tryz.runUnderlying112
theorem yX:type_of% @OKS.ra:=@OKS.ra
theorem yY:type_of% @Tryz.runUnderlying184:=@Tryz.runUnderlying184
theorem yZ:type_of% @Tryz.call65:=@Tryz.call65
theorem ya:type_of% @Tryz.isAgg34:=@Tryz.isAgg34
theorem yb:type_of% @Tryz.call127:=@Tryz.call127
theorem yc:type_of% @Tryz.isAgg93:=@Tryz.isAgg93
theorem yd:type_of% @Tryz.sizeOf137:=@Tryz.sizeOf137
theorem ye:type_of% @OKS.stR:=@OKS.stR
theorem yf:type_of% @Tryz.isAgg39:=@Tryz.isAgg39
theorem yg:type_of% @Runs.subw:=@Runs.subw
theorem yh:type_of% @CK.iter:=@CK.iter
theorem yi:type_of% @Tryz.runUnderlying169:=@Tryz.runUnderlying169
theorem yj:type_of% @Tryz.runUnderlying168:=@Tryz.runUnderlying168
theorem yk:type_of% @Tryz.isAgg115:=@Tryz.isAgg115
theorem yl:type_of% @Tryz.isAgg200:=@Tryz.isAgg200
theorem ym:type_of% @RunsK.to:=@RunsK.to
theorem yn:type_of% @Tryz.call68:=@Tryz.call68
theorem yo:type_of% @Tryz.zeroValue39:=@Tryz.zeroValue39
theorem yp:type_of% @CK.fresh:=@CK.fresh
theorem yq:type_of% @Tryz.isAgg29:=@Tryz.isAgg29
theorem yr:type_of% @Tryz.call122:=@Tryz.call122
end Go.Proofs.YtlnfbjphfoipaaaGreat
namespace Go.Proofs.YtlnfbjphfoipaaaGreat
open Go.KL
set_option maxHeartbeats 4000000
theorem wGC (p0:wAA) (aj:Option Addr) (aq:Nat) (ak:Option Addr) (au:Nat) (am:Option Addr) (av:Nat) (ap:Option Addr) (az:Nat) (w:World) (U:PHeap) (hS:St0 w U []) (bd:Sl U 1 aj aq p0.Starts.length (hH KL.encI p0.Starts)) (be:Sl U 2 ak au p0.Splits.length (hH wAB p0.Splits)) (bf:Sl U 3 am av p0.Clocks.length (hH wAD p0.Clocks)) (bg:Sl U 4 ap az p0.Readings.length (hH wAC p0.Readings)) {r:Bool} (hm:wBg p0=some r):Gv Tryz.prog 8 [.agg #[.slice aj p0.Starts.length aq,.slice ak p0.Splits.length au,.slice am p0.Clocks.length av,.slice ap p0.Readings.length az]] w (wCp w [] U (fun U_ L_ v=>v=.bool r/\L_=[])):=by
 unfold wBg at hm
 refine Gv.of Tryz.func8 rfl Tryz.ntmps8 Tryz.results8 rfl (sR gAf rfl (ZE (cs:=[.slice aj p0.Starts.length aq,.slice ak p0.Splits.length au,.slice am p0.Clocks.length av,.slice ap p0.Readings.length az]) rfl rfl rfl rfl rfl rfl (by rfl) hS ?_))
 intro W1 b2 ai
 refine oA Z Z (eN (sR fL23 Z (oR Z (zE Z Z zU Z zS) (oL Z (ai.ldB (j:=0) Z Z Z zY (v:=.slice aj p0.Starts.length aq) Z) (oR Z (zd Z Z zC) (oR Z (yN Z Z Z) (oM Z Z ?_)))))))
 by_cases c5:10 < (↑p0.Starts.length:Int)
 have aW:=hm;rw [if_pos c5] at aW;replace c5:=zI c5
 refine oT Z c5 (oT Z c5 (oT Z c5 (oT Z c5 (oR Z (zl Z (Zl c5.out) Z) (oM Z Z (oN Z (oN Z (oN Z (oN Z (oR Z (zl Z Z Z) (oM Z Z (oN Z (oN Z (oN Z (oN Z (oR Z (zl Z Z Z) (oA Z Z (eN (zP ?_)))))))))))))))))))
 have hE:=nA aW;first | subst r | cases hE
 exact ⟨rfl,_,(ZH rfl),U,_,(ai.pick [] _ (by decide) rfl),rfl,rfl⟩
 have aX:=hm;rw [if_neg c5] at aX;replace c5:=zI c5
 refine rU Z (wF Z c5) (zE Z Z zU Z Zd) (ZI Z Z Z (wF Z c5) (ai.ldB (j:=0) Z Z Z Zi (v:=.slice ak p0.Splits.length au) Z) Z (rU Z (wF Z c5) (zd Z Z zr) (rU Z (wF Z c5) (yN Z Z Z) (oR Z (zt Z (Ze c5.out) Z) (oM Z Z (ifc aX ?_ ?_))))))
 intro c8 a0
 refine oT Z c8 (oT Z c8 (oT Z c8 (oT Z c8 (oR Z (zl Z (Zl c8.out) Z) (oM Z Z (oN Z (oN Z (oN Z (oN Z (oR Z (zl Z Z Z) (oA Z Z (eN (zP ?_)))))))))))))
 have hE:=nA a0;first | subst r | cases hE
 exact ⟨rfl,_,(ZH rfl),U,_,(ai.pick [] _ (by decide) rfl),rfl,rfl⟩
 intro c8 aY
 refine rU Z (wF Z c8) (zE Z Z zU Z Zy) (ZI Z Z Z (wF Z c8) (ai.ldB (j:=0) Z Z Z yD (v:=.slice am p0.Clocks.length av) Z) Z (rU Z (wF Z c8) (zd Z Z ZX) (rU Z (wF Z c8) (yN Z Z Z) (oR Z (zt Z (Ze c8.out) Z) (oM Z Z (ifc aY ?_ ?_))))))
 intro ae aZ
 refine oT Z ae (oT Z ae (oT Z ae (oT Z ae (oR Z (zl Z (Zl ae.out) Z) (oA Z Z (eN (zP ?_)))))))
 have hE:=nA aZ;first | subst r | cases hE
 exact ⟨rfl,_,(ZH rfl),U,_,(ai.pick [] _ (by decide) rfl),rfl,rfl⟩
 intro ae aV
 refine rU Z (wF Z ae) (zE Z Z zU Z yO) (ZI Z Z Z (wF Z ae) (ai.ldB (j:=0) Z Z Z yQ (v:=.slice ap p0.Readings.length az) Z) Z (rU Z (wF Z ae) (zd Z Z Zk) (rU Z (wF Z ae) (yN Z Z Z) (oR Z (zt Z (Ze ae.out) Z) (oA Z Z (eN (zP ?_)))))))
 first | (obtain rfl:=nA aV) | cases aV
 exact ⟨rfl,_,(ZH rfl),U,_,(ai.pick [] _ (by decide) rfl),rfl,rfl⟩
theorem wCU (w:World) (U:PHeap) (hS:St0 w U []) {r:Bool} (hm:wBZ=some r):Gv Tryz.prog 9 [] w (wCp w [] U (fun U_ L_ v=>v=.bool r/\L_=[])):=by
 cases hm
 refine (xr9 w).mono ?_
 rintro v w' ⟨rfl,k⟩
 exact ⟨U,[],hS.grow k,Z,Z⟩
theorem wCq (p0:List Int) (ak:Option Addr) (am:Nat) (w:World) (U:PHeap) (hS:St0 w U []) (aW:Sl U 1 ak am p0.length (hH KL.encI p0)) {r:(List Int)} (hm:wBO p0=some r):Gv Tryz.prog 32 [.slice ak p0.length am] w (wCp w [] U (fun U_ L_ v=>∃ (A0:Option Addr) (c0:Nat),v=.slice A0 r.length c0/\L_=[.row A0 c0 3 1 (hH KL.encI r)])):=by
 unfold wBO at hm
 refine Gv.of Tryz.func32 Z Tryz.ntmps32 Tryz.results32 Z (sR fL1 Z (oA Z Z (eN (sR gAt Z (oM Z Z ?_)))))
 have av:=hS.nilrow 3 1
 have aj:sW w U U [.row none 0 3 1 (hH KL.encI ([]:List Int))] w:=av
 refine bnK hm fun x4 h5 aX=>yH (j:=0) (enc:=KL.encI) (xs:=([]:List Int)) (ys:=p0) (zs:=x4) Z Z Z Z Z Tryz.underlying22 wLg Z Z Z Z Z Z aj Z Z Z (aj.srcS aW) (fun _=>Z) (fun _=>Z) h5 Z ?_
 intro A7 c8 W9 az
 have aV:sW w U U [.row A7 c8 3 1 (hH KL.encI x4)] W9:=az
 refine oA Z Z (eN (zP ?_))
 have hE:=nA aX;first | subst r | cases hE
 exact ⟨Z,_,(ZH Z),U,_,aV,A7,c8,Z,Z⟩
theorem wBY (p0:List wAP) (ak:Option Addr) (am:Nat) (w:World) (U:PHeap) (hS:St0 w U []) (aW:Sl U 2 ak am p0.length (hH wAB p0)) {r:(List wAP)} (hm:wAp p0=some r):Gv Tryz.prog 60 [.slice ak p0.length am] w (wCp w [] U (fun U_ L_ v=>∃ (A0:Option Addr) (c0:Nat),v=.slice A0 r.length c0/\L_=[.row A0 c0 39 2 (hH wAB r)])):=by
 unfold wAp at hm
 refine Gv.of Tryz.func60 Z Tryz.ntmps60 Tryz.results60 Z (sR fL1 Z (oA Z Z (eN (sR gAt Z (oM Z Z ?_)))))
 have av:=hS.nilrow 39 2
 have aj:sW w U U [.row none 0 39 2 (hH wAB ([]:List wAP))] w:=av
 refine bnK hm fun x4 h5 aX=>yH (j:=0) (enc:=wAB) (xs:=([]:List wAP)) (ys:=p0) (zs:=x4) Z Z Z Z Z Tryz.underlying23 wPO Z Z Z Z Z Z aj Z Z Z (aj.srcS aW) (fun _=>Z) (fun _=>Z) h5 Z ?_
 intro A7 c8 W9 az
 have aV:sW w U U [.row A7 c8 39 2 (hH wAB x4)] W9:=az
 refine oA Z Z (eN (zP ?_))
 have hE:=nA aX;first | subst r | cases hE
 exact ⟨Z,_,(ZH Z),U,_,aV,A7,c8,Z,Z⟩
theorem wED (p0:List wAb) (ak:Option Addr) (am:Nat) (w:World) (U:PHeap) (hS:St0 w U []) (aW:Sl U 3 ak am p0.length (hH wAD p0)) {r:(List wAb)} (hm:wBQ p0=some r):Gv Tryz.prog 61 [.slice ak p0.length am] w (wCp w [] U (fun U_ L_ v=>∃ (A0:Option Addr) (c0:Nat),v=.slice A0 r.length c0/\L_=[.row A0 c0 112 3 (hH wAD r)])):=by
 unfold wBQ at hm
 refine Gv.of Tryz.func61 Z Tryz.ntmps61 Tryz.results61 Z (sR fL1 Z (oA Z Z (eN (sR gAt Z (oM Z Z ?_)))))
 have av:=hS.nilrow 112 3
 have aj:sW w U U [.row none 0 112 3 (hH wAD ([]:List wAb))] w:=av
 refine bnK hm fun x4 h5 aX=>yH (j:=0) (enc:=wAD) (xs:=([]:List wAb)) (ys:=p0) (zs:=x4) Z Z Z Z Z Tryz.underlying24 wSY Z Z Z Z Z Z aj Z Z Z (aj.srcS aW) (fun _=>Z) (fun _=>Z) h5 Z ?_
 intro A7 c8 W9 az
 have aV:sW w U U [.row A7 c8 112 3 (hH wAD x4)] W9:=az
 refine oA Z Z (eN (zP ?_))
 have hE:=nA aX;first | subst r | cases hE
 exact ⟨Z,_,(ZH Z),U,_,aV,A7,c8,Z,Z⟩
theorem wDp (p0:List wAU) (ak:Option Addr) (am:Nat) (w:World) (U:PHeap) (hS:St0 w U []) (aW:Sl U 4 ak am p0.length (hH wAC p0)) {r:(List wAU)} (hm:wBF p0=some r):Gv Tryz.prog 62 [.slice ak p0.length am] w (wCp w [] U (fun U_ L_ v=>∃ (A0:Option Addr) (c0:Nat),v=.slice A0 r.length c0/\L_=[.row A0 c0 115 4 (hH wAC r)])):=by
 unfold wBF at hm
 refine Gv.of Tryz.func62 Z Tryz.ntmps62 Tryz.results62 Z (sR fL1 Z (oA Z Z (eN (sR gAt Z (oM Z Z ?_)))))
 have av:=hS.nilrow 115 4
 have aj:sW w U U [.row none 0 115 4 (hH wAC ([]:List wAU))] w:=av
 refine bnK hm fun x4 h5 aX=>yH (j:=0) (enc:=wAC) (xs:=([]:List wAU)) (ys:=p0) (zs:=x4) Z Z Z Z Z Tryz.underlying25 wSZ Z Z Z Z Z Z aj Z Z Z (aj.srcS aW) (fun _=>Z) (fun _=>Z) h5 Z ?_
 intro A7 c8 W9 az
 have aV:sW w U U [.row A7 c8 115 4 (hH wAC x4)] W9:=az
 refine oA Z Z (eN (zP ?_))
 have hE:=nA aX;first | subst r | cases hE
 exact ⟨Z,_,(ZH Z),U,_,aV,A7,c8,Z,Z⟩
theorem wCV (p0:wAA) (ap:Option Addr) (az:Nat) (aq:Option Addr) (aV:Nat) (au:Option Addr) (aW:Nat) (av:Option Addr) (aX:Nat) (w:World) (U:PHeap) (hS:St0 w U []) (cj:Sl U 1 ap az p0.Starts.length (hH KL.encI p0.Starts)) (cm:Sl U 2 aq aV p0.Splits.length (hH wAB p0.Splits)) (cn:Sl U 3 au aW p0.Clocks.length (hH wAD p0.Clocks)) (cp:Sl U 4 av aX p0.Readings.length (hH wAC p0.Readings)) {r:wAA} (hm:wBu p0=some r):Gv Tryz.prog 10 [.agg #[.slice ap p0.Starts.length az,.slice aq p0.Splits.length aV,.slice au p0.Clocks.length aW,.slice av p0.Readings.length aX]] w (wCp w [] U (fun U_ L_ v=>∃ (bn:Option Addr) (bB:Nat) (bo:Option Addr) (bC:Nat) (bp:Option Addr) (bD:Nat) (bq:Option Addr) (bE:Nat),v=.agg #[.slice bn r.Starts.length bB,.slice bo r.Splits.length bC,.slice bp r.Clocks.length bD,.slice bq r.Readings.length bE]/\L_=[.row bn bB 3 1 (hH KL.encI r.Starts),.row bo bC 39 2 (hH wAB r.Splits),.row bp bD 112 3 (hH wAD r.Clocks),.row bq bE 115 4 (hH wAC r.Readings)])):=by
 unfold wBu at hm
 refine Gv.of Tryz.func10 Z Tryz.ntmps10 Tryz.results10 Z (sR gAh Z ?_)
 let B0:List Value:=[.slice ap p0.Starts.length az,.slice aq p0.Splits.length aV,.slice au p0.Clocks.length aW,.slice av p0.Readings.length aX]
 refine ZE (cs:=B0) rfl rfl rfl rfl rfl rfl (by rfl) hS ?_
 intro W1 b2 bW
 let B1:List Value:=[.slice none 0 0,.slice none 0 0,.slice none 0 0,.slice none 0 0]
 refine ze (cs:=B1) Z Z Z Z Z yS Z bW ?_
 intro W5 b6 cf
 refine eN (zH (ZD zy [3,1,2,3,1,2,3,1,2,3,1,2,3,0] (.fl 0 (.fl 1 (.fl 3 (.fl 4 (.fl 6 (.fl 7 (.fl 9 (.fl 10 (.fx 2 (.fx 5 (.fx 8 (.fx 11 (.fl 12 (.fx 13 .nil .stop)) .stop) .stop) .stop) .stop))))))))) (by kernel_rfl) ?_))
 have ah:=cf.drew
 generalize hw_W10:({ W5 with drawn:=W5.drawn + 1 }:World)=bH at ah ⊢
 refine oR Z (zE Z Z zU Z zS) (oL Z (ah.ldB (j:=1) Z Z Z zY (v:=.slice ap p0.Starts.length az) Z) (oR Z (zE Z Z zU Z Zd) (oL Z (ah.ldB (j:=1) Z Z Z Zi (v:=.slice aq p0.Splits.length aV) Z) (oR Z (zE Z Z zU Z Zy) (oL Z (ah.ldB (j:=1) Z Z Z yD (v:=.slice au p0.Clocks.length aW) Z) (oR Z (zE Z Z zU Z yO) (oL Z (ah.ldB (j:=1) Z Z Z yQ (v:=.slice av p0.Readings.length aX) Z) (bnK hm fun bk bK cq=>zK 0 Z Z Z Z (zL Z Z Tryz.call32 (zD Z zQ) Z) ah (fun hs=>wCq p0.Starts ap az bH U hs cj bK) (.inr Z) ?_))))))))
 rintro bs cx cE bv bj bU ⟨aY,bd,rfl,rfl⟩
 let B2:Res:=.row aY bd 3 1 (hH KL.encI bk)
 have bV:sW w U bs [B2,.blk b6 27 B1,.blk b2 27 B0] bv:=bU
 have bL:=cm.le bj
 refine bnK cq fun bm bM cr=>zK 0 Z Z Z Z (zL Z Z Tryz.call60 (zD Z zQ) Z) bV (fun hs=>wBY p0.Splits aq aV bv bs hs bL bM) (.inr Z) ?_
 rintro bt cy cG bw bG bX ⟨aZ,be,rfl,rfl⟩
 let B3:Res:=.row aZ be 39 2 (hH wAB bm)
 have bY:sW w U bt [B3,B2,.blk b6 27 B1,.blk b2 27 B0] bw:=bX
 have bN:=cn.le bj
 have bO:=bN.le bG
 refine bnK cr fun x40 bP ct=>zK 0 Z Z Z Z (zL Z Z Tryz.call61 (zD Z zQ) Z) bY (fun hs=>wED p0.Clocks au aW bw bt hs bO bP) (.inr Z) ?_
 rintro bu cz cH bz cw bZ ⟨a0,bf,rfl,rfl⟩
 let B4:Res:=.row a0 bf 112 3 (hH wAD x40)
 have b5:sW w U bu [B4,B3,B2,.blk b6 27 B1,.blk b2 27 B0] bz:=bZ
 have bQ:=cp.le bj
 have bR:=bQ.le bG
 have bS:=bR.le cw
 refine bnK ct fun x56 bT cu=>zK 0 Z Z Z Z (zL Z Z Tryz.call62 (zD Z zQ) Z) b5 (fun hs=>wDp p0.Readings av aX bz bu hs bS bT) (.inr Z) ?_
 rintro bi cA cI bI cD cb ⟨ba,bg,rfl,rfl⟩
 let B5:Res:=.row ba bg 115 4 (hH wAC x56)
 have cd:sW w U bi [B5,B4,B3,B2,.blk b6 27 B1,.blk b2 27 B0] bI:=cb
 let B6:List Value:=[.slice aY bk.length bd,.slice aZ bm.length be,.slice a0 x40.length bf,.slice ba x56.length bg]
 refine oR Z (ZO (pv:=[(0,.slice aY bk.length bd),(1,.slice aZ bm.length be),(2,.slice a0 x40.length bf),(3,.slice ba x56.length bg)]) (z:=B1) (cs:=B6) Z (wAH Z (wAH Z (wAH Z (wAH Z wAY)))) yS wQU Z Z) (zm (j:=4) (vs:=B6) Z Z Z Z cd Z Z Z Z zo (zA Z) Z Z Z ?_)
 intro bJ cg
 have bF:sW w U bi [B5,B4,B3,B2,.blk b6 27 B6,.blk b2 27 B0] bJ:=cg
 refine eN (zP ?_)
 cases cu
 exact ⟨rfl,_,(wKE (v:=.agg B6.toArray) ⟨⟨_,rfl,(wBt ZB zo (bF.blkAt (k:=4) rfl) (vs:=B6) rfl rfl)⟩,trivial⟩),bi,_,(bF.pick [3,2,1,0] _ (by decide) rfl),aY,bd,aZ,be,a0,bf,ba,bg,rfl,rfl⟩
theorem wCL (p0:wAA) (br:Option Addr) (bs:Nat) (bg:Option Addr) (bh:Nat) (bB:Option Addr) (bD:Nat) (bC:Option Addr) (bE:Nat) (w:World) (U:PHeap) (hS:St0 w U []) (dM:Sl U 1 br bs p0.Starts.length (hH KL.encI p0.Starts)) (cE:Sl U 2 bg bh p0.Splits.length (hH wAB p0.Splits)) (gh:Sl U 3 bB bD p0.Clocks.length (hH wAD p0.Clocks)) (gi:Sl U 4 bC bE p0.Readings.length (hH wAC p0.Readings)) {r:wAK} (hm:wBh p0=some r):Gv Tryz.prog 11 [.agg #[.slice br p0.Starts.length bs,.slice bg p0.Splits.length bh,.slice bB p0.Clocks.length bD,.slice bC p0.Readings.length bE]] w (wCp w [] U (fun U_ L_ v=>∃ (cL:Option Addr) (dl:Nat) (cM:Option Addr) (dm:Nat) (cN:Option Addr) (dp:Nat) (cO:Option Addr) (dq:Nat),v=.agg #[.slice cL r.Starts.length dl,.slice cM r.Splits.length dm,.slice cN r.Clocks.length dp,.slice cO r.Readings.length dq]/\L_=[.row cL dl 3 1 (hH KL.encI r.Starts),.row cM dm 39 2 (hH wAB r.Splits),.row cN dp 116 3 (hH wAG r.Clocks),.row cO dq 117 4 (hH wAF r.Readings)])):=by
 unfold wBh at hm
 refine Gv.of Tryz.func11 Z Tryz.ntmps11 Tryz.results11 Z (sR gAh Z ?_)
 let B0:List Value:=[.slice br p0.Starts.length bs,.slice bg p0.Splits.length bh,.slice bB p0.Clocks.length bD,.slice bC p0.Readings.length bE]
 refine ZE (cs:=B0) rfl rfl rfl rfl rfl rfl (by rfl) hS ?_
 intro W1 b2 fN
 let B1:List Value:=[.slice none 0 0,.slice none 0 0,.slice none 0 0,.slice none 0 0]
 refine ze (cs:=B1) Z Z Z Z Z Zt Z fN ?_
 intro W5 b6 fY
 refine eN ?_
 have q:=bnd hm
 obtain ⟨⟨aW,aX⟩,gD,dN⟩:=q
 try dsimp only at dN
 refine yU (fun σ_ w_=>∃ (U_:PHeap) (ap:Nat) (ak:Option Addr) (aq:Nat) (am:Option Addr) (au:Nat),σ_ 1=.pointer (some ⟨b2,0,none⟩)/\σ_ 2=.pointer (some ⟨b6,0,none⟩)/\σ_ 3=.pointer (some ⟨ap,0,none⟩)/\PHeap.Le U U_/\sW w U U_ [.blk b6 36 B1,.blk b2 27 B0,.blk ap 36 [.slice ak aW.length aq,.slice am aX.length au,.slice none 0 0,.slice none 0 0],.row ak aq 3 1 (hH KL.encI aW),.row am au 39 2 (hH wAB aX)] w_) ?_ ?_
 refine bnK gD fun ba dA gC=>bnK gC fun aY cA cK=>ZD zy [3,1,2,3,1,2,3,2,0] (.fl 0 (.fl 1 (.fl 3 (.fl 4 (.fx 2 (.fx 5 (.fl 6 gAi) (.fx 7 gAu .stop)) (.fx 7 (.fx 2 gAu .stop) .stop)))))) (by kernel_rfl) ?_
 have bw:=fY.drew
 generalize hw_W57:({ W5 with drawn:=W5.drawn + 1 }:World)=eg at bw ⊢
 refine oR Z (zE Z Z zU Z zS) (oL Z (bw.ldB (j:=1) Z Z Z zY (v:=.slice br p0.Starts.length bs) Z) (oR Z (zE Z Z zU Z Zd) (oL Z (bw.ldB (j:=1) Z Z Z Zi (v:=.slice bg p0.Splits.length bh) Z) (zw ?_ ?_))))
 refine zK 0 Z Z Z Z (zL Z Z Tryz.call32 (zD Z zQ) Z) bw (fun hs=>wCq p0.Starts br bs eg U hs dM dA) (.inr Z) ?_
 rintro cq gO io dh bV fW ⟨bb,bd,rfl,rfl⟩
 let B2:Res:=.row bb bd 3 1 (hH KL.encI ba)
 have dL:sW w U cq [B2,.blk b6 36 B1,.blk b2 27 B0] dh:=fW
 refine zw ?_ ?_
 have fb:=cE.le bV
 refine zK 0 Z Z Z Z (zL Z Z Tryz.call60 (zD Z zQ) Z) dL (fun hs=>wBY p0.Splits bg bh dh cq hs fb cA) (.inr Z) ?_
 rintro cr gP ip eh gK fZ ⟨bL,bU,rfl,rfl⟩
 let B3:Res:=.row bL bU 39 2 (hH wAB aY)
 have ga:sW w U cr [B3,B2,.blk b6 36 B1,.blk b2 27 B0] eh:=fZ
 let B4:List Value:=[.slice bb ba.length bd,.slice bL aY.length bU,.slice none 0 0,.slice none 0 0]
 refine oR Z (ZO (pv:=[(0,.slice bb ba.length bd),(1,.slice bL aY.length bU)]) (z:=B1) (cs:=B4) Z (wAH Z (wAH Z wAY)) Zt wJn Z Z) (ze (cs:=B1) Z Z Z Z Z Zt Z ga ?_)
 intro g8 dk gb
 refine zm (j:=0) (vs:=B4) Z Z Z Z gb Z Z Z Z ZN (zA Z) Z Z Z ?_
 intro ej ge
 have gf:sW w U cr [.blk dk 36 B4,B3,B2,.blk b6 36 B1,.blk b2 27 B0] ej:=ge
 refine zh ?_
 cases cK
 exact zG ⟨rfl,⟨cr,dk,bb,bd,bL,bU,rfl,rfl,rfl,(bV.trans gK),(gf.pick [3,4,0,2,1] _ (by decide) rfl)⟩⟩
 refine ze (cs:=B1) Z Z Z Z Z Zt Z dL ?_
 intro en ct gg
 have eS:=cE.le bV
 refine zK 0 Z Z Z Z (zL Z Z Tryz.call60 (zD Z zQ) Z) gg (fun hs=>wBY p0.Splits bg bh en cq hs eS cA) (.inr Z) ?_
 rintro cn gL ik dT gH fh ⟨bG,bP,rfl,rfl⟩
 let B5:Res:=.row bG bP 39 2 (hH wAB aY)
 have fj:sW w U cn [B5,.blk ct 36 B1,B2,.blk b6 36 B1,.blk b2 27 B0] dT:=fh
 let B6:List Value:=[.slice bb ba.length bd,.slice bG aY.length bP,.slice none 0 0,.slice none 0 0]
 refine oR Z (ZO (pv:=[(0,.slice bb ba.length bd),(1,.slice bG aY.length bP)]) (z:=B1) (cs:=B6) Z (wAH Z (wAH Z wAY)) Zt wJn Z Z) (zm (j:=1) (vs:=B6) Z Z Z Z fj Z Z Z Z ZN (zA Z) Z Z Z ?_)
 intro dU fm
 have fq:sW w U cn [B5,.blk ct 36 B6,B2,.blk b6 36 B1,.blk b2 27 B0] dU:=fm
 refine zh ?_
 cases cK
 exact zG ⟨rfl,⟨cn,ct,bb,bd,bG,bP,rfl,rfl,rfl,(bV.trans gH),(fq.pick [3,4,1,2,0] _ (by decide) rfl)⟩⟩
 refine ze (cs:=B1) Z Z Z Z Z Zt Z bw ?_
 intro dV bM ft
 refine zK 0 Z Z Z Z (zL Z Z Tryz.call32 (zD Z zQ) Z) ft (fun hs=>wCq p0.Starts br bs dV U hs dM dA) (.inr Z) ?_
 rintro cZ gM il df dO fu ⟨bH,bQ,rfl,rfl⟩
 let B7:Res:=.row bH bQ 3 1 (hH KL.encI ba)
 have fw:sW w U cZ [B7,.blk bM 36 B1,.blk b6 36 B1,.blk b2 27 B0] df:=fu
 have eU:=cE.le dO
 refine zK 0 Z Z Z Z (zL Z Z Tryz.call60 (zD Z zQ) Z) fw (fun hs=>wBY p0.Splits bg bh df cZ hs eU cA) (.inr Z) ?_
 rintro cp gN im dW gI fy ⟨bI,bR,rfl,rfl⟩
 let B8:Res:=.row bI bR 39 2 (hH wAB aY)
 have fz:sW w U cp [B8,B7,.blk bM 36 B1,.blk b6 36 B1,.blk b2 27 B0] dW:=fy
 let B9:List Value:=[.slice bH ba.length bQ,.slice bI aY.length bR,.slice none 0 0,.slice none 0 0]
 refine oR Z (ZO (pv:=[(0,.slice bH ba.length bQ),(1,.slice bI aY.length bR)]) (z:=B1) (cs:=B9) Z (wAH Z (wAH Z wAY)) Zt wJn Z Z) (zm (j:=2) (vs:=B9) Z Z Z Z fz Z Z Z Z ZN (zA Z) Z Z Z ?_)
 intro dX fA
 have fB:sW w U cp [B8,B7,.blk bM 36 B9,.blk b6 36 B1,.blk b2 27 B0] dX:=fA
 refine zh ?_
 cases cK
 exact zG ⟨rfl,⟨cp,bM,bH,bQ,bI,bR,rfl,rfl,rfl,(dO.trans gI),(fB.pick [3,4,2,1,0] _ (by decide) rfl)⟩⟩
 rintro it gR ⟨da,ap,ak,aq,am,au,du,eD,eE,dP,dD⟩
 refine zH (sR fL4 Z (oR Z (zE Z du zU Z Zy) (oL Z (dD.ldB (j:=1) Z Z Z yD (v:=.slice bB p0.Clocks.length bD) Z) (oR Z (zd Z Z ZX) (oM Z Z (eN (zW (bnK dN fun bF gj gw=>?_))))))))
 have q:=wBc gj
 obtain ⟨cI,gm⟩:=q
 replace cI:=zI cI
 let az:Res:=.row am au 39 2 (hH wAB aX)
 let aV:Res:=.row ak aq 3 1 (hH KL.encI aW)
 refine CK.forN' (fun bz be σ_ w_=>∃ (U_:PHeap) (bi:Option Addr) (bo:Nat),σ_ 18=jV (↑bz:Int)/\σ_ 1=.pointer (some ⟨b2,0,none⟩)/\σ_ 2=.pointer (some ⟨b6,0,none⟩)/\σ_ 3=.pointer (some ⟨ap,0,none⟩)/\σ_ 16=.slice bB p0.Clocks.length bD/\σ_ 17=jV (↑p0.Clocks.length:Int)/\PHeap.Le da U_/\sW w U U_ [.blk b6 36 B1,.blk b2 27 B0,aV,az,.row bi bo 116 3 (hH wAG be),.blk ap 36 [.slice ak aW.length aq,.slice am aX.length au,.slice bi be.length bo,.slice none 0 0]] w_) gm ?_ ?_ ?_
 have fC:=dD.nilrow 116 3
 exact ⟨da,none,0,rfl,du,eD,eE,rfl,rfl,(zM _),(fC.pick [1,2,4,5,0,3] _ (by decide) rfl)⟩
 rintro bz be iq iu gS cG ⟨bu,bi,bo,cy,eF,eG,cw,dv,dw,dQ,dE⟩ gF
 have dr:Hid ((↑bz:Int) < (↑p0.Clocks.length:Int)):=zI (wBJ cG)
 replace cG:=zI cG
 have gu:Hid (w64 ((↑bz:Int) + 1)=(↑(bz + 1):Int)):=zI (by have h1:=cI.out;have h2:=dr.out;rw [wAX] <;> omega)
 refine sR fL1 Z (oR Z (zX Z cy dw) (eN (zH (cT Z dr (kN (zH (zW (sR gBc Z (bnK gF fun av dB gx=>?_)))))))))
 have eV:=gh.le dP
 have eW:=eV.le dQ
 have q:=eW.el (fun _=>rfl) (wAS dB)
 obtain ⟨g9,ii,fc,ff⟩:=q
 refine oR Z (ZL Z dv fc cy ZX Zq (wBk dB)) (oL Z (dE.ldCA (f:=0) ff Z Z Tryz.isAgg112 Zq (us:=[jV av.Offset.Lo,jV av.Offset.Hi,jV av.Error]) Z Z) ?_)
 let cP:List Value:=[jV 0,jV 0,jV 0]
 refine ze (cs:=cP) Z Z Z Z Z Tryz.zeroValue112 Z dE ?_
 intro gU bN fD
 let aZ:List Value:=[jV av.Offset.Lo,jV av.Offset.Hi,jV av.Error]
 refine zm (j:=0) (vs:=aZ) Z Z Z Z fD Z Z Z Z Zq (zA Z) Z Z Z ?_
 intro dY fE
 let bZ:Res:=.blk ap 36 [.slice ak aW.length aq,.slice am aX.length au,.slice bi be.length bo,.slice none 0 0]
 let cQ:Res:=.row bi bo 116 3 (hH wAG be)
 have cC:sW w U bu [.blk bN 112 aZ,.blk b6 36 B1,.blk b2 27 B0,aV,az,cQ,bZ] dY:=fE
 refine eN (rR (wEG gBd) Z (oR Z (zE Z cw zV Z Zr) (oL Z (cC.ldB (j:=6) Z Z Z yB (v:=.slice bi be.length bo) Z) (oL Z (cC.ldBA (j:=0) Z Z Z Tryz.isAgg112 Zq (vs:=aZ) Z Z) (ZW (pv:=[(0,.agg aZ.toArray)]) (zs:=cP) (cs:=aZ) Z Z Z Z Z (wAH Z wAY) Zj yV Tryz.zeroValue116 Z Z Z Z Z cC ?_)))))
 intro dZ eu fG
 let b5:Res:=.row (some ⟨eu,0,none⟩) 1 116 3 (hH wAG [(⟨av.Offset,av.Error⟩:wAt)])
 have dF:sW w U bu [b5,.blk bN 112 aZ,.blk b6 36 B1,.blk b2 27 B0,aV,az,cQ,bZ] dZ:=fG
 refine bnK gx fun bW eX gy=>yH (j:=6) (enc:=wAG) (xs:=be) (ys:=[(⟨av.Offset,av.Error⟩:wAt)]) (zs:=bW) rfl rfl rfl rfl rfl Tryz.underlying33 wSa rfl rfl rfl rfl rfl rfl dF rfl rfl rfl (dF.srcR (j:=0) rfl (by decide) (wAI (f:=wAG) (sz:=3) (fun _=>rfl) [(⟨av.Offset,av.Error⟩:wAt)])) (fun _=>rfl) (fun _=>rfl) eX rfl ?_
 intro bJ bS d4 fH
 let cR:Res:=.row bJ bS 116 3 (hH wAG bW)
 have fJ:sW w U bu [b5,.blk bN 112 aZ,.blk b6 36 B1,.blk b2 27 B0,aV,az,cR,bZ] d4:=fH
 refine oR Z (zE Z cw zV Z Zr) (zm (j:=7) (vs:=[.slice bJ bW.length bS]) Z Z Z Z fJ Z Z Z Z Zr (zA Z) Z Z Z ?_)
 intro d5 fK
 have fL:sW w U bu [b5,.blk bN 112 aZ,.blk b6 36 B1,.blk b2 27 B0,aV,az,cR,.blk ap 36 [.slice ak aW.length aq,.slice am aX.length au,.slice bJ bW.length bS,.slice none 0 0]] d5:=fK
 refine zh (zq (zG (rR fL2 Z (oR Z (ZP (zZ Z cy Z) (congrArg (jV) gu.out)) (oM Z Z (zh ?_))))))
 cases gy
 exact zG ⟨rfl,⟨bu,bJ,bS,rfl,eF,eG,cw,dv,dw,dQ,(fL.pick [2,3,4,5,6,7] _ (by decide) rfl)⟩⟩
 rintro iv gW ⟨db,bj,bp,eQ,eH,eI,eJ,ic,eK,gJ,dG⟩
 have eA:Hid (¬ ((↑(((↑p0.Clocks.length:Int):Int) - 0).toNat:Int) < (↑p0.Clocks.length:Int))):=zI (wAj)
 refine sR fL1 Z (oR Z (zX Z eQ eK) (eN (zH (cF Z eA (ZT (zf (zf (ZK (zG (zH (sR fL4 Z (oR Z (zE Z eH zU Z yO) (oL Z (dG.ldB (j:=1) Z Z Z yQ (v:=.slice bC p0.Readings.length bE) Z) (oR Z (zd Z Z Zk) (oM Z Z (eN (zW (bnK gw fun dS gq gz=>?_))))))))))))))))))
 have q:=wBc gq
 obtain ⟨cJ,gt⟩:=q
 replace cJ:=zI cJ
 let bm:Res:=.row bj bp 116 3 (hH wAG bF)
 refine CK.forN' (fun bA bf σ_ w_=>∃ (U_:PHeap) (bk:Option Addr) (bq:Nat),σ_ 32=jV (↑bA:Int)/\σ_ 2=.pointer (some ⟨b6,0,none⟩)/\σ_ 3=.pointer (some ⟨ap,0,none⟩)/\σ_ 30=.slice bC p0.Readings.length bE/\σ_ 31=jV (↑p0.Readings.length:Int)/\PHeap.Le db U_/\sW w U U_ [.blk b6 36 B1,.blk b2 27 B0,aV,az,bm,.row bk bq 117 4 (hH wAF bf),.blk ap 36 [.slice ak aW.length aq,.slice am aX.length au,.slice bj bF.length bp,.slice bk bf.length bq]] w_) gt ?_ ?_ ?_
 have fM:=dG.nilrow 117 4
 exact ⟨db,none,0,rfl,eI,eJ,rfl,rfl,(zM _),(fM.pick [1,2,3,4,5,0,6] _ (by decide) rfl)⟩
 rintro bA bf ir iw gX cH ⟨bv,bk,bq,cz,eL,cx,dx,dy,dR,dH⟩ gG
 have dt:Hid ((↑bA:Int) < (↑p0.Readings.length:Int)):=zI (wBJ cH)
 replace cH:=zI cH
 have gv:Hid (w64 ((↑bA:Int) + 1)=(↑(bA + 1):Int)):=zI (by have h1:=cJ.out;have h2:=dt.out;rw [wAX] <;> omega)
 refine sR fL1 Z (oR Z (zX Z cz dy) (eN (zH (cT Z dt (kN (zH (zW (sR gBc Z (bnK gG fun aj dC gA=>?_)))))))))
 have eY:=gi.le dP
 have eZ:=eY.le gJ
 have e8:=eZ.le dR
 have q:=e8.el (fun _=>rfl) (wAS dC)
 obtain ⟨ib,ij,fd,fg⟩:=q
 refine oR Z (ZL Z dx fd cz Zk Zn (wBk dC)) (oL Z (dH.ldCA (f:=0) fg Z Z yk Zn (us:=[jV aj.Skier,jV aj.Mat,jV aj.Clock,jV aj.Time]) Z Z) ?_)
 let cS:List Value:=[jV 0,jV 0,jV 0,jV 0]
 refine ze (cs:=cS) Z Z Z Z Z Tryz.zeroValue115 Z dH ?_
 intro gZ bO fO
 let a0:List Value:=[jV aj.Skier,jV aj.Mat,jV aj.Clock,jV aj.Time]
 refine zm (j:=0) (vs:=a0) Z Z Z Z fO Z Z Z Z Zn (zA Z) Z Z Z ?_
 intro d6 fP
 let cb:Res:=.blk ap 36 [.slice ak aW.length aq,.slice am aX.length au,.slice bj bF.length bp,.slice bk bf.length bq]
 let cU:Res:=.row bk bq 117 4 (hH wAF bf)
 have cD:sW w U bv [.blk bO 115 a0,.blk b6 36 B1,.blk b2 27 B0,aV,az,bm,cU,cb] d6:=fP
 refine eN (rR (wEG gBd) Z (oR Z (zE Z cx zV Z yI) (oL Z (cD.ldB (j:=7) Z Z Z ya (v:=.slice bk bf.length bq) Z) (oL Z (cD.ldBA (j:=0) Z Z Z yk Zn (vs:=a0) Z Z) (ZW (pv:=[(0,.agg a0.toArray)]) (zs:=cS) (cs:=a0) Z Z Z Z Z (wAH Z wAY) Zw yL Tryz.zeroValue117 Z Z Z Z Z cD ?_)))))
 intro d7 ey fQ
 let cd:Res:=.row (some ⟨ey,0,none⟩) 1 117 4 (hH wAF [(⟨aj.Skier,aj.Mat,aj.Clock,aj.Time⟩:wAn)])
 have dI:sW w U bv [cd,.blk bO 115 a0,.blk b6 36 B1,.blk b2 27 B0,aV,az,bm,cU,cb] d7:=fQ
 refine bnK gA fun bX e9 gB=>yH (j:=7) (enc:=wAF) (xs:=bf) (ys:=[(⟨aj.Skier,aj.Mat,aj.Clock,aj.Time⟩:wAn)]) (zs:=bX) rfl rfl rfl rfl rfl Tryz.underlying34 wSb rfl rfl rfl rfl rfl rfl dI rfl rfl rfl (dI.srcR (j:=0) rfl (by decide) (wAI (f:=wAF) (sz:=4) (fun _=>rfl) [(⟨aj.Skier,aj.Mat,aj.Clock,aj.Time⟩:wAn)])) (fun _=>rfl) (fun _=>rfl) e9 rfl ?_
 intro bK bT d8 fR
 let cV:Res:=.row bK bT 117 4 (hH wAF bX)
 have fS:sW w U bv [cd,.blk bO 115 a0,.blk b6 36 B1,.blk b2 27 B0,aV,az,bm,cV,cb] d8:=fR
 refine oR Z (zE Z cx zV Z yI) (zm (j:=8) (vs:=[.slice bK bX.length bT]) Z Z Z Z fS Z Z Z Z yI (zA Z) Z Z Z ?_)
 intro d9 fT
 have fU:sW w U bv [cd,.blk bO 115 a0,.blk b6 36 B1,.blk b2 27 B0,aV,az,bm,cV,.blk ap 36 [.slice ak aW.length aq,.slice am aX.length au,.slice bj bF.length bp,.slice bK bX.length bT]] d9:=fT
 refine zh (zq (zG (rR fL2 Z (oR Z (ZP (zZ Z cz Z) (congrArg (jV) gv.out)) (oM Z Z (zh ?_))))))
 cases gB
 exact zG ⟨rfl,⟨bv,bK,bT,rfl,eL,cx,dx,dy,dR,(fU.pick [2,3,4,5,6,7,8] _ (by decide) rfl)⟩⟩
 rintro iy g7 ⟨de,bY,cu,eR,dz,eM,ie,eO,ig,dJ⟩
 have eC:Hid (¬ ((↑(((↑p0.Readings.length:Int):Int) - 0).toNat:Int) < (↑p0.Readings.length:Int))):=zI (wAj)
 refine sR fL1 Z (oR Z (zX Z eR eO) (eN (zH (cF Z eC (ZT (zf (zf (ZK (zG (sR gAk Z ?_))))))))))
 let bn:List Value:=[.slice ak aW.length aq,.slice am aX.length au,.slice bj bF.length bp,.slice bY dS.length cu]
 refine oL Z (dJ.ldBA (j:=6) Z Z eM ZY ZN (vs:=bn) Z Z) (zm (j:=0) (vs:=bn) Z Z Z Z dJ Z dz Z Z ZN (zA Z) Z Z Z ?_)
 intro ef fV
 have dK:sW w U de [.blk b6 36 bn,.blk b2 27 B0,aV,az,bm,.row bY cu 117 4 (hH wAF dS),.blk ap 36 bn] ef:=fV
 refine eN (zP ?_)
 cases gz
 exact ⟨rfl,_,(wKE (v:=.agg bn.toArray) ⟨⟨_,dz,(wBt ZY ZN (dK.blkAt (k:=0) rfl) (vs:=bn) rfl rfl)⟩,trivial⟩),de,_,(dK.pick [2,3,4,5] _ (by decide) rfl),ak,aq,am,au,bj,bp,bY,cu,rfl,rfl⟩
theorem wEU (p0:Int) (p1:Int) (p2:Int) (w:World) (U:PHeap) (hS:St0 w U [])  {r:Bool} (hm:wCw p0 p1 p2=some r):Gv Tryz.prog 69 [jV p0,jV p1,jV p2] w (wCp w [] U (fun U_ L_ v=>v=.bool r/\L_=[])):=by
 unfold wCw at hm
 refine Gv.of Tryz.func69 Z Tryz.ntmps69 Tryz.results69 Z (sR fL1 Z (oA Z Z (eN (sR fL9 Z (oM Z Z (oM Z Z (oR Z (Runs.geq Z Z Z) (oM Z Z ?_))))))))
 by_cases c1:p1 <= p0
 have ab:=hm;rw [if_pos c1] at ab;replace c1:=zI c1
 refine zz Z Z Z (wT Z c1) Z Z (zz Z Z Z (wT Z c1) Z Z (rU Z (wT Z c1) (Runs.leq Z Z Z) (oR Z (zl Z (Zl c1.out) Z) (oA Z Z (eN (zP ?_))))))
 first | (obtain rfl:=nA ab) | cases ab
 exact ⟨Z,_,(ZH Z),U,_,hS,Z,Z⟩
 have ai:=hm;rw [if_neg c1] at ai;replace c1:=zI c1
 refine oF Z c1 (oF Z c1 (oF Z c1 (oR Z (zt Z (Ze c1.out) Z) (oA Z Z (eN (zP ?_))))))
 have hE:=nA ai;first | subst r | cases hE
 exact ⟨Z,_,(ZH Z),U,_,hS,Z,Z⟩
theorem wGr (p0:List Int) (aq:Option Addr) (au:Nat) (p1:(Int->Option Bool)) (av:Value) (w:World) (U:PHeap) (hS:St0 w U []) (bs:Sl U 1 aq au p0.length (hH KL.encI p0)) (bt:FnOK Tryz.prog U av wUE wUF p1) {r:Bool} (hm:wCX p0 p1=some r):Gv Tryz.prog 89 [.slice aq p0.length au,av] w (wCp w [] U (fun U_ L_ v=>v=.bool r/\L_=[])):=by
 unfold wCX at hm
 refine Gv.of Tryz.func89 Z Tryz.ntmps89 Tryz.results89 Z (sR fL1 Z (oA Z Z (eN (zH (sR fL3 Z (oM Z Z (oR Z (zd Z Z zC) (oM Z Z (eN (zW ?_))))))))))
 have q:=wCH hm
 obtain ⟨r3,aj⟩:=q
 have q:=wCG aj
 obtain ⟨am,bw⟩:=q
 replace am:=zI am
 refine yG (fun k2 _ σ_ w_=>∃ (U_:PHeap),σ_ 9=jV (↑k2:Int)/\σ_ 1=av/\σ_ 7=.slice aq p0.length au/\σ_ 8=jV (↑p0.length:Int)/\PHeap.Le U U_/\sW w U U_ [] w_) bw ?_ ?_ ?_
 exact ⟨U,Z,Z,Z,Z,(zM _),hS⟩
 rintro k2 ⟨⟩ bT bV W8 ak ⟨bI,ai,aV,aW,aX,ap,aZ⟩ bb bu
 try dsimp only at bb
 have az:Hid ((↑k2:Int) < (↑p0.length:Int)):=zI (wBJ ak)
 replace ak:=zI ak
 have bz:Hid (w64 ((↑k2:Int) + 1)=(↑(k2 + 1):Int)):=zI (by have h1:=am.out;have h2:=az.out;rw [wAX] <;> omega)
 refine sR fL1 Z (oR Z (zX Z ai aX) (eN (zH (cT Z az (kN (zH (zW (sR fL3 Z (bnK bb fun x22 aY bA=>?_)))))))))
 have bk:=bs.le ap
 have q:=bk.el (fun _=>rfl) (wAS aY)
 obtain ⟨bL,bP,bo,bp⟩:=q
 refine oR Z (ZL Z aW bo ai zC zB (wBk aY)) (oL Z (aZ.ldC (f:=0) bp (v:=jV x22) Z Z zF Z) (oA Z Z (eN (sR gBe Z (oM Z aV (oM Z Z (bnK bA fun bS bm bB=>?_)))))))
 have bn:=bt.le ap
 refine OKS.callV (a:=x22) Z Z Z Z Z Z (zD Z zQ) aZ bn Z bm ?_
 rintro ae bH bR bf bF bq ⟨rfl,rfl⟩
 have a0:sW w U ae [] bf:=bq
 refine oR Z (Zf Z Z) (eN (ifc bB ?_ ?_))
 intro ah bC
 refine zx (nC ah.out) (Zh (zq (zG (rR fL2 Z (oR Z (ZP (zZ Z ai Z) (congrArg (jV) bz.out)) (oM Z Z (zh ?_)))))))
 obtain rfl:=nA bC
 exact zG ⟨Z,_,Z,⟨ae,Z,aV,aW,aX,(ap.trans bF),a0⟩⟩
 intro ah bD
 refine ZG (nF (ah.out)) (sR fL1 Z (oA Z Z (eN (zP (zg (zN ?_))))))
 have q:=wAZ bD
 obtain ⟨bG,bE,bh⟩:=q
 obtain rfl:=wCA hm aj (bu bG bh)
 refine zN (zg (zN ?_))
 have hE:=nA bE;first | subst r | cases hE
 exact ⟨Z,_,(ZH Z),ae,_,a0,Z,Z⟩
 rintro ⟨⟩ bU bJ ⟨be,bj,bM,bN,bi,bO,br⟩ bv
 have ba:=wCu hm aj bv
 try dsimp only at ba
 have bg:Hid (¬ ((↑(((↑p0.length:Int):Int) - 0).toNat:Int) < (↑p0.length:Int))):=zI (wAj)
 refine sR fL1 Z (oR Z (zX Z bj bi) (eN (zH (cF Z bg (ZT (zf (zf (ZK (zG (sR fL1 Z (oA Z Z (eN (zP ?_)))))))))))))
 have hE:=nA ba;first | subst r | cases hE
 exact ⟨Z,_,(ZH Z),be,_,br,Z,Z⟩
end Go.Proofs.YtlnfbjphfoipaaaGreat
namespace Go.Proofs.YtlnfbjphfoipaaaGreat
open Go.KL
set_option maxHeartbeats 4000000
theorem wIk (p0:Int) (w:World) (U:PHeap) (hS:St0 w U [])  {r:Bool} (hm:wCf p0=some r):Gv Tryz.prog 90 [jV p0] w (wCp w [] U (fun U_ L_ v=>v=.bool r/\L_=[])):=by
 unfold wCf at hm
 refine Gv.of Tryz.func90 Z Tryz.ntmps90 Tryz.results90 Z (sR fL1 Z (oA Z Z (eN (sR gAt Z (oM Z Z (bnK hm fun x1 h2 ak=>zK 0 Z Z Z Z (zL Z Z Tryz.call69 (zD Z (zD Z (zD Z zQ))) Z) hS (fun hs=>wEU p0 0 360000 w U hs h2) (.inr Z) ?_))))))
 rintro U4 L5 v6 W7 ap aj ⟨rfl,rfl⟩
 have ai:sW w U U4 [] W7:=aj
 refine oA Z Z (eN (zP ?_))
 have hE:=nA ak;first | subst r | cases hE
 exact ⟨Z,_,(ZH Z),U4,_,ai,Z,Z⟩
theorem wFH (p0:List wAP) (au:Option Addr) (av:Nat) (p1:(wAP->Option Bool)) (az:Value) (w:World) (U:PHeap) (hS:St0 w U []) (bB:Sl U 2 au av p0.length (hH wAB p0)) (bC:FnOK Tryz.prog U az wUG wUH p1) {r:Bool} (hm:wBf p0 p1=some r):Gv Tryz.prog 91 [.slice au p0.length av,az] w (wCp w [] U (fun U_ L_ v=>v=.bool r/\L_=[])):=by
 unfold wBf at hm
 refine Gv.of Tryz.func91 Z Tryz.ntmps91 Tryz.results91 Z (sR fL1 Z (oA Z Z (eN (zH (sR fL3 Z (oM Z Z (oR Z (zd Z Z zr) (oM Z Z (eN (zW ?_))))))))))
 have q:=wCH hm
 obtain ⟨r3,ak⟩:=q
 have q:=wCG ak
 obtain ⟨ap,bF⟩:=q
 replace ap:=zI ap
 refine yG (fun k2 _ σ_ w_=>∃ (U_:PHeap),σ_ 9=jV (↑k2:Int)/\σ_ 1=az/\σ_ 7=.slice au p0.length av/\σ_ 8=jV (↑p0.length:Int)/\PHeap.Le U U_/\sW w U U_ [] w_) bF ?_ ?_ ?_
 exact ⟨U,Z,Z,Z,Z,(zM _),hS⟩
 rintro k2 ⟨⟩ bZ cb W8 am ⟨bh,aj,aX,aY,aZ,aq,ba⟩ bf bD
 try dsimp only at bf
 have aW:Hid ((↑k2:Int) < (↑p0.length:Int)):=zI (wBJ am)
 replace am:=zI am
 have bG:Hid (w64 ((↑k2:Int) + 1)=(↑(k2 + 1):Int)):=zI (by have h1:=ap.out;have h2:=aW.out;rw [wAX] <;> omega)
 refine sR fL1 Z (oR Z (zX Z aj aZ) (eN (zH (cT Z aW (kN (zH (zW (sR gBc Z (bnK bf fun x22 a0 bH=>?_)))))))))
 have bq:=bB.le aq
 have q:=bq.el (fun _=>rfl) (wAS a0)
 obtain ⟨bS,bW,bt,bu⟩:=q
 refine oR Z (ZL Z aY bt aj zr ZR (wBk a0)) (oL Z (ba.ldCA (f:=0) bu Z Z yf ZR (us:=[jV x22.Lo,jV x22.Hi]) Z Z) (ze (cs:=[jV 0,jV 0]) Z Z Z Z Z yo Z ba ?_))
 intro bP aV bv
 let B0:List Value:=[jV x22.Lo,jV x22.Hi]
 refine zm (j:=0) (vs:=B0) Z Z Z Z bv Z Z Z Z ZR (zA Z) Z Z Z ?_
 intro bj bw
 have bb:sW w U bh [.blk aV 39 B0] bj:=bw
 refine eN (sR gBe Z (oM Z aX (oL Z (bb.ldBA (j:=0) Z Z Z yf ZR (vs:=B0) Z Z) (bnK bH fun x37 br bI=>?_))))
 have bs:=bC.le aq
 refine OKS.callV (a:=x22) Z Z Z Z Z Z (zD Z zQ) bb bs Z br ?_
 rintro ah bO bY bk bM bz ⟨rfl,rfl⟩
 have bd:sW w U ah [.blk aV 39 B0] bk:=bz
 refine oR Z (Zf Z Z) (eN (ifc bI ?_ ?_))
 intro ai bJ
 refine zx (nC ai.out) (Zh (zq (zG (rR fL2 Z (oR Z (ZP (zZ Z aj Z) (congrArg (jV) bG.out)) (oM Z Z (zh ?_)))))))
 obtain rfl:=nA bJ
 exact zG ⟨rfl,_,rfl,⟨ah,rfl,aX,aY,aZ,(aq.trans bM),(bd.pick [] _ (by decide) rfl)⟩⟩
 intro ai bK
 refine ZG (nF (ai.out)) (sR fL1 Z (oA Z Z (eN (zP (zg (zN ?_))))))
 have q:=wAZ bK
 obtain ⟨bN,bL,bn⟩:=q
 obtain rfl:=wCA hm ak (bD bN bn)
 refine zN (zg (zN ?_))
 have hE:=nA bL;first | subst r | cases hE
 exact ⟨rfl,_,(ZH rfl),ah,_,(bd.pick [] _ (by decide) rfl),rfl,rfl⟩
 rintro ⟨⟩ b5 bQ ⟨bi,bp,bT,bU,bo,bV,bA⟩ bE
 have be:=wCu hm ak bE
 try dsimp only at be
 have bm:Hid (¬ ((↑(((↑p0.length:Int):Int) - 0).toNat:Int) < (↑p0.length:Int))):=zI (wAj)
 refine sR fL1 Z (oR Z (zX Z bp bo) (eN (zH (cF Z bm (ZT (zf (zf (ZK (zG (sR fL1 Z (oA Z Z (eN (zP ?_)))))))))))))
 have hE:=nA be;first | subst r | cases hE
 exact ⟨Z,_,(ZH Z),bi,_,bA,Z,Z⟩
theorem wFj (p0:wAP) (p1:Int) (p2:Int) (w:World) (U:PHeap) (hS:St0 w U [])  {r:Bool} (hm:wCg p0 p1 p2=some r):Gv Tryz.prog 93 [.agg #[jV p0.Lo,jV p0.Hi],jV p1,jV p2] w (wCp w [] U (fun U_ L_ v=>v=.bool r/\L_=[])):=by
 unfold wCg at hm
 refine Gv.of Tryz.func93 rfl Tryz.ntmps93 Tryz.results93 rfl (sR gAf rfl (ZE (cs:=[jV p0.Lo,jV p0.Hi]) rfl rfl rfl rfl rfl rfl (by rfl) hS ?_))
 intro W1 b2 ah
 refine oA Z Z (eN (sR fL18 Z (oR Z (zE Z Z ZA Z zB) (oL Z (ah.ldB (j:=0) Z Z Z zF (v:=jV p0.Lo) Z) (oR Z (zE Z Z ZA Z zB) (oL Z (ah.ldB (j:=0) Z Z Z zF (v:=jV p0.Hi) Z) (oR Z (Runs.leq Z Z Z) (oM Z Z ?_))))))))
 by_cases c5:p0.Lo <= p0.Hi
 have aj:=hm;rw [if_pos c5] at aj;replace c5:=zI c5
 refine rU Z (wT Z c5) (zE Z Z ZA Z zB) (ZI Z Z Z (wT Z c5) (ah.ldB (j:=0) Z Z Z zF (v:=jV p0.Lo) Z) Z (zz Z Z Z (wT Z c5) Z Z (rU Z (wT Z c5) (Runs.geq Z Z Z) (oR Z (zl Z (Zl c5.out) Z) (oM Z Z (ifc aj ?_ ?_))))))
 intro c7 ak
 refine rU Z (wT Z c7) (zE Z Z ZA Z zB) (ZI Z Z Z (wT Z c7) (ah.ldB (j:=0) Z Z Z zF (v:=jV p0.Hi) Z) Z (zz Z Z Z (wT Z c7) Z Z (rU Z (wT Z c7) (Runs.leq Z Z Z) (oR Z (zl Z (Zl c7.out) Z) (oA Z Z (eN (zP ?_)))))))
 first | (obtain rfl:=nA ak) | cases ak
 exact ⟨rfl,_,(ZH rfl),U,_,(ah.pick [] _ (by decide) rfl),rfl,rfl⟩
 intro c7 aq
 refine oF Z c7 (oF Z c7 (oF Z c7 (oF Z c7 (oR Z (zt Z (Ze c7.out) Z) (oA Z Z (eN (zP ?_)))))))
 have hE:=nA aq;first | subst r | cases hE
 exact ⟨rfl,_,(ZH rfl),U,_,(ah.pick [] _ (by decide) rfl),rfl,rfl⟩
 have ai:=hm;rw [if_neg c5] at ai;replace c5:=zI c5
 refine oF Z c5 (oF Z c5 (oF Z c5 (oF Z c5 (oR Z (zt Z (Ze c5.out) Z) (oM Z Z (oN Z (oN Z (oN Z (oN Z (oR Z (zt Z Z Z) (oA Z Z (eN (zP ?_)))))))))))))
 have hE:=nA ai;first | subst r | cases hE
 exact ⟨rfl,_,(ZH rfl),U,_,(ah.pick [] _ (by decide) rfl),rfl,rfl⟩
theorem wIl (p0:wAP) (w:World) (U:PHeap) (hS:St0 w U [])  {r:Bool} (hm:wCh p0=some r):Gv Tryz.prog 92 [.agg #[jV p0.Lo,jV p0.Hi]] w (wCp w [] U (fun U_ L_ v=>v=.bool r/\L_=[])):=by
 unfold wCh at hm
 refine Gv.of Tryz.func92 Z Tryz.ntmps92 Tryz.results92 Z (sR gAf Z ?_)
 let B0:List Value:=[jV p0.Lo,jV p0.Hi]
 refine ZE (cs:=B0) rfl rfl rfl rfl rfl rfl (by rfl) hS ?_
 intro W1 b2 ah
 refine oA Z Z (eN (sR gAt Z (oL Z (ah.ldBA (j:=0) Z Z Z yf ZR (vs:=B0) Z Z) (bnK hm fun x5 h6 au=>zK 0 Z Z Z Z (zL Z Z Tryz.call93 (zD Z (zD Z (zD Z zQ))) Z) ah (fun hs=>wFj p0 0 360000 W1 U hs h6) (.inr Z) ?_))))
 rintro U8 L9 aV aj az ap ⟨rfl,rfl⟩
 have aq:sW w U U8 [.blk b2 39 B0] aj:=ap
 refine oA Z Z (eN (zP ?_))
 have hE:=nA au;first | subst r | cases hE
 exact ⟨rfl,_,(ZH rfl),U8,_,(aq.pick [] _ (by decide) rfl),rfl,rfl⟩
theorem wEn (p0:List wAb) (au:Option Addr) (av:Nat) (p1:(wAb->Option Bool)) (az:Value) (w:World) (U:PHeap) (hS:St0 w U []) (bB:Sl U 3 au av p0.length (hH wAD p0)) (bC:FnOK Tryz.prog U az wUI wUJ p1) {r:Bool} (hm:wBU p0 p1=some r):Gv Tryz.prog 94 [.slice au p0.length av,az] w (wCp w [] U (fun U_ L_ v=>v=.bool r/\L_=[])):=by
 unfold wBU at hm
 refine Gv.of Tryz.func94 Z Tryz.ntmps94 Tryz.results94 Z (sR fL1 Z (oA Z Z (eN (zH (sR fL3 Z (oM Z Z (oR Z (zd Z Z ZX) (oM Z Z (eN (zW ?_))))))))))
 have q:=wCH hm
 obtain ⟨r3,ak⟩:=q
 have q:=wCG ak
 obtain ⟨ap,bF⟩:=q
 replace ap:=zI ap
 refine yG (fun k2 _ σ_ w_=>∃ (U_:PHeap),σ_ 9=jV (↑k2:Int)/\σ_ 1=az/\σ_ 7=.slice au p0.length av/\σ_ 8=jV (↑p0.length:Int)/\PHeap.Le U U_/\sW w U U_ [] w_) bF ?_ ?_ ?_
 exact ⟨U,Z,Z,Z,Z,(zM _),hS⟩
 rintro k2 ⟨⟩ bZ cb W8 am ⟨bh,aj,aX,aY,aZ,aq,ba⟩ bf bD
 try dsimp only at bf
 have aW:Hid ((↑k2:Int) < (↑p0.length:Int)):=zI (wBJ am)
 replace am:=zI am
 have bG:Hid (w64 ((↑k2:Int) + 1)=(↑(k2 + 1):Int)):=zI (by have h1:=ap.out;have h2:=aW.out;rw [wAX] <;> omega)
 refine sR fL1 Z (oR Z (zX Z aj aZ) (eN (zH (cT Z aW (kN (zH (zW (sR gBc Z (bnK bf fun x22 a0 bH=>?_)))))))))
 have bq:=bB.le aq
 have q:=bq.el (fun _=>rfl) (wAS a0)
 obtain ⟨bS,bW,bt,bu⟩:=q
 refine oR Z (ZL Z aY bt aj ZX Zq (wBk a0)) (oL Z (ba.ldCA (f:=0) bu Z Z Tryz.isAgg112 Zq (us:=[jV x22.Offset.Lo,jV x22.Offset.Hi,jV x22.Error]) Z Z) (ze (cs:=[jV 0,jV 0,jV 0]) Z Z Z Z Z Tryz.zeroValue112 Z ba ?_))
 intro bP aV bv
 let B0:List Value:=[jV x22.Offset.Lo,jV x22.Offset.Hi,jV x22.Error]
 refine zm (j:=0) (vs:=B0) Z Z Z Z bv Z Z Z Z Zq (zA Z) Z Z Z ?_
 intro bj bw
 have bb:sW w U bh [.blk aV 112 B0] bj:=bw
 refine eN (sR gBe Z (oM Z aX (oL Z (bb.ldBA (j:=0) Z Z Z Tryz.isAgg112 Zq (vs:=B0) Z Z) (bnK bH fun x37 br bI=>?_))))
 have bs:=bC.le aq
 refine OKS.callV (a:=x22) Z Z Z Z Z Z (zD Z zQ) bb bs Z br ?_
 rintro ah bO bY bk bM bz ⟨rfl,rfl⟩
 have bd:sW w U ah [.blk aV 112 B0] bk:=bz
 refine oR Z (Zf Z Z) (eN (ifc bI ?_ ?_))
 intro ai bJ
 refine zx (nC ai.out) (Zh (zq (zG (rR fL2 Z (oR Z (ZP (zZ Z aj Z) (congrArg (jV) bG.out)) (oM Z Z (zh ?_)))))))
 obtain rfl:=nA bJ
 exact zG ⟨rfl,_,rfl,⟨ah,rfl,aX,aY,aZ,(aq.trans bM),(bd.pick [] _ (by decide) rfl)⟩⟩
 intro ai bK
 refine ZG (nF (ai.out)) (sR fL1 Z (oA Z Z (eN (zP (zg (zN ?_))))))
 have q:=wAZ bK
 obtain ⟨bN,bL,bn⟩:=q
 obtain rfl:=wCA hm ak (bD bN bn)
 refine zN (zg (zN ?_))
 have hE:=nA bL;first | subst r | cases hE
 exact ⟨rfl,_,(ZH rfl),ah,_,(bd.pick [] _ (by decide) rfl),rfl,rfl⟩
 rintro ⟨⟩ b5 bQ ⟨bi,bp,bT,bU,bo,bV,bA⟩ bE
 have be:=wCu hm ak bE
 try dsimp only at be
 have bm:Hid (¬ ((↑(((↑p0.length:Int):Int) - 0).toNat:Int) < (↑p0.length:Int))):=zI (wAj)
 refine sR fL1 Z (oR Z (zX Z bp bo) (eN (zH (cF Z bm (ZT (zf (zf (ZK (zG (sR fL1 Z (oA Z Z (eN (zP ?_)))))))))))))
 have hE:=nA be;first | subst r | cases hE
 exact ⟨Z,_,(ZH Z),bi,_,bA,Z,Z⟩
theorem wIm (p0:wAb) (w:World) (U:PHeap) (hS:St0 w U [])  {r:Bool} (hm:wCi p0=some r):Gv Tryz.prog 95 [.agg #[jV p0.Offset.Lo,jV p0.Offset.Hi,jV p0.Error]] w (wCp w [] U (fun U_ L_ v=>v=.bool r/\L_=[])):=by
 unfold wCi at hm
 refine Gv.of Tryz.func95 Z Tryz.ntmps95 Tryz.results95 Z (sR gAf Z ?_)
 let B0:List Value:=[jV p0.Offset.Lo,jV p0.Offset.Hi,jV p0.Error]
 refine ZE (cs:=B0) rfl rfl rfl rfl rfl rfl (by rfl) hS ?_
 intro W1 b2 ap
 refine oA Z Z (eN (sR (.fl 0 (.fl 1 (.fx 2 (wUr (.fx 6 gAd .stop)) .stop))) Z (oR Z (zE Z Z yW Z ZR) (oL Z (ap.ldBA (j:=0) Z Z Z yf ZR (vs:=[jV p0.Offset.Lo,jV p0.Offset.Hi]) Z Z) (bnK hm fun x5 h6 ba=>zK 0 Z Z Z Z (zL Z Z Tryz.call93 (zD Z (zD Z (zD Z zQ))) Z) ap (fun hs=>wFj p0.Offset (-36000) 36000 W1 U hs h6) (.inr Z) ?_)))))
 rintro U8 L9 bg ak be aV ⟨rfl,rfl⟩
 have ai:sW w U U8 [.blk b2 112 B0] ak:=aV
 refine oM Z Z (ifc ba ?_ ?_)
 intro ab aY
 refine zk Z Z Z (zO Z Z (congrArg nB ab.out)) (fun _=>zE Z Z yW Z zB) (ZI Z Z Z (zO Z Z (congrArg nB ab.out)) (ai.ldB (j:=0) Z Z Z zF (v:=jV p0.Error) Z) Z (bnK aY fun bi av aZ=>zK 0 Z Z Z (zO Z Z (congrArg nB ab.out)) (zL Z Z Tryz.call69 (zD Z (zD Z (zD Z zQ))) Z) ai (fun hs=>wEU p0.Error 0 600 ak U8 hs av) (.inr Z) ?_))
 rintro aj bb bh au bf aW ⟨rfl,rfl⟩
 have aX:sW w U aj [.blk b2 112 B0] au:=aW
 refine oR Z (zl Z (congrArg nB ab.out) Z) (oA Z Z (eN (zP ?_)))
 have hE:=nA aZ;first | subst r | cases hE
 exact ⟨rfl,_,(ZH rfl),aj,_,(aX.pick [] _ (by decide) rfl),rfl,rfl⟩
 intro ab a0
 refine ZF Z Z Z (zi Z Z (congrArg nB (nD.2 ab.out)) Z) (ZF Z Z Z (zi Z Z (congrArg nB (nD.2 ab.out)) Z) (yJ Z Z Z (zi Z Z (congrArg nB (nD.2 ab.out)) Z) (oR Z (zt Z (congrArg nB (nD.2 ab.out)) Z) (oA Z Z (eN (zP ?_))))))
 have hE:=nA a0;first | subst r | cases hE
 exact ⟨rfl,_,(ZH rfl),U8,_,(ai.pick [] _ (by decide) rfl),rfl,rfl⟩
theorem wDD (p0:List wAU) (au:Option Addr) (av:Nat) (p1:(wAU->Option Bool)) (az:Value) (w:World) (U:PHeap) (hS:St0 w U []) (bB:Sl U 4 au av p0.length (hH wAC p0)) (bC:FnOK Tryz.prog U az wSU wSV p1) {r:Bool} (hm:wAq p0 p1=some r):Gv Tryz.prog 96 [.slice au p0.length av,az] w (wCp w [] U (fun U_ L_ v=>v=.bool r/\L_=[])):=by
 unfold wAq at hm
 refine Gv.of Tryz.func96 Z Tryz.ntmps96 Tryz.results96 Z (sR fL1 Z (oA Z Z (eN (zH (sR fL3 Z (oM Z Z (oR Z (zd Z Z Zk) (oM Z Z (eN (zW ?_))))))))))
 have q:=wCH hm
 obtain ⟨r3,ak⟩:=q
 have q:=wCG ak
 obtain ⟨ap,bF⟩:=q
 replace ap:=zI ap
 refine yG (fun k2 _ σ_ w_=>∃ (U_:PHeap),σ_ 9=jV (↑k2:Int)/\σ_ 1=az/\σ_ 7=.slice au p0.length av/\σ_ 8=jV (↑p0.length:Int)/\PHeap.Le U U_/\sW w U U_ [] w_) bF ?_ ?_ ?_
 exact ⟨U,Z,Z,Z,Z,(zM _),hS⟩
 rintro k2 ⟨⟩ bZ cb W8 am ⟨bh,aj,aX,aY,aZ,aq,ba⟩ bf bD
 try dsimp only at bf
 have aW:Hid ((↑k2:Int) < (↑p0.length:Int)):=zI (wBJ am)
 replace am:=zI am
 have bG:Hid (w64 ((↑k2:Int) + 1)=(↑(k2 + 1):Int)):=zI (by have h1:=ap.out;have h2:=aW.out;rw [wAX] <;> omega)
 refine sR fL1 Z (oR Z (zX Z aj aZ) (eN (zH (cT Z aW (kN (zH (zW (sR gBc Z (bnK bf fun x22 a0 bH=>?_)))))))))
 have bq:=bB.le aq
 have q:=bq.el (fun _=>rfl) (wAS a0)
 obtain ⟨bS,bW,bt,bu⟩:=q
 refine oR Z (ZL Z aY bt aj Zk Zn (wBk a0)) (oL Z (ba.ldCA (f:=0) bu Z Z yk Zn (us:=[jV x22.Skier,jV x22.Mat,jV x22.Clock,jV x22.Time]) Z Z) (ze (cs:=[jV 0,jV 0,jV 0,jV 0]) Z Z Z Z Z Tryz.zeroValue115 Z ba ?_))
 intro bP aV bv
 let B0:List Value:=[jV x22.Skier,jV x22.Mat,jV x22.Clock,jV x22.Time]
 refine zm (j:=0) (vs:=B0) Z Z Z Z bv Z Z Z Z Zn (zA Z) Z Z Z ?_
 intro bj bw
 have bb:sW w U bh [.blk aV 115 B0] bj:=bw
 refine eN (sR gBe Z (oM Z aX (oL Z (bb.ldBA (j:=0) Z Z Z yk Zn (vs:=B0) Z Z) (bnK bH fun x37 br bI=>?_))))
 have bs:=bC.le aq
 refine OKS.callV (a:=x22) Z Z Z Z Z Z (zD Z zQ) bb bs Z br ?_
 rintro ah bO bY bk bM bz ⟨rfl,rfl⟩
 have bd:sW w U ah [.blk aV 115 B0] bk:=bz
 refine oR Z (Zf Z Z) (eN (ifc bI ?_ ?_))
 intro ai bJ
 refine zx (nC ai.out) (Zh (zq (zG (rR fL2 Z (oR Z (ZP (zZ Z aj Z) (congrArg (jV) bG.out)) (oM Z Z (zh ?_)))))))
 obtain rfl:=nA bJ
 exact zG ⟨rfl,_,rfl,⟨ah,rfl,aX,aY,aZ,(aq.trans bM),(bd.pick [] _ (by decide) rfl)⟩⟩
 intro ai bK
 refine ZG (nF (ai.out)) (sR fL1 Z (oA Z Z (eN (zP (zg (zN ?_))))))
 have q:=wAZ bK
 obtain ⟨bN,bL,bn⟩:=q
 obtain rfl:=wCA hm ak (bD bN bn)
 refine zN (zg (zN ?_))
 have hE:=nA bL;first | subst r | cases hE
 exact ⟨rfl,_,(ZH rfl),ah,_,(bd.pick [] _ (by decide) rfl),rfl,rfl⟩
 rintro ⟨⟩ b5 bQ ⟨bi,bp,bT,bU,bo,bV,bA⟩ bE
 have be:=wCu hm ak bE
 try dsimp only at be
 have bm:Hid (¬ ((↑(((↑p0.length:Int):Int) - 0).toNat:Int) < (↑p0.length:Int))):=zI (wAj)
 refine sR fL1 Z (oR Z (zX Z bp bo) (eN (zH (cF Z bm (ZT (zf (zf (ZK (zG (sR fL1 Z (oA Z Z (eN (zP ?_)))))))))))))
 have hE:=nA be;first | subst r | cases hE
 exact ⟨Z,_,(ZH Z),bi,_,bA,Z,Z⟩
theorem wIn (p0:wAU) (w:World) (U:PHeap) (hS:St0 w U [])  {r:Bool} (hm:wCj p0=some r):Gv Tryz.prog 97 [.agg #[jV p0.Skier,jV p0.Mat,jV p0.Clock,jV p0.Time]] w (wCp w [] U (fun U_ L_ v=>v=.bool r/\L_=[])):=by
 unfold wCj at hm
 refine Gv.of Tryz.func97 Z Tryz.ntmps97 Tryz.results97 Z (sR gAf Z ?_)
 let B0:List Value:=[jV p0.Skier,jV p0.Mat,jV p0.Clock,jV p0.Time]
 refine ZE (cs:=B0) rfl rfl rfl rfl rfl rfl (by rfl) hS ?_
 intro W1 b2 ah
 refine oA Z Z (eN (sR gBe Z (oR Z (zE Z Z Zp Z zB) (oL Z (ah.ldB (j:=0) Z Z Z zF (v:=jV p0.Time) Z) (bnK hm fun x5 h6 au=>zK 0 Z Z Z Z (zL Z Z Tryz.call69 (zD Z (zD Z (zD Z zQ))) Z) ah (fun hs=>wEU p0.Time 0 360000 W1 U hs h6) (.inr Z) ?_)))))
 rintro U8 L9 aV aj az ap ⟨rfl,rfl⟩
 have aq:sW w U U8 [.blk b2 115 B0] aj:=ap
 refine oA Z Z (eN (zP ?_))
 have hE:=nA au;first | subst r | cases hE
 exact ⟨rfl,_,(ZH rfl),U8,_,(aq.pick [] _ (by decide) rfl),rfl,rfl⟩
theorem wEE (p0:wAA) (ai:Option Addr) (ak:Nat) (aj:Option Addr) (am:Nat) (az:Option Addr) (aW:Nat) (aV:Option Addr) (aX:Nat) (p1:wAM) (w:World) (U:PHeap) (hS:St0 w U []) (bs:Sl U 1 ai ak p0.Starts.length (hH KL.encI p0.Starts)) (bt:Sl U 2 aj am p0.Splits.length (hH wAB p0.Splits)) (bu:Sl U 3 az aW p0.Clocks.length (hH wAD p0.Clocks)) (bv:Sl U 4 aV aX p0.Readings.length (hH wAC p0.Readings)) {r:Bool} (hm:wAs p0 p1=some r):Gv Tryz.prog 99 [.agg #[.slice ai p0.Starts.length ak,.slice aj p0.Splits.length am,.slice az p0.Clocks.length aW,.slice aV p0.Readings.length aX],.agg #[jV p1.Skier,jV p1.Mat]] w (wCp w [] U (fun U_ L_ v=>v=.bool r/\L_=[])):=by
 unfold wAs at hm
 refine Gv.of Tryz.func99 Z Tryz.ntmps99 Tryz.results99 Z (sR (.fx 0 gAg .stop) Z ?_)
 let B0:List Value:=[.slice ai p0.Starts.length ak,.slice aj p0.Splits.length am,.slice az p0.Clocks.length aW,.slice aV p0.Readings.length aX]
 refine ZE (cs:=B0) rfl rfl rfl rfl rfl rfl (by rfl) hS ?_
 intro W1 b2 bi
 let B1:List Value:=[jV p1.Skier,jV p1.Mat]
 refine ZE (cs:=B1) rfl rfl rfl rfl rfl rfl (by rfl) bi ?_
 intro W5 b6 av
 refine oA Z Z (eN (sR (wId (.fx 6 (wPp gAv) .stop)) Z (oR Z (zE Z Z ZU Z zB) (oL Z (av.ldB (j:=0) Z Z Z zF (v:=jV p1.Skier) Z) (oR Z (zE Z Z zU Z zS) (oL Z (av.ldB (j:=1) Z Z Z zY (v:=.slice ai p0.Starts.length ak) Z) (oR Z (zd Z Z zC) (oR Z (yg Z Z Z) (bnK hm fun x9 be bk=>zK 0 Z Z Z Z (zL Z Z Tryz.call69 (zD Z (zD Z (zD Z zQ))) Z) av (fun hs=>wEU p1.Skier 0 (w64 ((↑p0.Starts.length:Int) - 1)) W5 U hs be) (.inr Z) ?_)))))))))
 rintro au bp bA aZ bw bg ⟨rfl,rfl⟩
 have ah:sW w U au [.blk b6 29 B1,.blk b2 27 B0] aZ:=bg
 refine oM Z Z (ifc bk ?_ ?_)
 intro ab bm
 refine zk Z Z Z (zO Z Z (congrArg nB ab.out)) (fun _=>zE Z Z ZU Z zB) (ZI Z Z Z (zO Z Z (congrArg nB ab.out)) (ah.ldB (j:=0) Z Z Z zF (v:=jV p1.Mat) Z) Z (zk Z Z Z (zO Z Z (congrArg nB ab.out)) (fun _=>zE Z Z zU Z Zd) (ZI Z Z Z (zO Z Z (congrArg nB ab.out)) (ah.ldB (j:=1) Z Z Z Zi (v:=.slice aj p0.Splits.length am) Z) Z (zk Z Z Z (zO Z Z (congrArg nB ab.out)) (fun _=>zd Z Z zr) (bnK bm fun bC bf bn=>zK 0 Z Z Z (zO Z Z (congrArg nB ab.out)) (zL Z Z Tryz.call69 (zD Z (zD Z (zD Z zQ))) Z) ah (fun hs=>wEU p1.Mat 0 (↑p0.Splits.length:Int) aZ au hs bf) (.inr Z) ?_)))))
 rintro aY bq bB bb bz bh ⟨rfl,rfl⟩
 have bj:sW w U aY [.blk b6 29 B1,.blk b2 27 B0] bb:=bh
 refine oR Z (zl Z (congrArg nB ab.out) Z) (oA Z Z (eN (zP ?_)))
 have hE:=nA bn;first | subst r | cases hE
 exact ⟨rfl,_,(ZH rfl),aY,_,(bj.pick [] _ (by decide) rfl),rfl,rfl⟩
 intro ab bo
 refine ZF Z Z Z (zi Z Z (congrArg nB (nD.2 ab.out)) Z) (ZF Z Z Z (zi Z Z (congrArg nB (nD.2 ab.out)) Z) (ZF Z Z Z (zi Z Z (congrArg nB (nD.2 ab.out)) Z) (ZF Z Z Z (zi Z Z (congrArg nB (nD.2 ab.out)) Z) (ZF Z Z Z (zi Z Z (congrArg nB (nD.2 ab.out)) Z) (yJ Z Z Z (zi Z Z (congrArg nB (nD.2 ab.out)) Z) (oR Z (zt Z (congrArg nB (nD.2 ab.out)) Z) (oA Z Z (eN (zP ?_)))))))))
 have hE:=nA bo;first | subst r | cases hE
 exact ⟨rfl,_,(ZH rfl),au,_,(ah.pick [] _ (by decide) rfl),rfl,rfl⟩
theorem wIo (p0:wAU) (p1:wAA) (ba:Nat) (am:Option Addr) (au:Nat) (ap:Option Addr) (av:Nat) (ah:Option Addr) (ai:Nat) (aq:Option Addr) (az:Nat) (w:World) (U:PHeap) (hS:St0 w U []) (a0:Cl U ba 0 [.slice am p1.Starts.length au,.slice ap p1.Splits.length av,.slice ah p1.Clocks.length ai,.slice aq p1.Readings.length az]) (bk:Sl U 1 am au p1.Starts.length (hH KL.encI p1.Starts)) (bm:Sl U 2 ap av p1.Splits.length (hH wAB p1.Splits)) (bn:Sl U 3 ah ai p1.Clocks.length (hH wAD p1.Clocks)) (bo:Sl U 4 aq az p1.Readings.length (hH wAC p1.Readings)) {r:Bool} (hm:wCk p0 p1=some r):Gv Tryz.prog 98 [.agg #[jV p0.Skier,jV p0.Mat,jV p0.Clock,jV p0.Time],.pointer (some ⟨ba,0,none⟩)] w (wCp w [] U (fun U_ L_ v=>v=.bool r/\L_=[])):=by
 unfold wCk at hm
 refine Gv.of Tryz.func98 Z Tryz.ntmps98 Tryz.results98 Z (sR gAf Z ?_)
 let B0:List Value:=[jV p0.Skier,jV p0.Mat,jV p0.Clock,jV p0.Time]
 refine ZE (cs:=B0) rfl rfl rfl rfl rfl rfl (by rfl) hS ?_
 intro W1 b2 ak
 refine oA Z Z (eN (sR (wId (.fx 6 (wRT (.fx 14 gAe .stop)) .stop)) Z (oL Z (ak.ldCA (f:=0) a0 Z Z ZB zo (us:=[.slice am p1.Starts.length au,.slice ap p1.Splits.length av,.slice ah p1.Clocks.length ai,.slice aq p1.Readings.length az]) Z Z) (oR Z (zE Z Z Zp Z zB) (oL Z (ak.ldB (j:=0) Z Z Z zF (v:=jV p0.Skier) Z) (oR Z (zE Z Z Zp Z zB) (oL Z (ak.ldB (j:=0) Z Z Z zF (v:=jV p0.Mat) Z) (oR Z (ZO (pv:=[(0,jV p0.Skier),(1,jV p0.Mat)]) (z:=[jV 0,jV 0]) (cs:=[jV p0.Skier,jV p0.Mat]) Z (wAH Z (wAH Z wAY)) Tryz.zeroValue29 wMT Z Z) (bnK hm fun x5 h6 bs=>zK 0 Z Z Z Z (zL Z Z Tryz.call99 (zD Z (zD Z zQ)) Z) ak (fun hs=>wEE p1 am au ap av ah ai aq az (⟨p0.Skier,p0.Mat⟩:wAM) W1 U hs bk bm bn bo h6) (.inr Z) ?_)))))))))
 rintro U8 L9 bz aY bt bh ⟨rfl,rfl⟩
 have aj:sW w U U8 [.blk b2 115 B0] aY:=bh
 refine oM Z Z (ifc bs ?_ ?_)
 intro ae bp
 refine zk Z Z Z (zO Z Z (congrArg nB ae.out)) (fun _=>zE Z Z Zp Z zB) (ZI Z Z Z (zO Z Z (congrArg nB ae.out)) (aj.ldB (j:=0) Z Z Z zF (v:=jV p0.Clock) Z) Z (zk Z Z Z (zO Z Z (congrArg nB ae.out)) (fun _=>zE Z Z zU Z Zy) ?_))
 have be:=a0.le bt
 refine ZI Z Z Z (zO Z Z (congrArg nB ae.out)) (aj.ldC (f:=2) be (v:=.slice ah p1.Clocks.length ai) Z Z yD Z) Z (zk Z Z Z (zO Z Z (congrArg nB ae.out)) (fun _=>zd Z Z ZX) (zk Z Z Z (zO Z Z (congrArg nB ae.out)) (fun _=>yg Z Z Z) (bnK bp fun bB bf bq=>zK 0 Z Z Z (zO Z Z (congrArg nB ae.out)) (zL Z Z Tryz.call69 (zD Z (zD Z (zD Z zQ))) Z) aj (fun hs=>wEU p0.Clock 0 (w64 ((↑p1.Clocks.length:Int) - 1)) aY U8 hs bf) (.inr Z) ?_)))
 rintro aX bu bA bd bw bi ⟨rfl,rfl⟩
 have bj:sW w U aX [.blk b2 115 B0] bd:=bi
 refine oR Z (zl Z (congrArg nB ae.out) Z) (oA Z Z (eN (zP ?_)))
 have hE:=nA bq;first | subst r | cases hE
 exact ⟨rfl,_,(ZH rfl),aX,_,(bj.pick [] _ (by decide) rfl),rfl,rfl⟩
 intro ae br
 refine ZF Z Z Z (zi Z Z (congrArg nB (nD.2 ae.out)) Z) (ZF Z Z Z (zi Z Z (congrArg nB (nD.2 ae.out)) Z) (ZF Z Z Z (zi Z Z (congrArg nB (nD.2 ae.out)) Z) (ZF Z Z Z (zi Z Z (congrArg nB (nD.2 ae.out)) Z) (ZF Z Z Z (zi Z Z (congrArg nB (nD.2 ae.out)) Z) (ZF Z Z Z (zi Z Z (congrArg nB (nD.2 ae.out)) Z) (yJ Z Z Z (zi Z Z (congrArg nB (nD.2 ae.out)) Z) (oR Z (zt Z (congrArg nB (nD.2 ae.out)) Z) (oA Z Z (eN (zP ?_))))))))))
 have hE:=nA br;first | subst r | cases hE
 exact ⟨rfl,_,(ZH rfl),U8,_,(aj.pick [] _ (by decide) rfl),rfl,rfl⟩
theorem wKW (p0:wAA) (av:Option Addr) (aW:Nat) (az:Option Addr) (aX:Nat) (aV:Option Addr) (aY:Nat) (am:Option Addr) (ap:Nat) (w:World) (U:PHeap) (hS:St0 w U []) (cS:Sl U 1 av aW p0.Starts.length (hH KL.encI p0.Starts)) (cU:Sl U 2 az aX p0.Splits.length (hH wAB p0.Splits)) (cV:Sl U 3 aV aY p0.Clocks.length (hH wAD p0.Clocks)) (cW:Sl U 4 am ap p0.Readings.length (hH wAC p0.Readings)) {r:Int} (hm:wEC p0=some r):Gv Tryz.prog 33 [.agg #[.slice av p0.Starts.length aW,.slice az p0.Splits.length aX,.slice aV p0.Clocks.length aY,.slice am p0.Readings.length ap]] w (wCp w [] U (fun U_ L_ v=>v=jV r/\L_=[])):=by
 unfold wEC at hm
 refine Gv.of Tryz.func33 Z Tryz.ntmps33 Tryz.results33 Z (sR gAf Z ?_)
 let B0:List Value:=[.slice av p0.Starts.length aW,.slice az p0.Splits.length aX,.slice aV p0.Clocks.length aY,.slice am p0.Readings.length ap]
 refine ZE (cs:=B0) rfl rfl rfl rfl rfl rfl (by rfl) hS ?_
 intro W1 b2 cN
 have q:=cN.freeze (k:=0) rfl
 obtain ⟨U5,bm,a0,cR⟩:=q
 replace a0:=Cl.of a0
 have bS:sW w U U5 [] W1:=cR
 replace a0:Cl U5 b2 0 B0:=a0
 refine oA Z Z (eN (zH (zW (sR (wEG (.fx 3 (wUx (.nil)) .stop)) Z (oR Z (zE Z Z zU Z zS) (oL Z (bS.ldC (f:=0) a0 (v:=.slice av p0.Starts.length aW) Z Z zY Z) (oR Z (zd Z Z zC) (bnK hm fun dQ bZ cZ=>zK 0 Z Z Z Z (zL Z Z Tryz.call69 (zD Z (zD Z (zD Z zQ))) Z) bS (fun hs=>wEU (↑p0.Starts.length:Int) 1 8 W1 U5 hs bZ) (.inr Z) ?_))))))))
 rintro au dE dL bD bb cM ⟨rfl,rfl⟩
 have ak:sW w U au [] bD:=cM
 refine oR Z (Zf Z Z) (oM Z Z (ifc cZ ?_ ?_))
 intro ab dl
 refine zk Z Z Z (zO Z Z (nC ab.out)) (fun _=>zE Z Z zU Z Zd) ?_
 have ba:=a0.le bb
 refine ZI Z Z Z (zO Z Z (nC ab.out)) (ak.ldC (f:=1) ba (v:=.slice az p0.Splits.length aX) Z Z Zi Z) Z (zk Z Z Z (zO Z Z (nC ab.out)) (fun _=>zd Z Z zr) (zk Z Z Z (zO Z Z (nC ab.out)) (fun _=>yN Z Z Z) (oR Z (zt Z (nC ab.out) Z) (oM Z Z (ifc dl ?_ ?_)))))
 intro ae dm
 refine oT Z ae (oT Z ae (oT Z ae (oT Z ae (oR Z (zl Z (Zl ae.out) Z) (oM Z Z (oN Z (oN Z (oN Z (oN Z (oR Z (zl Z Z Z) (oA Z Z (eN (ZG Z (sR fL1 Z (oA Z Z (eN (zP (zg (zN ?_)))))))))))))))))))
 cases dm
 exact ⟨Z,_,(ZH Z),au,_,ak,Z,Z⟩
 intro ae dp
 refine rU Z (wF Z ae) (zE Z Z zU Z Zy) (ZI Z Z Z (wF Z ae) (ak.ldC (f:=2) ba (v:=.slice aV p0.Clocks.length aY) Z Z yD Z) Z (rU Z (wF Z ae) (zd Z Z ZX) (rU Z (wF Z ae) (yN Z Z Z) (oR Z (zt Z (Ze ae.out) Z) (oM Z Z (ifc dp ?_ ?_))))))
 intro ah dq
 refine oT Z ah (oT Z ah (oT Z ah (oT Z ah (oR Z (zl Z (Zl ah.out) Z) (oA Z Z (eN (ZG Z (sR fL1 Z (oA Z Z (eN (zP (zg (zN ?_)))))))))))))
 cases dq
 exact ⟨Z,_,(ZH Z),au,_,ak,Z,Z⟩
 intro ah dr
 refine rU Z (wF Z ah) (zE Z Z zU Z yO) (ZI Z Z Z (wF Z ah) (ak.ldC (f:=3) ba (v:=.slice am p0.Readings.length ap) Z Z yQ Z) Z (rU Z (wF Z ah) (zd Z Z Zk) (rU Z (wF Z ah) (yN Z Z Z) (oR Z (zt Z (Ze ah.out) Z) (oA Z Z (eN (ifc dr ?_ ?_)))))))
 intro br dt
 refine cT Z br (sR fL1 Z (oA Z Z (eN (zP (zg (zN ?_))))))
 cases dt
 exact ⟨Z,_,(ZH Z),au,_,ak,Z,Z⟩
 intro br du
 refine cF Z br (sR (.fl 0 (.fl 1 (.fx 2 (wUs (.fx 7 (wVB (.nil)) .stop)) .stop))) Z (oR Z (zE Z Z zU Z zS) (oL Z (ak.ldC (f:=0) ba (v:=.slice av p0.Starts.length aW) Z Z zY Z) ?_)))
 have cm:=cS.le bm
 have bK:=cm.le bb
 have cG:FnOK Tryz.prog au (.func (.func 90) #[] #[]) wUE wUF wCf:=⟨90,[],[],rfl,Tryz.call90,fun U1 w1 x y vs le hs ha hm=>by obtain rfl:=ha;exact wIk x w1 U1 hs  hm⟩
 refine bnK du fun dS cn dv=>zK 0 Z Z Z Z (zL Z Z Tryz.call89 (zD Z (zD Z zQ)) Z) ak (fun hs=>wGr p0.Starts av aW wCf (.func (.func 90) #[] #[]) bD au hs bK cG cn) (.inr Z) ?_
 rintro bh dF dM bE bd cO ⟨rfl,rfl⟩
 have bw:sW w U bh [] bE:=cO
 refine oR Z (Zf Z Z) (oM Z Z (ifc dv ?_ ?_))
 intro ai dw
 refine zk Z Z Z (zO Z Z (nC ai.out)) (fun _=>zE Z Z zU Z Zd) ?_
 have bL:=ba.le bd
 refine ZI Z Z Z (zO Z Z (nC ai.out)) (bw.ldC (f:=1) bL (v:=.slice az p0.Splits.length aX) Z Z Zi Z) Z ?_
 have cp:=cU.le bm
 have cq:=cp.le bb
 have bM:=cq.le bd
 have cH:FnOK Tryz.prog bh (.func (.func 92) #[] #[]) wUG wUH wCh:=⟨92,[],[],rfl,Tryz.call92,fun U1 w1 x y vs le hs ha hm=>by obtain rfl:=ha;exact wIl x w1 U1 hs  hm⟩
 refine bnK dw fun dT cr dx=>zK 0 Z Z Z (zO Z Z (nC ai.out)) (zL Z Z Tryz.call91 (zD Z (zD Z zQ)) Z) bw (fun hs=>wFH p0.Splits az aX wCh (.func (.func 92) #[] #[]) bE bh hs bM cH cr) (.inr Z) ?_
 rintro bi dG dN bF be cP ⟨rfl,rfl⟩
 have bz:sW w U bi [] bF:=cP
 refine zk Z Z Z (zO Z Z (nC ai.out)) (fun _=>Zf Z Z) (oR Z (zt Z (nC ai.out) Z) (oA Z Z (eN (ifc dx ?_ ?_))))
 intro bs dy
 refine zx (nC bs.out) (sR gBm Z (oR Z (zE Z Z zU Z Zy) ?_))
 have bN:=bL.le be
 refine oL Z (bz.ldC (f:=2) bN (v:=.slice aV p0.Clocks.length aY) Z Z yD Z) ?_
 have ct:=cV.le bm
 have cu:=ct.le bb
 have cw:=cu.le bd
 have bO:=cw.le be
 have cI:FnOK Tryz.prog bi (.func (.func 95) #[] #[]) wUI wUJ wCi:=⟨95,[],[],rfl,Tryz.call95,fun U1 w1 x y vs le hs ha hm=>by obtain rfl:=ha;exact wIm x w1 U1 hs  hm⟩
 refine bnK dy fun x70 cx dz=>zK 0 Z Z Z Z (zL Z Z Tryz.call94 (zD Z (zD Z zQ)) Z) bz (fun hs=>wEn p0.Clocks aV aY wCi (.func (.func 95) #[] #[]) bF bi hs bO cI cx) (.inr Z) ?_
 rintro bj dH dO bG bf cQ ⟨rfl,rfl⟩
 have bA:sW w U bj [] bG:=cQ
 refine oR Z (Zf Z Z) (oA Z Z (eN (ifc dz ?_ ?_)))
 intro bt dA
 refine zx (nC bt.out) (zH (yp fun dC bT=>?_))
 have bu:dC 1=.pointer (some ⟨b2,0,none⟩):=(bT 1).trans rfl
 clear bT
 refine rR gBm Z (oR Z (zE Z bu zU Z yO) ?_)
 have bP:=bN.le bf
 refine oL Z (bA.ldC (f:=3) bP (v:=.slice am p0.Readings.length ap) Z Z yQ Z) ?_
 have cy:=cW.le bm
 have cz:=cy.le bb
 have cA:=cz.le bd
 have cC:=cA.le be
 have bQ:=cC.le bf
 have cJ:FnOK Tryz.prog bj (.func (.func 97) #[] #[]) wSU wSV wCj:=⟨97,[],[],rfl,Tryz.call97,fun U1 w1 x y vs le hs ha hm=>by obtain rfl:=ha;exact wIn x w1 U1 hs  hm⟩
 refine bnK dA fun x92 cD dB=>zK 0 Z Z Z Z (zL Z Z Tryz.call96 (zD Z (zD Z zQ)) Z) bA (fun hs=>wDD p0.Readings am ap wCj (.func (.func 97) #[] #[]) bG bj hs bQ cJ cD) (.inr Z) ?_
 rintro bk dI dP bH bg cK ⟨rfl,rfl⟩
 have bv:sW w U bk [] bH:=cK
 refine oR Z (Zf Z Z) (oA Z Z (eN (ifc dB ?_ ?_)))
 intro bp cX
 refine zx (nC bp.out) (sR (wEG (.fx 3 gAc .stop)) Z (oR Z (zE Z bu zU Z yO) ?_))
 have bI:=bP.le bg
 refine oL Z (bv.ldC (f:=3) bI (v:=.slice am p0.Readings.length ap) Z Z yQ Z) (oR Z (Runs.mkf Z zQ (zD bu zQ)) ?_)
 have bJ:=bQ.le bg
 have bV:=bK.le bd
 have bW:=bV.le be
 have bX:=bW.le bf
 have bY:=bX.le bg
 have b5:=bM.le be
 have cb:=b5.le bf
 have cd:=cb.le bg
 have cf:=bO.le bf
 have cg:=cf.le bg
 have cE:FnOK Tryz.prog bk (.func (.func 98) #[] #[.pointer (some ⟨b2,0,none⟩)]) wSU wSV (fun x=>wCk x p0):=⟨98,[],[.pointer (some ⟨b2,0,none⟩)],rfl,Tryz.call98,fun U1 w1 x y vs le hs ha hm=>by obtain rfl:=ha;exact wIo x p0 b2 av aW az aX aV aY am ap w1 U1 hs (bI.le le) (bY.le le) (cd.le le) (cg.le le) (bJ.le le) hm⟩
 refine bnK cX fun dR cj cY=>zK 0 Z Z Z Z (zL Z Z Tryz.call96 (zD Z (zD Z zQ)) Z) bv (fun hs=>wDD p0.Readings am ap (fun x=>wCk x p0) (.func (.func 98) #[] #[.pointer (some ⟨b2,0,none⟩)]) bH bk hs bJ cE cj) (.inr Z) ?_
 rintro bn dD dK bU dJ cL ⟨rfl,rfl⟩
 have bR:sW w U bn [] bU:=cL
 refine oR Z (Zf Z Z) (oA Z Z (eN (ifc cY ?_ ?_)))
 intro bq da
 refine zx (nC bq.out) (Zh (zq (zG (sR fL1 Z (oA Z Z (eN (zP ?_)))))))
 cases da
 exact ⟨Z,_,(ZH Z),bn,_,bR,Z,Z⟩
 intro bq db
 refine ZG (nF (bq.out)) (sR fL1 Z (oA Z Z (eN (zP (zg (zN ?_))))))
 cases db
 exact ⟨Z,_,(ZH Z),bn,_,bR,Z,Z⟩
 intro bp de
 refine ZG (nF (bp.out)) (sR fL1 Z (oA Z Z (eN (zP (zg (zN ?_))))))
 cases de
 exact ⟨Z,_,(ZH Z),bk,_,bv,Z,Z⟩
 intro bt df
 refine ZG (nF (bt.out)) (sR fL1 Z (oA Z Z (eN (zP (zg (zN ?_))))))
 cases df
 exact ⟨Z,_,(ZH Z),bj,_,bA,Z,Z⟩
 intro bs dg
 refine ZG (nF (bs.out)) (sR fL1 Z (oA Z Z (eN (zP (zg (zN ?_))))))
 cases dg
 exact ⟨Z,_,(ZH Z),bi,_,bz,Z,Z⟩
 intro ai dh
 refine ZF Z Z Z (zi Z Z (nF (ai.out)) Z) (ZF Z Z Z (zi Z Z (nF (ai.out)) Z) (yJ Z Z Z (zi Z Z (nF (ai.out)) Z) (ZF Z Z Z (zi Z Z (nF (ai.out)) Z) (oR Z (zl Z (nF (ai.out)) Z) (oA Z Z (eN (ZG Z (sR fL1 Z (oA Z Z (eN (zP (zg (zN ?_)))))))))))))
 cases dh
 exact ⟨Z,_,(ZH Z),bh,_,bw,Z,Z⟩
 intro ab dk
 refine ZF Z Z Z (zi Z Z (nF (ab.out)) Z) (ZF Z Z Z (zi Z Z (nF (ab.out)) Z) (ZF Z Z Z (zi Z Z (nF (ab.out)) Z) (ZF Z Z Z (zi Z Z (nF (ab.out)) Z) (oR Z (zl Z (nF (ab.out)) Z) (oM Z Z (oN Z (oN Z (oN Z (oN Z (oR Z (zl Z Z Z) (oM Z Z (oN Z (oN Z (oN Z (oN Z (oR Z (zl Z Z Z) (oA Z Z (eN (ZG Z (sR fL1 Z (oA Z Z (eN (zP (zg (zN ?_)))))))))))))))))))))))))
 cases dk
 exact ⟨Z,_,(ZH Z),au,_,ak,Z,Z⟩
end Go.Proofs.YtlnfbjphfoipaaaGreat
namespace Go.Proofs.YtlnfbjphfoipaaaGreat
open Go.KL
set_option maxHeartbeats 4000000
theorem wCM  (w:World) (U:PHeap) (hS:St0 w U [])  {r:wAE} (hm:wDN =some r):Gv Tryz.prog 65 [] w (wCp w [] U (fun U_ L_ v=>v=.agg #[jV r.skier,jV r.mat]/\L_=[])):=by
 unfold wDN at hm
 refine Gv.of Tryz.func65 Z Tryz.ntmps65 Tryz.results65 Z (sR (.fx 0 .nil .stop) Z (ze (cs:=[jV 0,jV 0]) Z Z Z Z Z zj Z hS ?_))
 intro W1 b2 ai
 refine eN (sR gAk Z ?_)
 let B0:List Value:=[jV (-1),jV 0]
 refine oR Z (ZO (pv:=[(0,jV (-1)),(1,jV 0)]) (z:=[jV 0,jV 0]) (cs:=B0) Z (wAH Z (wAH Z wAY)) zj wBX Z Z) (zm (j:=0) (vs:=B0) Z Z Z Z ai Z Z Z Z zJ (zA Z) Z Z Z ?_)
 intro W5 aj
 have ab:sW w U U [.blk b2 123 B0] W5:=aj
 refine eN (zP ?_)
 cases hm
 exact ⟨rfl,_,(wKE (v:=.agg B0.toArray) ⟨⟨_,rfl,(wBt zn zJ (ab.blkAt (k:=0) rfl) (vs:=B0) rfl rfl)⟩,trivial⟩),U,_,(ab.pick [] _ (by decide) rfl),rfl,rfl⟩
theorem wGD {S E:Type} (PY:S->PHeap->List Res->Prop) (PE:E->PHeap->List Res->Prop) (f:S->wAJ->Option (S ⊕ E)) (y:Nat) (s0:S) (p1:wAA) (am:Nat) (cn:Option Addr) (ct:Nat) (cp:Option Addr) (cu:Nat) (cq:Option Addr) (cw:Nat) (cr:Option Addr) (cx:Nat) (w:World) (L:List Res) (U:PHeap) (hS:St ⟨w,L,U⟩ U L w) (hP:PY s0 U L) (hY:YOK Tryz.prog y wUK PY PE f U) (bk:Cl U am 0 [.slice cn p1.Starts.length ct,.slice cp p1.Splits.length cu,.slice cq p1.Clocks.length cw,.slice cr p1.Readings.length cx]) (jH:Sl U 1 cn ct p1.Starts.length (hH KL.encI p1.Starts)) (jJ:Sl U 2 cp cu p1.Splits.length (hH wAB p1.Splits)) (jK:Sl U 3 cq cw p1.Clocks.length (hH wAD p1.Clocks)) (jL:Sl U 4 cr cx p1.Readings.length (hH wAC p1.Readings)) {r:S ⊕ E} (hm:wCJ f s0 p1=some r):Gv Tryz.prog 126 [.func (.yield y) #[] #[],.pointer (some ⟨am,0,none⟩)] w (ItS w L U PY PE r):=by
 unfold wCJ at hm
 refine Gv.of Tryz.func126 Z Tryz.ntmps126 Tryz.results126 Z (sR fL11 Z (oR Z (zE Z Z zU Z Zd) (oL Z (hS.ldC (f:=1) bk (v:=.slice cp p1.Splits.length cu) Z Z Zi Z) (oR Z (zd Z Z zr) (oR Z (zE Z Z zU Z Zy) (oL Z (hS.ldC (f:=2) bk (v:=.slice cq p1.Clocks.length cw) Z Z yD Z) (oR Z (zd Z Z ZX) (oR Z (zE Z Z zU Z yO) (oL Z (hS.ldC (f:=3) bk (v:=.slice cr p1.Readings.length cx) Z Z yQ Z) (oR Z (zd Z Z Zk) ?_))))))))))
 let B0:List Value:=[jV 1,jV (↑p1.Splits.length:Int),jV (↑p1.Clocks.length:Int),jV (↑p1.Readings.length:Int)]
 refine oR Z (Runs.buildA (pv:=[(0,jV 1),(1,jV (↑p1.Splits.length:Int)),(2,jV (↑p1.Clocks.length:Int)),(3,jV (↑p1.Readings.length:Int))]) (z:=[jV 0,jV 0,jV 0,jV 0]) (cs:=B0) Z (wAH Z (wAH Z (wAH Z (wAH Z wAY)))) Tryz.zeroValue195 Tryz.runUnderlying195 zB Z Z) (oM Z Z (eN (zW ?_)))
 have q:=wCH hm
 obtain ⟨jO,au⟩:=q
 have q:=wCG au
 obtain ⟨bZ,gN⟩:=q
 replace bZ:=zI bZ
 refine yG (fun ab dE σ_ w_=>∃ (U_:PHeap) (az:List Res),σ_ 18=jV (↑ab:Int)/\σ_ 0=.func (.yield y) #[] #[]/\σ_ 1=.pointer (some ⟨am,0,none⟩)/\σ_ 17=.agg B0.toArray/\PHeap.Le U U_/\St ⟨w,L,U⟩ U_ az w_/\PY dE U_ az) gN ?_ ?_ ?_
 exact ⟨U,L,Z,Z,Z,Z,(zM _),hS,hP⟩
 rintro ab dE jU j9 jh bU ⟨bC,az,aW,cS,bI,bJ,aq,bS,dg⟩ iD bm
 have cO:Hid ((↑ab:Int) < 4):=zI (wBJ bU)
 replace bU:=zI bU
 have dw:Hid (w64 ((↑ab:Int) + 1)=(↑(ab + 1):Int)):=zI (by have h1:=bZ.out;have h2:=cO.out;rw [wAX] <;> omega)
 refine sR fL1 Z (oR Z (zX Z aW Z) (eN (zH (cT Z cO (kN (zH (zW (sR fL4 Z (oM Z aW (bnK iD fun x33 bR ik=>oR Z (Runs.ixA (cs:=hH KL.encI ([1,(↑p1.Splits.length:Int),(↑p1.Clocks.length:Int),(↑p1.Readings.length:Int)]:List Int)) Z bJ aW Tryz.runUnderlying195 zB (wAx bR) (wBA bR) (wGK zF (wFY (sz:=1) (fun _=>Z) _ _ 0 _ _ (wAS bR) Z))) (oA Z Z (oA Z Z (eN (sR fL4 Z (oR Z (zE Z bI zU Z zS) ?_)))))))))))))))
 have ge:=bk.le aq
 refine oL Z (bS.ldC (f:=0) ge (v:=.slice cn p1.Starts.length ct) Z Z zY Z) (oR Z (zd Z Z zC) (oA Z Z (eN (zH ?_))))
 have q:=bnd ik
 obtain ⟨⟨dS,iP⟩,dA,dx⟩:=q
 try dsimp only at dx
 refine yU (fun σ_ w_=>∃ (U_:PHeap) (aV:List Res),σ_ 0=.func (.yield y) #[] #[]/\σ_ 1=.pointer (some ⟨am,0,none⟩)/\σ_ 3=jV (↑ab:Int)/\σ_ 4=jV x33/\σ_ 5=jV (↑p1.Starts.length:Int)/\σ_ 17=.agg B0.toArray/\σ_ 18=jV (↑ab:Int)/\σ_ 30=.bool dS/\PHeap.Le bC U_/\St ⟨w,L,U⟩ U_ aV w_/\PY iP U_ aV) ?_ ?_
 refine rR fL6 Z (oM Z Z (oR Z (Runs.eql Z Z Z) (oM Z Z ?_)))
 by_cases ai:(↑ab:Int)=2
 have dy:=dA;rw [if_pos ai] at dy;replace ai:=zI ai
 refine oT Z ai (oT Z ai (oR Z (zl Z (Zl ai.out) Z) (zh ?_)))
 cases dy
 exact zG ⟨Z,⟨bC,az,cS,bI,Z,Z,Z,bJ,aW,Z,(zM _),bS,dg⟩⟩
 have dz:=dA;rw [if_neg ai] at dz;replace ai:=zI ai
 refine zz Z Z Z (wF Z ai) Z Z (rU Z (wF Z ai) (Runs.eql Z Z Z) (oR Z (zt Z (Ze ai.out) Z) (zh ?_)))
 cases dz
 exact zG ⟨Z,⟨bC,az,cS,bI,Z,Z,Z,bJ,aW,Z,(zM _),bS,dg⟩⟩
 rintro ln jq ⟨ba,aV,cV,cW,cX,cY,fE,cZ,da,db,av,dq,dh⟩
 refine ifc dx ?_ ?_
 intro bE bs
 refine ZG (db.trans (congrArg nB bE.out)) (rR fL1 Z (oA Z Z (eN (sR fL2 Z (oM Z Z (oM Z Z (eN (zW ?_))))))))
 have q:=wCH bs
 obtain ⟨jR,bj⟩:=q
 have q:=wCG bj
 obtain ⟨cd,gQ⟩:=q
 replace cd:=zI cd
 refine yG (fun ah dI σ_ w_=>∃ (U_:PHeap) (aY:List Res),σ_ 32=jV (↑ah:Int)/\σ_ 0=.func (.yield y) #[] #[]/\σ_ 1=.pointer (some ⟨am,0,none⟩)/\σ_ 3=jV (↑ab:Int)/\σ_ 4=jV x33/\σ_ 17=.agg B0.toArray/\σ_ 18=jV (↑ab:Int)/\σ_ 31=jV 1/\PHeap.Le ba U_/\St ⟨w,L,U⟩ U_ aY w_/\PY dI U_ aY) gQ ?_ ?_ ?_
 exact ⟨ba,aV,Z,cV,cW,cX,cY,cZ,da,Z,(zM _),dq,dh⟩
 rintro ah dI jY lp jr bX ⟨cE,aY,bQ,fG,fH,fJ,de,fK,fL,df,cm,gG,fR⟩ bu dv
 have cK:Hid ((↑ah:Int) < 1):=zI (wBJ bX)
 replace bX:=zI bX
 have gR:Hid (w64 ((↑ah:Int) + 1)=(↑(ah + 1):Int)):=zI (by have h1:=cd.out;have h2:=cK.out;rw [wAX] <;> omega)
 refine sR fL1 Z (oR Z (zX Z bQ df) (eN (zH (cT Z cK (kN (zH (zW (sR fL2 Z (oM Z bQ (oA Z Z (eN (sR fL2 Z (oM Z de (oM Z Z (eN (zW ?_))))))))))))))))
 have q:=wCH bu
 obtain ⟨jN,bg⟩:=q
 have q:=wCG bg
 obtain ⟨bY,gM⟩:=q
 replace bY:=zI bY
 refine yG (fun aj dF σ_ w_=>∃ (U_:PHeap) (bv:List Res),σ_ 36=jV (↑aj:Int)/\σ_ 0=.func (.yield y) #[] #[]/\σ_ 1=.pointer (some ⟨am,0,none⟩)/\σ_ 3=jV (↑ab:Int)/\σ_ 4=jV x33/\σ_ 6=jV (↑ah:Int)/\σ_ 17=.agg B0.toArray/\σ_ 18=jV (↑ab:Int)/\σ_ 31=jV 1/\σ_ 32=jV (↑ah:Int)/\σ_ 35=jV x33/\PHeap.Le cE U_/\St ⟨w,L,U⟩ U_ bv w_/\PY dF U_ bv) gM ?_ ?_ ?_
 exact ⟨cE,aY,Z,fG,fH,fJ,de,Z,fK,fL,df,bQ,Z,(zM _),gG,fR⟩
 rintro aj dF jS j8 jg bT ⟨je,bv,bN,bF,en,bG,eu,bH,ey,eA,eC,eD,cP,cf,gi,fS⟩ iC dr
 have cL:Hid ((↑aj:Int) < x33):=zI (wBJ bT)
 replace bT:=zI bT
 have gS:Hid (w64 ((↑aj:Int) + 1)=(↑(aj + 1):Int)):=zI (by have h1:=bY.out;have h2:=cL.out;rw [wAX] <;> omega)
 refine sR fL1 Z (oR Z (zX Z bN cP) (eN (zH (cT Z cL (kN (zH (zW (sR fL2 Z (oM Z bN (oA Z Z (eN (sR (wIc (.fx 5 (wRS gAv) .stop)) Z (oM Z bF (oM Z bG (oM Z bH (oM Z Z ?_))))))))))))))))
 let B1:List Value:=[jV 0,jV 0,jV 0,.bool false]
 refine oR Z (ZO (pv:=[(0,jV (↑ab:Int)),(1,jV (↑ah:Int)),(2,jV (↑aj:Int)),(3,.bool true)]) (z:=B1) (cs:=[jV (↑ab:Int),jV (↑ah:Int),jV (↑aj:Int),.bool true]) Z (wAH Z (wAH Z (wAH Z (wAH Z wAY)))) Tryz.zeroValue93 wHX Z Z) (bnK iC fun i9 fT bn=>OKS.yieldT 0 (a:=(⟨(↑ab:Int),(↑ah:Int),(↑aj:Int),true⟩:wAJ)) Z Z Z Z Z Z (zD Z zQ) gi hY (((aq.trans av).trans cm).trans cf) fS Z fT Z ?_)
 rintro bB cA jt cG dB dk bb
 rcases i9 with iL | iL
 try dsimp only at bn bb
 obtain ⟨rfl,it⟩:=bb
 have gj:St ⟨w,L,U⟩ bB cA cG:=dk
 refine oR Z (Zf Z Z) (oM Z Z (zz Z Z Z (zO Z Z Z) Z bF (zz Z Z Z (zO Z Z Z) Z bG (zz Z Z Z (zO Z Z Z) Z bH (zz Z Z Z (zO Z Z Z) Z Z (zk Z Z Z (zO Z Z Z) (fun _=>ZO (pv:=[(0,jV (↑ab:Int)),(1,jV (↑ah:Int)),(2,jV (↑aj:Int)),(3,.bool false)]) (z:=B1) (cs:=[jV (↑ab:Int),jV (↑ah:Int),jV (↑aj:Int),.bool false]) Z (wAH Z (wAH Z (wAH Z (wAH Z wAY)))) Tryz.zeroValue93 wHX Z Z) (bnK bn fun ja fU bo=>OKS.yieldT 0 (a:=(⟨(↑ab:Int),(↑ah:Int),(↑aj:Int),false⟩:wAJ)) Z Z Z (zO Z Z Z) Z Z (zD Z zQ) gj hY ((((aq.trans av).trans cm).trans cf).trans dB) it Z fU Z ?_)))))))
 rintro aZ bw ju cH iF dl bd
 rcases ja with iM | iM
 try dsimp only at bo bd
 obtain ⟨rfl,iu⟩:=bd
 have gm:St ⟨w,L,U⟩ aZ bw cH:=dl
 refine zk Z Z Z (zO Z Z Z) (fun _=>Zf Z Z) (oR Z (zt Z Z Z) (eN (zx Z (Zh (zq (zG (rR fL2 Z (oR Z (ZP (zZ Z bN Z) (congrArg (jV) gS.out)) (oM Z Z (zh ?_))))))))))
 obtain rfl:=nA bo
 exact zG ⟨Z,_,Z,⟨aZ,bw,Z,bF,en,bG,eu,bH,ey,eA,eC,eD,cP,((cf.trans dB).trans iF),gm,iu⟩⟩
 try dsimp only at bo bd
 obtain ⟨rfl,iv⟩:=bd
 have gq:St ⟨w,L,U⟩ aZ bw cH:=dl
 refine zk Z Z Z (zO Z Z Z) (fun _=>Zf Z Z) (oR Z (zt Z Z Z) (eN (ZG Z (zP (zg (zN ?_))))))
 have q:=wAZ bo
 obtain ⟨iQ,gX,dY⟩:=q
 obtain rfl:=wCA bu bg (dr iQ dY)
 refine zN (zg (zg (zN ?_)))
 have q:=wAZ gX
 obtain ⟨iR,gZ,dZ⟩:=q
 obtain rfl:=wCA bs bj (dv iR dZ)
 refine zN (zg (zg (zN ?_)))
 have q:=wAZ gZ
 obtain ⟨iT,g7,d4⟩:=q
 obtain rfl:=wCA hm au (bm iT d4)
 refine zN (zg ?_)
 cases g7
 exact ⟨Z,_,(wTD),aZ,_,gq,iv⟩
 try dsimp only at bn bb
 obtain ⟨rfl,iw⟩:=bb
 have gt:St ⟨w,L,U⟩ bB cA cG:=dk
 refine oR Z (Zf Z Z) (oM Z Z (oN Z (oN Z (oN Z (oN Z (oN Z (yJ Z Z Z (zi Z Z Z Z) (oN Z (oR Z (zl Z Z Z) (eN (ZG Z (zP (zg (zN ?_))))))))))))))
 have q:=wAZ bn
 obtain ⟨iU,g8,d5⟩:=q
 obtain rfl:=wCA bu bg (dr iU d5)
 refine zN (zg (zg (zN ?_)))
 have q:=wAZ g8
 obtain ⟨iV,g9,d6⟩:=q
 obtain rfl:=wCA bs bj (dv iV d6)
 refine zN (zg (zg (zN ?_)))
 have q:=wAZ g9
 obtain ⟨iW,ib,d7⟩:=q
 obtain rfl:=wCA hm au (bm iW d7)
 refine zN (zg ?_)
 cases ib
 exact ⟨Z,_,(wTD),bB,_,gt,iw⟩
 rintro jZ k9 ji ⟨dN,dJ,fM,eE,eF,eG,eH,jx,eI,eJ,eK,eL,eM,iG,gu,fV⟩ gH
 have ic:=wCu bu bg gH
 have dT:Hid (¬ ((↑((x33:Int) - 0).toNat:Int) < x33)):=zI (wAj)
 refine sR fL1 Z (oR Z (zX Z fM eM) (eN (zH (cF Z dT (ZT (zf (zf (ZK (zq (zG (rR fL2 Z (oR Z (ZP (zZ Z eL Z) (congrArg (jV) gR.out)) (oM Z Z (zh ?_))))))))))))))
 obtain rfl:=nA ic
 exact zG ⟨Z,_,Z,⟨dN,dJ,Z,eE,eF,eG,eH,eI,eJ,eK,(cm.trans iG),gu,fV⟩⟩
 rintro j0 lf jj ⟨dO,dK,fN,eO,eQ,jy,jz,eR,eS,eU,iH,gv,fW⟩ gI
 have ie:=wCu bs bj gI
 have dU:Hid (¬ ((↑((1:Int) - 0).toNat:Int) < 1)):=zI (wAj)
 refine sR fL1 Z (oR Z (zX Z fN eU) (eN (zH (cF Z dU (ZT (zf (zf (ZK (zq (zG (rR fL2 Z (oR Z (ZP (zZ Z eS Z) (congrArg (jV) dw.out)) (oM Z Z (zh ?_))))))))))))))
 obtain rfl:=nA ie
 exact zG ⟨Z,_,Z,⟨dO,dK,Z,eO,eQ,eR,((aq.trans av).trans iH),gv,fW⟩⟩
 intro bE bp
 refine zx (db.trans (congrArg nB (nD.2 bE.out))) (kN (sR fL2 Z (oM Z fE (oM Z Z (eN (zW ?_))))))
 have q:=wCH bp
 obtain ⟨jP,bh⟩:=q
 have q:=wCG bh
 obtain ⟨b5,gO⟩:=q
 replace b5:=zI b5
 refine yG (fun ae dG σ_ w_=>∃ (U_:PHeap) (aX:List Res),σ_ 32=jV (↑ae:Int)/\σ_ 0=.func (.yield y) #[] #[]/\σ_ 1=.pointer (some ⟨am,0,none⟩)/\σ_ 3=jV (↑ab:Int)/\σ_ 4=jV x33/\σ_ 17=.agg B0.toArray/\σ_ 18=jV (↑ab:Int)/\σ_ 31=jV (↑p1.Starts.length:Int)/\PHeap.Le ba U_/\St ⟨w,L,U⟩ U_ aX w_/\PY dG U_ aX) gO ?_ ?_ ?_
 exact ⟨ba,aV,Z,cV,cW,cX,cY,cZ,da,Z,(zM _),dq,dh⟩
 rintro ae dG jW lg jk bV ⟨cD,aX,bO,eV,eW,eX,cQ,eY,eZ,cR,cg,gw,fY⟩ bt dt
 have cM:Hid ((↑ae:Int) < (↑p1.Starts.length:Int)):=zI (wBJ bV)
 replace bV:=zI bV
 have gU:Hid (w64 ((↑ae:Int) + 1)=(↑(ae + 1):Int)):=zI (by have h1:=b5.out;have h2:=cM.out;rw [wAX] <;> omega)
 refine sR fL1 Z (oR Z (zX Z bO cR) (eN (zH (cT Z cM (kN (zH (zW (sR fL2 Z (oM Z bO (oA Z Z (eN (sR fL2 Z (oM Z cQ (oM Z Z (eN (zW ?_))))))))))))))))
 have q:=wCH bt
 obtain ⟨jQ,bi⟩:=q
 have q:=wCG bi
 obtain ⟨cb,gP⟩:=q
 replace cb:=zI cb
 refine yG (fun ak dH σ_ w_=>∃ (U_:PHeap) (bz:List Res),σ_ 36=jV (↑ak:Int)/\σ_ 0=.func (.yield y) #[] #[]/\σ_ 1=.pointer (some ⟨am,0,none⟩)/\σ_ 3=jV (↑ab:Int)/\σ_ 4=jV x33/\σ_ 6=jV (↑ae:Int)/\σ_ 17=.agg B0.toArray/\σ_ 18=jV (↑ab:Int)/\σ_ 31=jV (↑p1.Starts.length:Int)/\σ_ 32=jV (↑ae:Int)/\σ_ 35=jV x33/\PHeap.Le cD U_/\St ⟨w,L,U⟩ U_ bz w_/\PY dH U_ bz) gP ?_ ?_ ?_
 exact ⟨cD,aX,Z,eV,eW,eX,cQ,Z,eY,eZ,cR,bO,Z,(zM _),gw,fY⟩
 rintro ak dH jX lh jl bW ⟨jf,bz,bP,bK,e8,bL,e9,bM,fb,fc,fd,ff,cU,cj,gx,fZ⟩ iE du
 have cN:Hid ((↑ak:Int) < x33):=zI (wBJ bW)
 replace bW:=zI bW
 have gW:Hid (w64 ((↑ak:Int) + 1)=(↑(ak + 1):Int)):=zI (by have h1:=cb.out;have h2:=cN.out;rw [wAX] <;> omega)
 refine sR fL1 Z (oR Z (zX Z bP cU) (eN (zH (cT Z cN (kN (zH (zW (sR fL2 Z (oM Z bP (oA Z Z (eN (sR (wIc (.fx 5 (wRS gAv) .stop)) Z (oM Z bK (oM Z bL (oM Z bM (oM Z Z ?_))))))))))))))))
 let B2:List Value:=[jV 0,jV 0,jV 0,.bool false]
 refine oR Z (ZO (pv:=[(0,jV (↑ab:Int)),(1,jV (↑ae:Int)),(2,jV (↑ak:Int)),(3,.bool true)]) (z:=B2) (cs:=[jV (↑ab:Int),jV (↑ae:Int),jV (↑ak:Int),.bool true]) Z (wAH Z (wAH Z (wAH Z (wAH Z wAY)))) Tryz.zeroValue93 wHX Z Z) (bnK iE fun jb ga bq=>OKS.yieldT 0 (a:=(⟨(↑ab:Int),(↑ae:Int),(↑ak:Int),true⟩:wAJ)) Z Z Z Z Z Z (zD Z zQ) gx hY (((aq.trans av).trans cg).trans cj) fZ Z ga Z ?_)
 rintro bD cC jv cI dC dm be
 rcases jb with iN | iN
 try dsimp only at bq be
 obtain ⟨rfl,iy⟩:=be
 have gy:St ⟨w,L,U⟩ bD cC cI:=dm
 refine oR Z (Zf Z Z) (oM Z Z (zz Z Z Z (zO Z Z Z) Z bK (zz Z Z Z (zO Z Z Z) Z bL (zz Z Z Z (zO Z Z Z) Z bM (zz Z Z Z (zO Z Z Z) Z Z (zk Z Z Z (zO Z Z Z) (fun _=>ZO (pv:=[(0,jV (↑ab:Int)),(1,jV (↑ae:Int)),(2,jV (↑ak:Int)),(3,.bool false)]) (z:=B2) (cs:=[jV (↑ab:Int),jV (↑ae:Int),jV (↑ak:Int),.bool false]) Z (wAH Z (wAH Z (wAH Z (wAH Z wAY)))) Tryz.zeroValue93 wHX Z Z) (bnK bq fun jc gb br=>OKS.yieldT 0 (a:=(⟨(↑ab:Int),(↑ae:Int),(↑ak:Int),false⟩:wAJ)) Z Z Z (zO Z Z Z) Z Z (zD Z zQ) gy hY ((((aq.trans av).trans cg).trans cj).trans dC) iy Z gb Z ?_)))))))
 rintro a0 bA jw cJ iI dp bf
 rcases jc with iO | iO
 try dsimp only at br bf
 obtain ⟨rfl,iz⟩:=bf
 have gz:St ⟨w,L,U⟩ a0 bA cJ:=dp
 refine zk Z Z Z (zO Z Z Z) (fun _=>Zf Z Z) (oR Z (zt Z Z Z) (eN (zx Z (Zh (zq (zG (rR fL2 Z (oR Z (ZP (zZ Z bP Z) (congrArg (jV) gW.out)) (oM Z Z (zh ?_))))))))))
 obtain rfl:=nA br
 exact zG ⟨Z,_,Z,⟨a0,bA,Z,bK,e8,bL,e9,bM,fb,fc,fd,ff,cU,((cj.trans dC).trans iI),gz,iz⟩⟩
 try dsimp only at br bf
 obtain ⟨rfl,iA⟩:=bf
 have gA:St ⟨w,L,U⟩ a0 bA cJ:=dp
 refine zk Z Z Z (zO Z Z Z) (fun _=>Zf Z Z) (oR Z (zt Z Z Z) (eN (ZG Z (zP (zg (zN ?_))))))
 have q:=wAZ br
 obtain ⟨iX,ig,d8⟩:=q
 obtain rfl:=wCA bt bi (du iX d8)
 refine zN (zg (zg (zN ?_)))
 have q:=wAZ ig
 obtain ⟨iY,ii,d9⟩:=q
 obtain rfl:=wCA bp bh (dt iY d9)
 refine zN (zg (zg (zN ?_)))
 have q:=wAZ ii
 obtain ⟨iZ,ij,ef⟩:=q
 obtain rfl:=wCA hm au (bm iZ ef)
 refine zN (zg ?_)
 cases ij
 exact ⟨Z,_,(wTD),a0,_,gA,iA⟩
 try dsimp only at bq be
 obtain ⟨rfl,iB⟩:=be
 have gB:St ⟨w,L,U⟩ bD cC cI:=dm
 refine oR Z (Zf Z Z) (oM Z Z (oN Z (oN Z (oN Z (oN Z (oN Z (yJ Z Z Z (zi Z Z Z Z) (oN Z (oR Z (zl Z Z Z) (eN (ZG Z (zP (zg (zN ?_))))))))))))))
 have q:=wAZ bq
 obtain ⟨i4,il,eg⟩:=q
 obtain rfl:=wCA bt bi (du i4 eg)
 refine zN (zg (zg (zN ?_)))
 have q:=wAZ il
 obtain ⟨i6,im,eh⟩:=q
 obtain rfl:=wCA bp bh (dt i6 eh)
 refine zN (zg (zg (zN ?_)))
 have q:=wAZ im
 obtain ⟨i8,io,ej⟩:=q
 obtain rfl:=wCA hm au (bm i8 ej)
 refine zN (zg ?_)
 cases io
 exact ⟨Z,_,(wTD),bD,_,gB,iB⟩
 rintro j5 li jm ⟨dP,dL,fO,fg,fh,fj,fm,jA,fq,ft,fu,fw,fy,iJ,gC,gf⟩ gJ
 have ip:=wCu bt bi gJ
 have dV:Hid (¬ ((↑((x33:Int) - 0).toNat:Int) < x33)):=zI (wAj)
 refine sR fL1 Z (oR Z (zX Z fO fy) (eN (zH (cF Z dV (ZT (zf (zf (ZK (zq (zG (rR fL2 Z (oR Z (ZP (zZ Z fw Z) (congrArg (jV) gU.out)) (oM Z Z (zh ?_))))))))))))))
 obtain rfl:=nA ip
 exact zG ⟨Z,_,Z,⟨dP,dL,Z,fg,fh,fj,fm,fq,ft,fu,(cg.trans iJ),gC,gf⟩⟩
 rintro j6 lj jo ⟨dQ,dM,fP,fz,fA,jB,jC,fB,fC,fD,iK,gD,gg⟩ gK
 have iq:=wCu bp bh gK
 have dW:Hid (¬ ((↑(((↑p1.Starts.length:Int):Int) - 0).toNat:Int) < (↑p1.Starts.length:Int))):=zI (wAj)
 refine sR fL1 Z (oR Z (zX Z fP fD) (eN (zH (cF Z dW (ZT (zf (zf (ZK (zq (zG (rR fL2 Z (oR Z (ZP (zZ Z fC Z) (congrArg (jV) dw.out)) (oM Z Z (zh ?_))))))))))))))
 obtain rfl:=nA iq
 exact zG ⟨Z,_,Z,⟨dQ,dM,Z,fz,fA,fB,((aq.trans av).trans iK),gD,gg⟩⟩
 rintro j7 lm jp ⟨dR,jd,fQ,jD,jE,jG,jM,gF,gh⟩ gL
 have ir:=wCu hm au gL
 have dX:Hid (¬ ((↑((4:Int) - 0).toNat:Int) < 4)):=zI (wAj)
 refine sR fL1 Z (oR Z (zX Z fQ Z) (eN (zH (cF Z dX (ZT (zf (zf (ZK ?_))))))))
 cases ir
 exact ⟨Z,_,(wTD),dR,_,gF,gh⟩
theorem wGs (p0:wAA) (ae:Option Addr) (ak:Nat) (ah:Option Addr) (am:Nat) (ai:Option Addr) (ap:Nat) (aj:Option Addr) (aq:Nat) (w:World) (U:PHeap) (hS:St0 w U []) (a0:Sl U 1 ae ak p0.Starts.length (hH KL.encI p0.Starts)) (ba:Sl U 2 ah am p0.Splits.length (hH wAB p0.Splits)) (bb:Sl U 3 ai ap p0.Clocks.length (hH wAD p0.Clocks)) (bd:Sl U 4 aj aq p0.Readings.length (hH wAC p0.Readings)) {r:Unit} (hm:wCz p0=some r):Gv Tryz.prog 106 [.agg #[.slice ae p0.Starts.length ak,.slice ah p0.Splits.length am,.slice ai p0.Clocks.length ap,.slice aj p0.Readings.length aq]] w (wCp w [] U (fun U_ L_ v=>∃ (b0:Nat),v=.func (.func 126) #[] #[.pointer (some ⟨b0,0,none⟩)]/\L_=[]/\Cl U_ b0 0 [.slice ae p0.Starts.length ak,.slice ah p0.Splits.length am,.slice ai p0.Clocks.length ap,.slice aj p0.Readings.length aq])):=by
 unfold wCz at hm
 refine Gv.of Tryz.func106 Z Tryz.ntmps106 Tryz.results106 Z (sR gAf Z ?_)
 let B0:List Value:=[.slice ae p0.Starts.length ak,.slice ah p0.Splits.length am,.slice ai p0.Clocks.length ap,.slice aj p0.Readings.length aq]
 refine ZE (cs:=B0) rfl rfl rfl rfl rfl rfl (by rfl) hS ?_
 intro W1 b2 aX
 have q:=aX.freeze (k:=0) rfl
 obtain ⟨U5,be,ab,aY⟩:=q
 replace ab:=Cl.of ab
 have aZ:sW w U U5 [] W1:=aY
 replace ab:Cl U5 b2 0 B0:=ab
 refine oA Z Z (eN (sR fL2 Z (oR Z (Runs.mkf Z zQ (zD Z zQ)) (oA Z Z (eN (zP ?_))))))
 cases hm
 exact ⟨Z,_,(ZH Z),U5,_,aZ,b2,Z,Z,ab⟩
theorem wIp (p0:wAA) (bb:Option Addr) (bg:Nat) (bd:Option Addr) (bh:Nat) (be:Option Addr) (bi:Nat) (bf:Option Addr) (bj:Nat) (p1:wAJ) (w:World) (U:PHeap) (hS:St0 w U []) (cm:Sl U 1 bb bg p0.Starts.length (hH KL.encI p0.Starts)) (cn:Sl U 2 bd bh p0.Splits.length (hH wAB p0.Splits)) (cp:Sl U 3 be bi p0.Clocks.length (hH wAD p0.Clocks)) (cq:Sl U 4 bf bj p0.Readings.length (hH wAC p0.Readings)) {r:wAE × wAE} (hm:wDt p0 p1=some r):Gv Tryz.prog 134 [.agg #[.slice bb p0.Starts.length bg,.slice bd p0.Splits.length bh,.slice be p0.Clocks.length bi,.slice bf p0.Readings.length bj],.agg #[jV p1.Kind,jV p1.Skier,jV p1.Index,.bool p1.Up]] w (wCp w [] U (fun U_ L_ v=>v=.tuple #[.agg #[jV r.1.skier,jV r.1.mat],.agg #[jV r.2.skier,jV r.2.mat]]/\L_=[])):=by
 unfold wDt at hm
 refine Gv.of Tryz.func134 Z Tryz.ntmps134 Tryz.results134 Z (sR gBf Z ?_)
 let B0:List Value:=[.slice bb p0.Starts.length bg,.slice bd p0.Splits.length bh,.slice be p0.Clocks.length bi,.slice bf p0.Readings.length bj]
 refine ZE (cs:=B0) rfl rfl rfl rfl rfl rfl (by rfl) hS ?_
 intro W1 b2 bG
 let B1:List Value:=[jV p1.Kind,jV p1.Skier,jV p1.Index,.bool p1.Up]
 refine ZE (cs:=B1) rfl rfl rfl rfl rfl rfl (by rfl) bG ?_
 intro W5 b6 bP
 let B2:List Value:=[jV 0,jV 0]
 refine ze (cs:=B2) Z Z Z Z Z zj Z bP ?_
 intro W9 ak bE
 refine ze (cs:=B2) Z Z Z Z Z zj Z bE ?_
 intro bk am bF
 refine eN ?_
 have q:=bnd hm
 obtain ⟨⟨bY,bZ⟩,bW,bp⟩:=q
 try dsimp only at bp
 let B3:List Value:=[jV p1.Skier,jV 0]
 let B4:List Value:=[jV bY,jV bZ]
 refine yU (fun σ_ w_=>∃ (U_:PHeap),σ_ 4=.pointer (some ⟨ak,0,none⟩)/\σ_ 5=.pointer (some ⟨am,0,none⟩)/\PHeap.Le U U_/\sW w U U_ [.blk am 123 B3,.blk ak 123 B4,.blk b6 93 B1,.blk b2 27 B0] w_) ?_ ?_
 refine bnK bW fun x22 bn ba=>ZD zy [2,3,2,3,0,0] (.fl 1 (.fx 0 (.fx 2 (.fl 3 gAl) (.fx 4 (.fx 2 gAm .stop) .stop)) (.fx 2 (.fl 3 (.fx 0 gAl .stop)) .stop))) (by kernel_rfl) ?_
 have az:=bF.drew
 generalize hw_W40:({ bk with drawn:=bk.drawn + 1 }:World)=bm at az ⊢
 refine oR Z (zE Z Z ZM Z zB) (zw ?_ ?_)
 refine zK 0 Z Z Z Z (zL Z Z yZ zQ Z) az (fun hs=>wCM bm U hs bn) (.inr Z) ?_
 rintro au b5 ct bs bq bH ⟨rfl,rfl⟩
 have aZ:sW w U au [.blk am 123 B2,.blk ak 123 B2,.blk b6 93 B1,.blk b2 27 B0] bs:=bH
 refine zw ?_ ?_
 refine Zb Z Z Z Z (aZ.ldB (j:=2) Z Z Z zF (v:=jV p1.Skier) Z) (oR Z (ZO (pv:=[(0,jV p1.Skier),(1,jV 0)]) (z:=B2) (cs:=B3) Z (wAH Z (wAH Z wAY)) zj wBX Z Z) ?_)
 let B5:List Value:=[jV x22.skier,jV x22.mat]
 refine zm (j:=1) (vs:=B5) Z Z Z Z aZ Z Z Z Z zJ (zA Z) Z Z Z ?_
 intro bt bI
 have bJ:sW w U au [.blk am 123 B2,.blk ak 123 B5,.blk b6 93 B1,.blk b2 27 B0] bt:=bI
 refine zm (j:=0) (vs:=B3) Z Z Z Z bJ Z Z Z Z zJ (zA Z) Z Z Z ?_
 intro bu bK
 have bL:sW w U au [.blk am 123 B3,.blk ak 123 B5,.blk b6 93 B1,.blk b2 27 B0] bu:=bK
 refine zh ?_
 cases ba
 exact zG ⟨Z,⟨au,Z,Z,bq,bL⟩⟩
 let B6:List Value:=[jV x22.skier,jV x22.mat]
 refine zm (j:=1) (vs:=B6) Z Z Z Z aZ Z Z Z Z zJ (zA Z) Z Z Z ?_
 intro bv bM
 have bo:sW w U au [.blk am 123 B2,.blk ak 123 B6,.blk b6 93 B1,.blk b2 27 B0] bv:=bM
 refine Zb Z Z Z Z (bo.ldB (j:=2) Z Z Z zF (v:=jV p1.Skier) Z) (oR Z (ZO (pv:=[(0,jV p1.Skier),(1,jV 0)]) (z:=B2) (cs:=B3) Z (wAH Z (wAH Z wAY)) zj wBX Z Z) (zm (j:=0) (vs:=B3) Z Z Z Z bo Z Z Z Z zJ (zA Z) Z Z Z ?_))
 intro bw bN
 have bO:sW w U au [.blk am 123 B3,.blk ak 123 B6,.blk b6 93 B1,.blk b2 27 B0] bw:=bN
 refine zh ?_
 cases ba
 exact zG ⟨Z,⟨au,Z,Z,bq,bO⟩⟩
 refine Zb Z Z Z Z (az.ldB (j:=2) Z Z Z zF (v:=jV p1.Skier) Z) (oR Z (ZO (pv:=[(0,jV p1.Skier),(1,jV 0)]) (z:=B2) (cs:=B3) Z (wAH Z (wAH Z wAY)) zj wBX Z Z) (zK 0 Z Z Z Z (zL Z Z yZ zQ Z) az (fun hs=>wCM bm U hs bn) (.inr Z) ?_))
 rintro av cb cu bz bX bQ ⟨rfl,rfl⟩
 have bR:sW w U av [.blk am 123 B2,.blk ak 123 B2,.blk b6 93 B1,.blk b2 27 B0] bz:=bQ
 let B7:List Value:=[jV x22.skier,jV x22.mat]
 refine zm (j:=1) (vs:=B7) Z Z Z Z bR Z Z Z Z zJ (zA Z) Z Z Z ?_
 intro bA bS
 have bT:sW w U av [.blk am 123 B2,.blk ak 123 B7,.blk b6 93 B1,.blk b2 27 B0] bA:=bS
 refine zm (j:=0) (vs:=B3) Z Z Z Z bT Z Z Z Z zJ (zA Z) Z Z Z ?_
 intro bB bU
 have bV:sW w U av [.blk am 123 B3,.blk ak 123 B7,.blk b6 93 B1,.blk b2 27 B0] bB:=bU
 refine zh ?_
 cases ba
 exact zG ⟨Z,⟨av,Z,Z,bX,bV⟩⟩
 rintro cw cg ⟨br,bC,bD,cr,a0⟩
 refine zP ?_
 cases bp
 exact ⟨rfl,_,(wFq (rs:=[.cell 4 123,.cell 5 123]) (vs:=[.agg B4.toArray,.agg B3.toArray]) ⟨⟨_,bC,(wBt zn zJ (a0.blkAt (k:=1) rfl) (vs:=B4) rfl rfl)⟩,⟨⟨_,bD,(wBt zn zJ (a0.blkAt (k:=0) rfl) (vs:=B3) rfl rfl)⟩,trivial⟩⟩ rfl),br,_,(a0.pick [] _ (by decide) rfl),rfl,rfl⟩
theorem wIq (p0:wAA) (ai:Option Addr) (aj:Nat) (ak:Option Addr) (aq:Nat) (am:Option Addr) (au:Nat) (ap:Option Addr) (av:Nat) (p1:wAJ) (w:World) (U:PHeap) (hS:St0 w U []) (aV:Sl U 1 ai aj p0.Starts.length (hH KL.encI p0.Starts)) (bk:Sl U 2 ak aq p0.Splits.length (hH wAB p0.Splits)) (bm:Sl U 3 am au p0.Clocks.length (hH wAD p0.Clocks)) (bn:Sl U 4 ap av p0.Readings.length (hH wAC p0.Readings)) {r:Int × Int} (hm:wDu p0 p1=some r):Gv Tryz.prog 135 [.agg #[.slice ai p0.Starts.length aj,.slice ak p0.Splits.length aq,.slice am p0.Clocks.length au,.slice ap p0.Readings.length av],.agg #[jV p1.Kind,jV p1.Skier,jV p1.Index,.bool p1.Up]] w (wCp w [] U (fun U_ L_ v=>v=.tuple #[jV r.1,jV r.2]/\L_=[])):=by
 unfold wDu at hm
 refine Gv.of Tryz.func135 rfl Tryz.ntmps135 Tryz.results135 rfl (sR gBg rfl (ZE (cs:=[.slice ai p0.Starts.length aj,.slice ak p0.Splits.length aq,.slice am p0.Clocks.length au,.slice ap p0.Readings.length av]) rfl rfl rfl rfl rfl rfl (by rfl) hS ?_))
 intro W1 b2 ba
 refine ZE (cs:=[jV p1.Kind,jV p1.Skier,jV p1.Index,.bool p1.Up]) rfl rfl rfl rfl rfl rfl (by rfl) ba ?_
 intro W5 b6 bb
 refine yX rfl rfl rfl rfl rfl rfl (yX rfl rfl rfl rfl rfl rfl (eN (zH (ZD zy [3,1,3,1,3,1,3,1,3,1,3,1,3,3,3] fL15 (by kernel_rfl) ?_))))
 have ae:=bb.drew
 generalize hw_W10:({ W5 with drawn:=W5.drawn + 1 }:World)=bf at ae ⊢
 refine oR Z (zE Z Z zU Z zS) (oL Z (ae.ldB (j:=1) Z Z Z zY (v:=.slice ai p0.Starts.length aj) Z) (oR Z (zE Z Z ZM Z zB) (oL Z (ae.ldB (j:=0) Z Z Z zF (v:=jV p1.Skier) Z) (bnK hm fun aW ah bd=>?_))))
 have q:=aV.el (fun _=>rfl) (wAS ah)
 obtain ⟨bg,bo,aX,aZ⟩:=q
 refine oR Z (ZC Z Z aX Z zC zB (wAx ah) (wBA ah)) (oL Z (ae.ldC (f:=0) aZ (v:=jV aW) Z Z zF Z) (oR Z (zE Z Z zU Z zS) (oL Z (ae.ldB (j:=1) Z Z Z zY (v:=.slice ai p0.Starts.length aj) Z) (oR Z (zE Z Z ZM Z zB) (oL Z (ae.ldB (j:=0) Z Z Z zF (v:=jV p1.Skier) Z) ?_)))))
 have q:=aV.el (fun _=>rfl) (wAS ah)
 obtain ⟨bh,bp,aY,a0⟩:=q
 refine oR Z (ZC Z Z aY Z zC zB (wAx ah) (wBA ah)) (oL Z (ae.ldC (f:=0) a0 (v:=jV aW) Z Z zF Z) (oR Z (Runs.negw Z Z) (oA Z Z (oA Z Z (eN (zP ?_))))))
 cases bd
 exact ⟨rfl,_,(wFJ rfl rfl),U,_,(ae.pick [] _ (by decide) rfl),rfl,rfl⟩
end Go.Proofs.YtlnfbjphfoipaaaGreat
namespace Go.Proofs.YtlnfbjphfoipaaaGreat
open Go.KL
set_option maxHeartbeats 4000000
theorem wIr (p0:wAA) (aX:Option Addr) (ba:Nat) (aY:Option Addr) (bb:Nat) (aZ:Option Addr) (bd:Nat) (a0:Option Addr) (be:Nat) (p1:wAJ) (w:World) (U:PHeap) (hS:St0 w U []) (cd:Sl U 1 aX ba p0.Starts.length (hH KL.encI p0.Starts)) (cf:Sl U 2 aY bb p0.Splits.length (hH wAB p0.Splits)) (cg:Sl U 3 aZ bd p0.Clocks.length (hH wAD p0.Clocks)) (cj:Sl U 4 a0 be p0.Readings.length (hH wAC p0.Readings)) {r:wAE × wAE} (hm:wDv p0 p1=some r):Gv Tryz.prog 137 [.agg #[.slice aX p0.Starts.length ba,.slice aY p0.Splits.length bb,.slice aZ p0.Clocks.length bd,.slice a0 p0.Readings.length be],.agg #[jV p1.Kind,jV p1.Skier,jV p1.Index,.bool p1.Up]] w (wCp w [] U (fun U_ L_ v=>v=.tuple #[.agg #[jV r.1.skier,jV r.1.mat],.agg #[jV r.2.skier,jV r.2.mat]]/\L_=[])):=by
 unfold wDv at hm
 refine Gv.of Tryz.func137 Z Tryz.ntmps137 Tryz.results137 Z (sR gBf Z ?_)
 let B0:List Value:=[.slice aX p0.Starts.length ba,.slice aY p0.Splits.length bb,.slice aZ p0.Clocks.length bd,.slice a0 p0.Readings.length be]
 refine ZE (cs:=B0) rfl rfl rfl rfl rfl rfl (by rfl) hS ?_
 intro W1 b2 bD
 let B1:List Value:=[jV p1.Kind,jV p1.Skier,jV p1.Index,.bool p1.Up]
 refine ZE (cs:=B1) rfl rfl rfl rfl rfl rfl (by rfl) bD ?_
 intro W5 b6 bW
 let B2:List Value:=[jV 0,jV 0]
 refine ze (cs:=B2) Z Z Z Z Z zj Z bW ?_
 intro W9 am bA
 refine ze (cs:=B2) Z Z Z Z Z zj Z bA ?_
 intro bf ap bB
 refine eN ?_
 have q:=bnd hm
 obtain ⟨⟨⟩,aV,bi⟩:=q
 try dsimp only at bi
 let B3:List Value:=[jV p1.Skier,jV (w64 (p1.Index + 1))]
 let B4:List Value:=[jV p1.Skier,jV p1.Index]
 refine yU (fun σ_ w_=>∃ (U_:PHeap),σ_ 4=.pointer (some ⟨am,0,none⟩)/\σ_ 5=.pointer (some ⟨ap,0,none⟩)/\PHeap.Le U U_/\sW w U U_ [.blk ap 123 B3,.blk am 123 B4,.blk b6 93 B1,.blk b2 27 B0] w_) ?_ ?_
 refine ZD zy [3,1,3,1,3,3,2,3,2,3,3,0,0] (wId (.fl 7 (.fx 6 (.fx 8 (.fl 9 gAw) (.fx 11 gBh .stop)) (.fx 8 (.fl 9 (.fx 6 gAw (.fx 11 gAx .stop))) (.fx 11 (.fx 6 gBh (.fx 8 (.fl 9 gAx) .stop)) .stop))))) (by kernel_rfl) ?_
 have av:=bB.drew
 generalize hw_W27:({ bf with drawn:=bf.drawn + 1 }:World)=bY at av ⊢
 refine oR Z (zE Z Z ZM Z zB) (oL Z (av.ldB (j:=2) Z Z Z zF (v:=jV p1.Skier) Z) (oR Z (zE Z Z ZM Z zB) (oL Z (av.ldB (j:=2) Z Z Z zF (v:=jV p1.Index) Z) (oR Z (ZO (pv:=[(0,jV p1.Skier),(1,jV p1.Index)]) (z:=B2) (cs:=B4) Z (wAH Z (wAH Z wAY)) zj wBX Z Z) (oR Z (zE Z Z ZM Z zB) (oR Z (zE Z Z ZM Z zB) (zw ?_ ?_)))))))
 refine Zb Z Z Z Z (av.ldB (j:=2) Z Z Z zF (v:=jV p1.Skier) Z) (zw ?_ ?_)
 refine Zb Z Z Z Z (av.ldB (j:=2) Z Z Z zF (v:=jV p1.Index) Z) (oR Z (zZ Z Z Z) (oR Z (ZO (pv:=[(0,jV p1.Skier),(1,jV (w64 (p1.Index + 1)))]) (z:=B2) (cs:=B3) Z (wAH Z (wAH Z wAY)) zj wBX Z Z) (zm (j:=1) (vs:=B4) Z Z Z Z av Z Z Z Z zJ (zA Z) Z Z Z ?_)))
 intro bk bC
 have bE:sW w U U [.blk ap 123 B2,.blk am 123 B4,.blk b6 93 B1,.blk b2 27 B0] bk:=bC
 refine zm (j:=0) (vs:=B3) Z Z Z Z bE Z Z Z Z zJ (zA Z) Z Z Z ?_
 intro bm bF
 have bG:sW w U U [.blk ap 123 B3,.blk am 123 B4,.blk b6 93 B1,.blk b2 27 B0] bm:=bF
 refine zh ?_
 cases aV
 exact zG ⟨Z,⟨U,Z,Z,(zM _),bG⟩⟩
 refine zm (j:=1) (vs:=B4) Z Z Z Z av Z Z Z Z zJ (zA Z) Z Z Z ?_
 intro bn bH
 have bg:sW w U U [.blk ap 123 B2,.blk am 123 B4,.blk b6 93 B1,.blk b2 27 B0] bn:=bH
 refine Zb Z Z Z Z (bg.ldB (j:=2) Z Z Z zF (v:=jV p1.Index) Z) (oR Z (zZ Z Z Z) (oR Z (ZO (pv:=[(0,jV p1.Skier),(1,jV (w64 (p1.Index + 1)))]) (z:=B2) (cs:=B3) Z (wAH Z (wAH Z wAY)) zj wBX Z Z) (zm (j:=0) (vs:=B3) Z Z Z Z bg Z Z Z Z zJ (zA Z) Z Z Z ?_)))
 intro bo bI
 have bJ:sW w U U [.blk ap 123 B3,.blk am 123 B4,.blk b6 93 B1,.blk b2 27 B0] bo:=bI
 refine zh ?_
 cases aV
 exact zG ⟨Z,⟨U,Z,Z,(zM _),bJ⟩⟩
 refine zw ?_ ?_
 refine Zb Z Z Z Z (av.ldB (j:=2) Z Z Z zF (v:=jV p1.Index) Z) (oR Z (zZ Z Z Z) (zw ?_ ?_))
 refine Zb Z Z Z Z (av.ldB (j:=2) Z Z Z zF (v:=jV p1.Skier) Z) (oR Z (ZO (pv:=[(0,jV p1.Skier),(1,jV (w64 (p1.Index + 1)))]) (z:=B2) (cs:=B3) Z (wAH Z (wAH Z wAY)) zj wBX Z Z) (zm (j:=1) (vs:=B4) Z Z Z Z av Z Z Z Z zJ (zA Z) Z Z Z ?_))
 intro bp bK
 have bL:sW w U U [.blk ap 123 B2,.blk am 123 B4,.blk b6 93 B1,.blk b2 27 B0] bp:=bK
 refine zm (j:=0) (vs:=B3) Z Z Z Z bL Z Z Z Z zJ (zA Z) Z Z Z ?_
 intro bq bM
 have bN:sW w U U [.blk ap 123 B3,.blk am 123 B4,.blk b6 93 B1,.blk b2 27 B0] bq:=bM
 refine zh ?_
 cases aV
 exact zG ⟨Z,⟨U,Z,Z,(zM _),bN⟩⟩
 refine zm (j:=1) (vs:=B4) Z Z Z Z av Z Z Z Z zJ (zA Z) Z Z Z ?_
 intro br bO
 have bh:sW w U U [.blk ap 123 B2,.blk am 123 B4,.blk b6 93 B1,.blk b2 27 B0] br:=bO
 refine Zb Z Z Z Z (bh.ldB (j:=2) Z Z Z zF (v:=jV p1.Skier) Z) (oR Z (ZO (pv:=[(0,jV p1.Skier),(1,jV (w64 (p1.Index + 1)))]) (z:=B2) (cs:=B3) Z (wAH Z (wAH Z wAY)) zj wBX Z Z) (zm (j:=0) (vs:=B3) Z Z Z Z bh Z Z Z Z zJ (zA Z) Z Z Z ?_))
 intro bs bP
 have bQ:sW w U U [.blk ap 123 B3,.blk am 123 B4,.blk b6 93 B1,.blk b2 27 B0] bs:=bP
 refine zh ?_
 cases aV
 exact zG ⟨Z,⟨U,Z,Z,(zM _),bQ⟩⟩
 refine zm (j:=1) (vs:=B4) Z Z Z Z av Z Z Z Z zJ (zA Z) Z Z Z ?_
 intro bt bR
 have az:sW w U U [.blk ap 123 B2,.blk am 123 B4,.blk b6 93 B1,.blk b2 27 B0] bt:=bR
 refine zw ?_ ?_
 refine Zb Z Z Z Z (az.ldB (j:=2) Z Z Z zF (v:=jV p1.Skier) Z) (Zb Z Z Z Z (az.ldB (j:=2) Z Z Z zF (v:=jV p1.Index) Z) (oR Z (zZ Z Z Z) (oR Z (ZO (pv:=[(0,jV p1.Skier),(1,jV (w64 (p1.Index + 1)))]) (z:=B2) (cs:=B3) Z (wAH Z (wAH Z wAY)) zj wBX Z Z) (zm (j:=0) (vs:=B3) Z Z Z Z az Z Z Z Z zJ (zA Z) Z Z Z ?_))))
 intro bu bS
 have bT:sW w U U [.blk ap 123 B3,.blk am 123 B4,.blk b6 93 B1,.blk b2 27 B0] bu:=bS
 refine zh ?_
 cases aV
 exact zG ⟨Z,⟨U,Z,Z,(zM _),bT⟩⟩
 refine Zb Z Z Z Z (az.ldB (j:=2) Z Z Z zF (v:=jV p1.Index) Z) (oR Z (zZ Z Z Z) (Zb Z Z Z Z (az.ldB (j:=2) Z Z Z zF (v:=jV p1.Skier) Z) (oR Z (ZO (pv:=[(0,jV p1.Skier),(1,jV (w64 (p1.Index + 1)))]) (z:=B2) (cs:=B3) Z (wAH Z (wAH Z wAY)) zj wBX Z Z) (zm (j:=0) (vs:=B3) Z Z Z Z az Z Z Z Z zJ (zA Z) Z Z Z ?_))))
 intro bv bU
 have bV:sW w U U [.blk ap 123 B3,.blk am 123 B4,.blk b6 93 B1,.blk b2 27 B0] bv:=bU
 refine zh ?_
 cases aV
 exact zG ⟨Z,⟨U,Z,Z,(zM _),bV⟩⟩
 rintro cn b5 ⟨bj,bw,bz,cm,aW⟩
 refine zP ?_
 cases bi
 exact ⟨rfl,_,(wFq (rs:=[.cell 4 123,.cell 5 123]) (vs:=[.agg B4.toArray,.agg B3.toArray]) ⟨⟨_,bw,(wBt zn zJ (aW.blkAt (k:=1) rfl) (vs:=B4) rfl rfl)⟩,⟨⟨_,bz,(wBt zn zJ (aW.blkAt (k:=0) rfl) (vs:=B3) rfl rfl)⟩,trivial⟩⟩ rfl),bj,_,(aW.pick [] _ (by decide) rfl),rfl,rfl⟩
theorem wIs (p0:wAA) (ak:Option Addr) (aq:Nat) (ai:Option Addr) (aj:Nat) (am:Option Addr) (au:Nat) (ap:Option Addr) (av:Nat) (p1:wAJ) (w:World) (U:PHeap) (hS:St0 w U []) (bk:Sl U 1 ak aq p0.Starts.length (hH KL.encI p0.Starts)) (aV:Sl U 2 ai aj p0.Splits.length (hH wAB p0.Splits)) (bm:Sl U 3 am au p0.Clocks.length (hH wAD p0.Clocks)) (bn:Sl U 4 ap av p0.Readings.length (hH wAC p0.Readings)) {r:Int × Int} (hm:wDw p0 p1=some r):Gv Tryz.prog 138 [.agg #[.slice ak p0.Starts.length aq,.slice ai p0.Splits.length aj,.slice am p0.Clocks.length au,.slice ap p0.Readings.length av],.agg #[jV p1.Kind,jV p1.Skier,jV p1.Index,.bool p1.Up]] w (wCp w [] U (fun U_ L_ v=>v=.tuple #[jV r.1,jV r.2]/\L_=[])):=by
 unfold wDw at hm
 refine Gv.of Tryz.func138 rfl Tryz.ntmps138 Tryz.results138 rfl (sR gBg rfl (ZE (cs:=[.slice ak p0.Starts.length aq,.slice ai p0.Splits.length aj,.slice am p0.Clocks.length au,.slice ap p0.Readings.length av]) rfl rfl rfl rfl rfl rfl (by rfl) hS ?_))
 intro W1 b2 ba
 refine ZE (cs:=[jV p1.Kind,jV p1.Skier,jV p1.Index,.bool p1.Up]) rfl rfl rfl rfl rfl rfl (by rfl) ba ?_
 intro W5 b6 bb
 refine yX rfl rfl rfl rfl rfl rfl (yX rfl rfl rfl rfl rfl rfl (eN (zH (ZD zy [3,1,3,1,3,3,1,3,1,3,1,3,3,1,3,3,3] fL17 (by kernel_rfl) ?_))))
 have ae:=bb.drew
 generalize hw_W10:({ W5 with drawn:=W5.drawn + 1 }:World)=bf at ae ⊢
 refine oR Z (zE Z Z zU Z Zd) (oL Z (ae.ldB (j:=1) Z Z Z Zi (v:=.slice ai p0.Splits.length aj) Z) (oR Z (zE Z Z ZM Z zB) (oL Z (ae.ldB (j:=0) Z Z Z zF (v:=jV p1.Index) Z) (bnK hm fun aW ah bd=>?_))))
 have q:=aV.el (fun _=>rfl) (wAS ah)
 obtain ⟨bg,bo,aX,aZ⟩:=q
 refine oR Z (ZC Z Z aX Z zr ZR (wAx ah) (wBA ah)) (oR Z (zE Z Z ZA Z zB) (oL Z (ae.ldC (f:=1) aZ (v:=jV aW.Hi) Z Z zF Z) (oR Z (zE Z Z zU Z Zd) (oL Z (ae.ldB (j:=1) Z Z Z Zi (v:=.slice ai p0.Splits.length aj) Z) (oR Z (zE Z Z ZM Z zB) (oL Z (ae.ldB (j:=0) Z Z Z zF (v:=jV p1.Index) Z) ?_))))))
 have q:=aV.el (fun _=>rfl) (wAS ah)
 obtain ⟨bh,bp,aY,a0⟩:=q
 refine oR Z (ZC Z Z aY Z zr ZR (wAx ah) (wBA ah)) (oR Z (zE Z Z ZA Z zB) (oL Z (ae.ldC (f:=0) a0 (v:=jV aW.Lo) Z Z zF Z) (oR Z (Runs.negw Z Z) (oA Z Z (oA Z Z (eN (zP ?_)))))))
 cases bd
 exact ⟨rfl,_,(wFJ rfl rfl),U,_,(ae.pick [] _ (by decide) rfl),rfl,rfl⟩
theorem wCn (p0:Int) (w:World) (U:PHeap) (hS:St0 w U [])  {r:wAE} (hm:wCB p0=some r):Gv Tryz.prog 70 [jV p0] w (wCp w [] U (fun U_ L_ v=>v=.agg #[jV r.skier,jV r.mat]/\L_=[])):=by
 unfold wCB at hm
 refine Gv.of Tryz.func70 Z Tryz.ntmps70 Tryz.results70 Z (sR (.fx 0 .nil .stop) Z (ze (cs:=[jV 0,jV 0]) Z Z Z Z Z zj Z hS ?_))
 intro W1 b2 aj
 refine eN (sR (wEG (.fx 3 .nil .stop)) Z (oM Z Z (oR Z (zZ Z Z Z) ?_)))
 let B0:List Value:=[jV (-1),jV (w64 (1 + p0))]
 refine oR Z (ZO (pv:=[(0,jV (-1)),(1,jV (w64 (1 + p0)))]) (z:=[jV 0,jV 0]) (cs:=B0) Z (wAH Z (wAH Z wAY)) zj wBX Z Z) (zm (j:=0) (vs:=B0) Z Z Z Z aj Z Z Z Z zJ (zA Z) Z Z Z ?_)
 intro W5 ak
 have ae:sW w U U [.blk b2 123 B0] W5:=ak
 refine eN (zP ?_)
 cases hm
 exact ⟨rfl,_,(wKE (v:=.agg B0.toArray) ⟨⟨_,rfl,(wBt zn zJ (ae.blkAt (k:=0) rfl) (vs:=B0) rfl rfl)⟩,trivial⟩),U,_,(ae.pick [] _ (by decide) rfl),rfl,rfl⟩
theorem wIt (p0:wAA) (aW:Option Addr) (a0:Nat) (aX:Option Addr) (ba:Nat) (aY:Option Addr) (bb:Nat) (aZ:Option Addr) (bd:Nat) (p1:wAJ) (w:World) (U:PHeap) (hS:St0 w U []) (bK:Sl U 1 aW a0 p0.Starts.length (hH KL.encI p0.Starts)) (bL:Sl U 2 aX ba p0.Splits.length (hH wAB p0.Splits)) (bM:Sl U 3 aY bb p0.Clocks.length (hH wAD p0.Clocks)) (bN:Sl U 4 aZ bd p0.Readings.length (hH wAC p0.Readings)) {r:wAE × wAE} (hm:wDx p0 p1=some r):Gv Tryz.prog 140 [.agg #[.slice aW p0.Starts.length a0,.slice aX p0.Splits.length ba,.slice aY p0.Clocks.length bb,.slice aZ p0.Readings.length bd],.agg #[jV p1.Kind,jV p1.Skier,jV p1.Index,.bool p1.Up]] w (wCp w [] U (fun U_ L_ v=>v=.tuple #[.agg #[jV r.1.skier,jV r.1.mat],.agg #[jV r.2.skier,jV r.2.mat]]/\L_=[])):=by
 unfold wDx at hm
 refine Gv.of Tryz.func140 Z Tryz.ntmps140 Tryz.results140 Z (sR gBf Z ?_)
 let B0:List Value:=[.slice aW p0.Starts.length a0,.slice aX p0.Splits.length ba,.slice aY p0.Clocks.length bb,.slice aZ p0.Readings.length bd]
 refine ZE (cs:=B0) rfl rfl rfl rfl rfl rfl (by rfl) hS ?_
 intro W1 b2 bu
 let B1:List Value:=[jV p1.Kind,jV p1.Skier,jV p1.Index,.bool p1.Up]
 refine ZE (cs:=B1) rfl rfl rfl rfl rfl rfl (by rfl) bu ?_
 intro W5 b6 bC
 let B2:List Value:=[jV 0,jV 0]
 refine ze (cs:=B2) Z Z Z Z Z zj Z bC ?_
 intro W9 ap bq
 refine ze (cs:=B2) Z Z Z Z Z zj Z bq ?_
 intro bf aq br
 refine eN (zH (ZD zy [2,3,1,2,0,0] (.fl 1 (.fl 2 (.fx 0 (.fx 3 gAl .stop) .stop))) (by kernel_rfl) ?_))
 have az:=br.drew
 generalize hw_W18:({ bf with drawn:=bf.drawn + 1 }:World)=bj at az ⊢
 refine oR Z (zE Z Z ZM Z zB) (oL Z (az.ldB (j:=2) Z Z Z zF (v:=jV p1.Index) Z) (bnK hm fun bh bo bD=>zK 0 Z Z Z Z (zL Z Z yZ zQ Z) az (fun hs=>wCM bj U hs bo) (.inr Z) ?_))
 rintro be bF bQ bg bO bs ⟨rfl,rfl⟩
 have bt:sW w U be [.blk aq 123 B2,.blk ap 123 B2,.blk b6 93 B1,.blk b2 27 B0] bg:=bs
 refine bnK bD fun bi bp bE=>zK 0 Z Z Z Z (zL Z Z Tryz.call70 (zD Z zQ) Z) bt (fun hs=>wCn p1.Index bg be hs bp) (.inr Z) ?_
 rintro am bG bR bk bP bv ⟨rfl,rfl⟩
 have bw:sW w U am [.blk aq 123 B2,.blk ap 123 B2,.blk b6 93 B1,.blk b2 27 B0] bk:=bv
 let B3:List Value:=[jV bh.skier,jV bh.mat]
 refine zm (j:=1) (vs:=B3) Z Z Z Z bw Z Z Z Z zJ (zA Z) Z Z Z ?_
 intro bm bz
 have bA:sW w U am [.blk aq 123 B2,.blk ap 123 B3,.blk b6 93 B1,.blk b2 27 B0] bm:=bz
 let B4:List Value:=[jV bi.skier,jV bi.mat]
 refine zm (j:=0) (vs:=B4) Z Z Z Z bA Z Z Z Z zJ (zA Z) Z Z Z ?_
 intro bn bB
 have aV:sW w U am [.blk aq 123 B4,.blk ap 123 B3,.blk b6 93 B1,.blk b2 27 B0] bn:=bB
 refine eN (zP ?_)
 cases bE
 exact ⟨rfl,_,(wFq (rs:=[.cell 4 123,.cell 5 123]) (vs:=[.agg B3.toArray,.agg B4.toArray]) ⟨⟨_,rfl,(wBt zn zJ (aV.blkAt (k:=1) rfl) (vs:=B3) rfl rfl)⟩,⟨⟨_,rfl,(wBt zn zJ (aV.blkAt (k:=0) rfl) (vs:=B4) rfl rfl)⟩,trivial⟩⟩ rfl),am,_,(aV.pick [] _ (by decide) rfl),rfl,rfl⟩
theorem wIu (p0:wAA) (ak:Option Addr) (aq:Nat) (am:Option Addr) (au:Nat) (ai:Option Addr) (aj:Nat) (ap:Option Addr) (av:Nat) (p1:wAJ) (w:World) (U:PHeap) (hS:St0 w U []) (bk:Sl U 1 ak aq p0.Starts.length (hH KL.encI p0.Starts)) (bm:Sl U 2 am au p0.Splits.length (hH wAB p0.Splits)) (aV:Sl U 3 ai aj p0.Clocks.length (hH wAD p0.Clocks)) (bn:Sl U 4 ap av p0.Readings.length (hH wAC p0.Readings)) {r:Int × Int} (hm:wDy p0 p1=some r):Gv Tryz.prog 141 [.agg #[.slice ak p0.Starts.length aq,.slice am p0.Splits.length au,.slice ai p0.Clocks.length aj,.slice ap p0.Readings.length av],.agg #[jV p1.Kind,jV p1.Skier,jV p1.Index,.bool p1.Up]] w (wCp w [] U (fun U_ L_ v=>v=.tuple #[jV r.1,jV r.2]/\L_=[])):=by
 unfold wDy at hm
 refine Gv.of Tryz.func141 rfl Tryz.ntmps141 Tryz.results141 rfl (sR gBg rfl (ZE (cs:=[.slice ak p0.Starts.length aq,.slice am p0.Splits.length au,.slice ai p0.Clocks.length aj,.slice ap p0.Readings.length av]) rfl rfl rfl rfl rfl rfl (by rfl) hS ?_))
 intro W1 b2 ba
 refine ZE (cs:=[jV p1.Kind,jV p1.Skier,jV p1.Index,.bool p1.Up]) rfl rfl rfl rfl rfl rfl (by rfl) ba ?_
 intro W5 b6 bb
 refine yX rfl rfl rfl rfl rfl rfl (yX rfl rfl rfl rfl rfl rfl (eN (zH (ZD zy [3,1,3,1,3,3,3,1,3,3,1,3,1,3,3,3,1,3,3] fL19 (by kernel_rfl) ?_))))
 have ae:=bb.drew
 generalize hw_W10:({ W5 with drawn:=W5.drawn + 1 }:World)=bf at ae ⊢
 refine oR Z (zE Z Z zU Z Zy) (oL Z (ae.ldB (j:=1) Z Z Z yD (v:=.slice ai p0.Clocks.length aj) Z) (oR Z (zE Z Z ZM Z zB) (oL Z (ae.ldB (j:=0) Z Z Z zF (v:=jV p1.Index) Z) (bnK hm fun aW ah bd=>?_))))
 have q:=aV.el (fun _=>rfl) (wAS ah)
 obtain ⟨bg,bo,aX,aZ⟩:=q
 refine oR Z (ZC Z Z aX Z ZX Zq (wAx ah) (wBA ah)) (oR Z (zE Z Z yW Z ZR) (oR Z (zE Z Z ZA Z zB) (oL Z (ae.ldC (f:=0) aZ (v:=jV aW.Offset.Lo) Z Z zF Z) (oR Z (Runs.negw Z Z) (oR Z (zE Z Z zU Z Zy) (oL Z (ae.ldB (j:=1) Z Z Z yD (v:=.slice ai p0.Clocks.length aj) Z) (oR Z (zE Z Z ZM Z zB) (oL Z (ae.ldB (j:=0) Z Z Z zF (v:=jV p1.Index) Z) ?_))))))))
 have q:=aV.el (fun _=>rfl) (wAS ah)
 obtain ⟨bh,bp,aY,a0⟩:=q
 refine oR Z (ZC Z Z aY Z ZX Zq (wAx ah) (wBA ah)) (oR Z (zE Z Z yW Z ZR) (oR Z (zE Z Z ZA Z zB) (oL Z (ae.ldC (f:=1) a0 (v:=jV aW.Offset.Hi) Z Z zF Z) (oA Z Z (oA Z Z (eN (zP ?_)))))))
 cases bd
 exact ⟨rfl,_,(wFJ rfl rfl),U,_,(ae.pick [] _ (by decide) rfl),rfl,rfl⟩
theorem wIN (p0:wAA) (bv:Option Addr) (bA:Nat) (bw:Option Addr) (bB:Nat) (bz:Option Addr) (bC:Nat) (bd:Option Addr) (be:Nat) (p1:wAJ) (w:World) (U:PHeap) (hS:St0 w U []) (gH:Sl U 1 bv bA p0.Starts.length (hH KL.encI p0.Starts)) (gI:Sl U 2 bw bB p0.Splits.length (hH wAB p0.Splits)) (gJ:Sl U 3 bz bC p0.Clocks.length (hH wAD p0.Clocks)) (fz:Sl U 4 bd be p0.Readings.length (hH wAC p0.Readings)) {r:wAE × wAE} (hm:wDb p0 p1=some r):Gv Tryz.prog 143 [.agg #[.slice bv p0.Starts.length bA,.slice bw p0.Splits.length bB,.slice bz p0.Clocks.length bC,.slice bd p0.Readings.length be],.agg #[jV p1.Kind,jV p1.Skier,jV p1.Index,.bool p1.Up]] w (wCp w [] U (fun U_ L_ v=>v=.tuple #[.agg #[jV r.1.skier,jV r.1.mat],.agg #[jV r.2.skier,jV r.2.mat]]/\L_=[])):=by
 unfold wDb at hm
 refine Gv.of Tryz.func143 Z Tryz.ntmps143 Tryz.results143 Z (sR gBf Z ?_)
 let B0:List Value:=[.slice bv p0.Starts.length bA,.slice bw p0.Splits.length bB,.slice bz p0.Clocks.length bC,.slice bd p0.Readings.length be]
 refine ZE (cs:=B0) rfl rfl rfl rfl rfl rfl (by rfl) hS ?_
 intro W1 b2 fb
 let B1:List Value:=[jV p1.Kind,jV p1.Skier,jV p1.Index,.bool p1.Up]
 refine ZE (cs:=B1) rfl rfl rfl rfl rfl rfl (by rfl) fb ?_
 intro W5 b6 fy
 let B2:List Value:=[jV 0,jV 0]
 refine ze (cs:=B2) Z Z Z Z Z zj Z fy ?_
 intro W9 ah eG
 refine ze (cs:=B2) Z Z Z Z Z zj Z eG ?_
 intro fZ ai a0
 refine eN (sR (wId gAo) Z (oR Z (zE Z Z zU Z yO) (oL Z (a0.ldB (j:=3) Z Z Z yQ (v:=.slice bd p0.Readings.length be) Z) (oR Z (zE Z Z ZM Z zB) (oL Z (a0.ldB (j:=2) Z Z Z zF (v:=jV p1.Index) Z) (bnK hm fun ab br fA=>?_))))))
 have q:=fz.el (fun _=>rfl) (wAS br)
 obtain ⟨gw,gL,eE,eF⟩:=q
 refine oR Z (ZC Z Z eE Z Zk Zn (wAx br) (wBA br)) (oL Z (a0.ldCA (f:=0) eF Z Z yk Zn (us:=[jV ab.Skier,jV ab.Mat,jV ab.Clock,jV ab.Time]) Z Z) (ze (cs:=[jV 0,jV 0,jV 0,jV 0]) Z Z Z Z Z Tryz.zeroValue115 Z a0 ?_))
 intro gi aa eW
 let B3:List Value:=[jV ab.Skier,jV ab.Mat,jV ab.Clock,jV ab.Time]
 refine zm (j:=0) (vs:=B3) Z Z Z Z eW Z Z Z Z Zn (zA Z) Z Z Z ?_
 intro bi e9
 have fc:sW w U U [.blk aa 115 B3,.blk ai 123 B2,.blk ah 123 B2,.blk b6 93 B1,.blk b2 27 B0] bi:=e9
 refine eN ?_
 have q:=bnd fA
 obtain ⟨⟨fR,fS⟩,fC,cx⟩:=q
 try dsimp only at cx
 let B4:List Value:=[jV ab.Skier,jV ab.Mat]
 let B5:List Value:=[jV fR,jV fS]
 refine yU (fun σ_ w_=>∃ (U_:PHeap),σ_ 4=.pointer (some ⟨ah,0,none⟩)/\σ_ 5=.pointer (some ⟨ai,0,none⟩)/\PHeap.Le U U_/\sW w U U_ [.blk aa 115 B3,.blk ai 123 B4,.blk ah 123 B5,.blk b6 93 B1,.blk b2 27 B0] w_) ?_ ?_
 refine bnK fC fun cL aZ fB=>ZD zy [3,1,2,3,2,3,2,3,0,0] (.fl 0 (.fl 1 (.fl 3 (.fl 5 (.fx 2 (.fx 4 gBn (.fx 6 gBo (.fx 8 (.fx 4 gAy (.fx 6 gAz .stop)) .stop))) (.fx 4 (.fx 2 gBn (.fx 6 gBi .stop)) (.fx 6 (.fx 2 gBo (.fx 4 gBi .stop)) .stop))))))) (by kernel_rfl) ?_
 have aV:=fc.drew
 generalize hw_W54:({ bi with drawn:=bi.drawn + 1 }:World)=bj at aV ⊢
 let B6:List Value:=[jV cL.skier,jV cL.mat]
 refine ZS (s:=.nil) (M:=fun σ_ w_=>∃ (U_:PHeap),σ_ 4=.pointer (some ⟨ah,0,none⟩)/\σ_ 5=.pointer (some ⟨ai,0,none⟩)/\σ_ 6=.pointer (some ⟨aa,0,none⟩)/\σ_ 13=.pointer (some ⟨aa,2,none⟩)/\σ_ 14=jV ab.Clock/\σ_ 15=.agg B6.toArray/\σ_ 16=.pointer (some ⟨aa,0,none⟩)/\σ_ 17=jV ab.Skier/\σ_ 18=.pointer (some ⟨aa,1,none⟩)/\σ_ 19=jV ab.Mat/\σ_ 20=.agg B4.toArray/\PHeap.Le U U_/\sW w U U_ [.blk aa 115 B3,.blk ai 123 B4,.blk ah 123 B6,.blk b6 93 B1,.blk b2 27 B0] w_) ?_ fun cy=>?_
 rintro gQ ga ⟨cM,dg,dh,gx,gy,gz,gA,gB,gC,gD,gF,gG,fE,eH⟩
 refine zh ?_
 cases fB
 exact zG ⟨Z,⟨cM,dg,dh,fE,eH⟩⟩
 refine ZS (s:=.fx 9 .nil .stop) (M:=fun σ_ w_=>∃ (U_:PHeap),σ_ 4=.pointer (some ⟨ah,0,none⟩)/\σ_ 5=.pointer (some ⟨ai,0,none⟩)/\σ_ 6=.pointer (some ⟨aa,0,none⟩)/\σ_ 13=.pointer (some ⟨aa,2,none⟩)/\σ_ 14=jV ab.Clock/\σ_ 15=.agg B6.toArray/\σ_ 16=.pointer (some ⟨aa,0,none⟩)/\σ_ 17=jV ab.Skier/\σ_ 18=.pointer (some ⟨aa,1,none⟩)/\σ_ 19=jV ab.Mat/\σ_ 20=.agg B4.toArray/\PHeap.Le U U_/\sW w U U_ [.blk aa 115 B3,.blk ai 123 B2,.blk ah 123 B6,.blk b6 93 B1,.blk b2 27 B0] w_) ?_ fun cz=>?_
 rintro gR gb ⟨bD,dk,bK,dl,dm,dp,dq,dr,dt,du,dv,bL,fG,eI⟩
 refine zm (j:=1) (vs:=B4) Z Z Z Z eI Z bK bL Z zJ (zA Z) Z Z Z ?_
 intro cR eJ
 have eK:sW w U bD [.blk aa 115 B3,.blk ai 123 B4,.blk ah 123 B6,.blk b6 93 B1,.blk b2 27 B0] cR:=eJ
 exact cy _ _ ⟨bD,dk,bK,dl,dm,dp,dq,dr,dt,du,dv,bL,fG,eK⟩
 refine ZS (s:=gAp) (M:=fun σ_ w_=>∃ (U_:PHeap),σ_ 4=.pointer (some ⟨ah,0,none⟩)/\σ_ 5=.pointer (some ⟨ai,0,none⟩)/\σ_ 6=.pointer (some ⟨aa,0,none⟩)/\σ_ 13=.pointer (some ⟨aa,2,none⟩)/\σ_ 14=jV ab.Clock/\σ_ 15=.agg B6.toArray/\σ_ 16=.pointer (some ⟨aa,0,none⟩)/\σ_ 17=jV ab.Skier/\σ_ 18=.pointer (some ⟨aa,1,none⟩)/\σ_ 19=jV ab.Mat/\σ_ 20=.agg B4.toArray/\PHeap.Le U U_/\sW w U U_ [.blk aa 115 B3,.blk ai 123 B2,.blk ah 123 B2,.blk b6 93 B1,.blk b2 27 B0] w_) ?_ fun fD=>?_
 rintro gS ge ⟨bE,bM,dw,dx,dy,dz,bN,dA,dB,dC,dD,dE,fH,eL⟩
 refine zm (j:=2) (vs:=B6) Z Z Z Z eL Z bM bN Z zJ (zA Z) Z Z Z ?_
 intro cS eM
 have eO:sW w U bE [.blk aa 115 B3,.blk ai 123 B2,.blk ah 123 B6,.blk b6 93 B1,.blk b2 27 B0] cS:=eM
 exact cz _ _ ⟨bE,bM,dw,dx,dy,dz,bN,dA,dB,dC,dD,dE,fH,eO⟩
 refine ZS (s:=gAq) (M:=fun σ_ w_=>∃ (U_:PHeap),σ_ 4=.pointer (some ⟨ah,0,none⟩)/\σ_ 5=.pointer (some ⟨ai,0,none⟩)/\σ_ 6=.pointer (some ⟨aa,0,none⟩)/\σ_ 13=.pointer (some ⟨aa,2,none⟩)/\σ_ 14=jV ab.Clock/\σ_ 15=.agg B6.toArray/\σ_ 16=.pointer (some ⟨aa,0,none⟩)/\σ_ 17=jV ab.Skier/\σ_ 18=.pointer (some ⟨aa,1,none⟩)/\σ_ 19=jV ab.Mat/\PHeap.Le U U_/\sW w U U_ [.blk aa 115 B3,.blk ai 123 B2,.blk ah 123 B6,.blk b6 93 B1,.blk b2 27 B0] w_) ?_ fun cA=>?_
 rintro gU gf ⟨bF,dF,bO,dG,dH,dI,dJ,dK,bP,dL,bQ,fJ,eQ⟩
 refine oR Z (ZO (pv:=[(0,jV ab.Skier),(1,jV ab.Mat)]) (z:=B2) (cs:=B4) Z (wAH bP (wAH bQ wAY)) zj wBX Z Z) (zm (j:=1) (vs:=B4) Z Z Z Z eQ Z bO Z Z zJ (zA Z) Z Z Z ?_)
 intro cU eR
 have eS:sW w U bF [.blk aa 115 B3,.blk ai 123 B4,.blk ah 123 B6,.blk b6 93 B1,.blk b2 27 B0] cU:=eR
 exact cy _ _ ⟨bF,dF,bO,dG,dH,dI,dJ,dK,bP,dL,bQ,Z,fJ,eS⟩
 refine ZS (s:=gAz) (M:=fun σ_ w_=>∃ (U_:PHeap),σ_ 4=.pointer (some ⟨ah,0,none⟩)/\σ_ 5=.pointer (some ⟨ai,0,none⟩)/\σ_ 6=.pointer (some ⟨aa,0,none⟩)/\σ_ 13=.pointer (some ⟨aa,2,none⟩)/\σ_ 14=jV ab.Clock/\σ_ 15=.agg B6.toArray/\σ_ 16=.pointer (some ⟨aa,0,none⟩)/\σ_ 18=.pointer (some ⟨aa,1,none⟩)/\σ_ 19=jV ab.Mat/\PHeap.Le U U_/\sW w U U_ [.blk aa 115 B3,.blk ai 123 B2,.blk ah 123 B6,.blk b6 93 B1,.blk b2 27 B0] w_) ?_ fun cC=>?_
 rintro gW gg ⟨cN,dM,dN,dO,dP,dQ,dR,bR,dS,dT,fK,cu⟩
 exact Zb Z Z Z Z (cu.ldB (j:=0) Z Z bR zF (v:=jV ab.Skier) Z) (cA _ _ ⟨cN,dM,dN,dO,dP,dQ,dR,bR,Z,dS,dT,fK,cu⟩)
 refine ZS (s:=gAy) (M:=fun σ_ w_=>∃ (U_:PHeap),σ_ 4=.pointer (some ⟨ah,0,none⟩)/\σ_ 5=.pointer (some ⟨ai,0,none⟩)/\σ_ 6=.pointer (some ⟨aa,0,none⟩)/\σ_ 13=.pointer (some ⟨aa,2,none⟩)/\σ_ 14=jV ab.Clock/\σ_ 15=.agg B6.toArray/\σ_ 16=.pointer (some ⟨aa,0,none⟩)/\σ_ 17=jV ab.Skier/\σ_ 18=.pointer (some ⟨aa,1,none⟩)/\PHeap.Le U U_/\sW w U U_ [.blk aa 115 B3,.blk ai 123 B2,.blk ah 123 B6,.blk b6 93 B1,.blk b2 27 B0] w_) ?_ fun cD=>?_
 rintro gX gh ⟨cO,dU,dV,dW,dX,dY,dZ,d4,d5,bS,fL,cw⟩
 exact Zb Z Z Z Z (cw.ldB (j:=0) Z Z bS zF (v:=jV ab.Mat) Z) (cA _ _ ⟨cO,dU,dV,dW,dX,dY,dZ,d4,d5,bS,Z,fL,cw⟩)
 refine ZS (s:=.fl 7 gAp) (M:=fun σ_ w_=>∃ (U_:PHeap),σ_ 4=.pointer (some ⟨ah,0,none⟩)/\σ_ 5=.pointer (some ⟨ai,0,none⟩)/\σ_ 6=.pointer (some ⟨aa,0,none⟩)/\σ_ 13=.pointer (some ⟨aa,2,none⟩)/\σ_ 14=jV ab.Clock/\σ_ 15=.agg B6.toArray/\σ_ 16=.pointer (some ⟨aa,0,none⟩)/\σ_ 17=jV ab.Skier/\σ_ 18=.pointer (some ⟨aa,1,none⟩)/\σ_ 19=jV ab.Mat/\PHeap.Le U U_/\sW w U U_ [.blk aa 115 B3,.blk ai 123 B2,.blk ah 123 B2,.blk b6 93 B1,.blk b2 27 B0] w_) ?_ fun cE=>?_
 rintro gZ gj ⟨bG,bT,d6,d7,d8,d9,bU,ef,bV,eg,bW,fM,eU⟩
 refine oR Z (ZO (pv:=[(0,jV ab.Skier),(1,jV ab.Mat)]) (z:=B2) (cs:=B4) Z (wAH bV (wAH bW wAY)) zj wBX Z Z) (zm (j:=2) (vs:=B6) Z Z Z Z eU Z bT bU Z zJ (zA Z) Z Z Z ?_)
 intro cV eV
 have eX:sW w U bG [.blk aa 115 B3,.blk ai 123 B2,.blk ah 123 B6,.blk b6 93 B1,.blk b2 27 B0] cV:=eV
 exact cz _ _ ⟨bG,bT,d6,d7,d8,d9,bU,ef,bV,eg,bW,Z,fM,eX⟩
 refine ZS (s:=gBi) (M:=fun σ_ w_=>∃ (U_:PHeap),σ_ 4=.pointer (some ⟨ah,0,none⟩)/\σ_ 5=.pointer (some ⟨ai,0,none⟩)/\σ_ 6=.pointer (some ⟨aa,0,none⟩)/\σ_ 13=.pointer (some ⟨aa,2,none⟩)/\σ_ 14=jV ab.Clock/\σ_ 16=.pointer (some ⟨aa,0,none⟩)/\σ_ 17=jV ab.Skier/\σ_ 18=.pointer (some ⟨aa,1,none⟩)/\σ_ 19=jV ab.Mat/\PHeap.Le U U_/\sW w U U_ [.blk aa 115 B3,.blk ai 123 B2,.blk ah 123 B2,.blk b6 93 B1,.blk b2 27 B0] w_) ?_ fun cG=>?_
 rintro g7 cW ⟨cP,eh,ej,en,eu,bX,ey,bY,eA,bZ,fN,eY⟩
 refine oR Z (ZO (pv:=[(0,jV ab.Skier),(1,jV ab.Mat)]) (z:=B2) (cs:=B4) Z (wAH bY (wAH bZ wAY)) zj wBX Z Z) (zK 0 Z Z Z Z (zL Z Z Tryz.call70 (zD bX zQ) Z) eY (fun hs=>wCn ab.Clock cW cP hs aZ) (.inr Z) ?_)
 rintro bH fT gM cX fO eZ ⟨rfl,rfl⟩
 have e8:sW w U bH [.blk aa 115 B3,.blk ai 123 B2,.blk ah 123 B2,.blk b6 93 B1,.blk b2 27 B0] cX:=eZ
 exact fD _ _ ⟨bH,eh,ej,en,eu,bX,Z,ey,bY,eA,bZ,Z,(fN.trans fO),e8⟩
 refine ZS (s:=gBo) (M:=fun σ_ w_=>∃ (U_:PHeap),σ_ 4=.pointer (some ⟨ah,0,none⟩)/\σ_ 5=.pointer (some ⟨ai,0,none⟩)/\σ_ 6=.pointer (some ⟨aa,0,none⟩)/\σ_ 13=.pointer (some ⟨aa,2,none⟩)/\σ_ 14=jV ab.Clock/\σ_ 15=.agg B6.toArray/\σ_ 16=.pointer (some ⟨aa,0,none⟩)/\σ_ 18=.pointer (some ⟨aa,1,none⟩)/\σ_ 19=jV ab.Mat/\PHeap.Le U U_/\sW w U U_ [.blk aa 115 B3,.blk ai 123 B2,.blk ah 123 B2,.blk b6 93 B1,.blk b2 27 B0] w_) ?_ fun cH=>?_
 rintro g8 gm ⟨bg,bk,b5,cb,cd,cf,bm,bn,cg,cj,cJ,bs⟩
 refine zw ?_ ?_
 exact Zb Z Z Z Z (bs.ldB (j:=0) Z Z bn zF (v:=jV ab.Skier) Z) (cE _ _ ⟨bg,bk,b5,cb,cd,cf,bm,bn,Z,cg,cj,cJ,bs⟩)
 refine zm (j:=2) (vs:=B6) Z Z Z Z bs Z bk bm Z zJ (zA Z) Z Z Z ?_
 intro cY fd
 have ff:sW w U bg [.blk aa 115 B3,.blk ai 123 B2,.blk ah 123 B6,.blk b6 93 B1,.blk b2 27 B0] cY:=fd
 exact cC _ _ ⟨bg,bk,b5,cb,cd,cf,bm,bn,cg,cj,cJ,ff⟩
 refine ZS (s:=gBn) (M:=fun σ_ w_=>∃ (U_:PHeap),σ_ 4=.pointer (some ⟨ah,0,none⟩)/\σ_ 5=.pointer (some ⟨ai,0,none⟩)/\σ_ 6=.pointer (some ⟨aa,0,none⟩)/\σ_ 13=.pointer (some ⟨aa,2,none⟩)/\σ_ 14=jV ab.Clock/\σ_ 15=.agg B6.toArray/\σ_ 16=.pointer (some ⟨aa,0,none⟩)/\σ_ 17=jV ab.Skier/\σ_ 18=.pointer (some ⟨aa,1,none⟩)/\PHeap.Le U U_/\sW w U U_ [.blk aa 115 B3,.blk ai 123 B2,.blk ah 123 B2,.blk b6 93 B1,.blk b2 27 B0] w_) ?_ fun cI=>?_
 rintro g9 gq ⟨bh,bo,cm,cn,cp,cq,bp,cr,ct,bq,cK,bt⟩
 refine zw ?_ ?_
 exact Zb Z Z Z Z (bt.ldB (j:=0) Z Z bq zF (v:=jV ab.Mat) Z) (cE _ _ ⟨bh,bo,cm,cn,cp,cq,bp,cr,ct,bq,Z,cK,bt⟩)
 refine zm (j:=2) (vs:=B6) Z Z Z Z bt Z bo bp Z zJ (zA Z) Z Z Z ?_
 intro cZ fg
 have fh:sW w U bh [.blk aa 115 B3,.blk ai 123 B2,.blk ah 123 B6,.blk b6 93 B1,.blk b2 27 B0] cZ:=fg
 exact cD _ _ ⟨bh,bo,cm,cn,cp,cq,bp,cr,ct,bq,cK,fh⟩
 refine oR Z (zE Z Z Zp Z zB) (oL Z (aV.ldB (j:=0) Z Z Z zF (v:=jV ab.Clock) Z) (oR Z (zE Z Z Zp Z zB) (oR Z (zE Z Z Zp Z zB) (zw ?_ ?_))))
 refine zK 0 Z Z Z Z (zL Z Z Tryz.call70 (zD Z zQ) Z) aV (fun hs=>wCn ab.Clock bj U hs aZ) (.inr Z) ?_
 rintro aX fU gN da bb fj ⟨rfl,rfl⟩
 have aY:sW w U aX [.blk aa 115 B3,.blk ai 123 B2,.blk ah 123 B2,.blk b6 93 B1,.blk b2 27 B0] da:=fj
 refine zw ?_ ?_
 exact Zb Z Z Z Z (aY.ldB (j:=0) Z Z Z zF (v:=jV ab.Skier) Z) (cI _ _ ⟨aX,Z,Z,Z,Z,Z,Z,Z,Z,Z,bb,aY⟩)
 refine zw ?_ ?_
 exact Zb Z Z Z Z (aY.ldB (j:=0) Z Z Z zF (v:=jV ab.Mat) Z) (cH _ _ ⟨aX,Z,Z,Z,Z,Z,Z,Z,Z,Z,bb,aY⟩)
 refine zm (j:=2) (vs:=B6) Z Z Z Z aY Z Z Z Z zJ (zA Z) Z Z Z ?_
 intro db fm
 have ba:sW w U aX [.blk aa 115 B3,.blk ai 123 B2,.blk ah 123 B6,.blk b6 93 B1,.blk b2 27 B0] db:=fm
 refine zw ?_ ?_
 exact Zb Z Z Z Z (ba.ldB (j:=0) Z Z Z zF (v:=jV ab.Skier) Z) (cD _ _ ⟨aX,Z,Z,Z,Z,Z,Z,Z,Z,Z,bb,ba⟩)
 exact Zb Z Z Z Z (ba.ldB (j:=0) Z Z Z zF (v:=jV ab.Mat) Z) (cC _ _ ⟨aX,Z,Z,Z,Z,Z,Z,Z,Z,Z,bb,ba⟩)
 refine zw ?_ ?_
 refine Zb Z Z Z Z (aV.ldB (j:=0) Z Z Z zF (v:=jV ab.Skier) Z) (zw ?_ ?_)
 refine zK 0 Z Z Z Z (zL Z Z Tryz.call70 (zD Z zQ) Z) aV (fun hs=>wCn ab.Clock bj U hs aZ) (.inr Z) ?_
 rintro bI fV gO de fP fq ⟨rfl,rfl⟩
 have ft:sW w U bI [.blk aa 115 B3,.blk ai 123 B2,.blk ah 123 B2,.blk b6 93 B1,.blk b2 27 B0] de:=fq
 exact cI _ _ ⟨bI,Z,Z,Z,Z,Z,Z,Z,Z,Z,fP,ft⟩
 exact Zb Z Z Z Z (aV.ldB (j:=0) Z Z Z zF (v:=jV ab.Mat) Z) (cG _ _ ⟨U,Z,Z,Z,Z,Z,Z,Z,Z,Z,(zM _),aV⟩)
 refine Zb Z Z Z Z (aV.ldB (j:=0) Z Z Z zF (v:=jV ab.Mat) Z) (zw ?_ ?_)
 refine zK 0 Z Z Z Z (zL Z Z Tryz.call70 (zD Z zQ) Z) aV (fun hs=>wCn ab.Clock bj U hs aZ) (.inr Z) ?_
 rintro bJ fW gP df fQ fu ⟨rfl,rfl⟩
 have fw:sW w U bJ [.blk aa 115 B3,.blk ai 123 B2,.blk ah 123 B2,.blk b6 93 B1,.blk b2 27 B0] df:=fu
 exact cH _ _ ⟨bJ,Z,Z,Z,Z,Z,Z,Z,Z,Z,fQ,fw⟩
 exact Zb Z Z Z Z (aV.ldB (j:=0) Z Z Z zF (v:=jV ab.Skier) Z) (cG _ _ ⟨U,Z,Z,Z,Z,Z,Z,Z,Z,Z,(zM _),aV⟩)
 rintro ib gt ⟨cQ,eC,eD,gK,bu⟩
 refine zP ?_
 cases cx
 exact ⟨rfl,_,(wFq (rs:=[.cell 4 123,.cell 5 123]) (vs:=[.agg B5.toArray,.agg B4.toArray]) ⟨⟨_,eC,(wBt zn zJ (bu.blkAt (k:=2) rfl) (vs:=B5) rfl rfl)⟩,⟨⟨_,eD,(wBt zn zJ (bu.blkAt (k:=1) rfl) (vs:=B4) rfl rfl)⟩,trivial⟩⟩ rfl),cQ,_,(bu.pick [] _ (by decide) rfl),rfl,rfl⟩
end Go.Proofs.YtlnfbjphfoipaaaGreat
namespace Go.Proofs.YtlnfbjphfoipaaaGreat
open Go.KL
set_option maxHeartbeats 4000000
theorem wIO (p0:wAA) (av:Option Addr) (aV:Nat) (az:Option Addr) (aW:Nat) (ai:Option Addr) (aj:Nat) (am:Option Addr) (ap:Nat) (p1:wAJ) (w:World) (U:PHeap) (hS:St0 w U []) (bC:Sl U 1 av aV p0.Starts.length (hH KL.encI p0.Starts)) (bD:Sl U 2 az aW p0.Splits.length (hH wAB p0.Splits)) (a0:Sl U 3 ai aj p0.Clocks.length (hH wAD p0.Clocks)) (bq:Sl U 4 am ap p0.Readings.length (hH wAC p0.Readings)) {r:Int × Int} (hm:wDc p0 p1=some r):Gv Tryz.prog 144 [.agg #[.slice av p0.Starts.length aV,.slice az p0.Splits.length aW,.slice ai p0.Clocks.length aj,.slice am p0.Readings.length ap],.agg #[jV p1.Kind,jV p1.Skier,jV p1.Index,.bool p1.Up]] w (wCp w [] U (fun U_ L_ v=>v=.tuple #[jV r.1,jV r.2]/\L_=[])):=by
 unfold wDc at hm
 refine Gv.of Tryz.func144 Z Tryz.ntmps144 Tryz.results144 Z (sR gBg Z ?_)
 let B0:List Value:=[.slice av p0.Starts.length aV,.slice az p0.Splits.length aW,.slice ai p0.Clocks.length aj,.slice am p0.Readings.length ap]
 refine ZE (cs:=B0) rfl rfl rfl rfl rfl rfl (by rfl) hS ?_
 intro W1 b2 bp
 let B1:List Value:=[jV p1.Kind,jV p1.Skier,jV p1.Index,.bool p1.Up]
 refine ZE (cs:=B1) rfl rfl rfl rfl rfl rfl (by rfl) bp ?_
 intro W5 b6 ak
 refine oA Z Z (oA Z Z (eN (sR (wId gAo) Z (oR Z (zE Z Z zU Z yO) (oL Z (ak.ldB (j:=1) Z Z Z yQ (v:=.slice am p0.Readings.length ap) Z) (oR Z (zE Z Z ZM Z zB) (oL Z (ak.ldB (j:=0) Z Z Z zF (v:=jV p1.Index) Z) (bnK hm fun x9 au br=>?_))))))))
 have q:=bq.el (fun _=>rfl) (wAS au)
 obtain ⟨bz,bE,bf,bi⟩:=q
 refine oR Z (ZC Z Z bf Z Zk Zn (wAx au) (wBA au)) (oL Z (ak.ldCA (f:=0) bi Z Z yk Zn (us:=[jV x9.Skier,jV x9.Mat,jV x9.Clock,jV x9.Time]) Z Z) (ze (cs:=[jV 0,jV 0,jV 0,jV 0]) Z Z Z Z Z Tryz.zeroValue115 Z ak ?_))
 intro bu bb bm
 let B2:List Value:=[jV x9.Skier,jV x9.Mat,jV x9.Clock,jV x9.Time]
 refine zm (j:=0) (vs:=B2) Z Z Z Z bm Z Z Z Z Zn (zA Z) Z Z Z ?_
 intro aq bn
 have bo:sW w U U [.blk bb 115 B2,.blk b6 93 B1,.blk b2 27 B0] aq:=bn
 refine eN (zH (ZD zy [3,1,3,1,3,1,3,3,1,3,3,1,3,1,3,3,1,3,1,3,3,3] fL22 (by kernel_rfl) ?_))
 have ab:=bo.drew
 generalize hw_W24:({ aq with drawn:=aq.drawn + 1 }:World)=bv at ab ⊢
 refine oR Z (zE Z Z Zp Z zB) (oL Z (ab.ldB (j:=0) Z Z Z zF (v:=jV x9.Time) Z) (oR Z (zE Z Z zU Z Zy) (oL Z (ab.ldB (j:=2) Z Z Z yD (v:=.slice ai p0.Clocks.length aj) Z) (oR Z (zE Z Z Zp Z zB) (oL Z (ab.ldB (j:=0) Z Z Z zF (v:=jV x9.Clock) Z) (bnK br fun ba ah bs=>?_))))))
 have q:=a0.el (fun _=>rfl) (wAS ah)
 obtain ⟨bA,bF,bg,bj⟩:=q
 refine oR Z (ZC Z Z bg Z ZX Zq (wAx ah) (wBA ah)) (oR Z (zE Z Z yW Z zB) (oL Z (ab.ldC (f:=2) bj (v:=jV ba.Error) Z Z zF Z) (oR Z (zZ Z Z Z) (oR Z (zE Z Z zU Z Zy) (oL Z (ab.ldB (j:=2) Z Z Z yD (v:=.slice ai p0.Clocks.length aj) Z) (oR Z (zE Z Z Zp Z zB) (oL Z (ab.ldB (j:=0) Z Z Z zF (v:=jV x9.Clock) Z) ?_)))))))
 have q:=a0.el (fun _=>rfl) (wAS ah)
 obtain ⟨bB,bG,bh,bk⟩:=q
 refine oR Z (ZC Z Z bh Z ZX Zq (wAx ah) (wBA ah)) (oR Z (zE Z Z yW Z zB) (oL Z (ab.ldC (f:=2) bk (v:=jV ba.Error) Z Z zF Z) (oR Z (zE Z Z Zp Z zB) (oL Z (ab.ldB (j:=0) Z Z Z zF (v:=jV x9.Time) Z) (oR Z (yg Z Z Z) (oA Z Z (oA Z Z (eN (zP ?_)))))))))
 cases bs
 exact ⟨rfl,_,(wFJ rfl rfl),U,_,(ab.pick [] _ (by decide) rfl),rfl,rfl⟩
theorem wCC  (w:World) (U:PHeap) (hS:St0 w U [])  {r:Unit} (hm:wCc =some r):Gv Tryz.prog 127 [] w (wCp w [] U (fun U_ L_ v=>v=.agg #[.func (.func 133) #[] #[],.func (.func 134) #[] #[],.func (.func 135) #[] #[],.func (.func 136) #[] #[],.func (.func 137) #[] #[],.func (.func 138) #[] #[],.func (.func 139) #[] #[],.func (.func 140) #[] #[],.func (.func 141) #[] #[],.func (.func 142) #[] #[],.func (.func 143) #[] #[],.func (.func 144) #[] #[]]/\L_=[])):=by
 unfold wCc at hm
 refine Gv.of Tryz.func127 Z Tryz.ntmps127 Tryz.results127 Z (sR (.fx 0 .nil .stop) Z ?_)
 let B0:List Value:=[.nilFunc,.nilFunc,.nilFunc,.nilFunc,.nilFunc,.nilFunc,.nilFunc,.nilFunc,.nilFunc,.nilFunc,.nilFunc,.nilFunc]
 refine ze (cs:=B0) Z Z Z Z Z Tryz.zeroValue201 Z hS ?_
 intro W1 b2 au
 refine eN (sR (wIc (.fx 5 .nil .stop)) Z ?_)
 let B1:List Value:=[.nilFunc,.nilFunc,.nilFunc]
 let B2:List Value:=[.func (.func 133) #[] #[],.func (.func 134) #[] #[],.func (.func 135) #[] #[]]
 refine oR Z (ZO (pv:=[(0,.func (.func 133) #[] #[]),(1,.func (.func 134) #[] #[]),(2,.func (.func 135) #[] #[])]) (z:=B1) (cs:=B2) Z (wAH Z (wAH Z (wAH Z wAY))) Zs wGW Z Z) ?_
 let B3:List Value:=[.func (.func 136) #[] #[],.func (.func 137) #[] #[],.func (.func 138) #[] #[]]
 refine oR Z (ZO (pv:=[(0,.func (.func 136) #[] #[]),(1,.func (.func 137) #[] #[]),(2,.func (.func 138) #[] #[])]) (z:=B1) (cs:=B3) Z (wAH Z (wAH Z (wAH Z wAY))) Zs wGW Z Z) ?_
 let B4:List Value:=[.func (.func 139) #[] #[],.func (.func 140) #[] #[],.func (.func 141) #[] #[]]
 refine oR Z (ZO (pv:=[(0,.func (.func 139) #[] #[]),(1,.func (.func 140) #[] #[]),(2,.func (.func 141) #[] #[])]) (z:=B1) (cs:=B4) Z (wAH Z (wAH Z (wAH Z wAY))) Zs wGW Z Z) ?_
 let B5:List Value:=[.func (.func 142) #[] #[],.func (.func 143) #[] #[],.func (.func 144) #[] #[]]
 refine oR Z (ZO (pv:=[(0,.func (.func 142) #[] #[]),(1,.func (.func 143) #[] #[]),(2,.func (.func 144) #[] #[])]) (z:=B1) (cs:=B5) Z (wAH Z (wAH Z (wAH Z wAY))) Zs wGW Z Z) ?_
 let B6:List Value:=[.func (.func 133) #[] #[],.func (.func 134) #[] #[],.func (.func 135) #[] #[],.func (.func 136) #[] #[],.func (.func 137) #[] #[],.func (.func 138) #[] #[],.func (.func 139) #[] #[],.func (.func 140) #[] #[],.func (.func 141) #[] #[],.func (.func 142) #[] #[],.func (.func 143) #[] #[],.func (.func 144) #[] #[]]
 refine oR Z (Runs.buildA (pv:=[(0,.agg B2.toArray),(1,.agg B3.toArray),(2,.agg B4.toArray),(3,.agg B5.toArray)]) (z:=B0) (cs:=B6) Z (wAH Z (wAH Z (wAH Z (wAH Z wAY)))) Tryz.zeroValue201 Zx Zc Z Z) (zm (j:=0) (vs:=B6) Z Z Z Z au Z Z Z Z Tryz.sizeOf201 (zA Z) Z Z Z ?_)
 intro W5 av
 have am:sW w U U [.blk b2 201 B6] W5:=av
 refine eN (zP ?_)
 cases hm
 exact ⟨rfl,_,(wKE (v:=.agg B6.toArray) ⟨⟨_,rfl,(wBt Tryz.isAgg201 Tryz.sizeOf201 (am.blkAt (k:=0) rfl) (vs:=B6) rfl rfl)⟩,trivial⟩),U,_,(am.pick [] _ (by decide) rfl),rfl,rfl⟩
theorem wGt (p0:wAA) (bB:Option Addr) (bF:Nat) (bC:Option Addr) (bG:Nat) (bD:Option Addr) (bH:Nat) (bE:Option Addr) (bI:Nat) (p1:wAJ) (w:World) (U:PHeap) (hS:St0 w U []) (cO:Sl U 1 bB bF p0.Starts.length (hH KL.encI p0.Starts)) (cP:Sl U 2 bC bG p0.Splits.length (hH wAB p0.Splits)) (cQ:Sl U 3 bD bH p0.Clocks.length (hH wAD p0.Clocks)) (cR:Sl U 4 bE bI p0.Readings.length (hH wAC p0.Readings)) {r:wAE × wAE × Int} (hm:wCD p0 p1=some r):Gv Tryz.prog 107 [.agg #[.slice bB p0.Starts.length bF,.slice bC p0.Splits.length bG,.slice bD p0.Clocks.length bH,.slice bE p0.Readings.length bI],.agg #[jV p1.Kind,jV p1.Skier,jV p1.Index,.bool p1.Up]] w (wCp w [] U (fun U_ L_ v=>v=.tuple #[.agg #[jV r.1.skier,jV r.1.mat],.agg #[jV r.2.1.skier,jV r.2.1.mat],jV r.2.2]/\L_=[])):=by
 unfold wCD at hm
 refine Gv.of Tryz.func107 Z Tryz.ntmps107 Tryz.results107 Z ?_
 by_cases c1:p1.Kind=0
 have fU:=hm;rw [if_pos c1] at fU
 refine sR gBp Z ?_
 let B0:List Value:=[.slice bB p0.Starts.length bF,.slice bC p0.Splits.length bG,.slice bD p0.Clocks.length bH,.slice bE p0.Readings.length bI]
 refine ZE (cs:=B0) rfl rfl rfl rfl rfl rfl (by rfl) hS ?_
 intro W6 b7 oc
 let B1:List Value:=[jV p1.Kind,jV p1.Skier,jV p1.Index,.bool p1.Up]
 refine ZE (cs:=B1) rfl rfl rfl rfl rfl rfl (by rfl) oc ?_
 intro pm bi jO
 let B2:List Value:=[jV 0,jV 0]
 refine ze (cs:=B2) Z Z Z Z Z zj Z jO ?_
 intro po a0 j0
 refine ze (cs:=B2) Z Z Z Z Z zj Z j0 ?_
 intro eg bd lf
 refine oA Z Z (eN ?_)
 have q:=bnd fU
 obtain ⟨⟨⟩,ou,fL⟩:=q
 try dsimp only at fL
 let B3:List Value:=[.func (.func 133) #[] #[],.func (.func 134) #[] #[],.func (.func 135) #[] #[]]
 refine yU (fun σ_ w_=>∃ (U_:PHeap) (bK:Nat),σ_ 2=.pointer (some ⟨b7,0,none⟩)/\σ_ 3=.pointer (some ⟨bi,0,none⟩)/\σ_ 4=.pointer (some ⟨a0,0,none⟩)/\σ_ 5=.pointer (some ⟨bd,0,none⟩)/\σ_ 7=.pointer (some ⟨bK,0,none⟩)/\PHeap.Le U U_/\sW w U U_ [.blk bd 123 B2,.blk a0 123 B2,.blk bi 93 B1,.blk b7 27 B0,.blk bK 200 B3] w_) ?_ ?_
 have q:=bnd ou
 obtain ⟨⟨⟩,e8,dY⟩:=q
 try dsimp only at dY
 refine ZD zy [2,3,1,3,2,0] gBu (by kernel_rfl) ?_
 have cI:=lf.drew
 generalize hw_W45:({ eg with drawn:=eg.drawn + 1 }:World)=io at cI ⊢
 refine oR Z (zE Z Z ZM Z Tryz.sizeOf91) (oL Z (cI.ldB (j:=2) Z Z Z Tryz.isAgg91 (v:=jV p1.Kind) Z) (zw ?_ ?_))
 refine zK 0 Z Z Z Z (zL Z Z yb zQ Z) cI (fun hs=>wCC io U hs e8) (.inr Z) ?_
 rintro du o7 qn iw oH ms ⟨rfl,rfl⟩
 have mu:sW w U du [.blk bd 123 B2,.blk a0 123 B2,.blk bi 93 B1,.blk b7 27 B0] iw:=ms
 refine zk rfl rfl rfl rfl (fun _=>(Runs.ixA (i:=0) rfl rfl (congrArg (jV) c1) Zx Zc (by decide) (by decide) (wDL yl Zc rfl))) (ze (cs:=[.nilFunc,.nilFunc,.nilFunc]) rfl rfl rfl rfl rfl Zs rfl mu ?_)
 intro pM eF mF
 refine zm (j:=0) (vs:=B3) Z Z Z Z mF Z Z Z Z Zc (zA Z) Z Z Z ?_
 intro iF mK
 have mO:sW w U du [.blk eF 200 B3,.blk bd 123 B2,.blk a0 123 B2,.blk bi 93 B1,.blk b7 27 B0] iF:=mK
 refine zh ?_
 cases dY
 exact zG ⟨rfl,⟨du,eF,rfl,rfl,rfl,rfl,rfl,oH,(mO.pick [1,2,3,4,0] _ (by decide) rfl)⟩⟩
 refine ze (cs:=[.nilFunc,.nilFunc,.nilFunc]) Z Z Z Z Z Zs Z cI ?_
 intro iK dF m4
 refine zK 0 Z Z Z Z (zL Z Z yb zQ Z) m4 (fun hs=>wCC iK U hs e8) (.inr Z) ?_
 rintro dx pg qu iU oO n7 ⟨rfl,rfl⟩
 have n8:sW w U dx [.blk dF 200 [.nilFunc,.nilFunc,.nilFunc],.blk bd 123 B2,.blk a0 123 B2,.blk bi 93 B1,.blk b7 27 B0] iU:=n7
 refine zk rfl rfl rfl rfl (fun _=>(Runs.ixA (i:=0) rfl rfl (congrArg (jV) c1) Zx Zc (by decide) (by decide) (wDL yl Zc rfl))) (zm (j:=0) (vs:=B3) rfl rfl rfl rfl n8 rfl rfl rfl rfl Zc (zA rfl) rfl rfl rfl ?_)
 intro iV n9
 have oa:sW w U dx [.blk dF 200 B3,.blk bd 123 B2,.blk a0 123 B2,.blk bi 93 B1,.blk b7 27 B0] iV:=n9
 refine zh ?_
 cases dY
 exact zG ⟨rfl,⟨dx,dF,rfl,rfl,rfl,rfl,rfl,oO,(oa.pick [1,2,3,4,0] _ (by decide) rfl)⟩⟩
 rintro qE iW ⟨gC,bK,eS,dN,bY,bU,eU,da,cN⟩
 refine sR (wEZ (.fx 4 (wPo gAp) .stop)) Z (oR Z (zE Z eU yE Z Tryz.sizeOf197) (oL Z (cN.ldB (j:=4) Z Z Z Tryz.isAgg197 (v:=.func (.func 134) #[] #[]) Z) (oL Z (cN.ldBA (j:=3) Z Z eS ZB zo (vs:=B0) Z Z) (oL Z (cN.ldBA (j:=2) Z Z dN yc yP (vs:=B1) Z Z) ?_))))
 have fu:=cO.le da
 have fw:=cP.le da
 have fy:=cQ.le da
 have fz:=cR.le da
 have q:=bnd fL
 obtain ⟨⟨x92,x93⟩,jH,gb⟩:=q
 try dsimp only at gb
 refine zK 0 Z Z Z Z (zL Z Z Tryz.call134 (zD Z (zD Z zQ)) Z) cN (fun hs=>wIp p0 bB bF bC bG bD bH bE bI p1 iW gC hs fu fw fy fz jH) (.inr Z) ?_
 rintro cx pk qw iX cS jJ ⟨rfl,rfl⟩
 have jK:sW w U cx [.blk bd 123 B2,.blk a0 123 B2,.blk bi 93 B1,.blk b7 27 B0,.blk bK 200 B3] iX:=jJ
 refine oM Z Z (oR Z (zu Z Z (v:=.agg #[jV x92.skier,jV x92.mat]) Z) (oR Z (zu Z Z (v:=.agg #[jV x93.skier,jV x93.mat]) Z) ?_))
 let B4:List Value:=[jV x92.skier,jV x92.mat]
 refine zm (j:=1) (vs:=B4) Z Z Z Z jK Z bY Z Z zJ (zA Z) Z Z Z ?_
 intro gD jL
 have jM:sW w U cx [.blk bd 123 B2,.blk a0 123 B4,.blk bi 93 B1,.blk b7 27 B0,.blk bK 200 B3] gD:=jL
 let B5:List Value:=[jV x93.skier,jV x93.mat]
 refine zm (j:=0) (vs:=B5) Z Z Z Z jM Z bU Z Z zJ (zA Z) Z Z Z ?_
 intro d9 jN
 have cz:sW w U cx [.blk bd 123 B5,.blk a0 123 B4,.blk bi 93 B1,.blk b7 27 B0,.blk bK 200 B3] d9:=jN
 refine eN (sR (wEZ (.fx 4 (wLu (.nil)) .stop)) Z (oR Z (zE Z eU yE Z Tryz.sizeOf198) (oL Z (cz.ldB (j:=4) Z Z Z Tryz.isAgg198 (v:=.func (.func 135) #[] #[]) Z) (oL Z (cz.ldBA (j:=3) Z Z eS ZB zo (vs:=B0) Z Z) (oL Z (cz.ldBA (j:=2) Z Z dN yc yP (vs:=B1) Z Z) ?_)))))
 have jh:=fu.le cS
 have ji:=fw.le cS
 have jj:=fy.le cS
 have jk:=fz.le cS
 have q:=bnd gb
 obtain ⟨⟨d5,gi⟩,jl,fE⟩:=q
 try dsimp only at fE
 refine zK 0 Z Z Z Z (zL Z Z Tryz.call135 (zD Z (zD Z zQ)) Z) cz (fun hs=>wIq p0 bB bF bC bG bD bH bE bI p1 d9 cx hs jh ji jj jk jl) (.inr Z) ?_
 rintro bN oP qc dy pW jP ⟨rfl,rfl⟩
 have cf:sW w U bN [.blk bd 123 B5,.blk a0 123 B4,.blk bi 93 B1,.blk b7 27 B0,.blk bK 200 B3] dy:=jP
 refine oM Z Z (oR Z (zu Z Z (v:=jV d5) Z) (oR Z (zu Z Z (v:=jV gi) Z) (oA Z Z (oA Z Z (eN (zH (sR fL3 Z (oR Z (zE Z dN ZM Z Tryz.sizeOf4) (oL Z (cf.ldB (j:=2) Z Z Z Tryz.isAgg4 (v:=.bool p1.Up) Z) (oR Z (Zf Z Z) (eN (ifc fE ?_ ?_))))))))))))
 intro dG od
 refine zx (nC dG.out) (kN ?_)
 have q:=bnd od
 obtain ⟨⟨⟩,ge,fG⟩:=q
 try dsimp only at fG
 refine yU (fun σ_ w_=>∃ (U_:PHeap),σ_ 4=.pointer (some ⟨a0,0,none⟩)/\σ_ 5=.pointer (some ⟨bd,0,none⟩)/\σ_ 6=jV d5/\PHeap.Le bN U_/\sW w U U_ [.blk bd 123 B5,.blk a0 123 B4,.blk bi 93 B1,.blk b7 27 B0,.blk bK 200 B3] w_) ?_ ?_
 refine ZD zy [1,2,3,0,0,3] gBv (by kernel_rfl) ?_
 have cg:=cf.drew
 generalize hw_W136:({ dy with drawn:=dy.drawn + 1 }:World)=pn at cg ⊢
 refine oL Z (cg.ldBA (j:=1) Z Z bY zn zJ (vs:=B4) Z Z) (oM Z Z (zw ?_ ?_))
 refine Zb Z Z Z Z (cg.ldBA (j:=0) Z Z bU zn zJ (vs:=B5) Z Z) (zm (j:=1) (vs:=B4) Z Z Z Z cg Z bY Z Z zJ (zA Z) Z Z Z ?_)
 intro gF jQ
 have jR:sW w U bN [.blk bd 123 B5,.blk a0 123 B4,.blk bi 93 B1,.blk b7 27 B0,.blk bK 200 B3] gF:=jQ
 refine zm (j:=0) (vs:=B5) Z Z Z Z jR Z bU Z Z zJ (zA Z) Z Z Z ?_
 intro gG jS
 have jU:sW w U bN [.blk bd 123 B5,.blk a0 123 B4,.blk bi 93 B1,.blk b7 27 B0,.blk bK 200 B3] gG:=jS
 refine oA Z Z (zh ?_)
 cases ge
 exact zG ⟨Z,⟨bN,bY,bU,Z,(zM _),jU⟩⟩
 refine zm (j:=1) (vs:=B4) Z Z Z Z cg Z bY Z Z zJ (zA Z) Z Z Z ?_
 intro gH jW
 have fA:sW w U bN [.blk bd 123 B5,.blk a0 123 B4,.blk bi 93 B1,.blk b7 27 B0,.blk bK 200 B3] gH:=jW
 refine Zb Z Z Z Z (fA.ldBA (j:=0) Z Z bU zn zJ (vs:=B5) Z Z) (zm (j:=0) (vs:=B5) Z Z Z Z fA Z bU Z Z zJ (zA Z) Z Z Z ?_)
 intro gI jX
 have jY:sW w U bN [.blk bd 123 B5,.blk a0 123 B4,.blk bi 93 B1,.blk b7 27 B0,.blk bK 200 B3] gI:=jX
 refine oA Z Z (zh ?_)
 cases ge
 exact zG ⟨Z,⟨bN,bY,bU,Z,(zM _),jY⟩⟩
 rintro qx pp ⟨gt,iZ,i4,i6,pX,dO⟩
 refine zP ?_
 cases fG
 exact ⟨rfl,_,(wFq (rs:=[.cell 4 123,.cell 5 123,.tmp 6]) (vs:=[.agg B4.toArray,.agg B5.toArray,jV d5]) ⟨⟨_,iZ,(wBt zn zJ (dO.blkAt (k:=1) rfl) (vs:=B4) rfl rfl)⟩,⟨⟨_,i4,(wBt zn zJ (dO.blkAt (k:=0) rfl) (vs:=B5) rfl rfl)⟩,⟨i6,trivial⟩⟩⟩ rfl),gt,_,(dO.pick [] _ (by decide) rfl),rfl,rfl⟩
 intro dG oe
 refine ZG (nF (dG.out)) (sR (wEG gBa) Z (oL Z (cf.ldBA (j:=0) Z Z bU zn zJ (vs:=B5) Z Z) (oL Z (cf.ldBA (j:=1) Z Z bY zn zJ (vs:=B4) Z Z) (oM Z Z (zm (j:=1) (vs:=B5) Z Z Z Z cf Z bY Z Z zJ (zA Z) Z Z Z ?_)))))
 intro gJ jZ
 have j5:sW w U bN [.blk bd 123 B5,.blk a0 123 B5,.blk bi 93 B1,.blk b7 27 B0,.blk bK 200 B3] gJ:=jZ
 refine zm (j:=0) (vs:=B4) Z Z Z Z j5 Z bU Z Z zJ (zA Z) Z Z Z ?_
 intro gK j6
 have dP:sW w U bN [.blk bd 123 B4,.blk a0 123 B5,.blk bi 93 B1,.blk b7 27 B0,.blk bK 200 B3] gK:=j6
 refine oA Z Z (eN (zP (zN ?_)))
 cases oe
 exact ⟨rfl,_,(wFq (rs:=[.cell 4 123,.cell 5 123,.tmp 6]) (vs:=[.agg B5.toArray,.agg B4.toArray,jV gi]) ⟨⟨_,bY,(wBt zn zJ (dP.blkAt (k:=1) rfl) (vs:=B5) rfl rfl)⟩,⟨⟨_,bU,(wBt zn zJ (dP.blkAt (k:=0) rfl) (vs:=B4) rfl rfl)⟩,⟨rfl,trivial⟩⟩⟩ rfl),bN,_,(dP.pick [] _ (by decide) rfl),rfl,rfl⟩
 by_cases c2:p1.Kind=1
 have fH:=hm;rw [if_neg c1,if_pos c2] at fH
 refine sR gBp Z ?_
 let B6:List Value:=[.slice bB p0.Starts.length bF,.slice bC p0.Splits.length bG,.slice bD p0.Clocks.length bH,.slice bE p0.Readings.length bI]
 refine ZE (cs:=B6) rfl rfl rfl rfl rfl rfl (by rfl) hS ?_
 intro pq bj j7
 let B7:List Value:=[jV p1.Kind,jV p1.Skier,jV p1.Index,.bool p1.Up]
 refine ZE (cs:=B7) rfl rfl rfl rfl rfl rfl (by rfl) j7 ?_
 intro pu bk j8
 let B8:List Value:=[jV 0,jV 0]
 refine ze (cs:=B8) Z Z Z Z Z zj Z j8 ?_
 intro py ba j9
 refine ze (cs:=B8) Z Z Z Z Z zj Z j9 ?_
 intro ef bb k9
 refine oA Z Z (eN ?_)
 have q:=bnd fH
 obtain ⟨⟨⟩,ot,fJ⟩:=q
 try dsimp only at fJ
 let B9:List Value:=[.func (.func 136) #[] #[],.func (.func 137) #[] #[],.func (.func 138) #[] #[]]
 refine yU (fun σ_ w_=>∃ (U_:PHeap) (bJ:Nat),σ_ 2=.pointer (some ⟨bj,0,none⟩)/\σ_ 3=.pointer (some ⟨bk,0,none⟩)/\σ_ 4=.pointer (some ⟨ba,0,none⟩)/\σ_ 5=.pointer (some ⟨bb,0,none⟩)/\σ_ 7=.pointer (some ⟨bJ,0,none⟩)/\PHeap.Le U U_/\sW w U U_ [.blk bb 123 B8,.blk ba 123 B8,.blk bk 93 B7,.blk bj 27 B6,.blk bJ 200 B9] w_) ?_ ?_
 have q:=bnd ot
 obtain ⟨⟨⟩,eV,dW⟩:=q
 try dsimp only at dW
 refine ZD zy [2,3,1,3,2,0] gBu (by kernel_rfl) ?_
 have cA:=k9.drew
 generalize hw_W204:({ ef with drawn:=ef.drawn + 1 }:World)=gL at cA ⊢
 refine oR Z (zE Z Z ZM Z Tryz.sizeOf91) (oL Z (cA.ldB (j:=2) Z Z Z Tryz.isAgg91 (v:=jV p1.Kind) Z) (zw ?_ ?_))
 refine zK 0 Z Z Z Z (zL Z Z yb zQ Z) cA (fun hs=>wCC gL U hs eV) (.inr Z) ?_
 rintro dp oU qd gM oy lg ⟨rfl,rfl⟩
 have lh:sW w U dp [.blk bb 123 B8,.blk ba 123 B8,.blk bk 93 B7,.blk bj 27 B6] gM:=lg
 refine zk rfl rfl rfl rfl (fun _=>(Runs.ixA (i:=1) rfl rfl (congrArg (jV) c2) Zx Zc (by decide) (by decide) (wDL yl Zc rfl))) (ze (cs:=[.nilFunc,.nilFunc,.nilFunc]) rfl rfl rfl rfl rfl Zs rfl lh ?_)
 intro pz eC li
 refine zm (j:=0) (vs:=B9) Z Z Z Z li Z Z Z Z Zc (zA Z) Z Z Z ?_
 intro gN lj
 have lm:sW w U dp [.blk eC 200 B9,.blk bb 123 B8,.blk ba 123 B8,.blk bk 93 B7,.blk bj 27 B6] gN:=lj
 refine zh ?_
 cases dW
 exact zG ⟨rfl,⟨dp,eC,rfl,rfl,rfl,rfl,rfl,oy,(lm.pick [1,2,3,4,0] _ (by decide) rfl)⟩⟩
 refine ze (cs:=[.nilFunc,.nilFunc,.nilFunc]) Z Z Z Z Z Zs Z cA ?_
 intro gO dC ln
 refine zK 0 Z Z Z Z (zL Z Z yb zQ Z) ln (fun hs=>wCC gO U hs eV) (.inr Z) ?_
 rintro dq oW qe gP oz lp ⟨rfl,rfl⟩
 have ls:sW w U dq [.blk dC 200 [.nilFunc,.nilFunc,.nilFunc],.blk bb 123 B8,.blk ba 123 B8,.blk bk 93 B7,.blk bj 27 B6] gP:=lp
 refine zk rfl rfl rfl rfl (fun _=>(Runs.ixA (i:=1) rfl rfl (congrArg (jV) c2) Zx Zc (by decide) (by decide) (wDL yl Zc rfl))) (zm (j:=0) (vs:=B9) rfl rfl rfl rfl ls rfl rfl rfl rfl Zc (zA rfl) rfl rfl rfl ?_)
 intro gQ lu
 have lv:sW w U dq [.blk dC 200 B9,.blk bb 123 B8,.blk ba 123 B8,.blk bk 93 B7,.blk bj 27 B6] gQ:=lu
 refine zh ?_
 cases dW
 exact zG ⟨rfl,⟨dq,dC,rfl,rfl,rfl,rfl,rfl,oz,(lv.pick [1,2,3,4,0] _ (by decide) rfl)⟩⟩
 rintro qy gR ⟨gu,bJ,eK,dK,bV,bR,eL,cU,cC⟩
 refine sR (wEZ (.fx 4 (wPo gAp) .stop)) Z (oR Z (zE Z eL yE Z Tryz.sizeOf197) (oL Z (cC.ldB (j:=4) Z Z Z Tryz.isAgg197 (v:=.func (.func 137) #[] #[]) Z) (oL Z (cC.ldBA (j:=3) Z Z eK ZB zo (vs:=B6) Z Z) (oL Z (cC.ldBA (j:=2) Z Z dK yc yP (vs:=B7) Z Z) ?_))))
 have eW:=cO.le cU
 have eX:=cP.le cU
 have eY:=cQ.le cU
 have eZ:=cR.le cU
 have q:=bnd fJ
 obtain ⟨⟨db,de⟩,jm,fK⟩:=q
 try dsimp only at fK
 refine zK 0 Z Z Z Z (zL Z Z Tryz.call137 (zD Z (zD Z zQ)) Z) cC (fun hs=>wIr p0 bB bF bC bG bD bH bE bI p1 gR gu hs eW eX eY eZ jm) (.inr Z) ?_
 rintro ct oX qf gS cV lw ⟨rfl,rfl⟩
 have lx:sW w U ct [.blk bb 123 B8,.blk ba 123 B8,.blk bk 93 B7,.blk bj 27 B6,.blk bJ 200 B9] gS:=lw
 refine oM Z Z (oR Z (zu Z Z (v:=.agg #[jV db.skier,jV db.mat]) Z) (oR Z (zu Z Z (v:=.agg #[jV de.skier,jV de.mat]) Z) ?_))
 let ap:List Value:=[jV db.skier,jV db.mat]
 refine zm (j:=1) (vs:=ap) Z Z Z Z lx Z bV Z Z zJ (zA Z) Z Z Z ?_
 intro gU ly
 have lz:sW w U ct [.blk bb 123 B8,.blk ba 123 ap,.blk bk 93 B7,.blk bj 27 B6,.blk bJ 200 B9] gU:=ly
 let ae:List Value:=[jV de.skier,jV de.mat]
 refine zm (j:=0) (vs:=ae) Z Z Z Z lz Z bR Z Z zJ (zA Z) Z Z Z ?_
 intro eh lA
 have cD:sW w U ct [.blk bb 123 ae,.blk ba 123 ap,.blk bk 93 B7,.blk bj 27 B6,.blk bJ 200 B9] eh:=lA
 refine eN (sR (wEZ (.fx 4 (wLu (.nil)) .stop)) Z (oR Z (zE Z eL yE Z Tryz.sizeOf198) (oL Z (cD.ldB (j:=4) Z Z Z Tryz.isAgg198 (v:=.func (.func 138) #[] #[]) Z) (oL Z (cD.ldBA (j:=3) Z Z eK ZB zo (vs:=B6) Z Z) (oL Z (cD.ldBA (j:=2) Z Z dK yc yP (vs:=B7) Z Z) ?_)))))
 have jo:=eW.le cV
 have jp:=eX.le cV
 have jq:=eY.le cV
 have jr:=eZ.le cV
 have q:=bnd fK
 obtain ⟨⟨d6,gj⟩,jt,fM⟩:=q
 try dsimp only at fM
 refine zK 0 Z Z Z Z (zL Z Z Tryz.call138 (zD Z (zD Z zQ)) Z) cD (fun hs=>wIs p0 bB bF bC bG bD bH bE bI p1 eh ct hs jo jp jq jr jt) (.inr Z) ?_
 rintro bO oY qh dz pY lB ⟨rfl,rfl⟩
 have cj:sW w U bO [.blk bb 123 ae,.blk ba 123 ap,.blk bk 93 B7,.blk bj 27 B6,.blk bJ 200 B9] dz:=lB
 refine oM Z Z (oR Z (zu Z Z (v:=jV d6) Z) (oR Z (zu Z Z (v:=jV gj) Z) (oA Z Z (oA Z Z (eN (zH (sR fL3 Z (oR Z (zE Z dK ZM Z Tryz.sizeOf4) (oL Z (cj.ldB (j:=2) Z Z Z Tryz.isAgg4 (v:=.bool p1.Up) Z) (oR Z (Zf Z Z) (eN (ifc fM ?_ ?_))))))))))))
 intro dH og
 refine zx (nC dH.out) (kN ?_)
 have q:=bnd og
 obtain ⟨⟨⟩,gf,fN⟩:=q
 try dsimp only at fN
 refine yU (fun σ_ w_=>∃ (U_:PHeap),σ_ 4=.pointer (some ⟨ba,0,none⟩)/\σ_ 5=.pointer (some ⟨bb,0,none⟩)/\σ_ 6=jV d6/\PHeap.Le bO U_/\sW w U U_ [.blk bb 123 ae,.blk ba 123 ap,.blk bk 93 B7,.blk bj 27 B6,.blk bJ 200 B9] w_) ?_ ?_
 refine ZD zy [1,2,3,0,0,3] gBv (by kernel_rfl) ?_
 have cm:=cj.drew
 generalize hw_W295:({ dz with drawn:=dz.drawn + 1 }:World)=pB at cm ⊢
 refine oL Z (cm.ldBA (j:=1) Z Z bV zn zJ (vs:=ap) Z Z) (oM Z Z (zw ?_ ?_))
 refine Zb Z Z Z Z (cm.ldBA (j:=0) Z Z bR zn zJ (vs:=ae) Z Z) (zm (j:=1) (vs:=ap) Z Z Z Z cm Z bV Z Z zJ (zA Z) Z Z Z ?_)
 intro gW lD
 have lE:sW w U bO [.blk bb 123 ae,.blk ba 123 ap,.blk bk 93 B7,.blk bj 27 B6,.blk bJ 200 B9] gW:=lD
 refine zm (j:=0) (vs:=ae) Z Z Z Z lE Z bR Z Z zJ (zA Z) Z Z Z ?_
 intro gX lF
 have lG:sW w U bO [.blk bb 123 ae,.blk ba 123 ap,.blk bk 93 B7,.blk bj 27 B6,.blk bJ 200 B9] gX:=lF
 refine oA Z Z (zh ?_)
 cases gf
 exact zG ⟨Z,⟨bO,bV,bR,Z,(zM _),lG⟩⟩
 refine zm (j:=1) (vs:=ap) Z Z Z Z cm Z bV Z Z zJ (zA Z) Z Z Z ?_
 intro gZ lH
 have fB:sW w U bO [.blk bb 123 ae,.blk ba 123 ap,.blk bk 93 B7,.blk bj 27 B6,.blk bJ 200 B9] gZ:=lH
 refine Zb Z Z Z Z (fB.ldBA (j:=0) Z Z bR zn zJ (vs:=ae) Z Z) (zm (j:=0) (vs:=ae) Z Z Z Z fB Z bR Z Z zJ (zA Z) Z Z Z ?_)
 intro g7 lI
 have lJ:sW w U bO [.blk bb 123 ae,.blk ba 123 ap,.blk bk 93 B7,.blk bj 27 B6,.blk bJ 200 B9] g7:=lI
 refine oA Z Z (zh ?_)
 cases gf
 exact zG ⟨Z,⟨bO,bV,bR,Z,(zM _),lJ⟩⟩
 rintro qz pC ⟨gv,i8,i9,ja,pZ,dQ⟩
 refine zP ?_
 cases fN
 exact ⟨rfl,_,(wFq (rs:=[.cell 4 123,.cell 5 123,.tmp 6]) (vs:=[.agg ap.toArray,.agg ae.toArray,jV d6]) ⟨⟨_,i8,(wBt zn zJ (dQ.blkAt (k:=1) rfl) (vs:=ap) rfl rfl)⟩,⟨⟨_,i9,(wBt zn zJ (dQ.blkAt (k:=0) rfl) (vs:=ae) rfl rfl)⟩,⟨ja,trivial⟩⟩⟩ rfl),gv,_,(dQ.pick [] _ (by decide) rfl),rfl,rfl⟩
 intro dH oh
 refine ZG (nF (dH.out)) (sR (wEG gBa) Z (oL Z (cj.ldBA (j:=0) Z Z bR zn zJ (vs:=ae) Z Z) (oL Z (cj.ldBA (j:=1) Z Z bV zn zJ (vs:=ap) Z Z) (oM Z Z (zm (j:=1) (vs:=ae) Z Z Z Z cj Z bV Z Z zJ (zA Z) Z Z Z ?_)))))
 intro g8 lK
 have lL:sW w U bO [.blk bb 123 ae,.blk ba 123 ae,.blk bk 93 B7,.blk bj 27 B6,.blk bJ 200 B9] g8:=lK
 refine zm (j:=0) (vs:=ap) Z Z Z Z lL Z bR Z Z zJ (zA Z) Z Z Z ?_
 intro g9 lM
 have dR:sW w U bO [.blk bb 123 ap,.blk ba 123 ae,.blk bk 93 B7,.blk bj 27 B6,.blk bJ 200 B9] g9:=lM
 refine oA Z Z (eN (zP (zN ?_)))
 cases oh
 exact ⟨rfl,_,(wFq (rs:=[.cell 4 123,.cell 5 123,.tmp 6]) (vs:=[.agg ae.toArray,.agg ap.toArray,jV gj]) ⟨⟨_,bV,(wBt zn zJ (dR.blkAt (k:=1) rfl) (vs:=ae) rfl rfl)⟩,⟨⟨_,bR,(wBt zn zJ (dR.blkAt (k:=0) rfl) (vs:=ap) rfl rfl)⟩,⟨rfl,trivial⟩⟩⟩ rfl),bO,_,(dR.pick [] _ (by decide) rfl),rfl,rfl⟩
 by_cases c3:p1.Kind=2
 have fO:=hm;rw [if_neg c1,if_neg c2,if_pos c3] at fO
 refine sR gBp Z ?_
 let aq:List Value:=[.slice bB p0.Starts.length bF,.slice bC p0.Splits.length bG,.slice bD p0.Clocks.length bH,.slice bE p0.Readings.length bI]
 refine ZE (cs:=aq) rfl rfl rfl rfl rfl rfl (by rfl) hS ?_
 intro pD bm lN
 let au:List Value:=[jV p1.Kind,jV p1.Skier,jV p1.Index,.bool p1.Up]
 refine ZE (cs:=au) rfl rfl rfl rfl rfl rfl (by rfl) lN ?_
 intro pE bn lO
 let bv:List Value:=[jV 0,jV 0]
 refine ze (cs:=bv) Z Z Z Z Z zj Z lO ?_
 intro pF be lP
 refine ze (cs:=bv) Z Z Z Z Z zj Z lP ?_
 intro ej bf lQ
 refine oA Z Z (eN ?_)
 have q:=bnd fO
 obtain ⟨⟨⟩,ow,fP⟩:=q
 try dsimp only at fP
 let br:List Value:=[.func (.func 139) #[] #[],.func (.func 140) #[] #[],.func (.func 141) #[] #[]]
 refine yU (fun σ_ w_=>∃ (U_:PHeap) (bL:Nat),σ_ 2=.pointer (some ⟨bm,0,none⟩)/\σ_ 3=.pointer (some ⟨bn,0,none⟩)/\σ_ 4=.pointer (some ⟨be,0,none⟩)/\σ_ 5=.pointer (some ⟨bf,0,none⟩)/\σ_ 7=.pointer (some ⟨bL,0,none⟩)/\PHeap.Le U U_/\sW w U U_ [.blk bf 123 bv,.blk be 123 bv,.blk bn 93 au,.blk bm 27 aq,.blk bL 200 br] w_) ?_ ?_
 have q:=bnd ow
 obtain ⟨⟨⟩,e9,dX⟩:=q
 try dsimp only at dX
 refine ZD zy [2,3,1,3,2,0] gBu (by kernel_rfl) ?_
 have cE:=lQ.drew
 generalize hw_W363:({ ej with drawn:=ej.drawn + 1 }:World)=ib at cE ⊢
 refine oR Z (zE Z Z ZM Z Tryz.sizeOf91) (oL Z (cE.ldB (j:=2) Z Z Z Tryz.isAgg91 (v:=jV p1.Kind) Z) (zw ?_ ?_))
 refine zK 0 Z Z Z Z (zL Z Z yb zQ Z) cE (fun hs=>wCC ib U hs e9) (.inr Z) ?_
 rintro dr o0 qi ic oB lR ⟨rfl,rfl⟩
 have lS:sW w U dr [.blk bf 123 bv,.blk be 123 bv,.blk bn 93 au,.blk bm 27 aq] ic:=lR
 refine zk rfl rfl rfl rfl (fun _=>(Runs.ixA (i:=2) rfl rfl (congrArg (jV) c3) Zx Zc (by decide) (by decide) (wDL yl Zc rfl))) (ze (cs:=[.nilFunc,.nilFunc,.nilFunc]) rfl rfl rfl rfl rfl Zs rfl lS ?_)
 intro pG eD lT
 refine zm (j:=0) (vs:=br) Z Z Z Z lT Z Z Z Z Zc (zA Z) Z Z Z ?_
 intro ie lU
 have lV:sW w U dr [.blk eD 200 br,.blk bf 123 bv,.blk be 123 bv,.blk bn 93 au,.blk bm 27 aq] ie:=lU
 refine zh ?_
 cases dX
 exact zG ⟨rfl,⟨dr,eD,rfl,rfl,rfl,rfl,rfl,oB,(lV.pick [1,2,3,4,0] _ (by decide) rfl)⟩⟩
 refine ze (cs:=[.nilFunc,.nilFunc,.nilFunc]) Z Z Z Z Z Zs Z cE ?_
 intro ig dD lW
 refine zK 0 Z Z Z Z (zL Z Z yb zQ Z) lW (fun hs=>wCC ig U hs e9) (.inr Z) ?_
 rintro dt o3 qj ii oG lX ⟨rfl,rfl⟩
 have lY:sW w U dt [.blk dD 200 [.nilFunc,.nilFunc,.nilFunc],.blk bf 123 bv,.blk be 123 bv,.blk bn 93 au,.blk bm 27 aq] ii:=lX
 refine zk rfl rfl rfl rfl (fun _=>(Runs.ixA (i:=2) rfl rfl (congrArg (jV) c3) Zx Zc (by decide) (by decide) (wDL yl Zc rfl))) (zm (j:=0) (vs:=br) rfl rfl rfl rfl lY rfl rfl rfl rfl Zc (zA rfl) rfl rfl rfl ?_)
 intro ij lZ
 have l4:sW w U dt [.blk dD 200 br,.blk bf 123 bv,.blk be 123 bv,.blk bn 93 au,.blk bm 27 aq] ij:=lZ
 refine zh ?_
 cases dX
 exact zG ⟨rfl,⟨dt,dD,rfl,rfl,rfl,rfl,rfl,oG,(l4.pick [1,2,3,4,0] _ (by decide) rfl)⟩⟩
 rintro qA ik ⟨gw,bL,eM,dL,bW,bS,eO,cW,cG⟩
 refine sR (wEZ (.fx 4 (wPo gAp) .stop)) Z (oR Z (zE Z eO yE Z Tryz.sizeOf197) (oL Z (cG.ldB (j:=4) Z Z Z Tryz.isAgg197 (v:=.func (.func 140) #[] #[]) Z) (oL Z (cG.ldBA (j:=3) Z Z eM ZB zo (vs:=aq) Z Z) (oL Z (cG.ldBA (j:=2) Z Z dL yc yP (vs:=au) Z Z) ?_))))
 have fb:=cO.le cW
 have fc:=cP.le cW
 have fd:=cQ.le cW
 have ff:=cR.le cW
 have q:=bnd fP
 obtain ⟨⟨df,dg⟩,ju,fQ⟩:=q
 try dsimp only at fQ
 refine zK 0 Z Z Z Z (zL Z Z Tryz.call140 (zD Z (zD Z zQ)) Z) cG (fun hs=>wIt p0 bB bF bC bG bD bH bE bI p1 ik gw hs fb fc fd ff ju) (.inr Z) ?_
 rintro cu o5 qk il cX l5 ⟨rfl,rfl⟩
 have l6:sW w U cu [.blk bf 123 bv,.blk be 123 bv,.blk bn 93 au,.blk bm 27 aq,.blk bL 200 br] il:=l5
 refine oM Z Z (oR Z (zu Z Z (v:=.agg #[jV df.skier,jV df.mat]) Z) (oR Z (zu Z Z (v:=.agg #[jV dg.skier,jV dg.mat]) Z) ?_))
 let av:List Value:=[jV df.skier,jV df.mat]
 refine zm (j:=1) (vs:=av) Z Z Z Z l6 Z bW Z Z zJ (zA Z) Z Z Z ?_
 intro im l7
 have l8:sW w U cu [.blk bf 123 bv,.blk be 123 av,.blk bn 93 au,.blk bm 27 aq,.blk bL 200 br] im:=l7
 let ah:List Value:=[jV dg.skier,jV dg.mat]
 refine zm (j:=0) (vs:=ah) Z Z Z Z l8 Z bS Z Z zJ (zA Z) Z Z Z ?_
 intro en ma
 have cH:sW w U cu [.blk bf 123 ah,.blk be 123 av,.blk bn 93 au,.blk bm 27 aq,.blk bL 200 br] en:=ma
 refine eN (sR (wEZ (.fx 4 (wLu (.nil)) .stop)) Z (oR Z (zE Z eO yE Z Tryz.sizeOf198) (oL Z (cH.ldB (j:=4) Z Z Z Tryz.isAgg198 (v:=.func (.func 141) #[] #[]) Z) (oL Z (cH.ldBA (j:=3) Z Z eM ZB zo (vs:=aq) Z Z) (oL Z (cH.ldBA (j:=2) Z Z dL yc yP (vs:=au) Z Z) ?_)))))
 have jv:=fb.le cX
 have jw:=fc.le cX
 have jx:=fd.le cX
 have jy:=ff.le cX
 have q:=bnd fQ
 obtain ⟨⟨d7,gm⟩,jz,fR⟩:=q
 try dsimp only at fR
 refine zK 0 Z Z Z Z (zL Z Z Tryz.call141 (zD Z (zD Z zQ)) Z) cH (fun hs=>wIu p0 bB bF bC bG bD bH bE bI p1 en cu hs jv jw jx jy jz) (.inr Z) ?_
 rintro bP o6 qm dA p6 mb ⟨rfl,rfl⟩
 have cn:sW w U bP [.blk bf 123 ah,.blk be 123 av,.blk bn 93 au,.blk bm 27 aq,.blk bL 200 br] dA:=mb
 refine oM Z Z (oR Z (zu Z Z (v:=jV d7) Z) (oR Z (zu Z Z (v:=jV gm) Z) (oA Z Z (oA Z Z (eN (zH (sR fL3 Z (oR Z (zE Z dL ZM Z Tryz.sizeOf4) (oL Z (cn.ldB (j:=2) Z Z Z Tryz.isAgg4 (v:=.bool p1.Up) Z) (oR Z (Zf Z Z) (eN (ifc fR ?_ ?_))))))))))))
 intro dI oi
 refine zx (nC dI.out) (kN ?_)
 have q:=bnd oi
 obtain ⟨⟨⟩,gg,fS⟩:=q
 try dsimp only at fS
 refine yU (fun σ_ w_=>∃ (U_:PHeap),σ_ 4=.pointer (some ⟨be,0,none⟩)/\σ_ 5=.pointer (some ⟨bf,0,none⟩)/\σ_ 6=jV d7/\PHeap.Le bP U_/\sW w U U_ [.blk bf 123 ah,.blk be 123 av,.blk bn 93 au,.blk bm 27 aq,.blk bL 200 br] w_) ?_ ?_
 refine ZD zy [1,2,3,0,0,3] gBv (by kernel_rfl) ?_
 have cp:=cn.drew
 generalize hw_W454:({ dA with drawn:=dA.drawn + 1 }:World)=pH at cp ⊢
 refine oL Z (cp.ldBA (j:=1) Z Z bW zn zJ (vs:=av) Z Z) (oM Z Z (zw ?_ ?_))
 refine Zb Z Z Z Z (cp.ldBA (j:=0) Z Z bS zn zJ (vs:=ah) Z Z) (zm (j:=1) (vs:=av) Z Z Z Z cp Z bW Z Z zJ (zA Z) Z Z Z ?_)
 intro ip mc
 have md:sW w U bP [.blk bf 123 ah,.blk be 123 av,.blk bn 93 au,.blk bm 27 aq,.blk bL 200 br] ip:=mc
 refine zm (j:=0) (vs:=ah) Z Z Z Z md Z bS Z Z zJ (zA Z) Z Z Z ?_
 intro iq me
 have mf:sW w U bP [.blk bf 123 ah,.blk be 123 av,.blk bn 93 au,.blk bm 27 aq,.blk bL 200 br] iq:=me
 refine oA Z Z (zh ?_)
 cases gg
 exact zG ⟨Z,⟨bP,bW,bS,Z,(zM _),mf⟩⟩
 refine zm (j:=1) (vs:=av) Z Z Z Z cp Z bW Z Z zJ (zA Z) Z Z Z ?_
 intro ir mg
 have fC:sW w U bP [.blk bf 123 ah,.blk be 123 av,.blk bn 93 au,.blk bm 27 aq,.blk bL 200 br] ir:=mg
 refine Zb Z Z Z Z (fC.ldBA (j:=0) Z Z bS zn zJ (vs:=ah) Z Z) (zm (j:=0) (vs:=ah) Z Z Z Z fC Z bS Z Z zJ (zA Z) Z Z Z ?_)
 intro it mh
 have mi:sW w U bP [.blk bf 123 ah,.blk be 123 av,.blk bn 93 au,.blk bm 27 aq,.blk bL 200 br] it:=mh
 refine oA Z Z (zh ?_)
 cases gg
 exact zG ⟨Z,⟨bP,bW,bS,Z,(zM _),mi⟩⟩
 rintro qB pI ⟨gx,jb,jc,jd,p7,dS⟩
 refine zP ?_
 cases fS
 exact ⟨rfl,_,(wFq (rs:=[.cell 4 123,.cell 5 123,.tmp 6]) (vs:=[.agg av.toArray,.agg ah.toArray,jV d7]) ⟨⟨_,jb,(wBt zn zJ (dS.blkAt (k:=1) rfl) (vs:=av) rfl rfl)⟩,⟨⟨_,jc,(wBt zn zJ (dS.blkAt (k:=0) rfl) (vs:=ah) rfl rfl)⟩,⟨jd,trivial⟩⟩⟩ rfl),gx,_,(dS.pick [] _ (by decide) rfl),rfl,rfl⟩
 intro dI oj
 refine ZG (nF (dI.out)) (sR (wEG gBa) Z (oL Z (cn.ldBA (j:=0) Z Z bS zn zJ (vs:=ah) Z Z) (oL Z (cn.ldBA (j:=1) Z Z bW zn zJ (vs:=av) Z Z) (oM Z Z (zm (j:=1) (vs:=ah) Z Z Z Z cn Z bW Z Z zJ (zA Z) Z Z Z ?_)))))
 intro iu mj
 have ml:sW w U bP [.blk bf 123 ah,.blk be 123 ah,.blk bn 93 au,.blk bm 27 aq,.blk bL 200 br] iu:=mj
 refine zm (j:=0) (vs:=av) Z Z Z Z ml Z bS Z Z zJ (zA Z) Z Z Z ?_
 intro iv mn
 have dT:sW w U bP [.blk bf 123 av,.blk be 123 ah,.blk bn 93 au,.blk bm 27 aq,.blk bL 200 br] iv:=mn
 refine oA Z Z (eN (zP (zN ?_)))
 cases oj
 exact ⟨rfl,_,(wFq (rs:=[.cell 4 123,.cell 5 123,.tmp 6]) (vs:=[.agg ah.toArray,.agg av.toArray,jV gm]) ⟨⟨_,bW,(wBt zn zJ (dT.blkAt (k:=1) rfl) (vs:=ah) rfl rfl)⟩,⟨⟨_,bS,(wBt zn zJ (dT.blkAt (k:=0) rfl) (vs:=av) rfl rfl)⟩,⟨rfl,trivial⟩⟩⟩ rfl),bP,_,(dT.pick [] _ (by decide) rfl),rfl,rfl⟩
 by_cases c4:p1.Kind=3
 have fT:=hm;rw [if_neg c1,if_neg c2,if_neg c3,if_pos c4] at fT
 refine sR gBp Z ?_
 let az:List Value:=[.slice bB p0.Starts.length bF,.slice bC p0.Splits.length bG,.slice bD p0.Clocks.length bH,.slice bE p0.Readings.length bI]
 refine ZE (cs:=az) rfl rfl rfl rfl rfl rfl (by rfl) hS ?_
 intro pJ bo mo
 let aV:List Value:=[jV p1.Kind,jV p1.Skier,jV p1.Index,.bool p1.Up]
 refine ZE (cs:=aV) rfl rfl rfl rfl rfl rfl (by rfl) mo ?_
 intro pK bp mp
 let bz:List Value:=[jV 0,jV 0]
 refine ze (cs:=bz) Z Z Z Z Z zj Z mp ?_
 intro pL bg mq
 refine ze (cs:=bz) Z Z Z Z Z zj Z mq ?_
 intro eu bh mr
 refine oA Z Z (eN ?_)
 have q:=bnd fT
 obtain ⟨⟨⟩,ox,fV⟩:=q
 try dsimp only at fV
 let bs:List Value:=[.func (.func 142) #[] #[],.func (.func 143) #[] #[],.func (.func 144) #[] #[]]
 refine yU (fun σ_ w_=>∃ (U_:PHeap) (bM:Nat),σ_ 2=.pointer (some ⟨bo,0,none⟩)/\σ_ 3=.pointer (some ⟨bp,0,none⟩)/\σ_ 4=.pointer (some ⟨bg,0,none⟩)/\σ_ 5=.pointer (some ⟨bh,0,none⟩)/\σ_ 7=.pointer (some ⟨bM,0,none⟩)/\PHeap.Le U U_/\sW w U U_ [.blk bh 123 bz,.blk bg 123 bz,.blk bp 93 aV,.blk bo 27 az,.blk bM 200 bs] w_) ?_ ?_
 have q:=bnd ox
 obtain ⟨⟨⟩,fg,dZ⟩:=q
 try dsimp only at dZ
 refine ZD zy [2,3,1,3,2,0] gBu (by kernel_rfl) ?_
 have cJ:=mr.drew
 generalize hw_W522:({ eu with drawn:=eu.drawn + 1 }:World)=iy at cJ ⊢
 refine oR Z (zE Z Z ZM Z Tryz.sizeOf91) (oL Z (cJ.ldB (j:=2) Z Z Z Tryz.isAgg91 (v:=jV p1.Kind) Z) (zw ?_ ?_))
 refine zK 0 Z Z Z Z (zL Z Z yb zQ Z) cJ (fun hs=>wCC iy U hs fg) (.inr Z) ?_
 rintro dv o8 qo iz oI mw ⟨rfl,rfl⟩
 have my:sW w U dv [.blk bh 123 bz,.blk bg 123 bz,.blk bp 93 aV,.blk bo 27 az] iz:=mw
 refine zk rfl rfl rfl rfl (fun _=>(Runs.ixA (i:=3) rfl rfl (congrArg (jV) c4) Zx Zc (by decide) (by decide) (wDL yl Zc rfl))) (ze (cs:=[.nilFunc,.nilFunc,.nilFunc]) rfl rfl rfl rfl rfl Zs rfl my ?_)
 intro pN eE mz
 refine zm (j:=0) (vs:=bs) Z Z Z Z mz Z Z Z Z Zc (zA Z) Z Z Z ?_
 intro iA mA
 have mB:sW w U dv [.blk eE 200 bs,.blk bh 123 bz,.blk bg 123 bz,.blk bp 93 aV,.blk bo 27 az] iA:=mA
 refine zh ?_
 cases dZ
 exact zG ⟨rfl,⟨dv,eE,rfl,rfl,rfl,rfl,rfl,oI,(mB.pick [1,2,3,4,0] _ (by decide) rfl)⟩⟩
 refine ze (cs:=[.nilFunc,.nilFunc,.nilFunc]) Z Z Z Z Z Zs Z cJ ?_
 intro iB dE mC
 refine zK 0 Z Z Z Z (zL Z Z yb zQ Z) mC (fun hs=>wCC iB U hs fg) (.inr Z) ?_
 rintro dw o9 qp iC oK mD ⟨rfl,rfl⟩
 have mE:sW w U dw [.blk dE 200 [.nilFunc,.nilFunc,.nilFunc],.blk bh 123 bz,.blk bg 123 bz,.blk bp 93 aV,.blk bo 27 az] iC:=mD
 refine zk rfl rfl rfl rfl (fun _=>(Runs.ixA (i:=3) rfl rfl (congrArg (jV) c4) Zx Zc (by decide) (by decide) (wDL yl Zc rfl))) (zm (j:=0) (vs:=bs) rfl rfl rfl rfl mE rfl rfl rfl rfl Zc (zA rfl) rfl rfl rfl ?_)
 intro iD mG
 have mH:sW w U dw [.blk dE 200 bs,.blk bh 123 bz,.blk bg 123 bz,.blk bp 93 aV,.blk bo 27 az] iD:=mG
 refine zh ?_
 cases dZ
 exact zG ⟨rfl,⟨dw,dE,rfl,rfl,rfl,rfl,rfl,oK,(mH.pick [1,2,3,4,0] _ (by decide) rfl)⟩⟩
 rintro qC iE ⟨gy,bM,eQ,dM,bX,bT,eR,cY,cK⟩
 refine sR (wEZ (.fx 4 (wPo gAp) .stop)) Z (oR Z (zE Z eR yE Z Tryz.sizeOf197) (oL Z (cK.ldB (j:=4) Z Z Z Tryz.isAgg197 (v:=.func (.func 143) #[] #[]) Z) (oL Z (cK.ldBA (j:=3) Z Z eQ ZB zo (vs:=az) Z Z) (oL Z (cK.ldBA (j:=2) Z Z dM yc yP (vs:=aV) Z Z) ?_))))
 have fh:=cO.le cY
 have fj:=cP.le cY
 have fm:=cQ.le cY
 have fq:=cR.le cY
 have q:=bnd fV
 obtain ⟨⟨dh,dk⟩,jA,fW⟩:=q
 try dsimp only at fW
 refine zK 0 Z Z Z Z (zL Z Z Tryz.call143 (zD Z (zD Z zQ)) Z) cK (fun hs=>wIN p0 bB bF bC bG bD bH bE bI p1 iE gy hs fh fj fm fq jA) (.inr Z) ?_
 rintro cw pe qq iG cZ mI ⟨rfl,rfl⟩
 have mJ:sW w U cw [.blk bh 123 bz,.blk bg 123 bz,.blk bp 93 aV,.blk bo 27 az,.blk bM 200 bs] iG:=mI
 refine oM Z Z (oR Z (zu Z Z (v:=.agg #[jV dh.skier,jV dh.mat]) Z) (oR Z (zu Z Z (v:=.agg #[jV dk.skier,jV dk.mat]) Z) ?_))
 let aW:List Value:=[jV dh.skier,jV dh.mat]
 refine zm (j:=1) (vs:=aW) Z Z Z Z mJ Z bX Z Z zJ (zA Z) Z Z Z ?_
 intro iH mL
 have mM:sW w U cw [.blk bh 123 bz,.blk bg 123 aW,.blk bp 93 aV,.blk bo 27 az,.blk bM 200 bs] iH:=mL
 let ai:List Value:=[jV dk.skier,jV dk.mat]
 refine zm (j:=0) (vs:=ai) Z Z Z Z mM Z bT Z Z zJ (zA Z) Z Z Z ?_
 intro ey mN
 have cL:sW w U cw [.blk bh 123 ai,.blk bg 123 aW,.blk bp 93 aV,.blk bo 27 az,.blk bM 200 bs] ey:=mN
 refine eN (sR (wEZ (.fx 4 (wLu (.nil)) .stop)) Z (oR Z (zE Z eR yE Z Tryz.sizeOf198) (oL Z (cL.ldB (j:=4) Z Z Z Tryz.isAgg198 (v:=.func (.func 144) #[] #[]) Z) (oL Z (cL.ldBA (j:=3) Z Z eQ ZB zo (vs:=az) Z Z) (oL Z (cL.ldBA (j:=2) Z Z dM yc yP (vs:=aV) Z Z) ?_)))))
 have jB:=fh.le cZ
 have jC:=fj.le cZ
 have jD:=fm.le cZ
 have jE:=fq.le cZ
 have q:=bnd fW
 obtain ⟨⟨d8,gq⟩,jG,fY⟩:=q
 try dsimp only at fY
 refine zK 0 Z Z Z Z (zL Z Z Tryz.call144 (zD Z (zD Z zQ)) Z) cL (fun hs=>wIO p0 bB bF bC bG bD bH bE bI p1 ey cw hs jB jC jD jE jG) (.inr Z) ?_
 rintro bQ pf qr dB p8 mP ⟨rfl,rfl⟩
 have cq:sW w U bQ [.blk bh 123 ai,.blk bg 123 aW,.blk bp 93 aV,.blk bo 27 az,.blk bM 200 bs] dB:=mP
 refine oM Z Z (oR Z (zu Z Z (v:=jV d8) Z) (oR Z (zu Z Z (v:=jV gq) Z) (oA Z Z (oA Z Z (eN (zH (sR fL3 Z (oR Z (zE Z dM ZM Z Tryz.sizeOf4) (oL Z (cq.ldB (j:=2) Z Z Z Tryz.isAgg4 (v:=.bool p1.Up) Z) (oR Z (Zf Z Z) (eN (ifc fY ?_ ?_))))))))))))
 intro dJ om
 refine zx (nC dJ.out) (kN ?_)
 have q:=bnd om
 obtain ⟨⟨⟩,gh,fZ⟩:=q
 try dsimp only at fZ
 refine yU (fun σ_ w_=>∃ (U_:PHeap),σ_ 4=.pointer (some ⟨bg,0,none⟩)/\σ_ 5=.pointer (some ⟨bh,0,none⟩)/\σ_ 6=jV d8/\PHeap.Le bQ U_/\sW w U U_ [.blk bh 123 ai,.blk bg 123 aW,.blk bp 93 aV,.blk bo 27 az,.blk bM 200 bs] w_) ?_ ?_
 refine ZD zy [1,2,3,0,0,3] gBv (by kernel_rfl) ?_
 have cr:=cq.drew
 generalize hw_W613:({ dB with drawn:=dB.drawn + 1 }:World)=pP at cr ⊢
 refine oL Z (cr.ldBA (j:=1) Z Z bX zn zJ (vs:=aW) Z Z) (oM Z Z (zw ?_ ?_))
 refine Zb Z Z Z Z (cr.ldBA (j:=0) Z Z bT zn zJ (vs:=ai) Z Z) (zm (j:=1) (vs:=aW) Z Z Z Z cr Z bX Z Z zJ (zA Z) Z Z Z ?_)
 intro iI mQ
 have mR:sW w U bQ [.blk bh 123 ai,.blk bg 123 aW,.blk bp 93 aV,.blk bo 27 az,.blk bM 200 bs] iI:=mQ
 refine zm (j:=0) (vs:=ai) Z Z Z Z mR Z bT Z Z zJ (zA Z) Z Z Z ?_
 intro iJ mS
 have mT:sW w U bQ [.blk bh 123 ai,.blk bg 123 aW,.blk bp 93 aV,.blk bo 27 az,.blk bM 200 bs] iJ:=mS
 refine oA Z Z (zh ?_)
 cases gh
 exact zG ⟨Z,⟨bQ,bX,bT,Z,(zM _),mT⟩⟩
 refine zm (j:=1) (vs:=aW) Z Z Z Z cr Z bX Z Z zJ (zA Z) Z Z Z ?_
 intro iL mU
 have fD:sW w U bQ [.blk bh 123 ai,.blk bg 123 aW,.blk bp 93 aV,.blk bo 27 az,.blk bM 200 bs] iL:=mU
 refine Zb Z Z Z Z (fD.ldBA (j:=0) Z Z bT zn zJ (vs:=ai) Z Z) (zm (j:=0) (vs:=ai) Z Z Z Z fD Z bT Z Z zJ (zA Z) Z Z Z ?_)
 intro iM mV
 have mW:sW w U bQ [.blk bh 123 ai,.blk bg 123 aW,.blk bp 93 aV,.blk bo 27 az,.blk bM 200 bs] iM:=mV
 refine oA Z Z (zh ?_)
 cases gh
 exact zG ⟨Z,⟨bQ,bX,bT,Z,(zM _),mW⟩⟩
 rintro qD pQ ⟨gz,je,jf,jg,p9,dU⟩
 refine zP ?_
 cases fZ
 exact ⟨rfl,_,(wFq (rs:=[.cell 4 123,.cell 5 123,.tmp 6]) (vs:=[.agg aW.toArray,.agg ai.toArray,jV d8]) ⟨⟨_,je,(wBt zn zJ (dU.blkAt (k:=1) rfl) (vs:=aW) rfl rfl)⟩,⟨⟨_,jf,(wBt zn zJ (dU.blkAt (k:=0) rfl) (vs:=ai) rfl rfl)⟩,⟨jg,trivial⟩⟩⟩ rfl),gz,_,(dU.pick [] _ (by decide) rfl),rfl,rfl⟩
 intro dJ oq
 refine ZG (nF (dJ.out)) (sR (wEG gBa) Z (oL Z (cq.ldBA (j:=0) Z Z bT zn zJ (vs:=ai) Z Z) (oL Z (cq.ldBA (j:=1) Z Z bX zn zJ (vs:=aW) Z Z) (oM Z Z (zm (j:=1) (vs:=ai) Z Z Z Z cq Z bX Z Z zJ (zA Z) Z Z Z ?_)))))
 intro iN mX
 have mY:sW w U bQ [.blk bh 123 ai,.blk bg 123 ai,.blk bp 93 aV,.blk bo 27 az,.blk bM 200 bs] iN:=mX
 refine zm (j:=0) (vs:=aW) Z Z Z Z mY Z bT Z Z zJ (zA Z) Z Z Z ?_
 intro iO mZ
 have dV:sW w U bQ [.blk bh 123 aW,.blk bg 123 ai,.blk bp 93 aV,.blk bo 27 az,.blk bM 200 bs] iO:=mZ
 refine oA Z Z (eN (zP (zN ?_)))
 cases oq
 exact ⟨rfl,_,(wFq (rs:=[.cell 4 123,.cell 5 123,.tmp 6]) (vs:=[.agg ai.toArray,.agg aW.toArray,jV gq]) ⟨⟨_,bX,(wBt zn zJ (dV.blkAt (k:=1) rfl) (vs:=ai) rfl rfl)⟩,⟨⟨_,bT,(wBt zn zJ (dV.blkAt (k:=0) rfl) (vs:=aW) rfl rfl)⟩,⟨rfl,trivial⟩⟩⟩ rfl),bQ,_,(dV.pick [] _ (by decide) rfl),rfl,rfl⟩
 have ga:=hm;rw [if_neg c1,if_neg c2,if_neg c3,if_neg c4] at ga
 refine sR gBp Z ?_
 let dl:List Value:=[.slice bB p0.Starts.length bF,.slice bC p0.Splits.length bG,.slice bD p0.Clocks.length bH,.slice bE p0.Readings.length bI]
 refine ZE (cs:=dl) rfl rfl rfl rfl rfl rfl (by rfl) hS ?_
 intro pR eG m5
 let dm:List Value:=[jV p1.Kind,jV p1.Skier,jV p1.Index,.bool p1.Up]
 refine ZE (cs:=dm) rfl rfl rfl rfl rfl rfl (by rfl) m5 ?_
 intro pS eH m6
 let b5:List Value:=[jV 0,jV 0]
 refine ze (cs:=b5) Z Z Z Z Z zj Z m6 ?_
 intro pT eI m7
 refine ze (cs:=b5) Z Z Z Z Z zj Z m7 ?_
 intro eA eJ m8
 refine oA Z Z (eN (zH ?_))
 have q:=bnd ga
 obtain ⟨⟨⟩,ft,d4⟩:=q
 try dsimp only at d4
 refine ZD zy [2,3,1,3,2,0] gBu (by kernel_rfl) ?_
 have cM:=m8.drew
 generalize hw_W669:({ eA with drawn:=eA.drawn + 1 }:World)=iP at cM ⊢
 refine oR Z (zE Z Z ZM Z Tryz.sizeOf91) (oL Z (cM.ldB (j:=2) Z Z Z Tryz.isAgg91 (v:=jV p1.Kind) Z) (zw ?_ ?_))
 refine zK 0 Z Z Z Z (zL Z Z yb zQ Z) cM (fun hs=>wCC iP U hs ft) (.inr Z) ?_
 rintro gA ph qt iQ qa m9 ⟨rfl,rfl⟩
 have pU:sW w U gA [.blk eJ 123 b5,.blk eI 123 b5,.blk eH 93 dm,.blk eG 27 dl] iQ:=m9
 cases d4
 refine ze (cs:=[.nilFunc,.nilFunc,.nilFunc]) Z Z Z Z Z Zs Z cM ?_
 intro iR iY n5
 refine zK 0 Z Z Z Z (zL Z Z yb zQ Z) n5 (fun hs=>wCC iR U hs ft) (.inr Z) ?_
 rintro gB pj qv iT qb n6 ⟨rfl,rfl⟩
 have pV:sW w U gB [.blk iY 200 [.nilFunc,.nilFunc,.nilFunc],.blk eJ 123 b5,.blk eI 123 b5,.blk eH 93 dm,.blk eG 27 dl] iT:=n6
 cases d4
end Go.Proofs.YtlnfbjphfoipaaaGreat
namespace Go.Proofs.YtlnfbjphfoipaaaGreat
open Go.KL
set_option maxHeartbeats 4000000
theorem wJo (p0:wAA) (ai:Option Addr) (ap:Nat) (aj:Option Addr) (aq:Nat) (ak:Option Addr) (au:Nat) (am:Option Addr) (av:Nat) (w:World) (U:PHeap) (hS:St0 w U []) (rx:Sl U 1 ai ap p0.Starts.length (hH KL.encI p0.Starts)) (ry:Sl U 2 aj aq p0.Splits.length (hH wAB p0.Splits)) (rC:Sl U 3 ak au p0.Clocks.length (hH wAD p0.Clocks)) (rD:Sl U 4 am av p0.Readings.length (hH wAC p0.Readings)) {r:wAf} (hm:wDd p0=some r):Gv Tryz.prog 124 [.agg #[.slice ai p0.Starts.length ap,.slice aj p0.Splits.length aq,.slice ak p0.Clocks.length au,.slice am p0.Readings.length av]] w (wCp w [] U (fun U_ L_ v=>∃ (b0:Nat) (A0p00:Option Addr) (c0p00:Nat) (A0p01:Option Addr) (c0p01:Nat) (A0p02:Option Addr) (c0p02:Nat) (A0p03:Option Addr) (c0p03:Nat) (m0p1:Nat) (es0p1:Array MapEntry) (ck0p1:Nat) (A0p2:Option Addr) (c0p2:Nat),v=.pointer (some ⟨b0,0,none⟩)/\L_=[.blk b0 139 [.slice A0p00 r.Race.Starts.length c0p00,.slice A0p01 r.Race.Splits.length c0p01,.slice A0p02 r.Race.Clocks.length c0p02,.slice A0p03 r.Race.Readings.length c0p03,.map (some m0p1),.slice A0p2 r.edges.length c0p2],.obj m0p1 (.map es0p1 ck0p1),.row A0p2 c0p2 184 7 (hH wAa r.edges)]/\Sl U_ 1 A0p00 c0p00 r.Race.Starts.length (hH KL.encI r.Race.Starts)/\Sl U_ 2 A0p01 c0p01 r.Race.Splits.length (hH wAB r.Race.Splits)/\Sl U_ 3 A0p02 c0p02 r.Race.Clocks.length (hH wAD r.Race.Clocks)/\Sl U_ 4 A0p03 c0p03 r.Race.Readings.length (hH wAC r.Race.Readings)/\MpR es0p1 wBW wBb r.number)):=by
 unfold wDd at hm
 refine Go.KX.Gv.ofM Tryz.func124 Z Tryz.ntmps124 Tryz.results124 (zA Z) (sR gAf Z ?_)
 let B0:List Value:=[.slice ai p0.Starts.length ap,.slice aj p0.Splits.length aq,.slice ak p0.Clocks.length au,.slice am p0.Readings.length av]
 refine ZE (cs:=B0) rfl rfl rfl rfl rfl rfl (by rfl) hS ?_
 intro W1 b2 qv
 refine oA Z Z (eN (bnK hm fun jy r6 rH=>yU (fun σ_ w_=>∃ (U_:PHeap) (b6:Nat) (b8:Nat) (ah:Nat) (cx:Array MapEntry) (dp:Nat),σ_ 1=.pointer (some ⟨b2,0,none⟩)/\σ_ 3=.pointer (some ⟨b6,0,none⟩)/\PHeap.Le U U_/\sW w U U_ [.blk b2 27 B0,.blk b6 118 [.pointer (some ⟨b8,0,none⟩)],.blk b8 139 [.slice ai p0.Starts.length ap,.slice aj p0.Splits.length aq,.slice ak p0.Clocks.length au,.slice am p0.Readings.length av,.map (some ah),.slice none 0 0],.obj ah (.map cx dp)] w_/\MpR cx wBW wBb jy) ?_ ?_))
 refine bnK r6 fun x22 bw rM=>ZD zy [2,2,2,0,3,3,2,2,0] (.fx 0 (.fx 1 gBz (.fx 2 gCa (.fx 7 gCb .stop))) (.fx 1 (.fx 0 gBz (.fx 2 gCe (.fx 7 gCc .stop))) (.fx 2 (.fx 0 gCa (.fx 1 gCe (.fx 7 gCd .stop))) (.fx 7 (.fx 0 gCb (.fx 1 gCc (.fx 2 gCd .stop))) .stop)))) (by kernel_rfl) ?_
 have bA:=qv.drew
 generalize hw_W51:({ W1 with drawn:=W1.drawn + 1 }:World)=gA at bA ⊢
 refine ZS (s:=.nil) (M:=fun σ_ w_=>∃ (U_:PHeap) (cW:Nat) (cf:Nat) (bB:Nat) (dz:Array MapEntry) (ey:Nat),σ_ 1=.pointer (some ⟨b2,0,none⟩)/\σ_ 3=.pointer (some ⟨cW,0,none⟩)/\σ_ 12=.agg B0.toArray/\σ_ 13=.map (some bB)/\σ_ 14=.agg #[jV x22.skier,jV x22.mat]/\σ_ 15=.map (some bB)/\σ_ 16=.agg #[.slice ai p0.Starts.length ap,.slice aj p0.Splits.length aq,.slice ak p0.Clocks.length au,.slice am p0.Readings.length av,.map (some bB),.slice none 0 0]/\σ_ 17=.pointer (some ⟨cf,0,none⟩)/\PHeap.Le U U_/\sW w U U_ [.blk b2 27 B0,.blk cW 118 [.pointer (some ⟨cf,0,none⟩)],.blk cf 139 [.slice ai p0.Starts.length ap,.slice aj p0.Splits.length aq,.slice ak p0.Clocks.length au,.slice am p0.Readings.length av,.map (some bB),.slice none 0 0],.obj bB (.map dz ey)] w_/\MpR dz wBW wBb (mput ([]:List (wAE × Int)) x22 0)) ?_ fun r8=>?_
 rintro uG tp ⟨jR,cW,cf,bB,dz,ey,mB,mC,t8,t9,ua,ub,ud,ue,sm,qw,oW⟩
 refine zh ?_
 cases rM
 exact zG ⟨Z,⟨jR,cW,cf,bB,dz,ey,mB,mC,sm,qw,oW⟩⟩
 refine ZS (s:=.fx 8 .nil .stop) (M:=fun σ_ w_=>∃ (U_:PHeap) (cg:Nat) (bt:Nat) (cz:Array MapEntry) (dr:Nat) (bL:Nat),σ_ 1=.pointer (some ⟨b2,0,none⟩)/\σ_ 3=.pointer (some ⟨cg,0,none⟩)/\σ_ 12=.agg B0.toArray/\σ_ 13=.map (some bt)/\σ_ 14=.agg #[jV x22.skier,jV x22.mat]/\σ_ 15=.map (some bt)/\σ_ 16=.agg #[.slice ai p0.Starts.length ap,.slice aj p0.Splits.length aq,.slice ak p0.Clocks.length au,.slice am p0.Readings.length av,.map (some bt),.slice none 0 0]/\σ_ 17=.pointer (some ⟨bL,0,none⟩)/\PHeap.Le U U_/\sW w U U_ [.blk b2 27 B0,.blk cg 118 [.pointer none],.obj bt (.map cz dr),.blk bL 139 [.slice ai p0.Starts.length ap,.slice aj p0.Splits.length aq,.slice ak p0.Clocks.length au,.slice am p0.Readings.length av,.map (some bt),.slice none 0 0]] w_/\MpR cz wBW wBb (mput ([]:List (wAE × Int)) x22 0)) ?_ fun dS=>?_
 rintro uH tq ⟨ge,cg,bt,cz,dr,bL,mD,ij,mE,mF,mG,mH,mI,ik,sn,qx,oX⟩
 let B1:List Value:=[.pointer (some ⟨bL,0,none⟩)]
 refine zm (j:=1) (vs:=B1) Z Z Z Z qx Z ij ik Z Tryz.sizeOf118 (zA Z) Z Z Z ?_
 intro lG qy
 have qz:sW w U ge [.blk b2 27 B0,.blk cg 118 B1,.obj bt (.map cz dr),.blk bL 139 [.slice ai p0.Starts.length ap,.slice aj p0.Splits.length aq,.slice ak p0.Clocks.length au,.slice am p0.Readings.length av,.map (some bt),.slice none 0 0]] lG:=qy
 exact r8 _ _ ⟨ge,cg,bL,bt,cz,dr,mD,ij,mE,mF,mG,mH,mI,ik,sn,(qz.pick [0,1,3,2] _ (by decide) rfl),oX⟩
 refine ZS (s:=gAs) (M:=fun σ_ w_=>∃ (U_:PHeap) (cX:Nat) (bC:Nat) (dA:Array MapEntry) (eA:Nat),σ_ 1=.pointer (some ⟨b2,0,none⟩)/\σ_ 3=.pointer (some ⟨cX,0,none⟩)/\σ_ 12=.agg B0.toArray/\σ_ 13=.map (some bC)/\σ_ 14=.agg #[jV x22.skier,jV x22.mat]/\σ_ 15=.map (some bC)/\σ_ 16=.agg #[.slice ai p0.Starts.length ap,.slice aj p0.Splits.length aq,.slice ak p0.Clocks.length au,.slice am p0.Readings.length av,.map (some bC),.slice none 0 0]/\PHeap.Le U U_/\sW w U U_ [.blk b2 27 B0,.blk cX 118 [.pointer none],.obj bC (.map dA eA)] w_/\MpR dA wBW wBb (mput ([]:List (wAE × Int)) x22 0)) ?_ fun jq=>?_
 rintro uI tr ⟨jS,cX,bC,dA,eA,mJ,mK,mL,mM,mN,mO,il,so,qA,oY⟩
 refine ZE (cs:=[.slice ai p0.Starts.length ap,.slice aj p0.Splits.length aq,.slice ak p0.Clocks.length au,.slice am p0.Readings.length av,.map (some bC),.slice none 0 0]) rfl rfl rfl rfl rfl il (by rfl) qA ?_
 intro tu l6 qB
 exact dS _ _ ⟨jS,cX,bC,dA,eA,l6,mJ,mK,mL,mM,mN,mO,il,rfl,so,(qB.pick [1,2,3,0] _ (by decide) rfl),oY⟩
 refine ZS (s:=gAi) (M:=fun σ_ w_=>∃ (U_:PHeap) (bD:Nat) (dB:Array MapEntry) (eC:Nat) (cY:Nat),σ_ 1=.pointer (some ⟨b2,0,none⟩)/\σ_ 12=.agg B0.toArray/\σ_ 13=.map (some bD)/\σ_ 14=.agg #[jV x22.skier,jV x22.mat]/\σ_ 15=.map (some bD)/\σ_ 16=.agg #[.slice ai p0.Starts.length ap,.slice aj p0.Splits.length aq,.slice ak p0.Clocks.length au,.slice am p0.Readings.length av,.map (some bD),.slice none 0 0]/\σ_ 17=.pointer (some ⟨cY,0,none⟩)/\PHeap.Le U U_/\sW w U U_ [.blk b2 27 B0,.obj bD (.map dB eC),.blk cY 139 [.slice ai p0.Starts.length ap,.slice aj p0.Splits.length aq,.slice ak p0.Clocks.length au,.slice am p0.Readings.length av,.map (some bD),.slice none 0 0]] w_/\MpR dB wBW wBb (mput ([]:List (wAE × Int)) x22 0)) ?_ fun jr=>?_
 rintro uJ tv ⟨jU,bD,dB,eC,cY,mP,mQ,mR,mS,mT,mU,mV,sq,qC,o0⟩
 refine ze (cs:=[.pointer none]) Z Z Z Z Z Zv Z qC ?_
 intro tw l7 qD
 exact dS _ _ ⟨jU,l7,bD,dB,eC,cY,mP,rfl,mQ,mR,mS,mT,mU,mV,sq,(qD.pick [1,0,2,3] _ (by decide) rfl),o0⟩
 refine ZS (s:=.fl 5 gAs) (M:=fun σ_ w_=>∃ (U_:PHeap) (cZ:Nat) (bE:Nat) (dC:Array MapEntry) (eD:Nat),σ_ 1=.pointer (some ⟨b2,0,none⟩)/\σ_ 3=.pointer (some ⟨cZ,0,none⟩)/\σ_ 12=.agg B0.toArray/\σ_ 13=.map (some bE)/\σ_ 14=.agg #[jV x22.skier,jV x22.mat]/\σ_ 15=.map (some bE)/\PHeap.Le U U_/\sW w U U_ [.blk b2 27 B0,.blk cZ 118 [.pointer none],.obj bE (.map dC eD)] w_/\MpR dC wBW wBb (mput ([]:List (wAE × Int)) x22 0)) ?_ fun jt=>?_
 rintro uK tz ⟨jW,cZ,bE,dC,eD,mW,mX,im,mY,mZ,io,ss,qE,o3⟩
 let B2:List Value:=[.slice ai p0.Starts.length ap,.slice aj p0.Splits.length aq,.slice ak p0.Clocks.length au,.slice am p0.Readings.length av,.map (some bE),.slice none 0 0]
 refine zk rfl rfl rfl rfl (fun _=>ZO (pv:=[(0,.agg B0.toArray),(1,.map (some bE))]) (z:=[.slice none 0 0,.slice none 0 0,.slice none 0 0,.slice none 0 0,.map none,.slice none 0 0]) (cs:=B2) rfl (wAH im (wAH io wAY)) Tryz.zeroValue139 wGV rfl rfl) (ZE (cs:=B2) rfl rfl rfl rfl rfl rfl (by rfl) qE ?_)
 intro tA l8 qF
 exact dS _ _ ⟨jW,cZ,bE,dC,eD,l8,mW,mX,im,mY,mZ,io,rfl,rfl,ss,(qF.pick [1,2,3,0] _ (by decide) rfl),o3⟩
 refine ZS (s:=gBk) (M:=fun σ_ w_=>∃ (U_:PHeap) (da:Nat) (cj:Nat) (dD:Array MapEntry) (eE:Nat),σ_ 1=.pointer (some ⟨b2,0,none⟩)/\σ_ 3=.pointer (some ⟨da,0,none⟩)/\σ_ 13=.map (some cj)/\σ_ 14=.agg #[jV x22.skier,jV x22.mat]/\σ_ 15=.map (some cj)/\PHeap.Le U U_/\sW w U U_ [.blk b2 27 B0,.blk da 118 [.pointer none],.obj cj (.map dD eE)] w_/\MpR dD wBW wBb (mput ([]:List (wAE × Int)) x22 0)) ?_ fun r9=>?_
 rintro uL tB ⟨jX,da,cj,dD,eE,ip,m4,m5,m6,m7,su,jc,o5⟩
 exact Zb Z Z Z Z (jc.ldBA (j:=0) Z Z ip ZB zo (vs:=B0) Z Z) (jt _ _ ⟨jX,da,cj,dD,eE,ip,m4,Z,m5,m6,m7,su,jc,o5⟩)
 refine ZS (s:=gBq) (M:=fun σ_ w_=>∃ (U_:PHeap) (bv:Nat) (cA:Array MapEntry) (dt:Nat),σ_ 1=.pointer (some ⟨b2,0,none⟩)/\σ_ 12=.agg B0.toArray/\σ_ 13=.map (some bv)/\σ_ 14=.agg #[jV x22.skier,jV x22.mat]/\σ_ 15=.map (some bv)/\PHeap.Le U U_/\sW w U U_ [.blk b2 27 B0,.obj bv (.map cA dt)] w_/\MpR cA wBW wBb (mput ([]:List (wAE × Int)) x22 0)) ?_ fun sb=>?_
 rintro uM tC ⟨gf,bv,cA,dt,iq,eL,ir,it,eM,jC,jd,iU⟩
 let B3:List Value:=[.slice ai p0.Starts.length ap,.slice aj p0.Splits.length aq,.slice ak p0.Clocks.length au,.slice am p0.Readings.length av,.map (some bv),.slice none 0 0]
 refine oR Z (ZO (pv:=[(0,.agg B0.toArray),(1,.map (some bv))]) (z:=[.slice none 0 0,.slice none 0 0,.slice none 0 0,.slice none 0 0,.map none,.slice none 0 0]) (cs:=B3) Z (wAH eL (wAH eM wAY)) Tryz.zeroValue139 wGV Z Z) (zw ?_ ?_)
 refine ZE (cs:=B3) rfl rfl rfl rfl rfl rfl (by rfl) jd ?_
 intro tD ma qG
 exact jr _ _ ⟨gf,bv,cA,dt,ma,iq,eL,ir,it,eM,rfl,rfl,jC,(qG.pick [1,2,0] _ (by decide) rfl),iU⟩
 refine ze (cs:=[.pointer none]) Z Z Z Z Z Zv Z jd ?_
 intro tE mb qH
 exact jq _ _ ⟨gf,mb,bv,cA,dt,iq,rfl,eL,ir,it,eM,rfl,jC,(qH.pick [1,0,2] _ (by decide) rfl),iU⟩
 refine ZS (s:=gBj) (M:=fun σ_ w_=>∃ (U_:PHeap) (db:Nat) (bM:Nat) (dE:Array MapEntry) (eF:Nat),σ_ 1=.pointer (some ⟨b2,0,none⟩)/\σ_ 3=.pointer (some ⟨db,0,none⟩)/\σ_ 12=.agg B0.toArray/\σ_ 13=.map (some bM)/\σ_ 14=.agg #[jV x22.skier,jV x22.mat]/\PHeap.Le U U_/\sW w U U_ [.blk b2 27 B0,.blk db 118 [.pointer none],.obj bM (.map dE eF)] w_/\MpR dE wBW wBb (mput ([]:List (wAE × Int)) x22 0)) ?_ fun sc=>?_
 rintro uN tF ⟨jY,db,bM,dE,eF,m8,m9,iu,iv,n5,sv,qI,o6⟩
 refine oM Z iv ?_
 let B4:List Value:=[.slice ai p0.Starts.length ap,.slice aj p0.Splits.length aq,.slice ak p0.Clocks.length au,.slice am p0.Readings.length av,.map (some bM),.slice none 0 0]
 refine zk rfl rfl rfl rfl (fun _=>ZO (pv:=[(0,.agg B0.toArray),(1,.map (some bM))]) (z:=[.slice none 0 0,.slice none 0 0,.slice none 0 0,.slice none 0 0,.map none,.slice none 0 0]) (cs:=B4) rfl (wAH iu (wAH rfl wAY)) Tryz.zeroValue139 wGV rfl rfl) (ZE (cs:=B4) rfl rfl rfl rfl rfl rfl (by rfl) qI ?_)
 intro tG mc qJ
 exact dS _ _ ⟨jY,db,bM,dE,eF,mc,m8,m9,iu,iv,n5,rfl,rfl,rfl,sv,(qJ.pick [1,2,3,0] _ (by decide) rfl),o6⟩
 refine ZS (s:=.fl 4 gBk) (M:=fun σ_ w_=>∃ (U_:PHeap) (de:Nat) (df:Nat) (dF:Array MapEntry) (eG:Nat),σ_ 1=.pointer (some ⟨b2,0,none⟩)/\σ_ 3=.pointer (some ⟨de,0,none⟩)/\σ_ 13=.map (some df)/\σ_ 14=.agg #[jV x22.skier,jV x22.mat]/\PHeap.Le U U_/\sW w U U_ [.blk b2 27 B0,.blk de 118 [.pointer none],.obj df (.map dF eG)] w_/\MpR dF wBW wBb (mput ([]:List (wAE × Int)) x22 0)) ?_ fun sd=>?_
 rintro uO tH ⟨jZ,de,df,dF,eG,iw,n6,iy,n7,sw,je,o7⟩
 exact oM Z iy (Zb Z Z Z Z (je.ldBA (j:=0) Z Z iw ZB zo (vs:=B0) Z Z) (jt _ _ ⟨jZ,de,df,dF,eG,iw,n6,Z,iy,n7,Z,sw,je,o7⟩))
 refine ZS (s:=gBr) (M:=fun σ_ w_=>∃ (U_:PHeap) (cm:Nat) (cn:Nat) (eJ:Array MapEntry) (gH:Nat),σ_ 1=.pointer (some ⟨b2,0,none⟩)/\σ_ 3=.pointer (some ⟨cm,0,none⟩)/\σ_ 12=.agg B0.toArray/\σ_ 13=.map (some cn)/\σ_ 14=.agg #[jV x22.skier,jV x22.mat]/\PHeap.Le U U_/\sW w U U_ [.blk b2 27 B0,.blk cm 118 [.pointer none],.obj cn (.map eJ gH)] w_/\MpR eJ wBW wBb ([]:List (wAE × Int))) ?_ fun dT=>?_
 rintro uP tI ⟨gg,cm,cn,eJ,gH,n8,n9,oa,iz,iA,sA,qK,o8⟩
 refine OKS.mapPut (x:=.tmp 13) (y:=.tmp 14) (j:=2) (mk:=wBW) (mv:=wBb) (a:=x22) (v:=0) rfl rfl rfl (by first | exact .inl rfl | exact .inr rfl) qK rfl iz iA rfl (wCI ZQ) wDf o8 rfl ?_
 intro gN gI lH rT qL
 have qM:sW w U gg [.blk b2 27 B0,.blk cm 118 [.pointer none],.obj cn (.map gN gI)] lH:=qL
 exact sc _ _ ⟨gg,cm,cn,gN,gI,n8,n9,oa,iz,iA,sA,qM,rT⟩
 refine ZS (s:=.fl 4 gBq) (M:=fun σ_ w_=>∃ (U_:PHeap) (bG:Nat) (cC:Array MapEntry) (du:Nat),σ_ 1=.pointer (some ⟨b2,0,none⟩)/\σ_ 12=.agg B0.toArray/\σ_ 13=.map (some bG)/\σ_ 14=.agg #[jV x22.skier,jV x22.mat]/\PHeap.Le U U_/\sW w U U_ [.blk b2 27 B0,.obj bG (.map cC du)] w_/\MpR cC wBW wBb (mput ([]:List (wAE × Int)) x22 0)) ?_ fun se=>?_
 rintro uQ tJ ⟨gh,bG,cC,du,iB,eO,eQ,iC,jD,jf,iV⟩
 refine oM Z eQ ?_
 let B5:List Value:=[.slice ai p0.Starts.length ap,.slice aj p0.Splits.length aq,.slice ak p0.Clocks.length au,.slice am p0.Readings.length av,.map (some bG),.slice none 0 0]
 refine oR Z (ZO (pv:=[(0,.agg B0.toArray),(1,.map (some bG))]) (z:=[.slice none 0 0,.slice none 0 0,.slice none 0 0,.slice none 0 0,.map none,.slice none 0 0]) (cs:=B5) Z (wAH eO (wAH Z wAY)) Tryz.zeroValue139 wGV Z Z) (zw ?_ ?_)
 refine ZE (cs:=B5) rfl rfl rfl rfl rfl rfl (by rfl) jf ?_
 intro tK md qN
 exact jr _ _ ⟨gh,bG,cC,du,md,iB,eO,eQ,iC,rfl,rfl,rfl,jD,(qN.pick [1,2,0] _ (by decide) rfl),iV⟩
 refine ze (cs:=[.pointer none]) Z Z Z Z Z Zv Z jf ?_
 intro tL me qO
 exact jq _ _ ⟨gh,me,bG,cC,du,iB,rfl,eO,eQ,iC,rfl,rfl,jD,(qO.pick [1,0,2] _ (by decide) rfl),iV⟩
 refine ZS (s:=gBy) (M:=fun σ_ w_=>∃ (U_:PHeap) (bN:Nat) (bO:Nat) (dG:Array MapEntry) (eH:Nat),σ_ 1=.pointer (some ⟨b2,0,none⟩)/\σ_ 3=.pointer (some ⟨bN,0,none⟩)/\σ_ 13=.map (some bO)/\σ_ 14=.agg #[jV x22.skier,jV x22.mat]/\PHeap.Le U U_/\sW w U U_ [.blk b2 27 B0,.blk bN 118 [.pointer none],.obj bO (.map dG eH)] w_/\MpR dG wBW wBb ([]:List (wAE × Int))) ?_ fun fC=>?_
 rintro uR tM ⟨eg,bN,bO,dG,eH,eR,iD,eS,eU,jE,fq,iW⟩
 refine zw ?_ ?_
 exact Zb Z Z Z Z (fq.ldBA (j:=0) Z Z eR ZB zo (vs:=B0) Z Z) (dT _ _ ⟨eg,bN,bO,dG,eH,eR,iD,Z,eS,eU,jE,fq,iW⟩)
 refine OKS.mapPut (x:=.tmp 13) (y:=.tmp 14) (j:=2) (mk:=wBW) (mv:=wBb) (a:=x22) (v:=0) rfl rfl rfl (by first | exact .inl rfl | exact .inr rfl) fq rfl eS eU rfl (wCI ZQ) wDf iW rfl ?_
 intro gO gJ lI rV qP
 have qQ:sW w U eg [.blk b2 27 B0,.blk bN 118 [.pointer none],.obj bO (.map gO gJ)] lI:=qP
 exact sd _ _ ⟨eg,bN,bO,gO,gJ,eR,iD,eS,eU,jE,qQ,rV⟩
 refine ZS (s:=gBx) (M:=fun σ_ w_=>∃ (U_:PHeap) (cp:Nat) (cD:Array MapEntry) (dv:Nat),σ_ 1=.pointer (some ⟨b2,0,none⟩)/\σ_ 13=.map (some cp)/\σ_ 14=.agg #[jV x22.skier,jV x22.mat]/\PHeap.Le U U_/\sW w U U_ [.blk b2 27 B0,.obj cp (.map cD dv)] w_/\MpR cD wBW wBb (mput ([]:List (wAE × Int)) x22 0)) ?_ fun sf=>?_
 rintro uS tO ⟨gi,cp,cD,dv,eV,eW,iE,jG,ft,iX⟩
 refine oM Z eW (zw ?_ ?_)
 exact Zb Z Z Z Z (ft.ldBA (j:=0) Z Z eV ZB zo (vs:=B0) Z Z) (sb _ _ ⟨gi,cp,cD,dv,eV,Z,eW,iE,Z,jG,ft,iX⟩)
 refine ze (cs:=[.pointer none]) Z Z Z Z Z Zv Z ft ?_
 intro tP mf qR
 exact r9 _ _ ⟨gi,mf,cp,cD,dv,eV,rfl,eW,iE,rfl,jG,(qR.pick [1,0,2] _ (by decide) rfl),iX⟩
 refine ZS (s:=gBt) (M:=fun σ_ w_=>∃ (U_:PHeap) (dg:Nat),σ_ 1=.pointer (some ⟨b2,0,none⟩)/\σ_ 3=.pointer (some ⟨dg,0,none⟩)/\σ_ 12=.agg B0.toArray/\σ_ 14=.agg #[jV x22.skier,jV x22.mat]/\PHeap.Le U U_/\sW w U U_ [.blk b2 27 B0,.blk dg 118 [.pointer none]] w_) ?_ fun fD=>?_
 rintro uT tQ ⟨j0,dg,oc,od,oe,og,sB,qS⟩
 refine OKS.makeMap Z Z Z Z Z qS ?_
 intro tR mg qT
 have rW:=MpR.nil wBW wBb
 exact dT _ _ ⟨j0,dg,mg,#[],0,oc,od,oe,rfl,og,sB,(qT.pick [1,2,0] _ (by decide) rfl),rW⟩
 refine ZS (s:=gBs) (M:=fun σ_ w_=>∃ (U_:PHeap) (cq:Nat) (cr:Nat) (cE:Array MapEntry) (dw:Nat),σ_ 1=.pointer (some ⟨b2,0,none⟩)/\σ_ 3=.pointer (some ⟨cq,0,none⟩)/\σ_ 12=.agg B0.toArray/\σ_ 13=.map (some cr)/\PHeap.Le U U_/\sW w U U_ [.blk b2 27 B0,.blk cq 118 [.pointer none],.obj cr (.map cE dw)] w_/\MpR cE wBW wBb ([]:List (wAE × Int))) ?_ fun fE=>?_
 rintro uU lJ ⟨j5,cq,cr,cE,dw,oh,oi,oj,om,sC,qU,o9⟩
 refine zK 0 Z Z Z Z (zL Z Z yZ zQ Z) qU (fun hs=>wCM lJ j5 hs bw) (.inr Z) ?_
 rintro gj sU uv lK sD qV ⟨rfl,rfl⟩
 have qW:sW w U gj [.blk b2 27 B0,.blk cq 118 [.pointer none],.obj cr (.map cE dw)] lK:=qV
 exact dT _ _ ⟨gj,cq,cr,cE,dw,oh,oi,oj,om,Z,(sC.trans sD),qW,o9⟩
 refine ZS (s:=gBw) (M:=fun σ_ w_=>∃ (U_:PHeap) (bP:Nat) (dH:Array MapEntry) (eI:Nat),σ_ 1=.pointer (some ⟨b2,0,none⟩)/\σ_ 12=.agg B0.toArray/\σ_ 13=.map (some bP)/\σ_ 14=.agg #[jV x22.skier,jV x22.mat]/\PHeap.Le U U_/\sW w U U_ [.blk b2 27 B0,.obj bP (.map dH eI)] w_/\MpR dH wBW wBb ([]:List (wAE × Int))) ?_ fun fG=>?_
 rintro uV tS ⟨eh,bP,dH,eI,iF,iG,eX,eY,jH,jg,iY⟩
 refine zw ?_ ?_
 refine OKS.mapPut (x:=.tmp 13) (y:=.tmp 14) (j:=1) (mk:=wBW) (mv:=wBb) (a:=x22) (v:=0) rfl rfl rfl (by first | exact .inl rfl | exact .inr rfl) jg rfl eX eY rfl (wCI ZQ) wDf iY rfl ?_
 intro gP gK lL rX qX
 have qY:sW w U eh [.blk b2 27 B0,.obj bP (.map gP gK)] lL:=qX
 exact se _ _ ⟨eh,bP,gP,gK,iF,iG,eX,eY,jH,qY,rX⟩
 refine ze (cs:=[.pointer none]) Z Z Z Z Z Zv Z jg ?_
 intro tT mh qZ
 exact dT _ _ ⟨eh,mh,bP,dH,eI,iF,rfl,iG,eX,eY,jH,(qZ.pick [1,0,2] _ (by decide) rfl),iY⟩
 refine ZS (s:=gCd) (M:=fun σ_ w_=>∃ (U_:PHeap) (ct:Nat),σ_ 1=.pointer (some ⟨b2,0,none⟩)/\σ_ 3=.pointer (some ⟨ct,0,none⟩)/\σ_ 14=.agg #[jV x22.skier,jV x22.mat]/\PHeap.Le U U_/\sW w U U_ [.blk b2 27 B0,.blk ct 118 [.pointer none]] w_) ?_ fun ju=>?_
 rintro uW tU ⟨gm,ct,eZ,iH,iI,jJ,fu⟩
 refine zw ?_ ?_
 exact Zb Z Z Z Z (fu.ldBA (j:=0) Z Z eZ ZB zo (vs:=B0) Z Z) (fD _ _ ⟨gm,ct,eZ,iH,Z,iI,jJ,fu⟩)
 refine OKS.makeMap Z Z Z Z Z fu ?_
 intro tV mi rc
 have rY:=MpR.nil wBW wBb
 exact fC _ _ ⟨gm,ct,mi,#[],0,eZ,iH,rfl,iI,jJ,(rc.pick [1,2,0] _ (by decide) rfl),rY⟩
 refine ZS (s:=gCc) (M:=fun σ_ w_=>∃ (U_:PHeap) (bQ:Nat) (bR:Nat) (bV:Array MapEntry) (cw:Nat),σ_ 1=.pointer (some ⟨b2,0,none⟩)/\σ_ 3=.pointer (some ⟨bQ,0,none⟩)/\σ_ 13=.map (some bR)/\PHeap.Le U U_/\sW w U U_ [.blk b2 27 B0,.blk bQ 118 [.pointer none],.obj bR (.map bV cw)] w_/\MpR bV wBW wBb ([]:List (wAE × Int))) ?_ fun jv=>?_
 rintro uX lM ⟨gq,bQ,bR,bV,cw,e8,iJ,iK,jK,fw,iZ⟩
 refine zw ?_ ?_
 exact Zb Z Z Z Z (fw.ldBA (j:=0) Z Z e8 ZB zo (vs:=B0) Z Z) (fE _ _ ⟨gq,bQ,bR,bV,cw,e8,iJ,Z,iK,jK,fw,iZ⟩)
 refine zK 0 Z Z Z Z (zL Z Z yZ zQ Z) fw (fun hs=>wCM lM gq hs bw) (.inr Z) ?_
 rintro gt sV uw lN sE re ⟨rfl,rfl⟩
 have ri:sW w U gt [.blk b2 27 B0,.blk bQ 118 [.pointer none],.obj bR (.map bV cw)] lN:=re
 exact fC _ _ ⟨gt,bQ,bR,bV,cw,e8,iJ,iK,Z,(jK.trans sE),ri,iZ⟩
 refine ZS (s:=gCe) (M:=fun σ_ w_=>∃ (U_:PHeap) (bH:Nat) (cG:Array MapEntry) (dx:Nat),σ_ 1=.pointer (some ⟨b2,0,none⟩)/\σ_ 13=.map (some bH)/\σ_ 14=.agg #[jV x22.skier,jV x22.mat]/\PHeap.Le U U_/\sW w U U_ [.blk b2 27 B0,.obj bH (.map cG dx)] w_/\MpR cG wBW wBb ([]:List (wAE × Int))) ?_ fun jw=>?_
 rintro uY tW ⟨cS,bH,cG,dx,dI,dJ,dK,fJ,dQ,fh⟩
 refine zw ?_ ?_
 exact Zb Z Z Z Z (dQ.ldBA (j:=0) Z Z dI ZB zo (vs:=B0) Z Z) (fG _ _ ⟨cS,bH,cG,dx,dI,Z,dJ,dK,fJ,dQ,fh⟩)
 refine zw ?_ ?_
 refine OKS.mapPut (x:=.tmp 13) (y:=.tmp 14) (j:=1) (mk:=wBW) (mv:=wBb) (a:=x22) (v:=0) rfl rfl rfl (by first | exact .inl rfl | exact .inr rfl) dQ rfl dJ dK rfl (wCI ZQ) wDf fh rfl ?_
 intro gQ gL lO rZ rj
 have rk:sW w U cS [.blk b2 27 B0,.obj bH (.map gQ gL)] lO:=rj
 exact sf _ _ ⟨cS,bH,gQ,gL,dI,dJ,dK,fJ,rk,rZ⟩
 refine ze (cs:=[.pointer none]) Z Z Z Z Z Zv Z dQ ?_
 intro tX mj rn
 exact fC _ _ ⟨cS,mj,bH,cG,dx,dI,rfl,dJ,dK,fJ,(rn.pick [1,0,2] _ (by decide) rfl),fh⟩
 refine ZS (s:=gCb) (M:=fun σ_ w_=>∃ (U_:PHeap) (bS:Nat),σ_ 1=.pointer (some ⟨b2,0,none⟩)/\σ_ 3=.pointer (some ⟨bS,0,none⟩)/\σ_ 12=.agg B0.toArray/\PHeap.Le U U_/\sW w U U_ [.blk b2 27 B0,.blk bS 118 [.pointer none]] w_) ?_ fun jx=>?_
 rintro uZ lP ⟨gu,bS,iL,iM,iN,jL,jh⟩
 refine zw ?_ ?_
 refine OKS.makeMap Z Z Z Z Z jh ?_
 intro tY ml ro
 have r0:=MpR.nil wBW wBb
 exact fE _ _ ⟨gu,bS,ml,#[],0,iL,iM,iN,rfl,jL,(ro.pick [1,2,0] _ (by decide) rfl),r0⟩
 refine zK 0 Z Z Z Z (zL Z Z yZ zQ Z) jh (fun hs=>wCM lP gu hs bw) (.inr Z) ?_
 rintro gv sX ux lQ sF rp ⟨rfl,rfl⟩
 have ph:sW w U gv [.blk b2 27 B0,.blk bS 118 [.pointer none]] lQ:=rp
 exact fD _ _ ⟨gv,bS,iL,iM,iN,Z,(jL.trans sF),ph⟩
 refine ZS (s:=gCa) (M:=fun σ_ w_=>∃ (U_:PHeap),σ_ 1=.pointer (some ⟨b2,0,none⟩)/\σ_ 12=.agg B0.toArray/\σ_ 14=.agg #[jV x22.skier,jV x22.mat]/\PHeap.Le U U_/\sW w U U_ [.blk b2 27 B0] w_) ?_ fun jo=>?_
 rintro uB sY ⟨fU,gR,gS,gU,jz,i4⟩
 refine zw ?_ ?_
 refine OKS.makeMap Z Z Z Z Z i4 ?_
 intro sZ lR pj
 have rN:=MpR.nil wBW wBb
 exact fG _ _ ⟨fU,lR,#[],0,gR,gS,rfl,gU,jz,(pj.pick [1,0] _ (by decide) rfl),rN⟩
 refine ze (cs:=[.pointer none]) Z Z Z Z Z Zv Z i4 ?_
 intro s5 lS pk
 exact fD _ _ ⟨fU,lS,gR,rfl,gS,gU,jz,(pk.pick [1,0] _ (by decide) rfl)⟩
 refine ZS (s:=gBz) (M:=fun σ_ w_=>∃ (U_:PHeap) (bK:Nat) (bU:Array MapEntry) (cu:Nat),σ_ 1=.pointer (some ⟨b2,0,none⟩)/\σ_ 12=.agg B0.toArray/\σ_ 13=.map (some bK)/\PHeap.Le U U_/\sW w U U_ [.blk b2 27 B0,.obj bK (.map bU cu)] w_/\MpR bU wBW wBb ([]:List (wAE × Int))) ?_ fun jp=>?_
 rintro uC j6 ⟨fV,bK,bU,cu,gW,gX,gZ,jA,i6,iO⟩
 refine zw ?_ ?_
 refine zK 0 Z Z Z Z (zL Z Z yZ zQ Z) i6 (fun hs=>wCM j6 fV hs bw) (.inr Z) ?_
 rintro fW sI uk j7 sg pm ⟨rfl,rfl⟩
 have pn:sW w U fW [.blk b2 27 B0,.obj bK (.map bU cu)] j7:=pm
 exact fG _ _ ⟨fW,bK,bU,cu,gW,gX,gZ,Z,(jA.trans sg),pn,iO⟩
 refine ze (cs:=[.pointer none]) Z Z Z Z Z Zv Z i6 ?_
 intro s6 lT po
 exact fE _ _ ⟨fV,lT,bK,bU,cu,gW,rfl,gX,gZ,jA,(po.pick [1,0,2] _ (by decide) rfl),iO⟩
 refine zw ?_ ?_
 refine Zb Z Z Z Z (bA.ldBA (j:=0) Z Z Z ZB zo (vs:=B0) Z Z) (zw ?_ ?_)
 refine OKS.makeMap Z Z Z Z Z bA ?_
 intro s7 lU pp
 have rO:=MpR.nil wBW wBb
 exact jp _ _ ⟨U,lU,#[],0,rfl,rfl,rfl,(zM _),(pp.pick [1,0] _ (by decide) rfl),rO⟩
 refine zw ?_ ?_
 refine zK 0 Z Z Z Z (zL Z Z yZ zQ Z) bA (fun hs=>wCM gA U hs bw) (.inr Z) ?_
 rintro fY sJ ul j8 sh pq ⟨rfl,rfl⟩
 have pu:sW w U fY [.blk b2 27 B0] j8:=pq
 exact jo _ _ ⟨fY,Z,Z,Z,sh,pu⟩
 refine ze (cs:=[.pointer none]) Z Z Z Z Z Zv Z bA ?_
 intro s8 lV py
 exact jx _ _ ⟨U,lV,rfl,rfl,rfl,(zM _),(py.pick [1,0] _ (by decide) rfl)⟩
 refine zw ?_ ?_
 refine OKS.makeMap Z Z Z Z Z bA ?_
 intro j9 cU dN
 have fB:=MpR.nil wBW wBb
 refine zw ?_ ?_
 exact Zb rfl rfl rfl rfl (dN.ldBA (j:=1) rfl rfl rfl ZB zo (vs:=B0) rfl rfl) (jp _ _ ⟨U,cU,#[],0,rfl,rfl,rfl,(zM _),(dN.pick [1,0] _ (by decide) rfl),fB⟩)
 refine zw ?_ ?_
 refine zK 0 Z Z Z Z (zL Z Z yZ zQ Z) dN (fun hs=>wCM j9 U hs bw) (.inr Z) ?_
 rintro fZ sK um k9 sj pz ⟨rfl,rfl⟩
 have pB:sW w U fZ [.obj cU (.map #[] 0),.blk b2 27 B0] k9:=pz
 exact jw _ _ ⟨fZ,cU,#[],0,rfl,rfl,rfl,sj,(pB.pick [1,0] _ (by decide) rfl),fB⟩
 refine ze (cs:=[.pointer none]) Z Z Z Z Z Zv Z dN ?_
 intro s9 lW pC
 exact jv _ _ ⟨U,lW,cU,#[],0,rfl,rfl,rfl,(zM _),(pC.pick [2,0,1] _ (by decide) rfl),fB⟩
 refine zw ?_ ?_
 refine zK 0 Z Z Z Z (zL Z Z yZ zQ Z) bA (fun hs=>wCM gA U hs bw) (.inr Z) ?_
 rintro cQ sL uo lf fH pD ⟨rfl,rfl⟩
 have dO:sW w U cQ [.blk b2 27 B0] lf:=pD
 refine zw ?_ ?_
 exact Zb Z Z Z Z (dO.ldBA (j:=0) Z Z Z ZB zo (vs:=B0) Z Z) (jo _ _ ⟨cQ,Z,Z,Z,fH,dO⟩)
 refine zw ?_ ?_
 refine OKS.makeMap Z Z Z Z Z dO ?_
 intro tc lX pE
 have rP:=MpR.nil wBW wBb
 exact jw _ _ ⟨cQ,lX,#[],0,rfl,rfl,rfl,fH,(pE.pick [1,0] _ (by decide) rfl),rP⟩
 refine ze (cs:=[.pointer none]) Z Z Z Z Z Zv Z dO ?_
 intro td lY pF
 exact ju _ _ ⟨cQ,lY,rfl,rfl,rfl,fH,(pF.pick [1,0] _ (by decide) rfl)⟩
 refine ze (cs:=[.pointer none]) Z Z Z Z Z Zv Z bA ?_
 intro lg cV dP
 refine zw ?_ ?_
 exact Zb rfl rfl rfl rfl (dP.ldBA (j:=1) rfl rfl rfl ZB zo (vs:=B0) rfl rfl) (jx _ _ ⟨U,cV,rfl,rfl,rfl,(zM _),(dP.pick [1,0] _ (by decide) rfl)⟩)
 refine zw ?_ ?_
 refine OKS.makeMap Z Z Z Z Z dP ?_
 intro te lZ pG
 have rQ:=MpR.nil wBW wBb
 exact jv _ _ ⟨U,cV,lZ,#[],0,rfl,rfl,rfl,(zM _),(pG.pick [2,1,0] _ (by decide) rfl),rQ⟩
 refine zK 0 Z Z Z Z (zL Z Z yZ zQ Z) dP (fun hs=>wCM lg U hs bw) (.inr Z) ?_
 rintro ga sM uq lh sk pH ⟨rfl,rfl⟩
 have pI:sW w U ga [.blk cV 118 [.pointer none],.blk b2 27 B0] lh:=pH
 exact ju _ _ ⟨ga,cV,rfl,rfl,rfl,sk,(pI.pick [1,0] _ (by decide) rfl)⟩
 rintro uD li ⟨jQ,b6,b8,ah,cx,dp,g7,mp,dU,i8,ot⟩
 refine zH (sR gAk Z (oL Z (i8.ldBA (j:=0) Z Z g7 ZB zo (vs:=B0) Z Z) ?_))
 have iP:=rx.le dU
 have iQ:=ry.le dU
 have iR:=rC.le dU
 have iT:=rD.le dU
 have q:=bnd rH
 obtain ⟨⟨⟩,ou,jk⟩:=q
 try dsimp only at jk
 refine zK 0 Z Z Z Z (zL Z Z Tryz.call106 (zD Z zQ) Z) i8 (fun hs=>wGs p0 ai ap aj aq ak au am av li jQ hs iP iQ iR iT ou) (.inr Z) ?_
 rintro gb sN ur lj dV pJ ⟨gC,rfl,rfl,ow⟩
 let B6:Res:=.blk b6 118 [.pointer (some ⟨b8,0,none⟩)]
 have pK:sW w U gb [.blk b2 27 B0,B6,.blk b8 139 [.slice ai p0.Starts.length ap,.slice aj p0.Splits.length aq,.slice ak p0.Clocks.length au,.slice am p0.Readings.length av,.map (some ah),.slice none 0 0],.obj ah (.map cx dp)] lj:=pJ
 refine eN (zW (yp fun d4 dR=>?_))
 have mq:d4 1=.pointer (some ⟨b2,0,none⟩):=(dR 1).trans g7
 have g8:d4 3=.pointer (some ⟨b6,0,none⟩):=(dR 3).trans mp
 have mr:d4 19=.func (.func 126) #[] #[.pointer (some ⟨gC,0,none⟩)]:=(dR 19).trans rfl
 clear dR
 have pL:=pK.nilrow 184 7
 refine bnK jk fun jN rG jl=>?_
 have e9:=iP.le dV
 have fb:=iQ.le dV
 have fc:=iR.le dV
 have fd:=iT.le dV
 refine CK.rangeY (S:=(List wAd) × (List (wAE × Int))) (E:=Empty) (ar:=wUK) (PY:=(fun (s_:(List wAd) × (List (wAE × Int))) (U_:PHeap) (L_:List Res)=>match s_ with | (l1591,l1595)=>∃ (bJ:Option Addr) (bT:Nat) (br:Array MapEntry) (bs:Nat),L_=[.blk b2 27 B0,B6,.row bJ bT 184 7 (hH wAa l1591),.blk b8 139 [.slice ai p0.Starts.length ap,.slice aj p0.Splits.length aq,.slice ak p0.Clocks.length au,.slice am p0.Readings.length av,.map (some ah),.slice bJ l1591.length bT],.obj ah (.map br bs)]/\MpR br wBW wBb l1595)) (PE:=(fun (_:Empty) _ _=>False)) (exO:=Empty.elim) (s0:=([],jy)) (rr:=jN) mr Tryz.call126 (pL.pick [1,2,0,3,4] _ (by decide) rfl) (by decide) (fun _ _ _ h=>by obtain rfl:=h;rfl) (fun e=>nomatch e) ⟨none,0,cx,dp,rfl,ot⟩ (fun l w1 L1 PY' PE' pg pe rq=>wGD PY' PE' _ l _ p0 gC ai ap aj aq ak au am av w1 L1 gb pg pe rq ow e9 fb fc fd rG) ?_ ?_
 rintro a0 uj uf ⟨l1591,l1595⟩ az uy ui dY sP sH fK be dW pM pf rA ji dZ bX
 obtain ⟨bJ,bT,br,bs,rfl,ox⟩:=pf
 obtain rfl:=rA
 replace bX:∀ t,dZ t=upd d4 20 (.agg #[jV az.Kind,jV az.Skier,jV az.Index,.bool az.Up]) t:=bX
 have ms:dZ 20=.agg #[jV az.Kind,jV az.Skier,jV az.Index,.bool az.Up]:=(bX 20).trans (wDX _ _ _)
 have g9:dZ 1=.pointer (some ⟨b2,0,none⟩):=(bX 1).trans ((wEO _ _ (by decide)).trans mq)
 have mu:dZ 3=.pointer (some ⟨b6,0,none⟩):=(bX 3).trans ((wEO _ _ (by decide)).trans g8)
 clear bX
 let B7:Res:=.blk b8 139 [.slice ai p0.Starts.length ap,.slice aj p0.Splits.length aq,.slice ak p0.Clocks.length au,.slice am p0.Readings.length av,.map (some ah),.slice bJ l1591.length bT]
 let B8:Res:=.row bJ bT 184 7 (hH wAa l1591)
 have pN:St be dY [.obj a0 fK,.blk b2 27 B0,B6,B8,B7,.obj ah (.map br bs)] sH:=pM
 try dsimp only at ji
 refine rR gAh Z (ze (cs:=[jV 0,jV 0,jV 0,.bool false]) Z Z Z Z Z Tryz.zeroValue93 Z pN ?_)
 intro tf aZ pO
 let B9:List Value:=[jV az.Kind,jV az.Skier,jV az.Index,.bool az.Up]
 refine zm (j:=0) (vs:=B9) Z Z Z Z pO Z Z ms Z yP (zA Z) Z Z Z ?_
 intro lm pP
 have pQ:St be dY [.blk aZ 93 B9,.obj a0 fK,.blk b2 27 B0,B6,B8,B7,.obj ah (.map br bs)] lm:=pP
 refine zh ⟨rfl,rfl,_,_,(pQ.pick [1,0,2,3,4,5,6] [.obj a0 fK,.blk aZ 93 B9,.blk b2 27 B0,B6,B8,B7,.obj ah (.map br bs)] (by decide) rfl),fun gx bi pR=>?_⟩
 have fj:St be dY [.obj a0 bi,.blk aZ 93 B9,.blk b2 27 B0,B6,B8,B7,.obj ah (.map br bs)] gx:=pR
 refine zW (sR (.fl 0 (.fl 1 (.fx 2 (wUs (.fx 7 (.fx 8 (.fx 9 (.fx 10 (.fl 11 .nil) .stop) .stop) .stop) .stop)) .stop))) Z (oL Z (fj.ldBA (j:=2) Z Z g9 ZB zo (vs:=B0) Z Z) (oL Z (fj.ldBA (j:=1) Z Z Z yc yP (vs:=B9) Z Z) ?_)))
 have oy:=e9.le dW
 have oz:=fb.le dW
 have oB:=fc.le dW
 have oG:=fd.le dW
 have q:=bnd ji
 obtain ⟨⟨ba,bb,bn⟩,oH,jm⟩:=q
 try dsimp only at jm
 refine zK 0 Z Z Z Z (zL Z Z Tryz.call107 (zD Z (zD Z zQ)) Z) fj (fun hs=>wGt p0 ai ap aj aq ak au am av az gx dY hs oy oz oB oG oH) (.inr Z) ?_
 rintro cd sQ uu ln ug pS ⟨rfl,rfl⟩
 have pT:St be cd [.obj a0 bi,.blk aZ 93 B9,.blk b2 27 B0,B6,B8,B7,.obj ah (.map br bs)] ln:=pS
 refine oM Z Z (oR Z (zu Z Z (v:=.agg #[jV ba.skier,jV ba.mat]) Z) (oR Z (zu Z Z (v:=.agg #[jV bb.skier,jV bb.mat]) Z) (oR Z (zu Z Z (v:=jV bn) Z) ?_)))
 let cP:List Value:=[jV 0,jV 0]
 refine ze (cs:=cP) Z Z Z Z Z zj Z pT ?_
 intro tg bj pU
 refine ze (cs:=cP) Z Z Z Z Z zj Z pU ?_
 intro th bk pV
 let bd:List Value:=[jV ba.skier,jV ba.mat]
 refine zm (j:=1) (vs:=bd) Z Z Z Z pV Z Z Z Z zJ (zA Z) Z Z Z ?_
 intro lp pW
 have pX:St be cd [.blk bk 123 cP,.blk bj 123 bd,.obj a0 bi,.blk aZ 93 B9,.blk b2 27 B0,B6,B8,B7,.obj ah (.map br bs)] lp:=pW
 let bf:List Value:=[jV bb.skier,jV bb.mat]
 refine zm (j:=0) (vs:=bf) Z Z Z Z pX Z Z Z Z zJ (zA Z) Z Z Z ?_
 intro ls pY
 have fm:St be cd [.blk bk 123 bf,.blk bj 123 bd,.obj a0 bi,.blk aZ 93 B9,.blk b2 27 B0,B6,B8,B7,.obj ah (.map br bs)] ls:=pY
 refine oA Z Z (eN (zH (sR fL4 Z (oL Z (fm.ldBA (j:=1) Z Z Z zn zJ (vs:=bd) Z Z) (oL Z (fm.ldBA (j:=0) Z Z Z zn zJ (vs:=bf) Z Z) ?_)))))
 let fM:List Value:=[jV ba.skier,jV ba.mat,jV bb.skier,jV bb.mat]
 refine oR Z (Runs.buildA (pv:=[(0,.agg bd.toArray),(1,.agg bf.toArray)]) (z:=[jV 0,jV 0,jV 0,jV 0]) (cs:=fM) Z (wAH Z (wAH Z wAY)) Tryz.zeroValue210 Tryz.runUnderlying210 zJ Z Z) (oM Z Z (eN (zW (bnK jm fun aY rE rI=>?_))))
 have q:=wBc rE
 obtain ⟨fz,rF⟩:=q
 replace fz:=zI fz
 refine CK.forN' (fun cK cL σ_ w_=>∃ (U_:PHeap) (cy:Array MapEntry) (dq:Nat),σ_ 31=jV (↑cK:Int)/\σ_ 1=.pointer (some ⟨b2,0,none⟩)/\σ_ 3=.pointer (some ⟨b6,0,none⟩)/\σ_ 4=.pointer (some ⟨aZ,0,none⟩)/\σ_ 5=.pointer (some ⟨bj,0,none⟩)/\σ_ 6=.pointer (some ⟨bk,0,none⟩)/\σ_ 7=jV bn/\σ_ 30=.agg fM.toArray/\PHeap.Le cd U_/\St be U_ [.blk bk 123 bf,.blk bj 123 bd,.obj a0 bi,.blk aZ 93 B9,.blk b2 27 B0,B6,B8,B7,.obj ah (.map cy dq)] w_/\MpR cy wBW wBb cL) rF ?_ ?_ ?_
 exact ⟨cd,br,bs,Z,g9,mu,Z,Z,Z,Z,Z,(zM _),fm,ox⟩
 rintro cK cL uz uE tj fy ⟨cR,cy,dq,dL,ib,cH,ic,ie,ig,ii,eK,jB,pZ,dM⟩ r7
 have gF:Hid ((↑cK:Int) < 2):=zI (wBJ fy)
 replace fy:=zI fy
 have jj:Hid (w64 ((↑cK:Int) + 1)=(↑(cK + 1):Int)):=zI (by have h1:=fz.out;have h2:=gF.out;rw [wAX] <;> omega)
 refine sR fL1 Z (oR Z (zX Z dL Z) (eN (zH (cT Z gF (kN (zH (zW (sR (.fl 0 (.fx 1 (.fx 2 .nil .stop) .stop)) Z (bnK r7 fun bY ff rJ=>oR Z (Runs.ixA (cs:=hH wIL ([ba,bb]:List wAE)) Z eK dL Tryz.runUnderlying210 zJ (wAx ff) (wBA ff) (wDL zn zJ (wKF (sz:=2) (fun _=>Z) _ _ (wAS ff)))) (ze (cs:=cP) Z Z Z Z Z zj Z pZ ?_))))))))))
 intro tl gD p6
 let bZ:List Value:=[jV bY.skier,jV bY.mat]
 refine zm (j:=0) (vs:=bZ) Z Z Z Z p6 Z Z Z Z zJ (zA Z) Z Z Z ?_
 intro ej p7
 have p8:St be cR [.blk gD 123 bZ,.blk bk 123 bf,.blk bj 123 bd,.obj a0 bi,.blk aZ 93 B9,.blk b2 27 B0,B6,B8,B7,.obj ah (.map cy dq)] ej:=p7
 refine eN (zH (ZD zy [1,3,3,1,1,1,3,3,3,3,3] fL11 (by kernel_rfl) ?_))
 have bI:=p8.drew
 generalize hw_W1729:({ ej with drawn:=ej.drawn + 1 }:World)=gy at bI ⊢
 refine oL Z (bI.ldB (j:=6) Z Z cH yR (v:=.pointer (some ⟨b8,0,none⟩)) Z) (oR Z (Zu Z Z) (oR Z (zE Z Z ZJ Z Zz) (oL Z (bI.ldB (j:=8) Z Z Z yC (v:=.map (some ah)) Z) (oL Z (bI.ldBA (j:=0) Z Z Z zn zJ (vs:=bZ) Z Z) (oL Z (bI.lookup2 (j:=9) (mk:=wBW) (mv:=wBb) (a:=bY) (z:=0) Z Z Z Z (wCI ZQ) wDf Za dM) (oM Z Z (oR Z (zu Z Z (v:=jV (wBD cL bY 0)) Z) (oR Z (zu Z Z (v:=.bool (wJV cL bY)) Z) (oA Z Z (oA Z Z (eN (sR fL2 Z (oM Z Z (oR Z (Zf Z Z) (eN (ifc rJ ?_ ?_))))))))))))))))
 intro en rK
 refine zx (nC en.out) (Zh (zq (zG (rR fL2 Z (oR Z (ZP (zZ Z dL Z) (congrArg (jV) jj.out)) (oM Z Z (zh ?_)))))))
 cases rK
 exact zG ⟨rfl,⟨cR,cy,dq,rfl,ib,cH,ic,ie,ig,ii,eK,jB,(bI.pick [1,2,3,4,5,6,7,8,9] _ (by decide) rfl),dM⟩⟩
 intro en rL
 refine ZG (nF (en.out)) (ZD zy [1,3,3,1,1,1,3,3,1,1,0] (wUi (.fx 10 .nil .stop)) (by kernel_rfl) ?_)
 have bz:=bI.drew
 generalize hw_W1737:({ gy with drawn:=gy.drawn + 1 }:World)=tm at bz ⊢
 refine ZI rfl rfl rfl rfl (bz.ldB (j:=6) rfl rfl cH yR (v:=.pointer (some ⟨b8,0,none⟩)) rfl) rfl (zk rfl rfl rfl rfl (fun _=>Zu rfl rfl) (zk rfl rfl rfl rfl (fun _=>zE rfl rfl ZJ rfl Zz) (ZI rfl rfl rfl rfl (bz.ldB (j:=8) rfl rfl rfl yC (v:=.map (some ah)) rfl) rfl (ZI rfl rfl rfl rfl (bz.ldBA (j:=0) rfl rfl rfl zn zJ (vs:=bZ) rfl rfl) rfl (ZI rfl rfl rfl rfl (bz.ldB (j:=6) rfl rfl cH yR (v:=.pointer (some ⟨b8,0,none⟩)) rfl) rfl (zk rfl rfl rfl rfl (fun _=>Zu rfl rfl) (zk rfl rfl rfl rfl (fun _=>zE rfl rfl ZJ rfl Zz) (ZI rfl rfl rfl rfl (bz.ldB (j:=8) rfl rfl rfl yC (v:=.map (some ah)) rfl) rfl (ZI rfl rfl rfl rfl (bz.lenM (j:=9) (mk:=wBW) (mv:=wBb) rfl rfl rfl (wCI ZQ) dM) rfl (OKS.mapPut (x:=.tmp 48) (y:=.tmp 49) (z:=.tmp 54) (j:=9) (mk:=wBW) (mv:=wBb) (a:=bY) (v:=(↑(cL.length):Int)) rfl rfl rfl (by first | exact .inl rfl | exact .inr rfl) bz rfl rfl rfl rfl (wCI ZQ) wDf dM rfl ?_))))))))))
 intro gM gG lu rS p9
 have qa:St be cR [.blk gD 123 bZ,.blk bk 123 bf,.blk bj 123 bd,.obj a0 bi,.blk aZ 93 B9,.blk b2 27 B0,B6,B8,B7,.obj ah (.map gM gG)] lu:=p9
 refine zh (zq (zG (rR fL2 Z (oR Z (ZP (zZ Z dL Z) (congrArg (jV) jj.out)) (oM Z Z (zh ?_))))))
 cases rL
 exact zG ⟨rfl,⟨cR,gM,gG,rfl,ib,cH,ic,ie,ig,ii,eK,jB,(qa.pick [1,2,3,4,5,6,7,8,9] _ (by decide) rfl),rS⟩⟩
 rintro uF gz ⟨bu,bq,bp,oq,tZ,bW,mw,my,mz,mA,t7,uh,qb,cI⟩
 have mn:Hid (¬ ((↑((2:Int) - 0).toNat:Int) < 2)):=zI (wAj)
 refine sR fL1 rfl (zk rfl rfl rfl rfl (fun _=>zX rfl oq rfl) (eN (zH (cF Z mn (ZT (zf (zf (ZK (zG (bnK rI fun bo fg fA=>ZD zy [2,1,3,3,1,1,1,3,3,1,1,1,1,3,3,1,1,1,3,3,2,0,3,3,0] (wUq (.fx 0 (.fx 20 gBl .stop) (.fx 20 (.fx 0 gBl (.fx 21 (.fx 0 gBb .stop) .stop)) .stop))) (by kernel_rfl) ?_))))))))))
 have bh:=qb.drew
 generalize hw_W1786:({ gz with drawn:=gz.drawn + 1 }:World)=tn at bh ⊢
 refine oL Z (bh.ldB (j:=5) Z Z bW yR (v:=.pointer (some ⟨b8,0,none⟩)) Z) (oR Z (Zu Z Z) (oR Z (zE Z Z ZJ Z yd) (oL Z (bh.ldB (j:=7) Z Z Z Tryz.isAgg137 (v:=.slice bJ l1591.length bT) Z) (oL Z (bh.ldBA (j:=3) Z Z mw yc yP (vs:=B9) Z Z) (oL Z (bh.ldB (j:=5) Z Z bW yR (v:=.pointer (some ⟨b8,0,none⟩)) Z) (oR Z (Zu Z Z) (oR Z (zE Z Z ZJ Z Zz) (oL Z (bh.ldB (j:=7) Z Z Z yC (v:=.map (some ah)) Z) (oL Z (bh.ldBA (j:=1) Z Z my zn zJ (vs:=bd) Z Z) (oL Z (bh.lookup1 (j:=8) (mk:=wBW) (mv:=wBb) (a:=ba) (z:=0) Z Z Z Z (wCI ZQ) wDf Za cI) (oL Z (bh.ldB (j:=5) Z Z bW yR (v:=.pointer (some ⟨b8,0,none⟩)) Z) (oR Z (Zu Z Z) (oR Z (zE Z Z ZJ Z Zz) (oL Z (bh.ldB (j:=7) Z Z Z yC (v:=.map (some ah)) Z) (oL Z (bh.ldBA (j:=0) Z Z mz zn zJ (vs:=bf) Z Z) (oL Z (bh.lookup1 (j:=8) (mk:=wBW) (mv:=wBb) (a:=bb) (z:=0) Z Z Z Z (wCI ZQ) wDf Za cI) (oM Z mA ?_)))))))))))))))))
 let b5:List Value:=[jV az.Kind,jV az.Skier,jV az.Index,.bool az.Up,jV (wBD aY ba 0),jV (wBD aY bb 0),jV bn]
 let d6:List Value:=[jV 0,jV 0,jV 0,.bool false,jV 0,jV 0,jV 0]
 refine oR Z (ZO (pv:=[(0,.agg B9.toArray),(1,jV (wBD aY ba 0)),(2,jV (wBD aY bb 0)),(3,jV bn)]) (z:=d6) (cs:=b5) Z (wAH Z (wAH Z (wAH Z (wAH Z wAY)))) Tryz.zeroValue184 wPM Z Z) (zw ?_ ?_)
 refine Zb Z Z Z Z (bh.ldB (j:=5) Z Z bW yR (v:=.pointer (some ⟨b8,0,none⟩)) Z) (ZW (pv:=[(0,.agg b5.toArray)]) (zs:=d6) (cs:=b5) Z Z Z Z Z (wAH Z wAY) Tryz.runUnderlying137 Tryz.sizeOf184 Tryz.zeroValue184 Z Z Z Z Z bh ?_)
 intro lv l4 qc
 let d7:Res:=.row (some ⟨l4,0,none⟩) 1 184 7 (hH wAa [(⟨az,(wBD aY ba 0),(wBD aY bb 0),bn⟩:wAd)])
 have i9:St be bu [d7,.blk bk 123 bf,.blk bj 123 bd,.obj a0 bi,.blk aZ 93 B9,.blk b2 27 B0,B6,B8,B7,.obj ah (.map bq bp)] lv:=qc
 refine yH (j:=7) (enc:=wAa) (xs:=l1591) (ys:=[(⟨az,(wBD aY ba 0),(wBD aY bb 0),bn⟩:wAd)]) (zs:=bo) rfl rfl rfl rfl rfl Tryz.underlying137 wLh rfl rfl rfl rfl rfl rfl i9 rfl rfl rfl (i9.srcR (j:=0) rfl (by decide) (wAI (f:=wAa) (sz:=7) (fun _=>rfl) [(⟨az,(wBD aY ba 0),(wBD aY bb 0),bn⟩:wAd)])) (fun _=>rfl) (fun _=>rfl) fg rfl ?_
 intro cM dh lw qd
 let fN:Res:=.row cM dh 184 7 (hH wAa bo)
 have qe:St be bu [d7,.blk bk 123 bf,.blk bj 123 bd,.obj a0 bi,.blk aZ 93 B9,.blk b2 27 B0,B6,fN,B7,.obj ah (.map bq bp)] lw:=qd
 refine oR Z (Zu Z Z) (oR Z (zE Z Z ZJ Z yd) (zm (j:=8) (vs:=[.slice cM bo.length dh]) Z Z Z Z qe Z Z Z Z yd (zA Z) Z Z Z ?_))
 intro lx qf
 have qh:St be bu [d7,.blk bk 123 bf,.blk bj 123 bd,.obj a0 bi,.blk aZ 93 B9,.blk b2 27 B0,B6,fN,.blk b8 139 [.slice ai p0.Starts.length ap,.slice aj p0.Splits.length aq,.slice ak p0.Clocks.length au,.slice am p0.Readings.length av,.map (some ah),.slice cM bo.length dh],.obj ah (.map bq bp)] lx:=qf
 refine zh (zq ?_)
 obtain rfl:=nA fA
 exact ⟨_,_,(qh.pick [3,5,6,7,8,9] _ (by decide) rfl),rfl,⟨cM,dh,bq,bp,rfl,cI⟩⟩
 refine ZW (pv:=[(0,.agg b5.toArray)]) (zs:=d6) (cs:=b5) Z Z Z Z Z (wAH Z wAY) Tryz.runUnderlying137 Tryz.sizeOf184 Tryz.zeroValue184 Z Z Z Z Z bh ?_
 intro ly l5 qi
 let cb:Res:=.row (some ⟨l5,0,none⟩) 1 184 7 (hH wAa [(⟨az,(wBD aY ba 0),(wBD aY bb 0),bn⟩:wAd)])
 have cJ:St be bu [cb,.blk bk 123 bf,.blk bj 123 bd,.obj a0 bi,.blk aZ 93 B9,.blk b2 27 B0,B6,B8,B7,.obj ah (.map bq bp)] ly:=qi
 refine zw ?_ ?_
 refine Zb rfl rfl rfl rfl (cJ.ldB (j:=6) rfl rfl bW yR (v:=.pointer (some ⟨b8,0,none⟩)) rfl) (yH (j:=7) (enc:=wAa) (xs:=l1591) (ys:=[(⟨az,(wBD aY ba 0),(wBD aY bb 0),bn⟩:wAd)]) (zs:=bo) rfl rfl rfl rfl rfl Tryz.underlying137 wLh rfl rfl rfl rfl rfl rfl cJ rfl rfl rfl (cJ.srcR (j:=0) rfl (by decide) (wAI (f:=wAa) (sz:=7) (fun _=>rfl) [(⟨az,(wBD aY ba 0),(wBD aY bb 0),bn⟩:wAd)])) (fun _=>rfl) (fun _=>rfl) fg rfl ?_)
 intro cN dk lz qj
 let fP:Res:=.row cN dk 184 7 (hH wAa bo)
 have qk:St be bu [cb,.blk bk 123 bf,.blk bj 123 bd,.obj a0 bi,.blk aZ 93 B9,.blk b2 27 B0,B6,fP,B7,.obj ah (.map bq bp)] lz:=qj
 refine oR Z (Zu Z Z) (oR Z (zE Z Z ZJ Z yd) (zm (j:=8) (vs:=[.slice cN bo.length dk]) Z Z Z Z qk Z Z Z Z yd (zA Z) Z Z Z ?_))
 intro lA qm
 have qn:St be bu [cb,.blk bk 123 bf,.blk bj 123 bd,.obj a0 bi,.blk aZ 93 B9,.blk b2 27 B0,B6,fP,.blk b8 139 [.slice ai p0.Starts.length ap,.slice aj p0.Splits.length aq,.slice ak p0.Clocks.length au,.slice am p0.Readings.length av,.map (some ah),.slice cN bo.length dk],.obj ah (.map bq bp)] lA:=qm
 refine zh (zq ?_)
 obtain rfl:=nA fA
 exact ⟨_,_,(qn.pick [3,5,6,7,8,9] _ (by decide) rfl),rfl,⟨cN,dk,bq,bp,rfl,cI⟩⟩
 refine yH (j:=7) (enc:=wAa) (xs:=l1591) (ys:=[(⟨az,(wBD aY ba 0),(wBD aY bb 0),bn⟩:wAd)]) (zs:=bo) rfl rfl rfl rfl rfl Tryz.underlying137 wLh rfl rfl rfl rfl rfl rfl cJ rfl rfl rfl (cJ.srcR (j:=0) rfl (by decide) (wAI (f:=wAa) (sz:=7) (fun _=>rfl) [(⟨az,(wBD aY ba 0),(wBD aY bb 0),bn⟩:wAd)])) (fun _=>rfl) (fun _=>rfl) fg rfl ?_
 intro cO dl lB qo
 let fQ:Res:=.row cO dl 184 7 (hH wAa bo)
 have ja:St be bu [cb,.blk bk 123 bf,.blk bj 123 bd,.obj a0 bi,.blk aZ 93 B9,.blk b2 27 B0,B6,fQ,B7,.obj ah (.map bq bp)] lB:=qo
 refine Zb Z Z Z Z (ja.ldB (j:=6) Z Z bW yR (v:=.pointer (some ⟨b8,0,none⟩)) Z) (oR Z (Zu Z Z) (oR Z (zE Z Z ZJ Z yd) (zm (j:=8) (vs:=[.slice cO bo.length dl]) Z Z Z Z ja Z Z Z Z yd (zA Z) Z Z Z ?_)))
 intro lD qp
 have qq:St be bu [cb,.blk bk 123 bf,.blk bj 123 bd,.obj a0 bi,.blk aZ 93 B9,.blk b2 27 B0,B6,fQ,.blk b8 139 [.slice ai p0.Starts.length ap,.slice aj p0.Splits.length aq,.slice ak p0.Clocks.length au,.slice am p0.Readings.length av,.map (some ah),.slice cO bo.length dl],.obj ah (.map bq bp)] lD:=qp
 refine zh (zq ?_)
 obtain rfl:=nA fA
 exact ⟨_,_,(qq.pick [3,5,6,7,8,9] _ (by decide) rfl),rfl,⟨cO,dl,bq,bp,rfl,cI⟩⟩
 rintro jM ef sS lE dX qr
 rcases jN with ⟨jO,uA⟩ | mo
 try dsimp only at jl
 rintro ⟨d5,eu,dy,dm,rfl,oI⟩
 let d8:Res:=.blk b8 139 [.slice ai p0.Starts.length ap,.slice aj p0.Splits.length aq,.slice ak p0.Clocks.length au,.slice am p0.Readings.length av,.map (some ah),.slice d5 jO.length eu]
 let d9:Res:=.row d5 eu 184 7 (hH wAa jO)
 have jb:sW w U ef [.blk b2 27 B0,B6,d9,d8,.obj ah (.map dy dm),.obj jM (.deferred (some []))] lE:=qr
 refine zq (zG (sR fL2 Z (oL Z (jb.ldB (j:=1) Z Z g8 yR (v:=.pointer (some ⟨b8,0,none⟩)) Z) (oA Z Z (eN (zP ?_))))))
 have oK:=e9.le dX
 have oO:=fb.le dX
 have oP:=fc.le dX
 have oU:=fd.le dX
 refine wRe (by first | exact .inl rfl | exact .inr rfl) (rbs:=[jM]) (L:=[.blk b2 27 B0,B6,d9,d8,.obj ah (.map dy dm)]) jb fun lF qt=>?_
 have qu:sW w U ef [.blk b2 27 B0,B6,d9,d8,.obj ah (.map dy dm)] lF:=qt
 cases jl
 exact ⟨_,(ZH rfl),ef,_,(qu.pick [3,4,2] _ (by decide) rfl),b8,ai,ap,aj,aq,ak,au,am,av,ah,dy,dm,d5,eu,rfl,rfl,oK,oO,oP,oU,oI⟩
 exact mo.elim
end Go.Proofs.YtlnfbjphfoipaaaGreat
