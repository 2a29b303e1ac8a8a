import Derived.Test.YtlnfbjphfoipaaaGreatR6
set_option linter.all false
open List renaming flatMap->hH
open Option.some renaming inj->nA
open Go.Value renaming bool->nB
open Bool renaming eq_false_iff->nD
open Prod.mk renaming injEq->nE
open Nat renaming blt->nG,le_of_ble_eq_true->nH
namespace Go.Proofs.YtlnfbjphfoipaaaGreat
open Go.KL
def gAa:Sch:=.fl 2 (.fl 3 .nil)
def gAb:Sch:=.fl 3 (.fl 4 .nil)
def gAc:Sch:=.fl 4 (.fl 5 .nil)
def gAd:Sch:=.fl 7 (.fl 8 .nil)
def gAe:Sch:=.fl 15 (.fl 16 .nil)
def gAf:Sch:=.fx 0 (.fl 1 .nil) .stop
def gAg:Sch:=.fx 1 (.fl 2 .nil) .stop
def gAh:Sch:=.fx 0 (.fx 1 .nil .stop) .stop
def gAi:Sch:=.fx 7 (.fx 8 .nil .stop) .stop
def gAj:Sch:=.fx 2 (.fx 3 .nil .stop) .stop
def gAk:Sch:=.fl 0 (.fx 1 .nil .stop)
def gAl:Sch:=.fx 4 (.fx 5 .nil .stop) .stop
def gAm:Sch:=.fl 3 (.fx 5 .nil .stop)
def gAn:Sch:=.fl 10 (.fx 12 .nil .stop)
def gAo:Sch:=.fx 6 (.fx 7 .nil .stop) .stop
def gAp:Sch:=.fx 8 (.fx 9 .nil .stop) .stop
def gAq:Sch:=.fl 7 (.fx 9 .nil .stop)
def gAr:Sch:=.fx 4 (.fl 5 .nil) .stop
def gAs:Sch:=.fx 6 (.fx 8 .nil .stop) .stop
def gAt:Sch:=.fl 0 gAg
def gAu:Sch:=.fx 5 (.fl 6 (.fx 8 .nil .stop)) .stop
def gAv:Sch:=.fx 13 (.fl 14 (.fl 15 .nil)) .stop
def gAw:Sch:=.fl 10 (.fx 11 (.fx 12 .nil .stop) .stop)
def gAx:Sch:=.fx 6 gAn .stop
def gAy:Sch:=.fx 6 gAq .stop
def gAz:Sch:=.fx 4 gAq .stop
def gBa:Sch:=.fx 3 gAr .stop
def gBb:Sch:=.fl 22 (.fl 23 (.fx 24 .nil .stop))
def gBc:Sch:=.fl 0 (.fl 1 gAj)
def gBd:Sch:=.fx 3 (.fx 4 (.fl 5 (.fx 6 .nil .stop)) .stop) .stop
def gBe:Sch:=.fl 0 (.fl 1 (.fx 2 (.fl 3 .nil) .stop))
def gBf:Sch:=.fx 0 (.fx 1 gAj .stop) .stop
def gBg:Sch:=.fx 0 (.fx 1 gAa .stop) .stop
def gBh:Sch:=.fx 8 (.fl 9 gAn) .stop
def gBi:Sch:=.fl 7 (.fx 2 gAp .stop)
def gBj:Sch:=.fl 4 (.fl 5 gAs)
def gBk:Sch:=.fx 0 (.fl 5 gAs) .stop
def gBl:Sch:=.fx 21 gBb .stop
def gBm:Sch:=.fl 0 (.fl 1 (.fx 2 gAb .stop))
def gBn:Sch:=.fx 6 (.fl 7 gAp) (.fx 8 gAy .stop)
def gBo:Sch:=.fx 4 (.fl 7 gAp) (.fx 8 gAz .stop)
def gBp:Sch:=.fx 0 (.fx 1 (.fx 2 (.fx 3 (.fl 4 .nil) .stop) .stop) .stop) .stop
def gBq:Sch:=.fl 5 (.fx 6 gAi (.fx 7 gAs .stop))
def gBr:Sch:=.fx 3 gBj .stop
def gBs:Sch:=.fx 2 gBr .stop
def gBt:Sch:=.fx 1 gBr .stop
def gBu:Sch:=.fl 1 (.fl 2 (.fx 0 (.fl 3 gAl) (.fx 4 (.fx 0 gAm .stop) .stop)))
def gBv:Sch:=.fl 0 (.fl 2 (.fx 1 gBa (.fx 3 (.fx 1 gAr .stop) .stop)))
def gBw:Sch:=.fx 3 (.fl 4 gBq) (.fx 7 gBr .stop)
def gBx:Sch:=.fl 4 (.fx 0 gBq (.fx 7 gBk .stop))
def gBy:Sch:=.fx 0 gBr (.fx 3 (.fl 4 gBk) .stop)
def gBz:Sch:=.fx 2 gBw (.fx 7 gBs .stop)
def gCa:Sch:=.fx 1 gBw (.fx 7 gBt .stop)
def gCb:Sch:=.fx 1 gBs (.fx 2 gBt .stop)
def gCc:Sch:=.fx 0 gBs (.fx 2 gBy .stop)
def gCd:Sch:=.fx 0 gBt (.fx 1 gBy .stop)
def gCe:Sch:=.fx 0 gBw (.fx 3 gBx (.fx 7 gBy .stop))
set_option maxHeartbeats 4000000
theorem Z {α:Type} {a:α}:a=a:=rfl
section
variable {r:Option Nat} {N:Nat} {P:Program} {l:List Oper} {Q:wEJ} {D:List Deferred} {ks:List Nat} {σ:Env} {w:World} {i d j e:Nat} {s:Sch} {o:Oper} {b:Bool} {x:Operand} {v:Value} {p:Prop} {inst:Decidable p} {K:List Deferred->Env->World->Prop} {c1 c2:Code}
abbrev jV (n:Int):Value:=.int .i64 n
abbrev SW (w:World) (X:List Res) (U U':PHeap) (L:List Res) (w':World):Prop:=St ⟨w,X,U⟩ U' L w'
abbrev sW (w:World) (U U':PHeap) (L:List Res) (w':World):Prop:=St ⟨w,[],U⟩ U' L w'
abbrev St0 (w:World) (U:PHeap) (L:List Res):Prop:=St ⟨w,L,U⟩ U L w
theorem ifc {α:Type} {G p:Prop} {inst:Decidable p} {a b r:α} (h:@ite α p inst a b=r) (h1:Hid p->a=r->G) (h2:Hid (¬ p)->b=r->G):G:=by
 by_cases c:p
 rw [if_pos c] at h;exact h1 ⟨c⟩ h
 rw [if_neg c] at h;exact h2 ⟨c⟩ h
theorem bnK {α β:Type} {G:Prop} {o:Option α} {f:α->Option β} {r:β} (h:o.bind f=some r) (k:∀ x,o=some x->f x=some r->G):G:=by
 obtain ⟨x,h1,h2⟩:=bnd h
 exact k x h1 h2
theorem oR (h:(l[i]?,o.dst,nG d N,wanted l σ o)=(some o,some d,true,true)) (hr:∀ {w'},Runs P σ w' o v w') (k:OKS N P l Q D ks s (upd σ d v) w):OKS N P l Q D ks (.fl i s) σ w:=by
 simp only [nE] at h;exact OKS.r h.1 h.2.1 h.2.2.1 h.2.2.2 (fun _=>hr) k
theorem oL (h:(l[i]?,o.dst,nG d N,wanted l σ o,wSt (kOf ks i))=(some o,some d,true,true,false)) (hr:RunsK P σ w o v) (k:OKS N P l Q D ks s (upd σ d v) w):OKS N P l Q D ks (.fl i s) σ w:=by
 simp only [nE] at h;exact OKS.m h.1 h.2.1 h.2.2.1 h.2.2.2.1 hr h.2.2.2.2 k
theorem oM (h:(l[i]?,o.dst,nG d N,wanted l σ o,o.op)=(some o,some d,true,true,.move x)) (hx:ev σ x=v) (k:OKS N P l Q D ks s (upd σ d v) w):OKS N P l Q D ks (.fl i s) σ w:=by
 simp only [nE] at h;exact OKS.rm h.1 h.2.1 h.2.2.1 h.2.2.2.1 h.2.2.2.2 hx k
theorem oA (h:(l[i]?,o.dst,nG d N,wanted l σ o,o.op)=(some o,some d,true,true,.assign x)) (hx:ev σ x=v) (k:OKS N P l Q D ks s (upd σ d v) w):OKS N P l Q D ks (.fl i s) σ w:=by
 simp only [nE] at h;exact OKS.ra h.1 h.2.1 h.2.2.1 h.2.2.2.1 h.2.2.2.2 hx k
theorem oF (h:(l[i]?,o.dst,nG d N,o.guard,(l[j]?).bind (·.dst),σ e,false == b)=(some o,some d,true,some (j,b),some e,.bool (decide p),false)) (c:Hid (¬ p)) (k:OKS N P l Q D ks s (upd σ d undef) w):OKS N P l Q D ks (.fl i s) σ w:=by
 simp only [nE] at h;exact OKS.p h.1 h.2.1 h.2.2.1 (wHg h.2.2.2.1 h.2.2.2.2.1 (h.2.2.2.2.2.1.trans (wSs c.out)) h.2.2.2.2.2.2) k
theorem oT (h:(l[i]?,o.dst,nG d N,o.guard,(l[j]?).bind (·.dst),σ e,true == b)=(some o,some d,true,some (j,b),some e,.bool (decide p),false)) (c:Hid p) (k:OKS N P l Q D ks s (upd σ d undef) w):OKS N P l Q D ks (.fl i s) σ w:=by
 simp only [nE] at h;exact OKS.p h.1 h.2.1 h.2.2.1 (wHg h.2.2.2.1 h.2.2.2.2.1 (h.2.2.2.2.2.1.trans (wSr c.out)) h.2.2.2.2.2.2) k
theorem oN {b2:Bool} (h:(l[i]?,o.dst,nG d N,o.guard,(l[j]?).bind (·.dst),σ e,b2 == b)=(some o,some d,true,some (j,b),some e,.bool b2,false)) (k:OKS N P l Q D ks s (upd σ d undef) w):OKS N P l Q D ks (.fl i s) σ w:=by
 simp only [nE] at h;exact OKS.p h.1 h.2.1 h.2.2.1 (wHg h.2.2.2.1 h.2.2.2.2.1 h.2.2.2.2.2.1 h.2.2.2.2.2.2) k
theorem nC {a b:Bool} (h:a=b):nB (!a)=nB (!b):=h ▸ rfl
theorem nF {a:Bool} (h:¬ a=true):nB (!a)=nB (!false):=nC (nD.2 h)
theorem wT (h:(o.guard,(l[j]?).bind (·.dst),σ e)=(some (j,true),some e,.bool (decide p))) (c:Hid p):wanted l σ o=true:=by
 simp only [nE] at h;exact wJN h.1 h.2.1 (h.2.2.trans (wSr c.out))
theorem wF (h:(o.guard,(l[j]?).bind (·.dst),σ e)=(some (j,false),some e,.bool (decide p))) (c:Hid (¬ p)):wanted l σ o=true:=by
 simp only [nE] at h;exact wJN h.1 h.2.1 (h.2.2.trans (wSs c.out))
theorem rU (h:(l[i]?,o.dst,nG d N)=(some o,some d,true)) (hw:wanted l σ o=true) (hr:∀ {w'},Runs P σ w' o v w') (k:OKS N P l Q D ks s (upd σ d v) w):OKS N P l Q D ks (.fl i s) σ w:=by
 simp only [nE] at h;exact OKS.r h.1 h.2.1 h.2.2 hw (fun _=>hr) k
theorem sR {id:Nat} (s:Sch) (hs:inOrder 0 s l.length=true) (h:OKS N P l (wGH (fun D σ w=>CK r N P c2 Q D σ w) Q) D [] s σ w):CK r N P (.seq (.region id l.toArray false) c2) Q D σ w:=CK.seq (CK.reg s hs h)
theorem rR {id:Nat} (s:Sch) (hs:inOrder 0 s l.length=true) (h:OKS N P l Q D [] s σ w):CK r N P (.region id l.toArray false) Q D σ w:=CK.reg s hs h
theorem eN (h:K D σ w):OKS N P l (wGH K Q) D ks .nil σ w:=OKS.e (wJJ h)
theorem cT (hz:ev σ x=.bool (decide p)) (c:Hid p) (h:CK r N P c1 Q D σ w):CK r N P (.cond x c1 c2) Q D σ w:=CK.condT (hz.trans (wSr c.out)) h
theorem cF (hz:ev σ x=.bool (decide p)) (c:Hid (¬ p)) (h:CK r N P c2 Q D σ w):CK r N P (.cond x c1 c2) Q D σ w:=CK.condF (hz.trans (wSs c.out)) h
theorem kN (h:K D σ w):CK r N P .skip (wGH K Q) D σ w:=CK.skip (wJJ h)
end
def fL1:Sch:=.fl 0 .nil
def fL2:Sch:=.fl 0 (.fl 1 .nil)
def fL3:Sch:=.fl 0 (.fl 1 (.fl 2 .nil))
def fL4:Sch:=.fl 0 (.fl 1 gAa)
def fL5:Sch:=.fl 0 (.fl 1 (.fl 2 gAb))
def fL6:Sch:=.fl 0 (.fl 1 (.fl 2 (.fl 3 gAc)))
def fL7:Sch:=.fl 0 (.fl 1 (.fl 2 (.fl 3 (.fl 4 (.fl 5 (.fl 6 .nil))))))
def fL8:Sch:=.fl 0 (.fl 1 (.fl 2 (.fl 3 (.fl 4 (.fl 5 (.fl 6 (.fl 7 .nil)))))))
def fL9:Sch:=.fl 0 (.fl 1 (.fl 2 (.fl 3 (.fl 4 (.fl 5 (.fl 6 gAd))))))
def fL10:Sch:=.fl 0 (.fl 1 (.fl 2 (.fl 3 (.fl 4 (.fl 5 (.fl 6 (.fl 7 (.fl 8 (.fl 9 .nil)))))))))
def fL11:Sch:=.fl 0 (.fl 1 (.fl 2 (.fl 3 (.fl 4 (.fl 5 (.fl 6 (.fl 7 (.fl 8 (.fl 9 (.fl 10 .nil))))))))))
def fL12:Sch:=.fl 0 (.fl 1 (.fl 2 (.fl 3 (.fl 4 (.fl 5 (.fl 6 (.fl 7 (.fl 8 (.fl 9 (.fl 10 (.fl 11 .nil)))))))))))
def fL14:Sch:=.fl 0 (.fl 1 (.fl 2 (.fl 3 (.fl 4 (.fl 5 (.fl 6 (.fl 7 (.fl 8 (.fl 9 (.fl 10 (.fl 11 (.fl 12 (.fl 13 .nil)))))))))))))
def fL15:Sch:=.fl 0 (.fl 1 (.fl 2 (.fl 3 (.fl 4 (.fl 5 (.fl 6 (.fl 7 (.fl 8 (.fl 9 (.fl 10 (.fl 11 (.fl 12 (.fl 13 (.fl 14 .nil))))))))))))))
def fL17:Sch:=.fl 0 (.fl 1 (.fl 2 (.fl 3 (.fl 4 (.fl 5 (.fl 6 (.fl 7 (.fl 8 (.fl 9 (.fl 10 (.fl 11 (.fl 12 (.fl 13 (.fl 14 gAe))))))))))))))
def fL18:Sch:=.fl 0 (.fl 1 (.fl 2 (.fl 3 (.fl 4 (.fl 5 (.fl 6 (.fl 7 (.fl 8 (.fl 9 (.fl 10 (.fl 11 (.fl 12 (.fl 13 (.fl 14 (.fl 15 (.fl 16 (.fl 17 .nil)))))))))))))))))
def fL19:Sch:=.fl 0 (.fl 1 (.fl 2 (.fl 3 (.fl 4 (.fl 5 (.fl 6 (.fl 7 (.fl 8 (.fl 9 (.fl 10 (.fl 11 (.fl 12 (.fl 13 (.fl 14 (.fl 15 (.fl 16 (.fl 17 (.fl 18 .nil))))))))))))))))))
def fL22:Sch:=.fl 0 (.fl 1 (.fl 2 (.fl 3 (.fl 4 (.fl 5 (.fl 6 (.fl 7 (.fl 8 (.fl 9 (.fl 10 (.fl 11 (.fl 12 (.fl 13 (.fl 14 (.fl 15 (.fl 16 (.fl 17 (.fl 18 (.fl 19 (.fl 20 (.fl 21 .nil)))))))))))))))))))))
def fL23:Sch:=.fl 0 (.fl 1 (.fl 2 (.fl 3 (.fl 4 (.fl 5 (.fl 6 (.fl 7 (.fl 8 (.fl 9 (.fl 10 (.fl 11 (.fl 12 (.fl 13 (.fl 14 (.fl 15 (.fl 16 (.fl 17 (.fl 18 (.fl 19 (.fl 20 (.fl 21 (.fl 22 .nil))))))))))))))))))))))
def fL26:Sch:=.fl 0 (.fl 1 (.fl 2 (.fl 3 (.fl 4 (.fl 5 (.fl 6 (.fl 7 (.fl 8 (.fl 9 (.fl 10 (.fl 11 (.fl 12 (.fl 13 (.fl 14 (.fl 15 (.fl 16 (.fl 17 (.fl 18 (.fl 19 (.fl 20 (.fl 21 (.fl 22 (.fl 23 (.fl 24 (.fl 25 .nil)))))))))))))))))))))))))
def fL43:Sch:=.fl 0 (.fl 1 (.fl 2 (.fl 3 (.fl 4 (.fl 5 (.fl 6 (.fl 7 (.fl 8 (.fl 9 (.fl 10 (.fl 11 (.fl 12 (.fl 13 (.fl 14 (.fl 15 (.fl 16 (.fl 17 (.fl 18 (.fl 19 (.fl 20 (.fl 21 (.fl 22 (.fl 23 (.fl 24 (.fl 25 (.fl 26 (.fl 27 (.fl 28 (.fl 29 (.fl 30 (.fl 31 (.fl 32 (.fl 33 (.fl 34 (.fl 35 (.fl 36 (.fl 37 (.fl 38 (.fl 39 (.fl 40 (.fl 41 (.fl 42 .nil))))))))))))))))))))))))))))))))))))))))))
def wEF (s:Sch):Sch:=.fl 0 (.fl 1 (.fl 2 (s)))
def wEu (s:Sch):Sch:=.fl 0 (.fl 1 (.fl 2 (.fl 3 (s))))
def wGG (s:Sch):Sch:=.fl 0 (.fl 1 (.fl 2 (.fl 3 (.fl 4 (s)))))
def wHD (s:Sch):Sch:=.fl 0 (.fl 1 (.fl 2 (.fl 3 (.fl 4 (.fl 5 (s))))))
def wQP (s:Sch):Sch:=.fl 0 (.fl 1 (.fl 2 (.fl 3 (.fl 4 (.fl 5 (.fl 6 (s)))))))
def fC0_7 (s:Sch):Sch:=.fl 0 (.fl 1 (.fl 2 (.fl 3 (.fl 4 (.fl 5 (.fl 6 (.fl 7 (s))))))))
def fC0_9 (s:Sch):Sch:=.fl 0 (.fl 1 (.fl 2 (.fl 3 (.fl 4 (.fl 5 (.fl 6 (.fl 7 (.fl 8 (.fl 9 (s))))))))))
def wPK (s:Sch):Sch:=.fl 0 (.fl 1 (.fl 2 (.fl 3 (.fl 4 (.fl 5 (.fl 6 (.fl 7 (.fl 8 (.fl 9 (.fl 10 (.fl 11 (.fl 12 (.fl 13 (s))))))))))))))
def wUJ (s:Sch):Sch:=.fl 0 (.fl 1 (.fl 2 (.fl 3 (.fl 4 (.fl 5 (.fl 6 (.fl 7 (.fl 8 (.fl 9 (.fl 10 (.fl 11 (.fl 12 (.fl 13 (.fl 14 (.fl 15 (s))))))))))))))))
def wQt (s:Sch):Sch:=.fl 0 (.fl 1 (.fl 2 (.fl 3 (.fl 4 (.fl 5 (.fl 6 (.fl 7 (.fl 8 (.fl 9 (.fl 10 (.fl 11 (.fl 12 (.fl 13 (.fl 14 (.fl 15 (.fl 16 (s)))))))))))))))))
def wUK (s:Sch):Sch:=.fl 0 (.fl 1 (.fl 2 (.fl 3 (.fl 4 (.fl 5 (.fl 6 (.fl 7 (.fl 8 (.fl 9 (.fl 10 (.fl 11 (.fl 12 (.fl 13 (.fl 14 (.fl 15 (.fl 16 (.fl 17 (s))))))))))))))))))
def wUL (s:Sch):Sch:=.fl 0 (.fl 1 (.fl 2 (.fl 3 (.fl 4 (.fl 5 (.fl 6 (.fl 7 (.fl 8 (.fl 9 (.fl 10 (.fl 11 (.fl 12 (.fl 13 (.fl 14 (.fl 15 (.fl 16 (.fl 17 (.fl 18 (.fl 19 (.fl 20 (s)))))))))))))))))))))
def wQu (s:Sch):Sch:=.fl 0 (.fl 1 (.fl 2 (.fl 3 (.fl 4 (.fl 5 (.fl 6 (.fl 7 (.fl 8 (.fl 9 (.fl 10 (.fl 11 (.fl 12 (.fl 13 (.fl 14 (.fl 15 (.fl 16 (.fl 17 (.fl 18 (.fl 19 (.fl 20 (.fl 21 (s))))))))))))))))))))))
def wUM (s:Sch):Sch:=.fl 0 (.fl 1 (.fl 2 (.fl 3 (.fl 4 (.fl 5 (.fl 6 (.fl 7 (.fl 8 (.fl 9 (.fl 10 (.fl 11 (.fl 12 (.fl 13 (.fl 14 (.fl 15 (.fl 16 (.fl 17 (.fl 18 (.fl 19 (.fl 20 (.fl 21 (.fl 22 (.fl 23 (.fl 24 (.fl 25 (.fl 26 (.fl 27 (s))))))))))))))))))))))))))))
def fC1_5 (s:Sch):Sch:=.fl 1 (.fl 2 (.fl 3 (.fl 4 (.fl 5 (s)))))
def wUN (s:Sch):Sch:=.fl 1 (.fl 2 (.fl 3 (.fl 4 (.fl 5 (.fl 6 (.fl 7 (.fl 8 (.fl 9 (.fl 10 (.fl 11 (.fl 12 (.fl 13 (.fl 14 (.fl 15 (.fl 16 (.fl 17 (.fl 18 (.fl 19 (s)))))))))))))))))))
def fC2_5 (s:Sch):Sch:=.fl 2 (.fl 3 (.fl 4 (.fl 5 (s))))
def wUO (s:Sch):Sch:=.fl 2 (.fl 3 (.fl 4 (.fl 5 (.fl 6 (s)))))
def wLe (s:Sch):Sch:=.fl 3 (.fl 4 (.fl 5 (s)))
def wUP (s:Sch):Sch:=.fl 3 (.fl 4 (.fl 5 (.fl 6 (s))))
def wUQ (s:Sch):Sch:=.fl 4 (.fl 5 (.fl 6 (s)))
def wSb (s:Sch):Sch:=.fl 4 (.fl 5 (.fl 6 (.fl 7 (.fl 8 (s)))))
def wUR (s:Sch):Sch:=.fl 4 (.fl 5 (.fl 6 (.fl 7 (.fl 8 (.fl 9 (.fl 10 (.fl 11 (.fl 12 (.fl 13 (.fl 14 (s)))))))))))
def wUS (s:Sch):Sch:=.fl 4 (.fl 5 (.fl 6 (.fl 7 (.fl 8 (.fl 9 (.fl 10 (.fl 11 (.fl 12 (.fl 13 (.fl 14 (.fl 15 (.fl 16 (.fl 17 (.fl 18 (s)))))))))))))))
def wUT (s:Sch):Sch:=.fl 4 (.fl 5 (.fl 6 (.fl 7 (.fl 8 (.fl 9 (.fl 10 (.fl 11 (.fl 12 (.fl 13 (.fl 14 (.fl 15 (.fl 16 (.fl 17 (.fl 18 (.fl 19 (.fl 20 (.fl 21 (s))))))))))))))))))
def wUU (s:Sch):Sch:=.fl 4 (.fl 5 (.fl 6 (.fl 7 (.fl 8 (.fl 9 (.fl 10 (.fl 11 (.fl 12 (.fl 13 (.fl 14 (.fl 15 (.fl 16 (.fl 17 (.fl 18 (.fl 19 (.fl 20 (.fl 21 (.fl 22 (.fl 23 (s))))))))))))))))))))
def wPL (s:Sch):Sch:=.fl 5 (.fl 6 (.fl 7 (s)))
def fC5_8 (s:Sch):Sch:=.fl 5 (.fl 6 (.fl 7 (.fl 8 (s))))
def wJj (s:Sch):Sch:=.fl 5 (.fl 6 (.fl 7 (.fl 8 (.fl 9 (s)))))
def wUV (s:Sch):Sch:=.fl 5 (.fl 6 (.fl 7 (.fl 8 (.fl 9 (.fl 10 (.fl 11 (s)))))))
def wQv (s:Sch):Sch:=.fl 5 (.fl 6 (.fl 7 (.fl 8 (.fl 9 (.fl 10 (.fl 11 (.fl 12 (.fl 13 (.fl 14 (.fl 15 (s)))))))))))
def fC6_8 (s:Sch):Sch:=.fl 6 (.fl 7 (.fl 8 (s)))
def wQw (s:Sch):Sch:=.fl 6 (.fl 7 (.fl 8 (.fl 9 (.fl 10 (s)))))
def wQx (s:Sch):Sch:=.fl 6 (.fl 7 (.fl 8 (.fl 9 (.fl 10 (.fl 11 (.fl 12 (s)))))))
def wPM (s:Sch):Sch:=.fl 7 (.fl 8 (.fl 9 (.fl 10 (.fl 11 (.fl 12 (s))))))
def wQy (s:Sch):Sch:=.fl 7 (.fl 8 (.fl 9 (.fl 10 (.fl 11 (.fl 12 (.fl 13 (s)))))))
def wUW (s:Sch):Sch:=.fl 8 (.fl 9 (.fl 10 (s)))
def wKh (s:Sch):Sch:=.fl 8 (.fl 9 (.fl 10 (.fl 11 (s))))
def wUX (s:Sch):Sch:=.fl 9 (.fl 10 (.fl 11 (s)))
def wEj (s:Sch):Sch:=.fl 9 (.fl 10 (.fl 11 (.fl 12 (s))))
def wSc (s:Sch):Sch:=.fl 10 (.fl 11 (.fl 12 (.fl 13 (.fl 14 (.fl 15 (.fl 16 (.fl 17 (.fl 18 (.fl 19 (.fl 20 (.fl 21 (.fl 22 (s)))))))))))))
def wSd (s:Sch):Sch:=.fl 11 (.fl 12 (.fl 13 (.fl 14 (.fl 15 (.fl 16 (s))))))
def wSe (s:Sch):Sch:=.fl 11 (.fl 12 (.fl 13 (.fl 14 (.fl 15 (.fl 16 (.fl 17 (.fl 18 (s))))))))
def wSf (s:Sch):Sch:=.fl 13 (.fl 14 (.fl 15 (.fl 16 (.fl 17 (s)))))
def wSg (s:Sch):Sch:=.fl 14 (.fl 15 (.fl 16 (.fl 17 (.fl 18 (.fl 19 (.fl 20 (.fl 21 (s))))))))
def wSh (s:Sch):Sch:=.fl 18 (.fl 19 (.fl 20 (.fl 21 (.fl 22 (.fl 23 (s))))))
theorem zA:type_of% @nH:=@nH
theorem zB:type_of% @wNI:=@wNI
theorem zC:type_of% @Tryz.sizeOf3:=@Tryz.sizeOf3
theorem zD:type_of% @Tryz.runUnderlying22:=@Tryz.runUnderlying22
theorem zE:type_of% @Runs.fa:=@Runs.fa
theorem zF:type_of% @Tryz.isAgg3:=@Tryz.isAgg3
theorem zG:type_of% @OKS.callH:=@OKS.callH
theorem zH:type_of% @Enters.mk:=@Enters.mk
theorem zI:type_of% @Tryz.sizeOf123:=@Tryz.sizeOf123
theorem zJ:type_of% @CK.seq:=@CK.seq
theorem zK:type_of% @wJJ:=@wJJ
theorem zL:type_of% @Hid.mk:=@Hid.mk
theorem zM:type_of% @wQQ:=@wQQ
theorem zN:type_of% @wNH:=@wNH
theorem zO:type_of% @wJN:=@wJN
theorem zP:type_of% @CK.ret:=@CK.ret
theorem zQ:type_of% @PHeap.Le.refl:=@PHeap.Le.refl
theorem zR:type_of% @Tryz.runUnderlying36:=@Tryz.runUnderlying36
theorem zS:type_of% @Tryz.sizeOf39:=@Tryz.sizeOf39
theorem zU:type_of% @Tryz.runUnderlying27:=@Tryz.runUnderlying27
theorem zV:type_of% @OKS.alloc:=@OKS.alloc
theorem zW:type_of% @Tryz.sizeOf22:=@Tryz.sizeOf22
theorem zX:type_of% @Tryz.isAgg22:=@Tryz.isAgg22
theorem zY:type_of% @OKS.st:=@OKS.st
theorem zZ:type_of% @Tryz.runUnderlying49:=@Tryz.runUnderlying49
theorem zd:type_of% @CK.block:=@CK.block
theorem ze:type_of% @Runs.ext:=@Runs.ext
theorem zf:type_of% @Runs.lss:=@Runs.lss
theorem zg:type_of% @wLg:=@wLg
theorem zh:type_of% @Tryz.isAgg123:=@Tryz.isAgg123
theorem zi:type_of% @Runs.len:=@Runs.len
theorem zj:type_of% @Runs.addw:=@Runs.addw
theorem zk:type_of% @Tryz.zeroValue123:=@Tryz.zeroValue123
theorem zl:type_of% @Tryz.sizeOf27:=@Tryz.sizeOf27
theorem zm:type_of% @Runs.pickT:=@Runs.pickT
theorem zn:type_of% @Tryz.mixed:=@Tryz.mixed
theorem zo:type_of% @wNG:=@wNG
theorem zq:type_of% @OKS.r:=@OKS.r
theorem zr:type_of% @CK.condF:=@CK.condF
theorem zt:type_of% @OKS.both:=@OKS.both
theorem zu:type_of% @wHg:=@wHg
theorem zw:type_of% @OKS.e:=@OKS.e
theorem zx:type_of% @CK.anyOrd:=@CK.anyOrd
theorem zy:type_of% @OKS.box:=@OKS.box
theorem zz:type_of% @Runs.pickF:=@Runs.pickF
theorem ZA:type_of% @Tryz.isAgg27:=@Tryz.isAgg27
theorem ZB:type_of% @Runs.iaI:=@Runs.iaI
theorem ZC:type_of% @Runs.build:=@Runs.build
theorem ZD:type_of% @Tryz.runUnderlying23:=@Tryz.runUnderlying23
theorem ZE:type_of% @wLf:=@wLf
theorem ZF:type_of% @Tryz.runUnderlying136:=@Tryz.runUnderlying136
theorem ZG:type_of% @CK.condT:=@CK.condT
theorem ZH:type_of% @Tryz.sizeOf36:=@Tryz.sizeOf36
theorem ZI:type_of% @OKS.m:=@OKS.m
theorem ZJ:type_of% @OKS.rm:=@OKS.rm
theorem ZK:type_of% @Tryz.runUnderlying139:=@Tryz.runUnderlying139
theorem ZL:type_of% @res1:=@res1
theorem ZM:type_of% @Tryz.runUnderlying93:=@Tryz.runUnderlying93
theorem ZN:type_of% @Tryz.sizeOf29:=@Tryz.sizeOf29
theorem ZO:type_of% @Tryz.runUnderlying39:=@Tryz.runUnderlying39
theorem ZP:type_of% @Runs.iaN:=@Runs.iaN
theorem ZQ:type_of% @Tryz.zeroValue39:=@Tryz.zeroValue39
theorem ZR:type_of% @OKS.cutD:=@OKS.cutD
theorem ZS:type_of% @Tryz.isAgg36:=@Tryz.isAgg36
theorem ZT:type_of% @Tryz.isAgg39:=@Tryz.isAgg39
theorem ZU:type_of% @Tryz.runUnderlying133:=@Tryz.runUnderlying133
theorem ZV:type_of% @Tryz.zeroValue3:=@Tryz.zeroValue3
theorem ZW:type_of% @Tryz.runUnderlying24:=@Tryz.runUnderlying24
theorem ZX:type_of% @wJK:=@wJK
theorem ZY:type_of% @Tryz.zeroValue133:=@Tryz.zeroValue133
theorem Za:type_of% @wSs:=@wSs
theorem Zb:type_of% @OKS.p:=@OKS.p
theorem Zc:type_of% @OKS.mx2:=@OKS.mx2
theorem Zd:type_of% @Runs.to:=@Runs.to
theorem Ze:type_of% @Tryz.sizeOf200:=@Tryz.sizeOf200
theorem Zf:type_of% @CK.exit:=@CK.exit
theorem Zg:type_of% @Tryz.sizeOf23:=@Tryz.sizeOf23
theorem Zh:type_of% @Tryz.isAgg29:=@Tryz.isAgg29
theorem Zi:type_of% @Tryz.runUnderlying33:=@Tryz.runUnderlying33
theorem Zj:type_of% @Tryz.runUnderlying117:=@Tryz.runUnderlying117
theorem Zk:type_of% @OKS.buildSlice:=@OKS.buildSlice
theorem Zl:type_of% @Tryz.isAgg23:=@Tryz.isAgg23
theorem Zm:type_of% @Runs.notT:=@Runs.notT
theorem Zn:type_of% @Tryz.runUnderlying25:=@Tryz.runUnderlying25
theorem Zo:type_of% @Runs.neq:=@Runs.neq
theorem Zp:type_of% @wSr:=@wSr
theorem Zq:type_of% @Tryz.sizeOf133:=@Tryz.sizeOf133
theorem Zr:type_of% @CK.skip:=@CK.skip
theorem Zs:type_of% @Tryz.sizeOf115:=@Tryz.sizeOf115
theorem Zt:type_of% @Tryz.sizeOf33:=@Tryz.sizeOf33
theorem Zu:type_of% @Tryz.runUnderlying115:=@Tryz.runUnderlying115
theorem Zv:type_of% @Tryz.sizeOf112:=@Tryz.sizeOf112
theorem Zw:type_of% @Tryz.sizeOf136:=@Tryz.sizeOf136
theorem Zx:type_of% @Tryz.zeroValue200:=@Tryz.zeroValue200
theorem Zy:type_of% @Tryz.runUnderlying29:=@Tryz.runUnderlying29
theorem Zz:type_of% @Runs.nilp:=@Runs.nilp
theorem yA:type_of% @Tryz.zeroValue36:=@Tryz.zeroValue36
theorem yB:type_of% @Tryz.isAgg136:=@Tryz.isAgg136
theorem yC:type_of% @Tryz.zeroValue118:=@Tryz.zeroValue118
theorem yD:type_of% @Tryz.runUnderlying34:=@Tryz.runUnderlying34
theorem yE:type_of% @Tryz.sizeOf24:=@Tryz.sizeOf24
theorem yF:type_of% @Tryz.isAgg33:=@Tryz.isAgg33
theorem yG:type_of% @Tryz.runUnderlying201:=@Tryz.runUnderlying201
theorem yH:type_of% @Tryz.isAgg24:=@Tryz.isAgg24
theorem yI:type_of% @Tryz.runUnderlying200:=@Tryz.runUnderlying200
theorem yJ:type_of% @Tryz.runUnderlying116:=@Tryz.runUnderlying116
theorem yK:type_of% @Tryz.call65:=@Tryz.call65
theorem yL:type_of% @Tryz.call71:=@Tryz.call71
theorem yM:type_of% @Tryz.runUnderlying44:=@Tryz.runUnderlying44
theorem yN:type_of% @Tryz.sizeOf34:=@Tryz.sizeOf34
theorem yO:type_of% @Tryz.sizeOf117:=@Tryz.sizeOf117
theorem yP:type_of% @CK.forN:=@CK.forN
theorem yQ:type_of% @CK.cut:=@CK.cut
theorem yR:type_of% @Tryz.sizeOf25:=@Tryz.sizeOf25
theorem yS:type_of% @Tryz.sizeOf93:=@Tryz.sizeOf93
theorem yU:type_of% @OKS.px:=@OKS.px
theorem yV:type_of% @Runs.subw:=@Runs.subw
theorem yW:type_of% @Tryz.isAgg25:=@Tryz.isAgg25
theorem yX:type_of% @Tryz.isAgg118:=@Tryz.isAgg118
theorem yY:type_of% @Tryz.zeroValue27:=@Tryz.zeroValue27
theorem yZ:type_of% @Tryz.sizeOf116:=@Tryz.sizeOf116
theorem ya:type_of% @Tryz.runUnderlying112:=@Tryz.runUnderlying112
theorem yb:type_of% @Tryz.runUnderlying184:=@Tryz.runUnderlying184
theorem yc:type_of% @Tryz.call74:=@Tryz.call74
theorem yd:type_of% @Runs.gtr:=@Runs.gtr
theorem ye:type_of% @OKS.append:=@OKS.append
theorem yf:type_of% @Tryz.isAgg34:=@Tryz.isAgg34
theorem yg:type_of% @Tryz.call127:=@Tryz.call127
theorem yh:type_of% @Tryz.isAgg93:=@Tryz.isAgg93
theorem yi:type_of% @OKS.ra:=@OKS.ra
theorem yj:type_of% @CK.fresh:=@CK.fresh
theorem yk:type_of% @Tryz.sizeOf137:=@Tryz.sizeOf137
theorem yl:type_of% @Tryz.call66:=@Tryz.call66
theorem ym:type_of% @Tryz.isAgg115:=@Tryz.isAgg115
theorem yn:type_of% @Tryz.isAgg200:=@Tryz.isAgg200
theorem yo:type_of% @Runs.negw:=@Runs.negw
theorem yp:type_of% @OKS.stR:=@OKS.stR
theorem yq:type_of% @Tryz.call122:=@Tryz.call122
theorem yr:type_of% @RunsK.to:=@RunsK.to
theorem yt:type_of% @CK.iter:=@CK.iter
end Go.Proofs.YtlnfbjphfoipaaaGreat
namespace Go.Proofs.YtlnfbjphfoipaaaGreat
open Go.KL
set_option maxHeartbeats 4000000
theorem wGA (p0:wAA) (aj:Option Addr) (aq:Nat) (ak:Option Addr) (au:Nat) (am:Option Addr) (av:Nat) (ap:Option Addr) (az:Nat) (w:World) (U:PHeap) (hS:St0 w U []) (aY:Sl U 1 aj aq p0.Starts.length (hH KL.encI p0.Starts)) (aZ:Sl U 2 ak au p0.Splits.length (hH wAB p0.Splits)) (a0:Sl U 3 am av p0.Clocks.length (hH wAD p0.Clocks)) (ba:Sl U 4 ap az p0.Readings.length (hH wAC p0.Readings)) {r:Bool} (hm:wBd p0=some r):Gv Tryz.prog 8 [.agg #[.slice aj p0.Starts.length aq,.slice ak p0.Splits.length au,.slice am p0.Clocks.length av,.slice ap p0.Readings.length az]] w (wCq w [] U (fun U_ L_ v=>v=.bool r/\L_=[])):=by
 unfold wBd at hm
 refine Gv.of Tryz.func8 rfl Tryz.ntmps8 Tryz.results8 rfl (sR gAf rfl (zy (cs:=[.slice aj p0.Starts.length aq,.slice ak p0.Splits.length au,.slice am p0.Clocks.length av,.slice ap p0.Readings.length az]) rfl rfl rfl rfl rfl rfl (by rfl) hS ?_))
 intro W1 b2 ai
 refine oA Z Z (eN (sR fL23 Z (oR Z (zE Z Z zU Z zW) (oL Z (ai.ldB (j:=0) Z Z Z zX (v:=.slice aj p0.Starts.length aq) Z) (oR Z (zi Z Z zD) (oR Z (yd Z Z Z) (oM Z Z ?_)))))))
 by_cases c5:10 < (↑p0.Starts.length:Int)
 have aR:=hm;rw [if_pos c5] at aR;replace c5:=zL c5
 refine oT Z c5 (oT Z c5 (oT Z c5 (oT Z c5 (oR Z (zm Z (Zp c5.out) Z) (oM Z Z (oN Z (oN Z (oN Z (oN Z (oR Z (zm Z Z Z) (oM Z Z (oN Z (oN Z (oN Z (oN Z (oR Z (zm Z Z Z) (oA Z Z (eN (zP ?_)))))))))))))))))))
 have hE:=nA aR;first | subst r | cases hE
 exact ⟨rfl,_,(ZL rfl),U,_,(ai.pick [] _ (by decide) rfl),rfl,rfl⟩
 have aS:=hm;rw [if_neg c5] at aS;replace c5:=zL c5
 refine rU Z (wF Z c5) (zE Z Z zU Z Zg) (ZI Z Z Z (wF Z c5) (ai.ldB (j:=0) Z Z Z Zl (v:=.slice ak p0.Splits.length au) Z) Z (rU Z (wF Z c5) (zi Z Z ZD) (rU Z (wF Z c5) (yd Z Z Z) (oR Z (zz Z (Za c5.out) Z) (oM Z Z (ifc aS ?_ ?_))))))
 intro c8 aV
 refine oT Z c8 (oT Z c8 (oT Z c8 (oT Z c8 (oR Z (zm Z (Zp c8.out) Z) (oM Z Z (oN Z (oN Z (oN Z (oN Z (oR Z (zm Z Z Z) (oA Z Z (eN (zP ?_)))))))))))))
 have hE:=nA aV;first | subst r | cases hE
 exact ⟨rfl,_,(ZL rfl),U,_,(ai.pick [] _ (by decide) rfl),rfl,rfl⟩
 intro c8 aT
 refine rU Z (wF Z c8) (zE Z Z zU Z yE) (ZI Z Z Z (wF Z c8) (ai.ldB (j:=0) Z Z Z yH (v:=.slice am p0.Clocks.length av) Z) Z (rU Z (wF Z c8) (zi Z Z ZW) (rU Z (wF Z c8) (yd Z Z Z) (oR Z (zz Z (Za c8.out) Z) (oM Z Z (ifc aT ?_ ?_))))))
 intro ae aU
 refine oT Z ae (oT Z ae (oT Z ae (oT Z ae (oR Z (zm Z (Zp ae.out) Z) (oA Z Z (eN (zP ?_)))))))
 have hE:=nA aU;first | subst r | cases hE
 exact ⟨rfl,_,(ZL rfl),U,_,(ai.pick [] _ (by decide) rfl),rfl,rfl⟩
 intro ae aQ
 refine rU Z (wF Z ae) (zE Z Z zU Z yR) (ZI Z Z Z (wF Z ae) (ai.ldB (j:=0) Z Z Z yW (v:=.slice ap p0.Readings.length az) Z) Z (rU Z (wF Z ae) (zi Z Z Zn) (rU Z (wF Z ae) (yd Z Z Z) (oR Z (zz Z (Za ae.out) Z) (oA Z Z (eN (zP ?_)))))))
 first | (obtain rfl:=nA aQ) | cases aQ
 exact ⟨rfl,_,(ZL rfl),U,_,(ai.pick [] _ (by decide) rfl),rfl,rfl⟩
theorem wCS (w:World) (U:PHeap) (hS:St0 w U []) {r:Bool} (hm:wBY=some r):Gv Tryz.prog 9 [] w (wCq w [] U (fun U_ L_ v=>v=.bool r/\L_=[])):=by
 cases hm
 refine (xr9 w).mono ?_
 rintro v w' ⟨rfl,k⟩
 exact ⟨U,[],hS.grow k,Z,Z⟩
theorem wCs (p0:List Int) (ak:Option Addr) (am:Nat) (w:World) (U:PHeap) (hS:St0 w U []) (aR:Sl U 1 ak am p0.length (hH KL.encI p0)) {r:(List Int)} (hm:wBJ p0=some r):Gv Tryz.prog 32 [.slice ak p0.length am] w (wCq w [] U (fun U_ L_ v=>∃ (A0:Option Addr) (c0:Nat),v=.slice A0 r.length c0/\L_=[.row A0 c0 3 1 (hH KL.encI r)])):=by
 unfold wBJ at hm
 refine Gv.of Tryz.func32 Z Tryz.ntmps32 Tryz.results32 Z (sR fL1 Z (oA Z Z (eN (sR gAt Z (oM Z Z ?_)))))
 have av:=hS.nilrow 3 1
 have aj:sW w U U [.row none 0 3 1 (hH KL.encI ([]:List Int))] w:=av
 refine bnK hm fun x4 h5 aS=>ye (j:=0) (enc:=KL.encI) (xs:=([]:List Int)) (ys:=p0) (zs:=x4) Z Z Z Z Z Tryz.underlying22 wOq Z Z Z Z Z Z aj Z Z Z (aj.srcS aR) (fun _=>Z) (fun _=>Z) h5 Z ?_
 intro A7 c8 W9 az
 have aQ:sW w U U [.row A7 c8 3 1 (hH KL.encI x4)] W9:=az
 refine oA Z Z (eN (zP ?_))
 have hE:=nA aS;first | subst r | cases hE
 exact ⟨Z,_,(ZL Z),U,_,aQ,A7,c8,Z,Z⟩
theorem wBX (p0:List wAL) (ak:Option Addr) (am:Nat) (w:World) (U:PHeap) (hS:St0 w U []) (aR:Sl U 2 ak am p0.length (hH wAB p0)) {r:(List wAL)} (hm:wAo p0=some r):Gv Tryz.prog 60 [.slice ak p0.length am] w (wCq w [] U (fun U_ L_ v=>∃ (A0:Option Addr) (c0:Nat),v=.slice A0 r.length c0/\L_=[.row A0 c0 39 2 (hH wAB r)])):=by
 unfold wAo at hm
 refine Gv.of Tryz.func60 Z Tryz.ntmps60 Tryz.results60 Z (sR fL1 Z (oA Z Z (eN (sR gAt Z (oM Z Z ?_)))))
 have av:=hS.nilrow 39 2
 have aj:sW w U U [.row none 0 39 2 (hH wAB ([]:List wAL))] w:=av
 refine bnK hm fun x4 h5 aS=>ye (j:=0) (enc:=wAB) (xs:=([]:List wAL)) (ys:=p0) (zs:=x4) Z Z Z Z Z Tryz.underlying23 wTo Z Z Z Z Z Z aj Z Z Z (aj.srcS aR) (fun _=>Z) (fun _=>Z) h5 Z ?_
 intro A7 c8 W9 az
 have aQ:sW w U U [.row A7 c8 39 2 (hH wAB x4)] W9:=az
 refine oA Z Z (eN (zP ?_))
 have hE:=nA aS;first | subst r | cases hE
 exact ⟨Z,_,(ZL Z),U,_,aQ,A7,c8,Z,Z⟩
theorem wDz (p0:List wAb) (ak:Option Addr) (am:Nat) (w:World) (U:PHeap) (hS:St0 w U []) (aR:Sl U 3 ak am p0.length (hH wAD p0)) {r:(List wAb)} (hm:wBM p0=some r):Gv Tryz.prog 61 [.slice ak p0.length am] w (wCq w [] U (fun U_ L_ v=>∃ (A0:Option Addr) (c0:Nat),v=.slice A0 r.length c0/\L_=[.row A0 c0 112 3 (hH wAD r)])):=by
 unfold wBM at hm
 refine Gv.of Tryz.func61 Z Tryz.ntmps61 Tryz.results61 Z (sR fL1 Z (oA Z Z (eN (sR gAt Z (oM Z Z ?_)))))
 have av:=hS.nilrow 112 3
 have aj:sW w U U [.row none 0 112 3 (hH wAD ([]:List wAb))] w:=av
 refine bnK hm fun x4 h5 aS=>ye (j:=0) (enc:=wAD) (xs:=([]:List wAb)) (ys:=p0) (zs:=x4) Z Z Z Z Z Tryz.underlying24 wSE Z Z Z Z Z Z aj Z Z Z (aj.srcS aR) (fun _=>Z) (fun _=>Z) h5 Z ?_
 intro A7 c8 W9 az
 have aQ:sW w U U [.row A7 c8 112 3 (hH wAD x4)] W9:=az
 refine oA Z Z (eN (zP ?_))
 have hE:=nA aS;first | subst r | cases hE
 exact ⟨Z,_,(ZL Z),U,_,aQ,A7,c8,Z,Z⟩
theorem wDj (p0:List wAT) (ak:Option Addr) (am:Nat) (w:World) (U:PHeap) (hS:St0 w U []) (aR:Sl U 4 ak am p0.length (hH wAC p0)) {r:(List wAT)} (hm:wBD p0=some r):Gv Tryz.prog 62 [.slice ak p0.length am] w (wCq w [] U (fun U_ L_ v=>∃ (A0:Option Addr) (c0:Nat),v=.slice A0 r.length c0/\L_=[.row A0 c0 115 4 (hH wAC r)])):=by
 unfold wBD at hm
 refine Gv.of Tryz.func62 Z Tryz.ntmps62 Tryz.results62 Z (sR fL1 Z (oA Z Z (eN (sR gAt Z (oM Z Z ?_)))))
 have av:=hS.nilrow 115 4
 have aj:sW w U U [.row none 0 115 4 (hH wAC ([]:List wAT))] w:=av
 refine bnK hm fun x4 h5 aS=>ye (j:=0) (enc:=wAC) (xs:=([]:List wAT)) (ys:=p0) (zs:=x4) Z Z Z Z Z Tryz.underlying25 wSF Z Z Z Z Z Z aj Z Z Z (aj.srcS aR) (fun _=>Z) (fun _=>Z) h5 Z ?_
 intro A7 c8 W9 az
 have aQ:sW w U U [.row A7 c8 115 4 (hH wAC x4)] W9:=az
 refine oA Z Z (eN (zP ?_))
 have hE:=nA aS;first | subst r | cases hE
 exact ⟨Z,_,(ZL Z),U,_,aQ,A7,c8,Z,Z⟩
theorem wCT (p0:wAA) (ap:Option Addr) (az:Nat) (aq:Option Addr) (aQ:Nat) (au:Option Addr) (aR:Nat) (av:Option Addr) (aS:Nat) (w:World) (U:PHeap) (hS:St0 w U []) (b9:Sl U 1 ap az p0.Starts.length (hH KL.encI p0.Starts)) (cb:Sl U 2 aq aQ p0.Splits.length (hH wAB p0.Splits)) (cd:Sl U 3 au aR p0.Clocks.length (hH wAD p0.Clocks)) (cf:Sl U 4 av aS p0.Readings.length (hH wAC p0.Readings)) {r:wAA} (hm:wBr p0=some r):Gv Tryz.prog 10 [.agg #[.slice ap p0.Starts.length az,.slice aq p0.Splits.length aQ,.slice au p0.Clocks.length aR,.slice av p0.Readings.length aS]] w (wCq w [] U (fun U_ L_ v=>∃ (bh:Option Addr) (bv:Nat) (bi:Option Addr) (bw:Nat) (bj:Option Addr) (bz:Nat) (bk:Option Addr) (bA:Nat),v=.agg #[.slice bh r.Starts.length bv,.slice bi r.Splits.length bw,.slice bj r.Clocks.length bz,.slice bk r.Readings.length bA]/\L_=[.row bh bv 3 1 (hH KL.encI r.Starts),.row bi bw 39 2 (hH wAB r.Splits),.row bj bz 112 3 (hH wAD r.Clocks),.row bk bA 115 4 (hH wAC r.Readings)])):=by
 unfold wBr at hm
 refine Gv.of Tryz.func10 Z Tryz.ntmps10 Tryz.results10 Z (sR gAh Z ?_)
 let B0:List Value:=[.slice ap p0.Starts.length az,.slice aq p0.Splits.length aQ,.slice au p0.Clocks.length aR,.slice av p0.Readings.length aS]
 refine zy (cs:=B0) rfl rfl rfl rfl rfl rfl (by rfl) hS ?_
 intro W1 b2 bS
 let B1:List Value:=[.slice none 0 0,.slice none 0 0,.slice none 0 0,.slice none 0 0]
 refine zV (cs:=B1) Z Z Z Z Z yY Z bS ?_
 intro W5 b6 bZ
 refine eN (zJ (zx zn [3,1,2,3,1,2,3,1,2,3,1,2,3,0] (.fl 0 (.fl 1 (.fl 3 (.fl 4 (.fl 6 (.fl 7 (.fl 9 (.fl 10 (.fx 2 (.fx 5 (.fx 8 (.fx 11 (.fl 12 (.fx 13 .nil .stop)) .stop) .stop) .stop) .stop))))))))) (by kernel_rfl) ?_))
 have ah:=bZ.drew
 generalize hw_W10:({ W5 with drawn:=W5.drawn + 1 }:World)=bD at ah ⊢
 refine oR Z (zE Z Z zU Z zW) (oL Z (ah.ldB (j:=1) Z Z Z zX (v:=.slice ap p0.Starts.length az) Z) (oR Z (zE Z Z zU Z Zg) (oL Z (ah.ldB (j:=1) Z Z Z Zl (v:=.slice aq p0.Splits.length aQ) Z) (oR Z (zE Z Z zU Z yE) (oL Z (ah.ldB (j:=1) Z Z Z yH (v:=.slice au p0.Clocks.length aR) Z) (oR Z (zE Z Z zU Z yR) (oL Z (ah.ldB (j:=1) Z Z Z yW (v:=.slice av p0.Readings.length aS) Z) (bnK hm fun bf bG cg=>zG 0 Z Z Z Z (zH Z Z Tryz.call32 (zB Z zM) Z) ah (fun hs=>wCs p0.Starts ap az bD U hs b9 bG) (.inr Z) ?_))))))))
 rintro bn cq cy bq be bQ ⟨aT,aY,rfl,rfl⟩
 let B2:Res:=.row aT aY 3 1 (hH KL.encI bf)
 have bR:sW w U bn [B2,.blk b6 27 B1,.blk b2 27 B0] bq:=bQ
 have bH:=cb.le be
 refine bnK cg fun bg bI cj=>zG 0 Z Z Z Z (zH Z Z Tryz.call60 (zB Z zM) Z) bR (fun hs=>wBX p0.Splits aq aQ bq bn hs bH bI) (.inr Z) ?_
 rintro bo cr cz br bC bT ⟨aU,aZ,rfl,rfl⟩
 let B3:Res:=.row aU aZ 39 2 (hH wAB bg)
 have bU:sW w U bo [B3,B2,.blk b6 27 B1,.blk b2 27 B0] br:=bT
 have bJ:=cd.le be
 have bK:=bJ.le bC
 refine bnK cj fun x40 bL cm=>zG 0 Z Z Z Z (zH Z Z Tryz.call61 (zB Z zM) Z) bU (fun hs=>wDz p0.Clocks au aR br bo hs bK bL) (.inr Z) ?_
 rintro bp ct cA bs cp bV ⟨aV,a0,rfl,rfl⟩
 let B4:Res:=.row aV a0 112 3 (hH wAD x40)
 have bW:sW w U bp [B4,B3,B2,.blk b6 27 B1,.blk b2 27 B0] bs:=bV
 have bM:=cf.le be
 have bN:=bM.le bC
 have bO:=bN.le cp
 refine bnK cm fun x56 bP cn=>zG 0 Z Z Z Z (zH Z Z Tryz.call62 (zB Z zM) Z) bW (fun hs=>wDj p0.Readings av aS bs bp hs bO bP) (.inr Z) ?_
 rintro bd cu cC bE cx bX ⟨aW,ba,rfl,rfl⟩
 let B5:Res:=.row aW ba 115 4 (hH wAC x56)
 have bY:sW w U bd [B5,B4,B3,B2,.blk b6 27 B1,.blk b2 27 B0] bE:=bX
 let B6:List Value:=[.slice aT bf.length aY,.slice aU bg.length aZ,.slice aV x40.length a0,.slice aW x56.length ba]
 refine oR Z (ZC (pv:=[(0,.slice aT bf.length aY),(1,.slice aU bg.length aZ),(2,.slice aV x40.length a0),(3,.slice aW x56.length ba)]) (z:=B1) (cs:=B6) Z (wAH Z (wAH Z (wAH Z (wAH Z wAU)))) yY wPq Z Z) (zY (j:=4) (vs:=B6) Z Z Z Z bY Z Z Z Z zl (zA Z) Z Z Z ?_)
 intro bF b5
 have bB:sW w U bd [B5,B4,B3,B2,.blk b6 27 B6,.blk b2 27 B0] bF:=b5
 refine eN (zP ?_)
 cases cn
 exact ⟨rfl,_,(wJs (v:=.agg B6.toArray) ⟨⟨_,rfl,(wAs ZA zl (bB.blkAt (k:=4) rfl) (vs:=B6) rfl rfl)⟩,trivial⟩),bd,_,(bB.pick [3,2,1,0] _ (by decide) rfl),aT,aY,aU,aZ,aV,a0,aW,ba,rfl,rfl⟩
theorem wCG (p0:wAA) (bm:Option Addr) (bn:Nat) (ba:Option Addr) (bb:Nat) (bv:Option Addr) (bz:Nat) (bw:Option Addr) (bA:Nat) (w:World) (U:PHeap) (hS:St0 w U []) (dH:Sl U 1 bm bn p0.Starts.length (hH KL.encI p0.Starts)) (cy:Sl U 2 ba bb p0.Splits.length (hH wAB p0.Splits)) (ga:Sl U 3 bv bz p0.Clocks.length (hH wAD p0.Clocks)) (gb:Sl U 4 bw bA p0.Readings.length (hH wAC p0.Readings)) {r:wAJ} (hm:wBe p0=some r):Gv Tryz.prog 11 [.agg #[.slice bm p0.Starts.length bn,.slice ba p0.Splits.length bb,.slice bv p0.Clocks.length bz,.slice bw p0.Readings.length bA]] w (wCq w [] U (fun U_ L_ v=>∃ (cG:Option Addr) (de:Nat) (cH:Option Addr) (df:Nat) (cI:Option Addr) (dg:Nat) (cJ:Option Addr) (dh:Nat),v=.agg #[.slice cG r.Starts.length de,.slice cH r.Splits.length df,.slice cI r.Clocks.length dg,.slice cJ r.Readings.length dh]/\L_=[.row cG de 3 1 (hH KL.encI r.Starts),.row cH df 39 2 (hH wAB r.Splits),.row cI dg 116 3 (hH wAF r.Clocks),.row cJ dh 117 4 (hH wAE r.Readings)])):=by
 unfold wBe at hm
 refine Gv.of Tryz.func11 Z Tryz.ntmps11 Tryz.results11 Z (sR gAh Z ?_)
 let B0:List Value:=[.slice bm p0.Starts.length bn,.slice ba p0.Splits.length bb,.slice bv p0.Clocks.length bz,.slice bw p0.Readings.length bA]
 refine zy (cs:=B0) rfl rfl rfl rfl rfl rfl (by rfl) hS ?_
 intro W1 b2 fH
 let B1:List Value:=[.slice none 0 0,.slice none 0 0,.slice none 0 0,.slice none 0 0]
 refine zV (cs:=B1) Z Z Z Z Z yA Z fH ?_
 intro W5 b6 fS
 refine eN ?_
 have q:=bnd hm
 obtain ⟨⟨aR,aS⟩,gw,dI⟩:=q
 try dsimp only at dI
 refine yQ (fun σ_ w_=>∃ (U_:PHeap) (ap:Nat) (ak:Option Addr) (aq:Nat) (am:Option Addr) (au:Nat),σ_ 1=.pointer (some ⟨b2,0,none⟩)/\σ_ 2=.pointer (some ⟨b6,0,none⟩)/\σ_ 3=.pointer (some ⟨ap,0,none⟩)/\PHeap.Le U U_/\sW w U U_ [.blk b6 36 B1,.blk b2 27 B0,.blk ap 36 [.slice ak aR.length aq,.slice am aS.length au,.slice none 0 0,.slice none 0 0],.row ak aq 3 1 (hH KL.encI aR),.row am au 39 2 (hH wAB aS)] w_) ?_ ?_
 refine bnK gw fun aW dv gv=>bnK gv fun aT cu cE=>zx zn [3,1,2,3,1,2,3,2,0] (.fl 0 (.fl 1 (.fl 3 (.fl 4 (.fx 2 (.fx 5 (.fl 6 gAi) (.fx 7 gAu .stop)) (.fx 7 (.fx 2 gAu .stop) .stop)))))) (by kernel_rfl) ?_
 have br:=fS.drew
 generalize hw_W57:({ W5 with drawn:=W5.drawn + 1 }:World)=d7 at br ⊢
 refine oR Z (zE Z Z zU Z zW) (oL Z (br.ldB (j:=1) Z Z Z zX (v:=.slice bm p0.Starts.length bn) Z) (oR Z (zE Z Z zU Z Zg) (oL Z (br.ldB (j:=1) Z Z Z Zl (v:=.slice ba p0.Splits.length bb) Z) (zt ?_ ?_))))
 refine zG 0 Z Z Z Z (zH Z Z Tryz.call32 (zB Z zM) Z) br (fun hs=>wCs p0.Starts bm bn d7 U hs dH dv) (.inr Z) ?_
 rintro cg gG ib da bR fR ⟨aX,aY,rfl,rfl⟩
 let B2:Res:=.row aX aY 3 1 (hH KL.encI aW)
 have dG:sW w U cg [B2,.blk b6 36 B1,.blk b2 27 B0] da:=fR
 refine zt ?_ ?_
 have eX:=cy.le bR
 refine zG 0 Z Z Z Z (zH Z Z Tryz.call60 (zB Z zM) Z) dG (fun hs=>wBX p0.Splits ba bb da cg hs eX cu) (.inr Z) ?_
 rintro cj gH ic d8 gC fT ⟨bH,bQ,rfl,rfl⟩
 let B3:Res:=.row bH bQ 39 2 (hH wAB aT)
 have fU:sW w U cj [B3,B2,.blk b6 36 B1,.blk b2 27 B0] d8:=fT
 let B4:List Value:=[.slice aX aW.length aY,.slice bH aT.length bQ,.slice none 0 0,.slice none 0 0]
 refine oR Z (ZC (pv:=[(0,.slice aX aW.length aY),(1,.slice bH aT.length bQ)]) (z:=B1) (cs:=B4) Z (wAH Z (wAH Z wAU)) yA wJe Z Z) (zV (cs:=B1) Z Z Z Z Z yA Z fU ?_)
 intro gQ db fV
 refine zY (j:=0) (vs:=B4) Z Z Z Z fV Z Z Z Z ZH (zA Z) Z Z Z ?_
 intro d9 fW
 have fY:sW w U cj [.blk db 36 B4,B3,B2,.blk b6 36 B1,.blk b2 27 B0] d9:=fW
 refine zw ?_
 cases cE
 exact zK ⟨rfl,⟨cj,db,aX,aY,bH,bQ,rfl,rfl,rfl,(bR.trans gC),(fY.pick [3,4,0,2,1] _ (by decide) rfl)⟩⟩
 refine zV (cs:=B1) Z Z Z Z Z yA Z dG ?_
 intro ec cm fZ
 have eL:=cy.le bR
 refine zG 0 Z Z Z Z (zH Z Z Tryz.call60 (zB Z zM) Z) fZ (fun hs=>wBX p0.Splits ba bb ec cg hs eL cu) (.inr Z) ?_
 rintro cd gD g7 dO gz fb ⟨bC,bL,rfl,rfl⟩
 let B5:Res:=.row bC bL 39 2 (hH wAB aT)
 have fc:sW w U cd [B5,.blk cm 36 B1,B2,.blk b6 36 B1,.blk b2 27 B0] dO:=fb
 let B6:List Value:=[.slice aX aW.length aY,.slice bC aT.length bL,.slice none 0 0,.slice none 0 0]
 refine oR Z (ZC (pv:=[(0,.slice aX aW.length aY),(1,.slice bC aT.length bL)]) (z:=B1) (cs:=B6) Z (wAH Z (wAH Z wAU)) yA wJe Z Z) (zY (j:=1) (vs:=B6) Z Z Z Z fc Z Z Z Z ZH (zA Z) Z Z Z ?_)
 intro dP fd
 have ff:sW w U cd [B5,.blk cm 36 B6,B2,.blk b6 36 B1,.blk b2 27 B0] dP:=fd
 refine zw ?_
 cases cE
 exact zK ⟨rfl,⟨cd,cm,aX,aY,bC,bL,rfl,rfl,rfl,(bR.trans gz),(ff.pick [3,4,1,2,0] _ (by decide) rfl)⟩⟩
 refine zV (cs:=B1) Z Z Z Z Z yA Z br ?_
 intro dQ bI fg
 refine zG 0 Z Z Z Z (zH Z Z Tryz.call32 (zB Z zM) Z) fg (fun hs=>wCs p0.Starts bm bn dQ U hs dH dv) (.inr Z) ?_
 rintro cU gE g8 cY dJ fh ⟨bD,bM,rfl,rfl⟩
 let B7:Res:=.row bD bM 3 1 (hH KL.encI aW)
 have fj:sW w U cU [B7,.blk bI 36 B1,.blk b6 36 B1,.blk b2 27 B0] cY:=fh
 have eM:=cy.le dJ
 refine zG 0 Z Z Z Z (zH Z Z Tryz.call60 (zB Z zM) Z) fj (fun hs=>wBX p0.Splits ba bb cY cU hs eM cu) (.inr Z) ?_
 rintro cf gF g9 dR gA fm ⟨bE,bN,rfl,rfl⟩
 let B8:Res:=.row bE bN 39 2 (hH wAB aT)
 have fq:sW w U cf [B8,B7,.blk bI 36 B1,.blk b6 36 B1,.blk b2 27 B0] dR:=fm
 let B9:List Value:=[.slice bD aW.length bM,.slice bE aT.length bN,.slice none 0 0,.slice none 0 0]
 refine oR Z (ZC (pv:=[(0,.slice bD aW.length bM),(1,.slice bE aT.length bN)]) (z:=B1) (cs:=B9) Z (wAH Z (wAH Z wAU)) yA wJe Z Z) (zY (j:=2) (vs:=B9) Z Z Z Z fq Z Z Z Z ZH (zA Z) Z Z Z ?_)
 intro dS ft
 have fu:sW w U cf [B8,B7,.blk bI 36 B9,.blk b6 36 B1,.blk b2 27 B0] dS:=ft
 refine zw ?_
 cases cE
 exact zK ⟨rfl,⟨cf,bI,bD,bM,bE,bN,rfl,rfl,rfl,(dJ.trans gA),(fu.pick [3,4,2,1,0] _ (by decide) rfl)⟩⟩
 rintro ii gJ ⟨cV,ap,ak,aq,am,au,dm,en,eu,dK,dy⟩
 refine zJ (sR fL4 Z (oR Z (zE Z dm zU Z yE) (oL Z (dy.ldB (j:=1) Z Z Z yH (v:=.slice bv p0.Clocks.length bz) Z) (oR Z (zi Z Z ZW) (oM Z Z (eN (zd (bnK dI fun bB ge gk=>?_))))))))
 have q:=wCw ge
 obtain ⟨cC,gf⟩:=q
 replace cC:=zL cC
 let az:Res:=.row am au 39 2 (hH wAB aS)
 let aQ:Res:=.row ak aq 3 1 (hH KL.encI aR)
 refine CK.forN' (fun bs aZ σ_ w_=>∃ (U_:PHeap) (bd:Option Addr) (bi:Nat),σ_ 18=jV (↑bs:Int)/\σ_ 1=.pointer (some ⟨b2,0,none⟩)/\σ_ 2=.pointer (some ⟨b6,0,none⟩)/\σ_ 3=.pointer (some ⟨ap,0,none⟩)/\σ_ 16=.slice bv p0.Clocks.length bz/\σ_ 17=jV (↑p0.Clocks.length:Int)/\PHeap.Le cV U_/\sW w U U_ [.blk b6 36 B1,.blk b2 27 B0,aQ,az,.row bd bi 116 3 (hH wAF aZ),.blk ap 36 [.slice ak aR.length aq,.slice am aS.length au,.slice bd aZ.length bi,.slice none 0 0]] w_) gf ?_ ?_ ?_
 have fw:=dy.nilrow 116 3
 exact ⟨cV,none,0,rfl,dm,en,eu,rfl,rfl,(zQ _),(fw.pick [1,2,4,5,0,3] _ (by decide) rfl)⟩
 rintro bs aZ ie ij gK cz ⟨bp,bd,bi,cr,ey,eA,cp,dp,dq,dL,dz⟩ gx
 have dk:Hid ((↑bs:Int) < (↑p0.Clocks.length:Int)):=zL (wBm cz)
 replace cz:=zL cz
 have gi:Hid (w64 ((↑bs:Int) + 1)=(↑(bs + 1):Int)):=zL (by have h1:=cC.out;have h2:=dk.out;rw [wAZ] <;> omega)
 refine sR fL1 Z (oR Z (zf Z cr dq) (eN (zJ (cT Z dk (kN (zJ (zd (sR gBc Z (bnK gx fun av dw gm=>?_)))))))))
 have eO:=ga.le dK
 have eP:=eO.le dL
 have q:=eP.el (fun _=>rfl) (wAR dw)
 obtain ⟨gR,gX,eY,e8⟩:=q
 refine oR Z (ZP Z dp eY cr ZW Zv (wBi dw)) (oL Z (dz.ldCA (f:=0) e8 Z Z Tryz.isAgg112 Zv (us:=[jV av.Offset.Lo,jV av.Offset.Hi,jV av.Error]) Z Z) ?_)
 let cK:List Value:=[jV 0,jV 0,jV 0]
 refine zV (cs:=cK) Z Z Z Z Z Tryz.zeroValue112 Z dz ?_
 intro gL bJ fy
 let aU:List Value:=[jV av.Offset.Lo,jV av.Offset.Hi,jV av.Error]
 refine zY (j:=0) (vs:=aU) Z Z Z Z fy Z Z Z Z Zv (zA Z) Z Z Z ?_
 intro dT fz
 let bV:Res:=.blk ap 36 [.slice ak aR.length aq,.slice am aS.length au,.slice bd aZ.length bi,.slice none 0 0]
 let cL:Res:=.row bd bi 116 3 (hH wAF aZ)
 have cw:sW w U bp [.blk bJ 112 aU,.blk b6 36 B1,.blk b2 27 B0,aQ,az,cL,bV] dT:=fz
 refine eN (rR (wEF gBd) Z (oR Z (zE Z cp zR Z Zt) (oL Z (cw.ldB (j:=6) Z Z Z yF (v:=.slice bd aZ.length bi) Z) (oL Z (cw.ldBA (j:=0) Z Z Z Tryz.isAgg112 Zv (vs:=aU) Z Z) (Zk (pv:=[(0,.agg aU.toArray)]) (zs:=cK) (cs:=aU) Z Z Z Z Z (wAH Z wAU) Zi yZ Tryz.zeroValue116 Z Z Z Z Z cw ?_)))))
 intro dU ef fA
 let bW:Res:=.row (some ⟨ef,0,none⟩) 1 116 3 (hH wAF [(⟨av.Offset,av.Error⟩:wAw)])
 have dA:sW w U bp [bW,.blk bJ 112 aU,.blk b6 36 B1,.blk b2 27 B0,aQ,az,cL,bV] dU:=fA
 refine bnK gm fun bS eQ gp=>ye (j:=6) (enc:=wAF) (xs:=aZ) (ys:=[(⟨av.Offset,av.Error⟩:wAw)]) (zs:=bS) rfl rfl rfl rfl rfl Tryz.underlying33 wSG rfl rfl rfl rfl rfl rfl dA rfl rfl rfl (dA.srcR (j:=0) rfl (by decide) (wAI (f:=wAF) (sz:=3) (fun _=>rfl) [(⟨av.Offset,av.Error⟩:wAw)])) (fun _=>rfl) (fun _=>rfl) eQ rfl ?_
 intro bF bO dV fB
 let cM:Res:=.row bF bO 116 3 (hH wAF bS)
 have fC:sW w U bp [bW,.blk bJ 112 aU,.blk b6 36 B1,.blk b2 27 B0,aQ,az,cM,bV] dV:=fB
 refine oR Z (zE Z cp zR Z Zt) (zY (j:=7) (vs:=[.slice bF bS.length bO]) Z Z Z Z fC Z Z Z Z Zt (zA Z) Z Z Z ?_)
 intro dW fD
 have fE:sW w U bp [bW,.blk bJ 112 aU,.blk b6 36 B1,.blk b2 27 B0,aQ,az,cM,.blk ap 36 [.slice ak aR.length aq,.slice am aS.length au,.slice bF bS.length bO,.slice none 0 0]] dW:=fD
 refine zw (ZE (zK (rR fL2 Z (oR Z (Zd (zj Z cr Z) (congrArg (jV) gi.out)) (oM Z Z (zw ?_))))))
 cases gp
 exact zK ⟨rfl,⟨bp,bF,bO,rfl,ey,eA,cp,dp,dq,dL,(fE.pick [2,3,4,5,6,7] _ (by decide) rfl)⟩⟩
 rintro ik gM ⟨cW,be,bj,eJ,eC,eD,eE,gT,eF,gB,dB⟩
 have eh:Hid (¬ ((↑(((↑p0.Clocks.length:Int):Int) - 0).toNat:Int) < (↑p0.Clocks.length:Int))):=zL (wBB)
 refine sR fL1 Z (oR Z (zf Z eJ eF) (eN (zJ (cF Z eh (Zf (zo (zo (ZX (zK (zJ (sR fL4 Z (oR Z (zE Z eC zU Z yR) (oL Z (dB.ldB (j:=1) Z Z Z yW (v:=.slice bw p0.Readings.length bA) Z) (oR Z (zi Z Z Zn) (oM Z Z (eN (zd (bnK gk fun dN gg gq=>?_))))))))))))))))))
 have q:=wCw gg
 obtain ⟨cD,gh⟩:=q
 replace cD:=zL cD
 let bg:Res:=.row be bj 116 3 (hH wAF bB)
 refine CK.forN' (fun bu a0 σ_ w_=>∃ (U_:PHeap) (bf:Option Addr) (bk:Nat),σ_ 32=jV (↑bu:Int)/\σ_ 2=.pointer (some ⟨b6,0,none⟩)/\σ_ 3=.pointer (some ⟨ap,0,none⟩)/\σ_ 30=.slice bw p0.Readings.length bA/\σ_ 31=jV (↑p0.Readings.length:Int)/\PHeap.Le cW U_/\sW w U U_ [.blk b6 36 B1,.blk b2 27 B0,aQ,az,bg,.row bf bk 117 4 (hH wAE a0),.blk ap 36 [.slice ak aR.length aq,.slice am aS.length au,.slice be bB.length bj,.slice bf a0.length bk]] w_) gh ?_ ?_ ?_
 have fG:=dB.nilrow 117 4
 exact ⟨cW,none,0,rfl,eD,eE,rfl,rfl,(zQ _),(fG.pick [1,2,3,4,5,0,6] _ (by decide) rfl)⟩
 rintro bu a0 ig il gN cA ⟨bq,bf,bk,ct,eG,cq,dr,dt,dM,dC⟩ gy
 have dl:Hid ((↑bu:Int) < (↑p0.Readings.length:Int)):=zL (wBm cA)
 replace cA:=zL cA
 have gj:Hid (w64 ((↑bu:Int) + 1)=(↑(bu + 1):Int)):=zL (by have h1:=cD.out;have h2:=dl.out;rw [wAZ] <;> omega)
 refine sR fL1 Z (oR Z (zf Z ct dt) (eN (zJ (cT Z dl (kN (zJ (zd (sR gBc Z (bnK gy fun aj dx gt=>?_)))))))))
 have eS:=gb.le dK
 have eU:=eS.le gB
 have eV:=eU.le dM
 have q:=eV.el (fun _=>rfl) (wAR dx)
 obtain ⟨gS,gZ,eZ,e9⟩:=q
 refine oR Z (ZP Z dr eZ ct Zn Zs (wBi dx)) (oL Z (dC.ldCA (f:=0) e9 Z Z ym Zs (us:=[jV aj.Skier,jV aj.Mat,jV aj.Clock,jV aj.Time]) Z Z) ?_)
 let cN:List Value:=[jV 0,jV 0,jV 0,jV 0]
 refine zV (cs:=cN) Z Z Z Z Z Tryz.zeroValue115 Z dC ?_
 intro gO bK fJ
 let aV:List Value:=[jV aj.Skier,jV aj.Mat,jV aj.Clock,jV aj.Time]
 refine zY (j:=0) (vs:=aV) Z Z Z Z fJ Z Z Z Z Zs (zA Z) Z Z Z ?_
 intro dX fK
 let bX:Res:=.blk ap 36 [.slice ak aR.length aq,.slice am aS.length au,.slice be bB.length bj,.slice bf a0.length bk]
 let cO:Res:=.row bf bk 117 4 (hH wAE a0)
 have cx:sW w U bq [.blk bK 115 aV,.blk b6 36 B1,.blk b2 27 B0,aQ,az,bg,cO,bX] dX:=fK
 refine eN (rR (wEF gBd) Z (oR Z (zE Z cq zR Z yN) (oL Z (cx.ldB (j:=7) Z Z Z yf (v:=.slice bf a0.length bk) Z) (oL Z (cx.ldBA (j:=0) Z Z Z ym Zs (vs:=aV) Z Z) (Zk (pv:=[(0,.agg aV.toArray)]) (zs:=cN) (cs:=aV) Z Z Z Z Z (wAH Z wAU) yD yO Tryz.zeroValue117 Z Z Z Z Z cx ?_)))))
 intro dY eg fL
 let bY:Res:=.row (some ⟨eg,0,none⟩) 1 117 4 (hH wAE [(⟨aj.Skier,aj.Mat,aj.Clock,aj.Time⟩:wAm)])
 have dD:sW w U bq [bY,.blk bK 115 aV,.blk b6 36 B1,.blk b2 27 B0,aQ,az,bg,cO,bX] dY:=fL
 refine bnK gt fun bT eW gu=>ye (j:=7) (enc:=wAE) (xs:=a0) (ys:=[(⟨aj.Skier,aj.Mat,aj.Clock,aj.Time⟩:wAm)]) (zs:=bT) rfl rfl rfl rfl rfl Tryz.underlying34 wSH rfl rfl rfl rfl rfl rfl dD rfl rfl rfl (dD.srcR (j:=0) rfl (by decide) (wAI (f:=wAE) (sz:=4) (fun _=>rfl) [(⟨aj.Skier,aj.Mat,aj.Clock,aj.Time⟩:wAm)])) (fun _=>rfl) (fun _=>rfl) eW rfl ?_
 intro bG bP dZ fM
 let cP:Res:=.row bG bP 117 4 (hH wAE bT)
 have fN:sW w U bq [bY,.blk bK 115 aV,.blk b6 36 B1,.blk b2 27 B0,aQ,az,bg,cP,bX] dZ:=fM
 refine oR Z (zE Z cq zR Z yN) (zY (j:=8) (vs:=[.slice bG bT.length bP]) Z Z Z Z fN Z Z Z Z yN (zA Z) Z Z Z ?_)
 intro d5 fO
 have fP:sW w U bq [bY,.blk bK 115 aV,.blk b6 36 B1,.blk b2 27 B0,aQ,az,bg,cP,.blk ap 36 [.slice ak aR.length aq,.slice am aS.length au,.slice be bB.length bj,.slice bG bT.length bP]] d5:=fO
 refine zw (ZE (zK (rR fL2 Z (oR Z (Zd (zj Z ct Z) (congrArg (jV) gj.out)) (oM Z Z (zw ?_))))))
 cases gu
 exact zK ⟨rfl,⟨bq,bG,bP,rfl,eG,cq,dr,dt,dM,(fP.pick [2,3,4,5,6,7,8] _ (by decide) rfl)⟩⟩
 rintro im gP ⟨cX,bU,cn,eK,du,eH,gU,eI,gW,dE⟩
 have ej:Hid (¬ ((↑(((↑p0.Readings.length:Int):Int) - 0).toNat:Int) < (↑p0.Readings.length:Int))):=zL (wBB)
 refine sR fL1 Z (oR Z (zf Z eK eI) (eN (zJ (cF Z ej (Zf (zo (zo (ZX (zK (sR gAk Z ?_))))))))))
 let bh:List Value:=[.slice ak aR.length aq,.slice am aS.length au,.slice be bB.length bj,.slice bU dN.length cn]
 refine oL Z (dE.ldBA (j:=6) Z Z eH ZS ZH (vs:=bh) Z Z) (zY (j:=0) (vs:=bh) Z Z Z Z dE Z du Z Z ZH (zA Z) Z Z Z ?_)
 intro d6 fQ
 have dF:sW w U cX [.blk b6 36 bh,.blk b2 27 B0,aQ,az,bg,.row bU cn 117 4 (hH wAE dN),.blk ap 36 bh] d6:=fQ
 refine eN (zP ?_)
 cases gq
 exact ⟨rfl,_,(wJs (v:=.agg bh.toArray) ⟨⟨_,du,(wAs ZS ZH (dF.blkAt (k:=0) rfl) (vs:=bh) rfl rfl)⟩,trivial⟩),cX,_,(dF.pick [2,3,4,5] _ (by decide) rfl),ak,aq,am,au,be,bj,bU,cn,rfl,rfl⟩
theorem wDw (p0:Int) (p1:Int) (p2:Int) (w:World) (U:PHeap) (hS:St0 w U [])  {r:Bool} (hm:wCi p0 p1 p2=some r):Gv Tryz.prog 69 [jV p0,jV p1,jV p2] w (wCq w [] U (fun U_ L_ v=>v=.bool r/\L_=[])):=by
 unfold wCi at hm
 refine Gv.of Tryz.func69 Z Tryz.ntmps69 Tryz.results69 Z (sR fL1 Z (oA Z Z (eN (sR fL9 Z (oM Z Z (oM Z Z (oR Z (Runs.geq Z Z Z) (oM Z Z ?_))))))))
 by_cases c1:p1 <= p0
 have ab:=hm;rw [if_pos c1] at ab;replace c1:=zL c1
 refine ZJ Z Z Z (wT Z c1) Z Z (ZJ Z Z Z (wT Z c1) Z Z (rU Z (wT Z c1) (Runs.leq Z Z Z) (oR Z (zm Z (Zp c1.out) Z) (oA Z Z (eN (zP ?_))))))
 first | (obtain rfl:=nA ab) | cases ab
 exact ⟨Z,_,(ZL Z),U,_,hS,Z,Z⟩
 have ai:=hm;rw [if_neg c1] at ai;replace c1:=zL c1
 refine oF Z c1 (oF Z c1 (oF Z c1 (oR Z (zz Z (Za c1.out) Z) (oA Z Z (eN (zP ?_))))))
 have hE:=nA ai;first | subst r | cases hE
 exact ⟨Z,_,(ZL Z),U,_,hS,Z,Z⟩
theorem wGt (p0:List Int) (aq:Option Addr) (au:Nat) (p1:(Int->Option Bool)) (av:Value) (w:World) (U:PHeap) (hS:St0 w U []) (bn:Sl U 1 aq au p0.length (hH KL.encI p0)) (bo:FnOK Tryz.prog U av wTh wTi p1) {r:Bool} (hm:wCW p0 p1=some r):Gv Tryz.prog 89 [.slice aq p0.length au,av] w (wCq w [] U (fun U_ L_ v=>v=.bool r/\L_=[])):=by
 unfold wCW at hm
 refine Gv.of Tryz.func89 Z Tryz.ntmps89 Tryz.results89 Z (sR fL1 Z (oA Z Z (eN (zJ (sR fL3 Z (oM Z Z (oR Z (zi Z Z zD) (oM Z Z (eN (zd ?_))))))))))
 have q:=wCQ hm
 obtain ⟨r3,aj⟩:=q
 have q:=wCP aj
 obtain ⟨am,br⟩:=q
 replace am:=zL am
 refine yP (fun k2 _ σ_ w_=>∃ (U_:PHeap),σ_ 9=jV (↑k2:Int)/\σ_ 1=av/\σ_ 7=.slice aq p0.length au/\σ_ 8=jV (↑p0.length:Int)/\PHeap.Le U U_/\sW w U U_ [] w_) br ?_ ?_ ?_
 exact ⟨U,Z,Z,Z,Z,(zQ _),hS⟩
 rintro k2 ⟨⟩ bP bR W8 ak ⟨bE,ai,aQ,aR,aS,ap,aU⟩ aX bp
 try dsimp only at aX
 have az:Hid ((↑k2:Int) < (↑p0.length:Int)):=zL (wBm ak)
 replace ak:=zL ak
 have bs:Hid (w64 ((↑k2:Int) + 1)=(↑(k2 + 1):Int)):=zL (by have h1:=am.out;have h2:=az.out;rw [wAZ] <;> omega)
 refine sR fL1 Z (oR Z (zf Z ai aS) (eN (zJ (cT Z az (kN (zJ (zd (sR fL3 Z (bnK aX fun x22 aT bu=>?_)))))))))
 have bf:=bn.le ap
 have q:=bf.el (fun _=>rfl) (wAR aT)
 obtain ⟨bH,bL,bi,bj⟩:=q
 refine oR Z (ZP Z aR bi ai zD zC (wBi aT)) (oL Z (aU.ldC (f:=0) bj (v:=jV x22) Z Z zF Z) (oA Z Z (eN (sR gBe Z (oM Z aQ (oM Z Z (bnK bu fun bO bg bv=>?_)))))))
 have bh:=bo.le ap
 refine OKS.callV (a:=x22) Z Z Z Z Z Z (zB Z zM) aU bh Z bg ?_
 rintro ae bD bN a0 bB bk ⟨rfl,rfl⟩
 have aV:sW w U ae [] a0:=bk
 refine oR Z (Zm Z Z) (eN (ifc bv ?_ ?_))
 intro ah bw
 refine zr (nC ah.out) (Zr (ZE (zK (rR fL2 Z (oR Z (Zd (zj Z ai Z) (congrArg (jV) bs.out)) (oM Z Z (zw ?_)))))))
 obtain rfl:=nA bw
 exact zK ⟨Z,_,Z,⟨ae,Z,aQ,aR,aS,(ap.trans bB),aV⟩⟩
 intro ah bz
 refine ZG (nF (ah.out)) (sR fL1 Z (oA Z Z (eN (zP (zg (zN ?_))))))
 have q:=wAa bz
 obtain ⟨bC,bA,bb⟩:=q
 obtain rfl:=wCK hm aj (bp bC bb)
 refine zN (zg (zN ?_))
 have hE:=nA bA;first | subst r | cases hE
 exact ⟨Z,_,(ZL Z),ae,_,aV,Z,Z⟩
 rintro ⟨⟩ bQ bF ⟨aZ,be,bI,bJ,bd,bK,bm⟩ bq
 have aW:=wDE hm aj bq
 try dsimp only at aW
 have ba:Hid (¬ ((↑(((↑p0.length:Int):Int) - 0).toNat:Int) < (↑p0.length:Int))):=zL (wBB)
 refine sR fL1 Z (oR Z (zf Z be bd) (eN (zJ (cF Z ba (Zf (zo (zo (ZX (zK (sR fL1 Z (oA Z Z (eN (zP ?_)))))))))))))
 have hE:=nA aW;first | subst r | cases hE
 exact ⟨Z,_,(ZL Z),aZ,_,bm,Z,Z⟩
end Go.Proofs.YtlnfbjphfoipaaaGreat
namespace Go.Proofs.YtlnfbjphfoipaaaGreat
open Go.KL
set_option maxHeartbeats 4000000
theorem wId (p0:Int) (w:World) (U:PHeap) (hS:St0 w U [])  {r:Bool} (hm:wCj p0=some r):Gv Tryz.prog 90 [jV p0] w (wCq w [] U (fun U_ L_ v=>v=.bool r/\L_=[])):=by
 unfold wCj at hm
 refine Gv.of Tryz.func90 Z Tryz.ntmps90 Tryz.results90 Z (sR fL1 Z (oA Z Z (eN (sR gAt Z (oM Z Z (bnK hm fun x1 h2 ak=>zG 0 Z Z Z Z (zH Z Z Tryz.call69 (zB Z (zB Z (zB Z zM))) Z) hS (fun hs=>wDw p0 0 360000 w U hs h2) (.inr Z) ?_))))))
 rintro U4 L5 v6 W7 ap aj ⟨rfl,rfl⟩
 have ai:sW w U U4 [] W7:=aj
 refine oA Z Z (eN (zP ?_))
 have hE:=nA ak;first | subst r | cases hE
 exact ⟨Z,_,(ZL Z),U4,_,ai,Z,Z⟩
theorem wFE (p0:List wAL) (au:Option Addr) (av:Nat) (p1:(wAL->Option Bool)) (az:Value) (w:World) (U:PHeap) (hS:St0 w U []) (bv:Sl U 2 au av p0.length (hH wAB p0)) (bw:FnOK Tryz.prog U az wTj wTk p1) {r:Bool} (hm:wBc p0 p1=some r):Gv Tryz.prog 91 [.slice au p0.length av,az] w (wCq w [] U (fun U_ L_ v=>v=.bool r/\L_=[])):=by
 unfold wBc at hm
 refine Gv.of Tryz.func91 Z Tryz.ntmps91 Tryz.results91 Z (sR fL1 Z (oA Z Z (eN (zJ (sR fL3 Z (oM Z Z (oR Z (zi Z Z ZD) (oM Z Z (eN (zd ?_))))))))))
 have q:=wCQ hm
 obtain ⟨r3,ak⟩:=q
 have q:=wCP ak
 obtain ⟨ap,bB⟩:=q
 replace ap:=zL ap
 refine yP (fun k2 _ σ_ w_=>∃ (U_:PHeap),σ_ 9=jV (↑k2:Int)/\σ_ 1=az/\σ_ 7=.slice au p0.length av/\σ_ 8=jV (↑p0.length:Int)/\PHeap.Le U U_/\sW w U U_ [] w_) bB ?_ ?_ ?_
 exact ⟨U,Z,Z,Z,Z,(zQ _),hS⟩
 rintro k2 ⟨⟩ bV bX W8 am ⟨bb,aj,aS,aT,aU,aq,aW⟩ a0 bz
 try dsimp only at a0
 have aR:Hid ((↑k2:Int) < (↑p0.length:Int)):=zL (wBm am)
 replace am:=zL am
 have bC:Hid (w64 ((↑k2:Int) + 1)=(↑(k2 + 1):Int)):=zL (by have h1:=ap.out;have h2:=aR.out;rw [wAZ] <;> omega)
 refine sR fL1 Z (oR Z (zf Z aj aU) (eN (zJ (cT Z aR (kN (zJ (zd (sR gBc Z (bnK a0 fun x22 aV bD=>?_)))))))))
 have bk:=bv.le aq
 have q:=bk.el (fun _=>rfl) (wAR aV)
 obtain ⟨bO,bS,bo,bp⟩:=q
 refine oR Z (ZP Z aT bo aj ZD zS (wBi aV)) (oL Z (aW.ldCA (f:=0) bp Z Z ZT zS (us:=[jV x22.Lo,jV x22.Hi]) Z Z) (zV (cs:=[jV 0,jV 0]) Z Z Z Z Z ZQ Z aW ?_))
 intro bL aQ bq
 let B0:List Value:=[jV x22.Lo,jV x22.Hi]
 refine zY (j:=0) (vs:=B0) Z Z Z Z bq Z Z Z Z zS (zA Z) Z Z Z ?_
 intro be br
 have aX:sW w U bb [.blk aQ 39 B0] be:=br
 refine eN (sR gBe Z (oM Z aS (oL Z (aX.ldBA (j:=0) Z Z Z ZT zS (vs:=B0) Z Z) (bnK bD fun x37 bm bE=>?_))))
 have bn:=bw.le aq
 refine OKS.callV (a:=x22) Z Z Z Z Z Z (zB Z zM) aX bn Z bm ?_
 rintro ah bK bU bf bI bs ⟨rfl,rfl⟩
 have aY:sW w U ah [.blk aQ 39 B0] bf:=bs
 refine oR Z (Zm Z Z) (eN (ifc bE ?_ ?_))
 intro ai bF
 refine zr (nC ai.out) (Zr (ZE (zK (rR fL2 Z (oR Z (Zd (zj Z aj Z) (congrArg (jV) bC.out)) (oM Z Z (zw ?_)))))))
 obtain rfl:=nA bF
 exact zK ⟨rfl,_,rfl,⟨ah,rfl,aS,aT,aU,(aq.trans bI),(aY.pick [] _ (by decide) rfl)⟩⟩
 intro ai bG
 refine ZG (nF (ai.out)) (sR fL1 Z (oA Z Z (eN (zP (zg (zN ?_))))))
 have q:=wAa bG
 obtain ⟨bJ,bH,bh⟩:=q
 obtain rfl:=wCK hm ak (bz bJ bh)
 refine zN (zg (zN ?_))
 have hE:=nA bH;first | subst r | cases hE
 exact ⟨rfl,_,(ZL rfl),ah,_,(aY.pick [] _ (by decide) rfl),rfl,rfl⟩
 rintro ⟨⟩ bW bM ⟨bd,bj,bP,bQ,bi,bR,bu⟩ bA
 have aZ:=wDE hm ak bA
 try dsimp only at aZ
 have bg:Hid (¬ ((↑(((↑p0.length:Int):Int) - 0).toNat:Int) < (↑p0.length:Int))):=zL (wBB)
 refine sR fL1 Z (oR Z (zf Z bj bi) (eN (zJ (cF Z bg (Zf (zo (zo (ZX (zK (sR fL1 Z (oA Z Z (eN (zP ?_)))))))))))))
 have hE:=nA aZ;first | subst r | cases hE
 exact ⟨Z,_,(ZL Z),bd,_,bu,Z,Z⟩
theorem wFi (p0:wAL) (p1:Int) (p2:Int) (w:World) (U:PHeap) (hS:St0 w U [])  {r:Bool} (hm:wCk p0 p1 p2=some r):Gv Tryz.prog 93 [.agg #[jV p0.Lo,jV p0.Hi],jV p1,jV p2] w (wCq w [] U (fun U_ L_ v=>v=.bool r/\L_=[])):=by
 unfold wCk at hm
 refine Gv.of Tryz.func93 rfl Tryz.ntmps93 Tryz.results93 rfl (sR gAf rfl (zy (cs:=[jV p0.Lo,jV p0.Hi]) rfl rfl rfl rfl rfl rfl (by rfl) hS ?_))
 intro W1 b2 ah
 refine oA Z Z (eN (sR fL18 Z (oR Z (zE Z Z ZO Z zC) (oL Z (ah.ldB (j:=0) Z Z Z zF (v:=jV p0.Lo) Z) (oR Z (zE Z Z ZO Z zC) (oL Z (ah.ldB (j:=0) Z Z Z zF (v:=jV p0.Hi) Z) (oR Z (Runs.leq Z Z Z) (oM Z Z ?_))))))))
 by_cases c5:p0.Lo <= p0.Hi
 have aj:=hm;rw [if_pos c5] at aj;replace c5:=zL c5
 refine rU Z (wT Z c5) (zE Z Z ZO Z zC) (ZI Z Z Z (wT Z c5) (ah.ldB (j:=0) Z Z Z zF (v:=jV p0.Lo) Z) Z (ZJ Z Z Z (wT Z c5) Z Z (rU Z (wT Z c5) (Runs.geq Z Z Z) (oR Z (zm Z (Zp c5.out) Z) (oM Z Z (ifc aj ?_ ?_))))))
 intro c7 ak
 refine rU Z (wT Z c7) (zE Z Z ZO Z zC) (ZI Z Z Z (wT Z c7) (ah.ldB (j:=0) Z Z Z zF (v:=jV p0.Hi) Z) Z (ZJ Z Z Z (wT Z c7) Z Z (rU Z (wT Z c7) (Runs.leq Z Z Z) (oR Z (zm Z (Zp c7.out) Z) (oA Z Z (eN (zP ?_)))))))
 first | (obtain rfl:=nA ak) | cases ak
 exact ⟨rfl,_,(ZL rfl),U,_,(ah.pick [] _ (by decide) rfl),rfl,rfl⟩
 intro c7 aq
 refine oF Z c7 (oF Z c7 (oF Z c7 (oF Z c7 (oR Z (zz Z (Za c7.out) Z) (oA Z Z (eN (zP ?_)))))))
 have hE:=nA aq;first | subst r | cases hE
 exact ⟨rfl,_,(ZL rfl),U,_,(ah.pick [] _ (by decide) rfl),rfl,rfl⟩
 have ai:=hm;rw [if_neg c5] at ai;replace c5:=zL c5
 refine oF Z c5 (oF Z c5 (oF Z c5 (oF Z c5 (oR Z (zz Z (Za c5.out) Z) (oM Z Z (oN Z (oN Z (oN Z (oN Z (oR Z (zz Z Z Z) (oA Z Z (eN (zP ?_)))))))))))))
 have hE:=nA ai;first | subst r | cases hE
 exact ⟨rfl,_,(ZL rfl),U,_,(ah.pick [] _ (by decide) rfl),rfl,rfl⟩
theorem wIe (p0:wAL) (w:World) (U:PHeap) (hS:St0 w U [])  {r:Bool} (hm:wCl p0=some r):Gv Tryz.prog 92 [.agg #[jV p0.Lo,jV p0.Hi]] w (wCq w [] U (fun U_ L_ v=>v=.bool r/\L_=[])):=by
 unfold wCl at hm
 refine Gv.of Tryz.func92 Z Tryz.ntmps92 Tryz.results92 Z (sR gAf Z ?_)
 let B0:List Value:=[jV p0.Lo,jV p0.Hi]
 refine zy (cs:=B0) rfl rfl rfl rfl rfl rfl (by rfl) hS ?_
 intro W1 b2 ah
 refine oA Z Z (eN (sR gAt Z (oL Z (ah.ldBA (j:=0) Z Z Z ZT zS (vs:=B0) Z Z) (bnK hm fun x5 h6 au=>zG 0 Z Z Z Z (zH Z Z Tryz.call93 (zB Z (zB Z (zB Z zM))) Z) ah (fun hs=>wFi p0 0 360000 W1 U hs h6) (.inr Z) ?_))))
 rintro U8 L9 aQ aj az ap ⟨rfl,rfl⟩
 have aq:sW w U U8 [.blk b2 39 B0] aj:=ap
 refine oA Z Z (eN (zP ?_))
 have hE:=nA au;first | subst r | cases hE
 exact ⟨rfl,_,(ZL rfl),U8,_,(aq.pick [] _ (by decide) rfl),rfl,rfl⟩
theorem wEg (p0:List wAb) (au:Option Addr) (av:Nat) (p1:(wAb->Option Bool)) (az:Value) (w:World) (U:PHeap) (hS:St0 w U []) (bv:Sl U 3 au av p0.length (hH wAD p0)) (bw:FnOK Tryz.prog U az wTl wTm p1) {r:Bool} (hm:wBT p0 p1=some r):Gv Tryz.prog 94 [.slice au p0.length av,az] w (wCq w [] U (fun U_ L_ v=>v=.bool r/\L_=[])):=by
 unfold wBT at hm
 refine Gv.of Tryz.func94 Z Tryz.ntmps94 Tryz.results94 Z (sR fL1 Z (oA Z Z (eN (zJ (sR fL3 Z (oM Z Z (oR Z (zi Z Z ZW) (oM Z Z (eN (zd ?_))))))))))
 have q:=wCQ hm
 obtain ⟨r3,ak⟩:=q
 have q:=wCP ak
 obtain ⟨ap,bB⟩:=q
 replace ap:=zL ap
 refine yP (fun k2 _ σ_ w_=>∃ (U_:PHeap),σ_ 9=jV (↑k2:Int)/\σ_ 1=az/\σ_ 7=.slice au p0.length av/\σ_ 8=jV (↑p0.length:Int)/\PHeap.Le U U_/\sW w U U_ [] w_) bB ?_ ?_ ?_
 exact ⟨U,Z,Z,Z,Z,(zQ _),hS⟩
 rintro k2 ⟨⟩ bV bX W8 am ⟨bb,aj,aS,aT,aU,aq,aW⟩ a0 bz
 try dsimp only at a0
 have aR:Hid ((↑k2:Int) < (↑p0.length:Int)):=zL (wBm am)
 replace am:=zL am
 have bC:Hid (w64 ((↑k2:Int) + 1)=(↑(k2 + 1):Int)):=zL (by have h1:=ap.out;have h2:=aR.out;rw [wAZ] <;> omega)
 refine sR fL1 Z (oR Z (zf Z aj aU) (eN (zJ (cT Z aR (kN (zJ (zd (sR gBc Z (bnK a0 fun x22 aV bD=>?_)))))))))
 have bk:=bv.le aq
 have q:=bk.el (fun _=>rfl) (wAR aV)
 obtain ⟨bO,bS,bo,bp⟩:=q
 refine oR Z (ZP Z aT bo aj ZW Zv (wBi aV)) (oL Z (aW.ldCA (f:=0) bp Z Z Tryz.isAgg112 Zv (us:=[jV x22.Offset.Lo,jV x22.Offset.Hi,jV x22.Error]) Z Z) (zV (cs:=[jV 0,jV 0,jV 0]) Z Z Z Z Z Tryz.zeroValue112 Z aW ?_))
 intro bL aQ bq
 let B0:List Value:=[jV x22.Offset.Lo,jV x22.Offset.Hi,jV x22.Error]
 refine zY (j:=0) (vs:=B0) Z Z Z Z bq Z Z Z Z Zv (zA Z) Z Z Z ?_
 intro be br
 have aX:sW w U bb [.blk aQ 112 B0] be:=br
 refine eN (sR gBe Z (oM Z aS (oL Z (aX.ldBA (j:=0) Z Z Z Tryz.isAgg112 Zv (vs:=B0) Z Z) (bnK bD fun x37 bm bE=>?_))))
 have bn:=bw.le aq
 refine OKS.callV (a:=x22) Z Z Z Z Z Z (zB Z zM) aX bn Z bm ?_
 rintro ah bK bU bf bI bs ⟨rfl,rfl⟩
 have aY:sW w U ah [.blk aQ 112 B0] bf:=bs
 refine oR Z (Zm Z Z) (eN (ifc bE ?_ ?_))
 intro ai bF
 refine zr (nC ai.out) (Zr (ZE (zK (rR fL2 Z (oR Z (Zd (zj Z aj Z) (congrArg (jV) bC.out)) (oM Z Z (zw ?_)))))))
 obtain rfl:=nA bF
 exact zK ⟨rfl,_,rfl,⟨ah,rfl,aS,aT,aU,(aq.trans bI),(aY.pick [] _ (by decide) rfl)⟩⟩
 intro ai bG
 refine ZG (nF (ai.out)) (sR fL1 Z (oA Z Z (eN (zP (zg (zN ?_))))))
 have q:=wAa bG
 obtain ⟨bJ,bH,bh⟩:=q
 obtain rfl:=wCK hm ak (bz bJ bh)
 refine zN (zg (zN ?_))
 have hE:=nA bH;first | subst r | cases hE
 exact ⟨rfl,_,(ZL rfl),ah,_,(aY.pick [] _ (by decide) rfl),rfl,rfl⟩
 rintro ⟨⟩ bW bM ⟨bd,bj,bP,bQ,bi,bR,bu⟩ bA
 have aZ:=wDE hm ak bA
 try dsimp only at aZ
 have bg:Hid (¬ ((↑(((↑p0.length:Int):Int) - 0).toNat:Int) < (↑p0.length:Int))):=zL (wBB)
 refine sR fL1 Z (oR Z (zf Z bj bi) (eN (zJ (cF Z bg (Zf (zo (zo (ZX (zK (sR fL1 Z (oA Z Z (eN (zP ?_)))))))))))))
 have hE:=nA aZ;first | subst r | cases hE
 exact ⟨Z,_,(ZL Z),bd,_,bu,Z,Z⟩
theorem wIf (p0:wAb) (w:World) (U:PHeap) (hS:St0 w U [])  {r:Bool} (hm:wCm p0=some r):Gv Tryz.prog 95 [.agg #[jV p0.Offset.Lo,jV p0.Offset.Hi,jV p0.Error]] w (wCq w [] U (fun U_ L_ v=>v=.bool r/\L_=[])):=by
 unfold wCm at hm
 refine Gv.of Tryz.func95 Z Tryz.ntmps95 Tryz.results95 Z (sR gAf Z ?_)
 let B0:List Value:=[jV p0.Offset.Lo,jV p0.Offset.Hi,jV p0.Error]
 refine zy (cs:=B0) rfl rfl rfl rfl rfl rfl (by rfl) hS ?_
 intro W1 b2 ap
 refine oA Z Z (eN (sR (.fl 0 (.fl 1 (.fx 2 (wLe (.fx 6 gAd .stop)) .stop))) Z (oR Z (zE Z Z ya Z zS) (oL Z (ap.ldBA (j:=0) Z Z Z ZT zS (vs:=[jV p0.Offset.Lo,jV p0.Offset.Hi]) Z Z) (bnK hm fun x5 h6 aW=>zG 0 Z Z Z Z (zH Z Z Tryz.call93 (zB Z (zB Z (zB Z zM))) Z) ap (fun hs=>wFi p0.Offset (-36000) 36000 W1 U hs h6) (.inr Z) ?_)))))
 rintro U8 L9 ba ak aZ aQ ⟨rfl,rfl⟩
 have ai:sW w U U8 [.blk b2 112 B0] ak:=aQ
 refine oM Z Z (ifc aW ?_ ?_)
 intro ab aT
 refine zq Z Z Z (zO Z Z (congrArg nB ab.out)) (fun _=>zE Z Z ya Z zC) (ZI Z Z Z (zO Z Z (congrArg nB ab.out)) (ai.ldB (j:=0) Z Z Z zF (v:=jV p0.Error) Z) Z (bnK aT fun bd av aU=>zG 0 Z Z Z (zO Z Z (congrArg nB ab.out)) (zH Z Z Tryz.call69 (zB Z (zB Z (zB Z zM))) Z) ai (fun hs=>wDw p0.Error 0 600 ak U8 hs av) (.inr Z) ?_))
 rintro aj aX bb au a0 aR ⟨rfl,rfl⟩
 have aS:sW w U aj [.blk b2 112 B0] au:=aR
 refine oR Z (zm Z (congrArg nB ab.out) Z) (oA Z Z (eN (zP ?_)))
 have hE:=nA aU;first | subst r | cases hE
 exact ⟨rfl,_,(ZL rfl),aj,_,(aS.pick [] _ (by decide) rfl),rfl,rfl⟩
 intro ab aV
 refine Zb Z Z Z (zu Z Z (congrArg nB (nD.2 ab.out)) Z) (Zb Z Z Z (zu Z Z (congrArg nB (nD.2 ab.out)) Z) (yU Z Z Z (zu Z Z (congrArg nB (nD.2 ab.out)) Z) (oR Z (zz Z (congrArg nB (nD.2 ab.out)) Z) (oA Z Z (eN (zP ?_))))))
 have hE:=nA aV;first | subst r | cases hE
 exact ⟨rfl,_,(ZL rfl),U8,_,(ai.pick [] _ (by decide) rfl),rfl,rfl⟩
theorem wDC (p0:List wAT) (au:Option Addr) (av:Nat) (p1:(wAT->Option Bool)) (az:Value) (w:World) (U:PHeap) (hS:St0 w U []) (bv:Sl U 4 au av p0.length (hH wAC p0)) (bw:FnOK Tryz.prog U az wSA wSB p1) {r:Bool} (hm:wAq p0 p1=some r):Gv Tryz.prog 96 [.slice au p0.length av,az] w (wCq w [] U (fun U_ L_ v=>v=.bool r/\L_=[])):=by
 unfold wAq at hm
 refine Gv.of Tryz.func96 Z Tryz.ntmps96 Tryz.results96 Z (sR fL1 Z (oA Z Z (eN (zJ (sR fL3 Z (oM Z Z (oR Z (zi Z Z Zn) (oM Z Z (eN (zd ?_))))))))))
 have q:=wCQ hm
 obtain ⟨r3,ak⟩:=q
 have q:=wCP ak
 obtain ⟨ap,bB⟩:=q
 replace ap:=zL ap
 refine yP (fun k2 _ σ_ w_=>∃ (U_:PHeap),σ_ 9=jV (↑k2:Int)/\σ_ 1=az/\σ_ 7=.slice au p0.length av/\σ_ 8=jV (↑p0.length:Int)/\PHeap.Le U U_/\sW w U U_ [] w_) bB ?_ ?_ ?_
 exact ⟨U,Z,Z,Z,Z,(zQ _),hS⟩
 rintro k2 ⟨⟩ bV bX W8 am ⟨bb,aj,aS,aT,aU,aq,aW⟩ a0 bz
 try dsimp only at a0
 have aR:Hid ((↑k2:Int) < (↑p0.length:Int)):=zL (wBm am)
 replace am:=zL am
 have bC:Hid (w64 ((↑k2:Int) + 1)=(↑(k2 + 1):Int)):=zL (by have h1:=ap.out;have h2:=aR.out;rw [wAZ] <;> omega)
 refine sR fL1 Z (oR Z (zf Z aj aU) (eN (zJ (cT Z aR (kN (zJ (zd (sR gBc Z (bnK a0 fun x22 aV bD=>?_)))))))))
 have bk:=bv.le aq
 have q:=bk.el (fun _=>rfl) (wAR aV)
 obtain ⟨bO,bS,bo,bp⟩:=q
 refine oR Z (ZP Z aT bo aj Zn Zs (wBi aV)) (oL Z (aW.ldCA (f:=0) bp Z Z ym Zs (us:=[jV x22.Skier,jV x22.Mat,jV x22.Clock,jV x22.Time]) Z Z) (zV (cs:=[jV 0,jV 0,jV 0,jV 0]) Z Z Z Z Z Tryz.zeroValue115 Z aW ?_))
 intro bL aQ bq
 let B0:List Value:=[jV x22.Skier,jV x22.Mat,jV x22.Clock,jV x22.Time]
 refine zY (j:=0) (vs:=B0) Z Z Z Z bq Z Z Z Z Zs (zA Z) Z Z Z ?_
 intro be br
 have aX:sW w U bb [.blk aQ 115 B0] be:=br
 refine eN (sR gBe Z (oM Z aS (oL Z (aX.ldBA (j:=0) Z Z Z ym Zs (vs:=B0) Z Z) (bnK bD fun x37 bm bE=>?_))))
 have bn:=bw.le aq
 refine OKS.callV (a:=x22) Z Z Z Z Z Z (zB Z zM) aX bn Z bm ?_
 rintro ah bK bU bf bI bs ⟨rfl,rfl⟩
 have aY:sW w U ah [.blk aQ 115 B0] bf:=bs
 refine oR Z (Zm Z Z) (eN (ifc bE ?_ ?_))
 intro ai bF
 refine zr (nC ai.out) (Zr (ZE (zK (rR fL2 Z (oR Z (Zd (zj Z aj Z) (congrArg (jV) bC.out)) (oM Z Z (zw ?_)))))))
 obtain rfl:=nA bF
 exact zK ⟨rfl,_,rfl,⟨ah,rfl,aS,aT,aU,(aq.trans bI),(aY.pick [] _ (by decide) rfl)⟩⟩
 intro ai bG
 refine ZG (nF (ai.out)) (sR fL1 Z (oA Z Z (eN (zP (zg (zN ?_))))))
 have q:=wAa bG
 obtain ⟨bJ,bH,bh⟩:=q
 obtain rfl:=wCK hm ak (bz bJ bh)
 refine zN (zg (zN ?_))
 have hE:=nA bH;first | subst r | cases hE
 exact ⟨rfl,_,(ZL rfl),ah,_,(aY.pick [] _ (by decide) rfl),rfl,rfl⟩
 rintro ⟨⟩ bW bM ⟨bd,bj,bP,bQ,bi,bR,bu⟩ bA
 have aZ:=wDE hm ak bA
 try dsimp only at aZ
 have bg:Hid (¬ ((↑(((↑p0.length:Int):Int) - 0).toNat:Int) < (↑p0.length:Int))):=zL (wBB)
 refine sR fL1 Z (oR Z (zf Z bj bi) (eN (zJ (cF Z bg (Zf (zo (zo (ZX (zK (sR fL1 Z (oA Z Z (eN (zP ?_)))))))))))))
 have hE:=nA aZ;first | subst r | cases hE
 exact ⟨Z,_,(ZL Z),bd,_,bu,Z,Z⟩
theorem wIg (p0:wAT) (w:World) (U:PHeap) (hS:St0 w U [])  {r:Bool} (hm:wCn p0=some r):Gv Tryz.prog 97 [.agg #[jV p0.Skier,jV p0.Mat,jV p0.Clock,jV p0.Time]] w (wCq w [] U (fun U_ L_ v=>v=.bool r/\L_=[])):=by
 unfold wCn at hm
 refine Gv.of Tryz.func97 Z Tryz.ntmps97 Tryz.results97 Z (sR gAf Z ?_)
 let B0:List Value:=[jV p0.Skier,jV p0.Mat,jV p0.Clock,jV p0.Time]
 refine zy (cs:=B0) rfl rfl rfl rfl rfl rfl (by rfl) hS ?_
 intro W1 b2 ah
 refine oA Z Z (eN (sR gBe Z (oR Z (zE Z Z Zu Z zC) (oL Z (ah.ldB (j:=0) Z Z Z zF (v:=jV p0.Time) Z) (bnK hm fun x5 h6 au=>zG 0 Z Z Z Z (zH Z Z Tryz.call69 (zB Z (zB Z (zB Z zM))) Z) ah (fun hs=>wDw p0.Time 0 360000 W1 U hs h6) (.inr Z) ?_)))))
 rintro U8 L9 aQ aj az ap ⟨rfl,rfl⟩
 have aq:sW w U U8 [.blk b2 115 B0] aj:=ap
 refine oA Z Z (eN (zP ?_))
 have hE:=nA au;first | subst r | cases hE
 exact ⟨rfl,_,(ZL rfl),U8,_,(aq.pick [] _ (by decide) rfl),rfl,rfl⟩
theorem wEA (p0:wAA) (ai:Option Addr) (ak:Nat) (aj:Option Addr) (am:Nat) (az:Option Addr) (aR:Nat) (aQ:Option Addr) (aS:Nat) (p1:wAM) (w:World) (U:PHeap) (hS:St0 w U []) (bn:Sl U 1 ai ak p0.Starts.length (hH KL.encI p0.Starts)) (bo:Sl U 2 aj am p0.Splits.length (hH wAB p0.Splits)) (bp:Sl U 3 az aR p0.Clocks.length (hH wAD p0.Clocks)) (bq:Sl U 4 aQ aS p0.Readings.length (hH wAC p0.Readings)) {r:Bool} (hm:wAu p0 p1=some r):Gv Tryz.prog 99 [.agg #[.slice ai p0.Starts.length ak,.slice aj p0.Splits.length am,.slice az p0.Clocks.length aR,.slice aQ p0.Readings.length aS],.agg #[jV p1.Skier,jV p1.Mat]] w (wCq w [] U (fun U_ L_ v=>v=.bool r/\L_=[])):=by
 unfold wAu at hm
 refine Gv.of Tryz.func99 Z Tryz.ntmps99 Tryz.results99 Z (sR (.fx 0 gAg .stop) Z ?_)
 let B0:List Value:=[.slice ai p0.Starts.length ak,.slice aj p0.Splits.length am,.slice az p0.Clocks.length aR,.slice aQ p0.Readings.length aS]
 refine zy (cs:=B0) rfl rfl rfl rfl rfl rfl (by rfl) hS ?_
 intro W1 b2 bd
 let B1:List Value:=[jV p1.Skier,jV p1.Mat]
 refine zy (cs:=B1) rfl rfl rfl rfl rfl rfl (by rfl) bd ?_
 intro W5 b6 av
 refine oA Z Z (eN (sR (wHD (.fx 6 (wPM gAv) .stop)) Z (oR Z (zE Z Z Zy Z zC) (oL Z (av.ldB (j:=0) Z Z Z zF (v:=jV p1.Skier) Z) (oR Z (zE Z Z zU Z zW) (oL Z (av.ldB (j:=1) Z Z Z zX (v:=.slice ai p0.Starts.length ak) Z) (oR Z (zi Z Z zD) (oR Z (yV Z Z Z) (bnK hm fun x9 aZ bf=>zG 0 Z Z Z Z (zH Z Z Tryz.call69 (zB Z (zB Z (zB Z zM))) Z) av (fun hs=>wDw p1.Skier 0 (w64 ((↑p0.Starts.length:Int) - 1)) W5 U hs aZ) (.inr Z) ?_)))))))))
 rintro au bj bu aU br ba ⟨rfl,rfl⟩
 have ah:sW w U au [.blk b6 29 B1,.blk b2 27 B0] aU:=ba
 refine oM Z Z (ifc bf ?_ ?_)
 intro ab bg
 refine zq Z Z Z (zO Z Z (congrArg nB ab.out)) (fun _=>zE Z Z Zy Z zC) (ZI Z Z Z (zO Z Z (congrArg nB ab.out)) (ah.ldB (j:=0) Z Z Z zF (v:=jV p1.Mat) Z) Z (zq Z Z Z (zO Z Z (congrArg nB ab.out)) (fun _=>zE Z Z zU Z Zg) (ZI Z Z Z (zO Z Z (congrArg nB ab.out)) (ah.ldB (j:=1) Z Z Z Zl (v:=.slice aj p0.Splits.length am) Z) Z (zq Z Z Z (zO Z Z (congrArg nB ab.out)) (fun _=>zi Z Z ZD) (bnK bg fun bw a0 bh=>zG 0 Z Z Z (zO Z Z (congrArg nB ab.out)) (zH Z Z Tryz.call69 (zB Z (zB Z (zB Z zM))) Z) ah (fun hs=>wDw p1.Mat 0 (↑p0.Splits.length:Int) aU au hs a0) (.inr Z) ?_)))))
 rintro aT bk bv aX bs bb ⟨rfl,rfl⟩
 have be:sW w U aT [.blk b6 29 B1,.blk b2 27 B0] aX:=bb
 refine oR Z (zm Z (congrArg nB ab.out) Z) (oA Z Z (eN (zP ?_)))
 have hE:=nA bh;first | subst r | cases hE
 exact ⟨rfl,_,(ZL rfl),aT,_,(be.pick [] _ (by decide) rfl),rfl,rfl⟩
 intro ab bi
 refine Zb Z Z Z (zu Z Z (congrArg nB (nD.2 ab.out)) Z) (Zb Z Z Z (zu Z Z (congrArg nB (nD.2 ab.out)) Z) (Zb Z Z Z (zu Z Z (congrArg nB (nD.2 ab.out)) Z) (Zb Z Z Z (zu Z Z (congrArg nB (nD.2 ab.out)) Z) (Zb Z Z Z (zu Z Z (congrArg nB (nD.2 ab.out)) Z) (yU Z Z Z (zu Z Z (congrArg nB (nD.2 ab.out)) Z) (oR Z (zz Z (congrArg nB (nD.2 ab.out)) Z) (oA Z Z (eN (zP ?_)))))))))
 have hE:=nA bi;first | subst r | cases hE
 exact ⟨rfl,_,(ZL rfl),au,_,(ah.pick [] _ (by decide) rfl),rfl,rfl⟩
theorem wIh (p0:wAT) (p1:wAA) (aW:Nat) (am:Option Addr) (au:Nat) (ap:Option Addr) (av:Nat) (ah:Option Addr) (ai:Nat) (aq:Option Addr) (az:Nat) (w:World) (U:PHeap) (hS:St0 w U []) (aV:Cl U aW 0 [.slice am p1.Starts.length au,.slice ap p1.Splits.length av,.slice ah p1.Clocks.length ai,.slice aq p1.Readings.length az]) (bf:Sl U 1 am au p1.Starts.length (hH KL.encI p1.Starts)) (bg:Sl U 2 ap av p1.Splits.length (hH wAB p1.Splits)) (bh:Sl U 3 ah ai p1.Clocks.length (hH wAD p1.Clocks)) (bi:Sl U 4 aq az p1.Readings.length (hH wAC p1.Readings)) {r:Bool} (hm:wCo p0 p1=some r):Gv Tryz.prog 98 [.agg #[jV p0.Skier,jV p0.Mat,jV p0.Clock,jV p0.Time],.pointer (some ⟨aW,0,none⟩)] w (wCq w [] U (fun U_ L_ v=>v=.bool r/\L_=[])):=by
 unfold wCo at hm
 refine Gv.of Tryz.func98 Z Tryz.ntmps98 Tryz.results98 Z (sR gAf Z ?_)
 let B0:List Value:=[jV p0.Skier,jV p0.Mat,jV p0.Clock,jV p0.Time]
 refine zy (cs:=B0) rfl rfl rfl rfl rfl rfl (by rfl) hS ?_
 intro W1 b2 ak
 refine oA Z Z (eN (sR (wHD (.fx 6 (wQy (.fx 14 gAe .stop)) .stop)) Z (oL Z (ak.ldCA (f:=0) aV Z Z ZA zl (us:=[.slice am p1.Starts.length au,.slice ap p1.Splits.length av,.slice ah p1.Clocks.length ai,.slice aq p1.Readings.length az]) Z Z) (oR Z (zE Z Z Zu Z zC) (oL Z (ak.ldB (j:=0) Z Z Z zF (v:=jV p0.Skier) Z) (oR Z (zE Z Z Zu Z zC) (oL Z (ak.ldB (j:=0) Z Z Z zF (v:=jV p0.Mat) Z) (oR Z (ZC (pv:=[(0,jV p0.Skier),(1,jV p0.Mat)]) (z:=[jV 0,jV 0]) (cs:=[jV p0.Skier,jV p0.Mat]) Z (wAH Z (wAH Z wAU)) Tryz.zeroValue29 wPr Z Z) (bnK hm fun x5 h6 bn=>zG 0 Z Z Z Z (zH Z Z Tryz.call99 (zB Z (zB Z zM)) Z) ak (fun hs=>wEA p1 am au ap av ah ai aq az (⟨p0.Skier,p0.Mat⟩:wAM) W1 U hs bf bg bh bi h6) (.inr Z) ?_)))))))))
 rintro U8 L9 bs aT bo bb ⟨rfl,rfl⟩
 have aj:sW w U U8 [.blk b2 115 B0] aT:=bb
 refine oM Z Z (ifc bn ?_ ?_)
 intro ae bj
 refine zq Z Z Z (zO Z Z (congrArg nB ae.out)) (fun _=>zE Z Z Zu Z zC) (ZI Z Z Z (zO Z Z (congrArg nB ae.out)) (aj.ldB (j:=0) Z Z Z zF (v:=jV p0.Clock) Z) Z (zq Z Z Z (zO Z Z (congrArg nB ae.out)) (fun _=>zE Z Z zU Z yE) ?_))
 have aZ:=aV.le bo
 refine ZI Z Z Z (zO Z Z (congrArg nB ae.out)) (aj.ldC (f:=2) aZ (v:=.slice ah p1.Clocks.length ai) Z Z yH Z) Z (zq Z Z Z (zO Z Z (congrArg nB ae.out)) (fun _=>zi Z Z ZW) (zq Z Z Z (zO Z Z (congrArg nB ae.out)) (fun _=>yV Z Z Z) (bnK bj fun bv a0 bk=>zG 0 Z Z Z (zO Z Z (congrArg nB ae.out)) (zH Z Z Tryz.call69 (zB Z (zB Z (zB Z zM))) Z) aj (fun hs=>wDw p0.Clock 0 (w64 ((↑p1.Clocks.length:Int) - 1)) aT U8 hs a0) (.inr Z) ?_)))
 rintro aS bp bu aY br bd ⟨rfl,rfl⟩
 have be:sW w U aS [.blk b2 115 B0] aY:=bd
 refine oR Z (zm Z (congrArg nB ae.out) Z) (oA Z Z (eN (zP ?_)))
 have hE:=nA bk;first | subst r | cases hE
 exact ⟨rfl,_,(ZL rfl),aS,_,(be.pick [] _ (by decide) rfl),rfl,rfl⟩
 intro ae bm
 refine Zb Z Z Z (zu Z Z (congrArg nB (nD.2 ae.out)) Z) (Zb Z Z Z (zu Z Z (congrArg nB (nD.2 ae.out)) Z) (Zb Z Z Z (zu Z Z (congrArg nB (nD.2 ae.out)) Z) (Zb Z Z Z (zu Z Z (congrArg nB (nD.2 ae.out)) Z) (Zb Z Z Z (zu Z Z (congrArg nB (nD.2 ae.out)) Z) (Zb Z Z Z (zu Z Z (congrArg nB (nD.2 ae.out)) Z) (yU Z Z Z (zu Z Z (congrArg nB (nD.2 ae.out)) Z) (oR Z (zz Z (congrArg nB (nD.2 ae.out)) Z) (oA Z Z (eN (zP ?_))))))))))
 have hE:=nA bm;first | subst r | cases hE
 exact ⟨rfl,_,(ZL rfl),U8,_,(aj.pick [] _ (by decide) rfl),rfl,rfl⟩
theorem wHK (p0:wAA) (av:Option Addr) (aR:Nat) (az:Option Addr) (aS:Nat) (aQ:Option Addr) (aT:Nat) (am:Option Addr) (ap:Nat) (w:World) (U:PHeap) (hS:St0 w U []) (cN:Sl U 1 av aR p0.Starts.length (hH KL.encI p0.Starts)) (cO:Sl U 2 az aS p0.Splits.length (hH wAB p0.Splits)) (cP:Sl U 3 aQ aT p0.Clocks.length (hH wAD p0.Clocks)) (cQ:Sl U 4 am ap p0.Readings.length (hH wAC p0.Readings)) {r:Int} (hm:wDP p0=some r):Gv Tryz.prog 33 [.agg #[.slice av p0.Starts.length aR,.slice az p0.Splits.length aS,.slice aQ p0.Clocks.length aT,.slice am p0.Readings.length ap]] w (wCq w [] U (fun U_ L_ v=>v=jV r/\L_=[])):=by
 unfold wDP at hm
 refine Gv.of Tryz.func33 Z Tryz.ntmps33 Tryz.results33 Z (sR gAf Z ?_)
 let B0:List Value:=[.slice av p0.Starts.length aR,.slice az p0.Splits.length aS,.slice aQ p0.Clocks.length aT,.slice am p0.Readings.length ap]
 refine zy (cs:=B0) rfl rfl rfl rfl rfl rfl (by rfl) hS ?_
 intro W1 b2 cI
 have q:=cI.freeze (k:=0) rfl
 obtain ⟨U5,bg,aV,cM⟩:=q
 replace aV:=Cl.of aV
 have bO:sW w U U5 [] W1:=cM
 replace aV:Cl U5 b2 0 B0:=aV
 refine oA Z Z (eN (zJ (zd (sR (wEF (.fx 3 (wUU (.nil)) .stop)) Z (oR Z (zE Z Z zU Z zW) (oL Z (bO.ldC (f:=0) aV (v:=.slice av p0.Starts.length aR) Z Z zX Z) (oR Z (zi Z Z zD) (bnK hm fun dL bV cU=>zG 0 Z Z Z Z (zH Z Z Tryz.call69 (zB Z (zB Z (zB Z zM))) Z) bO (fun hs=>wDw (↑p0.Starts.length:Int) 1 8 W1 U5 hs bV) (.inr Z) ?_))))))))
 rintro au dz dG bz aX cH ⟨rfl,rfl⟩
 have ak:sW w U au [] bz:=cH
 refine oR Z (Zm Z Z) (oM Z Z (ifc cU ?_ ?_))
 intro ab de
 refine zq Z Z Z (zO Z Z (nC ab.out)) (fun _=>zE Z Z zU Z Zg) ?_
 have aW:=aV.le aX
 refine ZI Z Z Z (zO Z Z (nC ab.out)) (ak.ldC (f:=1) aW (v:=.slice az p0.Splits.length aS) Z Z Zl Z) Z (zq Z Z Z (zO Z Z (nC ab.out)) (fun _=>zi Z Z ZD) (zq Z Z Z (zO Z Z (nC ab.out)) (fun _=>yd Z Z Z) (oR Z (zz Z (nC ab.out) Z) (oM Z Z (ifc de ?_ ?_)))))
 intro ae df
 refine oT Z ae (oT Z ae (oT Z ae (oT Z ae (oR Z (zm Z (Zp ae.out) Z) (oM Z Z (oN Z (oN Z (oN Z (oN Z (oR Z (zm Z Z Z) (oA Z Z (eN (ZG Z (sR fL1 Z (oA Z Z (eN (zP (zg (zN ?_)))))))))))))))))))
 cases df
 exact ⟨Z,_,(ZL Z),au,_,ak,Z,Z⟩
 intro ae dg
 refine rU Z (wF Z ae) (zE Z Z zU Z yE) (ZI Z Z Z (wF Z ae) (ak.ldC (f:=2) aW (v:=.slice aQ p0.Clocks.length aT) Z Z yH Z) Z (rU Z (wF Z ae) (zi Z Z ZW) (rU Z (wF Z ae) (yd Z Z Z) (oR Z (zz Z (Za ae.out) Z) (oM Z Z (ifc dg ?_ ?_))))))
 intro ah dh
 refine oT Z ah (oT Z ah (oT Z ah (oT Z ah (oR Z (zm Z (Zp ah.out) Z) (oA Z Z (eN (ZG Z (sR fL1 Z (oA Z Z (eN (zP (zg (zN ?_)))))))))))))
 cases dh
 exact ⟨Z,_,(ZL Z),au,_,ak,Z,Z⟩
 intro ah dk
 refine rU Z (wF Z ah) (zE Z Z zU Z yR) (ZI Z Z Z (wF Z ah) (ak.ldC (f:=3) aW (v:=.slice am p0.Readings.length ap) Z Z yW Z) Z (rU Z (wF Z ah) (zi Z Z Zn) (rU Z (wF Z ah) (yd Z Z Z) (oR Z (zz Z (Za ah.out) Z) (oA Z Z (eN (ifc dk ?_ ?_)))))))
 intro bm dl
 refine cT Z bm (sR fL1 Z (oA Z Z (eN (zP (zg (zN ?_))))))
 cases dl
 exact ⟨Z,_,(ZL Z),au,_,ak,Z,Z⟩
 intro bm dm
 refine cF Z bm (sR (.fl 0 (.fl 1 (.fx 2 (wUP (.fx 7 (wUW (.nil)) .stop)) .stop))) Z (oR Z (zE Z Z zU Z zW) (oL Z (ak.ldC (f:=0) aW (v:=.slice av p0.Starts.length aR) Z Z zX Z) ?_)))
 have cb:=cN.le bg
 have bG:=cb.le aX
 have cz:FnOK Tryz.prog au (.func (.func 90) #[] #[]) wTh wTi wCj:=⟨90,[],[],rfl,Tryz.call90,fun U1 w1 x y vs le hs ha hm=>by obtain rfl:=ha;exact wId x w1 U1 hs  hm⟩
 refine bnK dm fun dN cd dp=>zG 0 Z Z Z Z (zH Z Z Tryz.call89 (zB Z (zB Z zM)) Z) ak (fun hs=>wGt p0.Starts av aR wCj (.func (.func 90) #[] #[]) bz au hs bG cz cd) (.inr Z) ?_
 rintro bb dA dH bA aY cJ ⟨rfl,rfl⟩
 have br:sW w U bb [] bA:=cJ
 refine oR Z (Zm Z Z) (oM Z Z (ifc dp ?_ ?_))
 intro ai dq
 refine zq Z Z Z (zO Z Z (nC ai.out)) (fun _=>zE Z Z zU Z Zg) ?_
 have bH:=aW.le aY
 refine ZI Z Z Z (zO Z Z (nC ai.out)) (br.ldC (f:=1) bH (v:=.slice az p0.Splits.length aS) Z Z Zl Z) Z ?_
 have cf:=cO.le bg
 have cg:=cf.le aX
 have bI:=cg.le aY
 have cA:FnOK Tryz.prog bb (.func (.func 92) #[] #[]) wTj wTk wCl:=⟨92,[],[],rfl,Tryz.call92,fun U1 w1 x y vs le hs ha hm=>by obtain rfl:=ha;exact wIe x w1 U1 hs  hm⟩
 refine bnK dq fun dO cj dr=>zG 0 Z Z Z (zO Z Z (nC ai.out)) (zH Z Z Tryz.call91 (zB Z (zB Z zM)) Z) br (fun hs=>wFE p0.Splits az aS wCl (.func (.func 92) #[] #[]) bA bb hs bI cA cj) (.inr Z) ?_
 rintro bd dB dI bB aZ cK ⟨rfl,rfl⟩
 have bs:sW w U bd [] bB:=cK
 refine zq Z Z Z (zO Z Z (nC ai.out)) (fun _=>Zm Z Z) (oR Z (zz Z (nC ai.out) Z) (oA Z Z (eN (ifc dr ?_ ?_))))
 intro bn dt
 refine zr (nC bn.out) (sR gBm Z (oR Z (zE Z Z zU Z yE) ?_))
 have bJ:=bH.le aZ
 refine oL Z (bs.ldC (f:=2) bJ (v:=.slice aQ p0.Clocks.length aT) Z Z yH Z) ?_
 have cm:=cP.le bg
 have cn:=cm.le aX
 have cp:=cn.le aY
 have bK:=cp.le aZ
 have cC:FnOK Tryz.prog bd (.func (.func 95) #[] #[]) wTl wTm wCm:=⟨95,[],[],rfl,Tryz.call95,fun U1 w1 x y vs le hs ha hm=>by obtain rfl:=ha;exact wIf x w1 U1 hs  hm⟩
 refine bnK dt fun x70 cq du=>zG 0 Z Z Z Z (zH Z Z Tryz.call94 (zB Z (zB Z zM)) Z) bs (fun hs=>wEg p0.Clocks aQ aT wCm (.func (.func 95) #[] #[]) bB bd hs bK cC cq) (.inr Z) ?_
 rintro be dC dJ bC a0 cL ⟨rfl,rfl⟩
 have bu:sW w U be [] bC:=cL
 refine oR Z (Zm Z Z) (oA Z Z (eN (ifc du ?_ ?_)))
 intro bo dv
 refine zr (nC bo.out) (zJ (yj fun dx bP=>?_))
 have bp:dx 1=.pointer (some ⟨b2,0,none⟩):=(bP 1).trans rfl
 clear bP
 refine rR gBm Z (oR Z (zE Z bp zU Z yR) ?_)
 have bL:=bJ.le a0
 refine oL Z (bu.ldC (f:=3) bL (v:=.slice am p0.Readings.length ap) Z Z yW Z) ?_
 have cr:=cQ.le bg
 have ct:=cr.le aX
 have cu:=ct.le aY
 have cw:=cu.le aZ
 have bM:=cw.le a0
 have cD:FnOK Tryz.prog be (.func (.func 97) #[] #[]) wSA wSB wCn:=⟨97,[],[],rfl,Tryz.call97,fun U1 w1 x y vs le hs ha hm=>by obtain rfl:=ha;exact wIg x w1 U1 hs  hm⟩
 refine bnK dv fun x92 cx dw=>zG 0 Z Z Z Z (zH Z Z Tryz.call96 (zB Z (zB Z zM)) Z) bu (fun hs=>wDC p0.Readings am ap wCn (.func (.func 97) #[] #[]) bC be hs bM cD cx) (.inr Z) ?_
 rintro bf dD dK bD ba cE ⟨rfl,rfl⟩
 have bq:sW w U bf [] bD:=cE
 refine oR Z (Zm Z Z) (oA Z Z (eN (ifc dw ?_ ?_)))
 intro bj cR
 refine zr (nC bj.out) (sR (wEF (.fx 3 gAc .stop)) Z (oR Z (zE Z bp zU Z yR) ?_))
 have bE:=bL.le ba
 refine oL Z (bq.ldC (f:=3) bE (v:=.slice am p0.Readings.length ap) Z Z yW Z) (oR Z (Runs.mkf Z zM (zB bp zM)) ?_)
 have bF:=bM.le ba
 have bR:=bG.le aY
 have bS:=bR.le aZ
 have bT:=bS.le a0
 have bU:=bT.le ba
 have bW:=bI.le aZ
 have bX:=bW.le a0
 have bY:=bX.le ba
 have bZ:=bK.le a0
 have b5:=bZ.le ba
 have cy:FnOK Tryz.prog bf (.func (.func 98) #[] #[.pointer (some ⟨b2,0,none⟩)]) wSA wSB (fun x=>wCo x p0):=⟨98,[],[.pointer (some ⟨b2,0,none⟩)],rfl,Tryz.call98,fun U1 w1 x y vs le hs ha hm=>by obtain rfl:=ha;exact wIh x p0 b2 av aR az aS aQ aT am ap w1 U1 hs (bE.le le) (bU.le le) (bY.le le) (b5.le le) (bF.le le) hm⟩
 refine bnK cR fun dM b9 cS=>zG 0 Z Z Z Z (zH Z Z Tryz.call96 (zB Z (zB Z zM)) Z) bq (fun hs=>wDC p0.Readings am ap (fun x=>wCo x p0) (.func (.func 98) #[] #[.pointer (some ⟨b2,0,none⟩)]) bD bf hs bF cy b9) (.inr Z) ?_
 rintro bh dy dF bQ dE cG ⟨rfl,rfl⟩
 have bN:sW w U bh [] bQ:=cG
 refine oR Z (Zm Z Z) (oA Z Z (eN (ifc cS ?_ ?_)))
 intro bk cV
 refine zr (nC bk.out) (Zr (ZE (zK (sR fL1 Z (oA Z Z (eN (zP ?_)))))))
 cases cV
 exact ⟨Z,_,(ZL Z),bh,_,bN,Z,Z⟩
 intro bk cW
 refine ZG (nF (bk.out)) (sR fL1 Z (oA Z Z (eN (zP (zg (zN ?_))))))
 cases cW
 exact ⟨Z,_,(ZL Z),bh,_,bN,Z,Z⟩
 intro bj cX
 refine ZG (nF (bj.out)) (sR fL1 Z (oA Z Z (eN (zP (zg (zN ?_))))))
 cases cX
 exact ⟨Z,_,(ZL Z),bf,_,bq,Z,Z⟩
 intro bo cY
 refine ZG (nF (bo.out)) (sR fL1 Z (oA Z Z (eN (zP (zg (zN ?_))))))
 cases cY
 exact ⟨Z,_,(ZL Z),be,_,bu,Z,Z⟩
 intro bn cZ
 refine ZG (nF (bn.out)) (sR fL1 Z (oA Z Z (eN (zP (zg (zN ?_))))))
 cases cZ
 exact ⟨Z,_,(ZL Z),bd,_,bs,Z,Z⟩
 intro ai da
 refine Zb Z Z Z (zu Z Z (nF (ai.out)) Z) (Zb Z Z Z (zu Z Z (nF (ai.out)) Z) (yU Z Z Z (zu Z Z (nF (ai.out)) Z) (Zb Z Z Z (zu Z Z (nF (ai.out)) Z) (oR Z (zm Z (nF (ai.out)) Z) (oA Z Z (eN (ZG Z (sR fL1 Z (oA Z Z (eN (zP (zg (zN ?_)))))))))))))
 cases da
 exact ⟨Z,_,(ZL Z),bb,_,br,Z,Z⟩
 intro ab db
 refine Zb Z Z Z (zu Z Z (nF (ab.out)) Z) (Zb Z Z Z (zu Z Z (nF (ab.out)) Z) (Zb Z Z Z (zu Z Z (nF (ab.out)) Z) (Zb Z Z Z (zu Z Z (nF (ab.out)) Z) (oR Z (zm Z (nF (ab.out)) Z) (oM Z Z (oN Z (oN Z (oN Z (oN Z (oR Z (zm Z Z Z) (oM Z Z (oN Z (oN Z (oN Z (oN Z (oR Z (zm Z Z Z) (oA Z Z (eN (ZG Z (sR fL1 Z (oA Z Z (eN (zP (zg (zN ?_)))))))))))))))))))))))))
 cases db
 exact ⟨Z,_,(ZL Z),au,_,ak,Z,Z⟩
end Go.Proofs.YtlnfbjphfoipaaaGreat
namespace Go.Proofs.YtlnfbjphfoipaaaGreat
open Go.KL
set_option maxHeartbeats 4000000
theorem wBQ  (w:World) (U:PHeap) (hS:St0 w U [])  {r:wAG} (hm:wBf =some r):Gv Tryz.prog 65 [] w (wCq w [] U (fun U_ L_ v=>v=.agg #[jV r.skier,jV r.mat]/\L_=[])):=by
 unfold wBf at hm
 refine Gv.of Tryz.func65 Z Tryz.ntmps65 Tryz.results65 Z (sR (.fx 0 .nil .stop) Z (zV (cs:=[jV 0,jV 0]) Z Z Z Z Z zk Z hS ?_))
 intro W1 b2 ai
 refine eN (sR gAk Z ?_)
 let B0:List Value:=[jV (-1),jV 0]
 refine oR Z (ZC (pv:=[(0,jV (-1)),(1,jV 0)]) (z:=[jV 0,jV 0]) (cs:=B0) Z (wAH Z (wAH Z wAU)) zk wBl Z Z) (zY (j:=0) (vs:=B0) Z Z Z Z ai Z Z Z Z zI (zA Z) Z Z Z ?_)
 intro W5 aj
 have ab:sW w U U [.blk b2 123 B0] W5:=aj
 refine eN (zP ?_)
 cases hm
 exact ⟨rfl,_,(wJs (v:=.agg B0.toArray) ⟨⟨_,rfl,(wAs zh zI (ab.blkAt (k:=0) rfl) (vs:=B0) rfl rfl)⟩,trivial⟩),U,_,(ab.pick [] _ (by decide) rfl),rfl,rfl⟩
theorem wGB {S E:Type} (PY:S->PHeap->List Res->Prop) (PE:E->PHeap->List Res->Prop) (f:S->wAK->Option (S ⊕ E)) (y:Nat) (s0:S) (p1:wAA) (am:Nat) (cd:Option Addr) (cm:Nat) (cf:Option Addr) (cn:Nat) (cg:Option Addr) (cp:Nat) (cj:Option Addr) (cq:Nat) (w:World) (L:List Res) (U:PHeap) (hS:St ⟨w,L,U⟩ U L w) (hP:PY s0 U L) (hY:YOK Tryz.prog y wTn PY PE f U) (bf:Cl U am 0 [.slice cd p1.Starts.length cm,.slice cf p1.Splits.length cn,.slice cg p1.Clocks.length cp,.slice cj p1.Readings.length cq]) (jx:Sl U 1 cd cm p1.Starts.length (hH KL.encI p1.Starts)) (jy:Sl U 2 cf cn p1.Splits.length (hH wAB p1.Splits)) (jz:Sl U 3 cg cp p1.Clocks.length (hH wAD p1.Clocks)) (jA:Sl U 4 cj cq p1.Readings.length (hH wAC p1.Readings)) {r:S ⊕ E} (hm:wCD f s0 p1=some r):Gv Tryz.prog 126 [.func (.yield y) #[] #[],.pointer (some ⟨am,0,none⟩)] w (ItS w L U PY PE r):=by
 unfold wCD at hm
 refine Gv.of Tryz.func126 Z Tryz.ntmps126 Tryz.results126 Z (sR fL11 Z (oR Z (zE Z Z zU Z Zg) (oL Z (hS.ldC (f:=1) bf (v:=.slice cf p1.Splits.length cn) Z Z Zl Z) (oR Z (zi Z Z ZD) (oR Z (zE Z Z zU Z yE) (oL Z (hS.ldC (f:=2) bf (v:=.slice cg p1.Clocks.length cp) Z Z yH Z) (oR Z (zi Z Z ZW) (oR Z (zE Z Z zU Z yR) (oL Z (hS.ldC (f:=3) bf (v:=.slice cj p1.Readings.length cq) Z Z yW Z) (oR Z (zi Z Z Zn) ?_))))))))))
 let B0:List Value:=[jV 1,jV (↑p1.Splits.length:Int),jV (↑p1.Clocks.length:Int),jV (↑p1.Readings.length:Int)]
 refine oR Z (Runs.buildA (pv:=[(0,jV 1),(1,jV (↑p1.Splits.length:Int)),(2,jV (↑p1.Clocks.length:Int)),(3,jV (↑p1.Readings.length:Int))]) (z:=[jV 0,jV 0,jV 0,jV 0]) (cs:=B0) Z (wAH Z (wAH Z (wAH Z (wAH Z wAU)))) Tryz.zeroValue195 Tryz.runUnderlying195 zC Z Z) (oM Z Z (eN (zd ?_)))
 have q:=wCQ hm
 obtain ⟨jD,au⟩:=q
 have q:=wCP au
 obtain ⟨bV,gF⟩:=q
 replace bV:=zL bV
 refine yP (fun ab dz σ_ w_=>∃ (U_:PHeap) (az:List Res),σ_ 18=jV (↑ab:Int)/\σ_ 0=.func (.yield y) #[] #[]/\σ_ 1=.pointer (some ⟨am,0,none⟩)/\σ_ 17=.agg B0.toArray/\PHeap.Le U U_/\St ⟨w,L,U⟩ U_ az w_/\PY dz U_ az) gF ?_ ?_ ?_
 exact ⟨U,L,Z,Z,Z,Z,(zQ _),hS,hP⟩
 rintro ab dz jK jW i8 bQ ⟨bw,az,aR,cN,bE,bF,aq,bO,cZ⟩ it bg
 have cJ:Hid ((↑ab:Int) < 4):=zL (wBm bQ)
 replace bQ:=zL bQ
 have dq:Hid (w64 ((↑ab:Int) + 1)=(↑(ab + 1):Int)):=zL (by have h1:=bV.out;have h2:=cJ.out;rw [wAZ] <;> omega)
 refine sR fL1 Z (oR Z (zf Z aR Z) (eN (zJ (cT Z cJ (kN (zJ (zd (sR fL4 Z (oM Z aR (bnK it fun x33 bN g7=>oR Z (Runs.ixA (cs:=hH KL.encI ([1,(↑p1.Splits.length:Int),(↑p1.Clocks.length:Int),(↑p1.Readings.length:Int)]:List Int)) Z bF aR Tryz.runUnderlying195 zC (wAv bN) (wAz bN) (wGL zF (wFX (sz:=1) (fun _=>Z) _ _ 0 _ _ (wAR bN) Z))) (oA Z Z (oA Z Z (eN (sR fL4 Z (oR Z (zE Z bE zU Z zW) ?_)))))))))))))))
 have fW:=bf.le aq
 refine oL Z (bO.ldC (f:=0) fW (v:=.slice cd p1.Starts.length cm) Z Z zX Z) (oR Z (zi Z Z zD) (oA Z Z (eN (zJ ?_))))
 have q:=bnd g7
 obtain ⟨⟨dN,iG⟩,dv,dr⟩:=q
 try dsimp only at dr
 refine yQ (fun σ_ w_=>∃ (U_:PHeap) (aQ:List Res),σ_ 0=.func (.yield y) #[] #[]/\σ_ 1=.pointer (some ⟨am,0,none⟩)/\σ_ 3=jV (↑ab:Int)/\σ_ 4=jV x33/\σ_ 5=jV (↑p1.Starts.length:Int)/\σ_ 17=.agg B0.toArray/\σ_ 18=jV (↑ab:Int)/\σ_ 30=.bool dN/\PHeap.Le bw U_/\St ⟨w,L,U⟩ U_ aQ w_/\PY iG U_ aQ) ?_ ?_
 refine rR fL6 Z (oM Z Z (oR Z (Runs.eql Z Z Z) (oM Z Z ?_)))
 by_cases ai:(↑ab:Int)=2
 have dt:=dv;rw [if_pos ai] at dt;replace ai:=zL ai
 refine oT Z ai (oT Z ai (oR Z (zm Z (Zp ai.out) Z) (zw ?_)))
 cases dt
 exact zK ⟨Z,⟨bw,az,cN,bE,Z,Z,Z,bF,aR,Z,(zQ _),bO,cZ⟩⟩
 have du:=dv;rw [if_neg ai] at du;replace ai:=zL ai
 refine ZJ Z Z Z (wF Z ai) Z Z (rU Z (wF Z ai) (Runs.eql Z Z Z) (oR Z (zz Z (Za ai.out) Z) (zw ?_)))
 cases du
 exact zK ⟨Z,⟨bw,az,cN,bE,Z,Z,Z,bF,aR,Z,(zQ _),bO,cZ⟩⟩
 rintro j8 jg ⟨aW,aQ,cP,cQ,cR,cS,fz,cU,cV,cW,av,dh,da⟩
 refine ifc dr ?_ ?_
 intro bA bn
 refine ZG (cW.trans (congrArg nB bA.out)) (rR fL1 Z (oA Z Z (eN (sR fL2 Z (oM Z Z (oM Z Z (eN (zd ?_))))))))
 have q:=wCQ bn
 obtain ⟨jH,be⟩:=q
 have q:=wCP be
 obtain ⟨bY,gI⟩:=q
 replace bY:=zL bY
 refine yP (fun ah dD σ_ w_=>∃ (U_:PHeap) (aT:List Res),σ_ 32=jV (↑ah:Int)/\σ_ 0=.func (.yield y) #[] #[]/\σ_ 1=.pointer (some ⟨am,0,none⟩)/\σ_ 3=jV (↑ab:Int)/\σ_ 4=jV x33/\σ_ 17=.agg B0.toArray/\σ_ 18=jV (↑ab:Int)/\σ_ 31=jV 1/\PHeap.Le aW U_/\St ⟨w,L,U⟩ U_ aT w_/\PY dD U_ aT) gI ?_ ?_ ?_
 exact ⟨aW,aQ,Z,cP,cQ,cR,cS,cU,cV,Z,(zQ _),dh,da⟩
 rintro ah dD jN j9 jh bT ⟨cy,aT,bM,fA,fB,fC,cX,fD,fE,cY,cb,gy,fM⟩ bp dp
 have cE:Hid ((↑ah:Int) < 1):=zL (wBm bT)
 replace bT:=zL bT
 have gJ:Hid (w64 ((↑ah:Int) + 1)=(↑(ah + 1):Int)):=zL (by have h1:=bY.out;have h2:=cE.out;rw [wAZ] <;> omega)
 refine sR fL1 Z (oR Z (zf Z bM cY) (eN (zJ (cT Z cE (kN (zJ (zd (sR fL2 Z (oM Z bM (oA Z Z (eN (sR fL2 Z (oM Z cX (oM Z Z (eN (zd ?_))))))))))))))))
 have q:=wCQ bp
 obtain ⟨jC,ba⟩:=q
 have q:=wCP ba
 obtain ⟨bU,gE⟩:=q
 replace bU:=zL bU
 refine yP (fun aj dA σ_ w_=>∃ (U_:PHeap) (bq:List Res),σ_ 36=jV (↑aj:Int)/\σ_ 0=.func (.yield y) #[] #[]/\σ_ 1=.pointer (some ⟨am,0,none⟩)/\σ_ 3=jV (↑ab:Int)/\σ_ 4=jV x33/\σ_ 6=jV (↑ah:Int)/\σ_ 17=.agg B0.toArray/\σ_ 18=jV (↑ab:Int)/\σ_ 31=jV 1/\σ_ 32=jV (↑ah:Int)/\σ_ 35=jV x33/\PHeap.Le cy U_/\St ⟨w,L,U⟩ U_ bq w_/\PY dA U_ bq) gE ?_ ?_ ?_
 exact ⟨cy,aT,Z,fA,fB,fC,cX,Z,fD,fE,cY,bM,Z,(zQ _),gy,fM⟩
 rintro aj dA jJ jU i6 bP ⟨iZ,bq,bJ,bB,ec,bC,ef,bD,eg,eh,ej,en,cK,bZ,gb,fN⟩ ir dk
 have cG:Hid ((↑aj:Int) < x33):=zL (wBm bP)
 replace bP:=zL bP
 have gK:Hid (w64 ((↑aj:Int) + 1)=(↑(aj + 1):Int)):=zL (by have h1:=bU.out;have h2:=cG.out;rw [wAZ] <;> omega)
 refine sR fL1 Z (oR Z (zf Z bJ cK) (eN (zJ (cT Z cG (kN (zJ (zd (sR fL2 Z (oM Z bJ (oA Z Z (eN (sR (wGG (.fx 5 (wQx gAv) .stop)) Z (oM Z bB (oM Z bC (oM Z bD (oM Z Z ?_))))))))))))))))
 let B1:List Value:=[jV 0,jV 0,jV 0,.bool false]
 refine oR Z (ZC (pv:=[(0,jV (↑ab:Int)),(1,jV (↑ah:Int)),(2,jV (↑aj:Int)),(3,.bool true)]) (z:=B1) (cs:=[jV (↑ab:Int),jV (↑ah:Int),jV (↑aj:Int),.bool true]) Z (wAH Z (wAH Z (wAH Z (wAH Z wAU)))) Tryz.zeroValue93 wHW Z Z) (bnK ir fun iU fO bh=>OKS.yieldT 0 (a:=(⟨(↑ab:Int),(↑ah:Int),(↑aj:Int),true⟩:wAK)) Z Z Z Z Z Z (zB Z zM) gb hY (((aq.trans av).trans cb).trans bZ) fN Z fO Z ?_)
 rintro bv cu ji cz dw db aX
 rcases iU with iC | iC
 try dsimp only at bh aX
 obtain ⟨rfl,ii⟩:=aX
 have ge:St ⟨w,L,U⟩ bv cu cz:=db
 refine oR Z (Zm Z Z) (oM Z Z (ZJ Z Z Z (zO Z Z Z) Z bB (ZJ Z Z Z (zO Z Z Z) Z bC (ZJ Z Z Z (zO Z Z Z) Z bD (ZJ Z Z Z (zO Z Z Z) Z Z (zq Z Z Z (zO Z Z Z) (fun _=>ZC (pv:=[(0,jV (↑ab:Int)),(1,jV (↑ah:Int)),(2,jV (↑aj:Int)),(3,.bool false)]) (z:=B1) (cs:=[jV (↑ab:Int),jV (↑ah:Int),jV (↑aj:Int),.bool false]) Z (wAH Z (wAH Z (wAH Z (wAH Z wAU)))) Tryz.zeroValue93 wHW Z Z) (bnK bh fun iV fP bi=>OKS.yieldT 0 (a:=(⟨(↑ab:Int),(↑ah:Int),(↑aj:Int),false⟩:wAK)) Z Z Z (zO Z Z Z) Z Z (zB Z zM) ge hY ((((aq.trans av).trans cb).trans bZ).trans dw) ii Z fP Z ?_)))))))
 rintro aU br jj cA iv de aY
 rcases iV with iD | iD
 try dsimp only at bi aY
 obtain ⟨rfl,ij⟩:=aY
 have gf:St ⟨w,L,U⟩ aU br cA:=de
 refine zq Z Z Z (zO Z Z Z) (fun _=>Zm Z Z) (oR Z (zz Z Z Z) (eN (zr Z (Zr (ZE (zK (rR fL2 Z (oR Z (Zd (zj Z bJ Z) (congrArg (jV) gK.out)) (oM Z Z (zw ?_))))))))))
 obtain rfl:=nA bi
 exact zK ⟨Z,_,Z,⟨aU,br,Z,bB,ec,bC,ef,bD,eg,eh,ej,en,cK,((bZ.trans dw).trans iv),gf,ij⟩⟩
 try dsimp only at bi aY
 obtain ⟨rfl,ik⟩:=aY
 have gg:St ⟨w,L,U⟩ aU br cA:=de
 refine zq Z Z Z (zO Z Z Z) (fun _=>Zm Z Z) (oR Z (zz Z Z Z) (eN (ZG Z (zP (zg (zN ?_))))))
 have q:=wAa bi
 obtain ⟨iH,gN,dT⟩:=q
 obtain rfl:=wCK bp ba (dk iH dT)
 refine zN (zg (zg (zN ?_)))
 have q:=wAa gN
 obtain ⟨iI,gO,dU⟩:=q
 obtain rfl:=wCK bn be (dp iI dU)
 refine zN (zg (zg (zN ?_)))
 have q:=wAa gO
 obtain ⟨iJ,gP,dV⟩:=q
 obtain rfl:=wCK hm au (bg iJ dV)
 refine zN (zg ?_)
 cases gP
 exact ⟨Z,_,(wSi),aU,_,gg,ik⟩
 try dsimp only at bh aX
 obtain ⟨rfl,il⟩:=aX
 have gh:St ⟨w,L,U⟩ bv cu cz:=db
 refine oR Z (Zm Z Z) (oM Z Z (oN Z (oN Z (oN Z (oN Z (oN Z (yU Z Z Z (zu Z Z Z Z) (oN Z (oR Z (zm Z Z Z) (eN (ZG Z (zP (zg (zN ?_))))))))))))))
 have q:=wAa bh
 obtain ⟨iK,gQ,dW⟩:=q
 obtain rfl:=wCK bp ba (dk iK dW)
 refine zN (zg (zg (zN ?_)))
 have q:=wAa gQ
 obtain ⟨iL,gR,dX⟩:=q
 obtain rfl:=wCK bn be (dp iL dX)
 refine zN (zg (zg (zN ?_)))
 have q:=wAa gR
 obtain ⟨iM,gS,dY⟩:=q
 obtain rfl:=wCK hm au (bg iM dY)
 refine zN (zg ?_)
 cases gS
 exact ⟨Z,_,(wSi),bv,_,gh,il⟩
 rintro jO jX i9 ⟨dI,dE,fG,eu,ey,eA,eC,jm,eD,eE,eF,eG,eH,iw,gi,fQ⟩ gz
 have gT:=wDE bp ba gz
 have dO:Hid (¬ ((↑((x33:Int) - 0).toNat:Int) < x33)):=zL (wBB)
 refine sR fL1 Z (oR Z (zf Z fG eH) (eN (zJ (cF Z dO (Zf (zo (zo (ZX (ZE (zK (rR fL2 Z (oR Z (Zd (zj Z eG Z) (congrArg (jV) gJ.out)) (oM Z Z (zw ?_))))))))))))))
 obtain rfl:=nA gT
 exact zK ⟨Z,_,Z,⟨dI,dE,Z,eu,ey,eA,eC,eD,eE,eF,(cb.trans iw),gi,fQ⟩⟩
 rintro jP jY ja ⟨dJ,dF,fH,eI,eJ,jo,jp,eK,eL,eM,iy,gj,fR⟩ gA
 have gU:=wDE bn be gA
 have dP:Hid (¬ ((↑((1:Int) - 0).toNat:Int) < 1)):=zL (wBB)
 refine sR fL1 Z (oR Z (zf Z fH eM) (eN (zJ (cF Z dP (Zf (zo (zo (ZX (ZE (zK (rR fL2 Z (oR Z (Zd (zj Z eL Z) (congrArg (jV) dq.out)) (oM Z Z (zw ?_))))))))))))))
 obtain rfl:=nA gU
 exact zK ⟨Z,_,Z,⟨dJ,dF,Z,eI,eJ,eK,((aq.trans av).trans iy),gj,fR⟩⟩
 intro bA bj
 refine zr (cW.trans (congrArg nB (nD.2 bA.out))) (kN (sR fL2 Z (oM Z fz (oM Z Z (eN (zd ?_))))))
 have q:=wCQ bj
 obtain ⟨jE,bb⟩:=q
 have q:=wCP bb
 obtain ⟨bW,gG⟩:=q
 replace bW:=zL bW
 refine yP (fun ae dB σ_ w_=>∃ (U_:PHeap) (aS:List Res),σ_ 32=jV (↑ae:Int)/\σ_ 0=.func (.yield y) #[] #[]/\σ_ 1=.pointer (some ⟨am,0,none⟩)/\σ_ 3=jV (↑ab:Int)/\σ_ 4=jV x33/\σ_ 17=.agg B0.toArray/\σ_ 18=jV (↑ab:Int)/\σ_ 31=jV (↑p1.Starts.length:Int)/\PHeap.Le aW U_/\St ⟨w,L,U⟩ U_ aS w_/\PY dB U_ aS) gG ?_ ?_ ?_
 exact ⟨aW,aQ,Z,cP,cQ,cR,cS,cU,cV,Z,(zQ _),dh,da⟩
 rintro ae dB jL jZ jb bR ⟨cx,aS,bK,eO,eP,eQ,cL,eS,eU,cM,b5,gk,fS⟩ bo dl
 have cH:Hid ((↑ae:Int) < (↑p1.Starts.length:Int)):=zL (wBm bR)
 replace bR:=zL bR
 have gL:Hid (w64 ((↑ae:Int) + 1)=(↑(ae + 1):Int)):=zL (by have h1:=bW.out;have h2:=cH.out;rw [wAZ] <;> omega)
 refine sR fL1 Z (oR Z (zf Z bK cM) (eN (zJ (cT Z cH (kN (zJ (zd (sR fL2 Z (oM Z bK (oA Z Z (eN (sR fL2 Z (oM Z cL (oM Z Z (eN (zd ?_))))))))))))))))
 have q:=wCQ bo
 obtain ⟨jG,bd⟩:=q
 have q:=wCP bd
 obtain ⟨bX,gH⟩:=q
 replace bX:=zL bX
 refine yP (fun ak dC σ_ w_=>∃ (U_:PHeap) (bs:List Res),σ_ 36=jV (↑ak:Int)/\σ_ 0=.func (.yield y) #[] #[]/\σ_ 1=.pointer (some ⟨am,0,none⟩)/\σ_ 3=jV (↑ab:Int)/\σ_ 4=jV x33/\σ_ 6=jV (↑ae:Int)/\σ_ 17=.agg B0.toArray/\σ_ 18=jV (↑ab:Int)/\σ_ 31=jV (↑p1.Starts.length:Int)/\σ_ 32=jV (↑ae:Int)/\σ_ 35=jV x33/\PHeap.Le cx U_/\St ⟨w,L,U⟩ U_ bs w_/\PY dC U_ bs) gH ?_ ?_ ?_
 exact ⟨cx,aS,Z,eO,eP,eQ,cL,Z,eS,eU,cM,bK,Z,(zQ _),gk,fS⟩
 rintro ak dC jM j0 jc bS ⟨i4,bs,bL,bG,eV,bH,eW,bI,eX,eY,eZ,e8,cO,b9,gm,fT⟩ iu dm
 have cI:Hid ((↑ak:Int) < x33):=zL (wBm bS)
 replace bS:=zL bS
 have gM:Hid (w64 ((↑ak:Int) + 1)=(↑(ak + 1):Int)):=zL (by have h1:=bX.out;have h2:=cI.out;rw [wAZ] <;> omega)
 refine sR fL1 Z (oR Z (zf Z bL cO) (eN (zJ (cT Z cI (kN (zJ (zd (sR fL2 Z (oM Z bL (oA Z Z (eN (sR (wGG (.fx 5 (wQx gAv) .stop)) Z (oM Z bG (oM Z bH (oM Z bI (oM Z Z ?_))))))))))))))))
 let B2:List Value:=[jV 0,jV 0,jV 0,.bool false]
 refine oR Z (ZC (pv:=[(0,jV (↑ab:Int)),(1,jV (↑ae:Int)),(2,jV (↑ak:Int)),(3,.bool true)]) (z:=B2) (cs:=[jV (↑ab:Int),jV (↑ae:Int),jV (↑ak:Int),.bool true]) Z (wAH Z (wAH Z (wAH Z (wAH Z wAU)))) Tryz.zeroValue93 wHW Z Z) (bnK iu fun iW fU bk=>OKS.yieldT 0 (a:=(⟨(↑ab:Int),(↑ae:Int),(↑ak:Int),true⟩:wAK)) Z Z Z Z Z Z (zB Z zM) gm hY (((aq.trans av).trans b5).trans b9) fT Z fU Z ?_)
 rintro bz cw jk cC dx df aZ
 rcases iW with iE | iE
 try dsimp only at bk aZ
 obtain ⟨rfl,im⟩:=aZ
 have gp:St ⟨w,L,U⟩ bz cw cC:=df
 refine oR Z (Zm Z Z) (oM Z Z (ZJ Z Z Z (zO Z Z Z) Z bG (ZJ Z Z Z (zO Z Z Z) Z bH (ZJ Z Z Z (zO Z Z Z) Z bI (ZJ Z Z Z (zO Z Z Z) Z Z (zq Z Z Z (zO Z Z Z) (fun _=>ZC (pv:=[(0,jV (↑ab:Int)),(1,jV (↑ae:Int)),(2,jV (↑ak:Int)),(3,.bool false)]) (z:=B2) (cs:=[jV (↑ab:Int),jV (↑ae:Int),jV (↑ak:Int),.bool false]) Z (wAH Z (wAH Z (wAH Z (wAH Z wAU)))) Tryz.zeroValue93 wHW Z Z) (bnK bk fun iX fV bm=>OKS.yieldT 0 (a:=(⟨(↑ab:Int),(↑ae:Int),(↑ak:Int),false⟩:wAK)) Z Z Z (zO Z Z Z) Z Z (zB Z zM) gp hY ((((aq.trans av).trans b5).trans b9).trans dx) im Z fV Z ?_)))))))
 rintro aV bu jl cD iz dg a0
 rcases iX with iF | iF
 try dsimp only at bm a0
 obtain ⟨rfl,io⟩:=a0
 have gq:St ⟨w,L,U⟩ aV bu cD:=dg
 refine zq Z Z Z (zO Z Z Z) (fun _=>Zm Z Z) (oR Z (zz Z Z Z) (eN (zr Z (Zr (ZE (zK (rR fL2 Z (oR Z (Zd (zj Z bL Z) (congrArg (jV) gM.out)) (oM Z Z (zw ?_))))))))))
 obtain rfl:=nA bm
 exact zK ⟨Z,_,Z,⟨aV,bu,Z,bG,eV,bH,eW,bI,eX,eY,eZ,e8,cO,((b9.trans dx).trans iz),gq,io⟩⟩
 try dsimp only at bm a0
 obtain ⟨rfl,ip⟩:=a0
 have gt:St ⟨w,L,U⟩ aV bu cD:=dg
 refine zq Z Z Z (zO Z Z Z) (fun _=>Zm Z Z) (oR Z (zz Z Z Z) (eN (ZG Z (zP (zg (zN ?_))))))
 have q:=wAa bm
 obtain ⟨iN,gW,dZ⟩:=q
 obtain rfl:=wCK bo bd (dm iN dZ)
 refine zN (zg (zg (zN ?_)))
 have q:=wAa gW
 obtain ⟨iO,gX,d5⟩:=q
 obtain rfl:=wCK bj bb (dl iO d5)
 refine zN (zg (zg (zN ?_)))
 have q:=wAa gX
 obtain ⟨iP,gZ,d6⟩:=q
 obtain rfl:=wCK hm au (bg iP d6)
 refine zN (zg ?_)
 cases gZ
 exact ⟨Z,_,(wSi),aV,_,gt,ip⟩
 try dsimp only at bk aZ
 obtain ⟨rfl,iq⟩:=aZ
 have gu:St ⟨w,L,U⟩ bz cw cC:=df
 refine oR Z (Zm Z Z) (oM Z Z (oN Z (oN Z (oN Z (oN Z (oN Z (yU Z Z Z (zu Z Z Z Z) (oN Z (oR Z (zm Z Z Z) (eN (ZG Z (zP (zg (zN ?_))))))))))))))
 have q:=wAa bk
 obtain ⟨iQ,g8,d7⟩:=q
 obtain rfl:=wCK bo bd (dm iQ d7)
 refine zN (zg (zg (zN ?_)))
 have q:=wAa g8
 obtain ⟨iR,g9,d8⟩:=q
 obtain rfl:=wCK bj bb (dl iR d8)
 refine zN (zg (zg (zN ?_)))
 have q:=wAa g9
 obtain ⟨iT,ib,d9⟩:=q
 obtain rfl:=wCK hm au (bg iT d9)
 refine zN (zg ?_)
 cases ib
 exact ⟨Z,_,(wSi),bz,_,gu,iq⟩
 rintro jQ j5 jd ⟨dK,dG,fJ,e9,fb,fc,fd,jq,ff,fg,fh,fj,fm,iA,gv,fY⟩ gB
 have ic:=wDE bo bd gB
 have dQ:Hid (¬ ((↑((x33:Int) - 0).toNat:Int) < x33)):=zL (wBB)
 refine sR fL1 Z (oR Z (zf Z fJ fm) (eN (zJ (cF Z dQ (Zf (zo (zo (ZX (ZE (zK (rR fL2 Z (oR Z (Zd (zj Z fj Z) (congrArg (jV) gL.out)) (oM Z Z (zw ?_))))))))))))))
 obtain rfl:=nA ic
 exact zK ⟨Z,_,Z,⟨dK,dG,Z,e9,fb,fc,fd,ff,fg,fh,(b5.trans iA),gv,fY⟩⟩
 rintro jR j6 je ⟨dL,dH,fK,fq,ft,jr,jt,fu,fw,fy,iB,gw,fZ⟩ gC
 have ie:=wDE bj bb gC
 have dR:Hid (¬ ((↑(((↑p1.Starts.length:Int):Int) - 0).toNat:Int) < (↑p1.Starts.length:Int))):=zL (wBB)
 refine sR fL1 Z (oR Z (zf Z fK fy) (eN (zJ (cF Z dR (Zf (zo (zo (ZX (ZE (zK (rR fL2 Z (oR Z (Zd (zj Z fw Z) (congrArg (jV) dq.out)) (oM Z Z (zw ?_))))))))))))))
 obtain rfl:=nA ie
 exact zK ⟨Z,_,Z,⟨dL,dH,Z,fq,ft,fu,((aq.trans av).trans iB),gw,fZ⟩⟩
 rintro jS j7 jf ⟨dM,iY,fL,ju,jv,jw,jB,gx,ga⟩ gD
 have ig:=wDE hm au gD
 have dS:Hid (¬ ((↑((4:Int) - 0).toNat:Int) < 4)):=zL (wBB)
 refine sR fL1 Z (oR Z (zf Z fL Z) (eN (zJ (cF Z dS (Zf (zo (zo (ZX ?_))))))))
 cases ig
 exact ⟨Z,_,(wSi),dM,_,gx,ga⟩
theorem wGu (p0:wAA) (ae:Option Addr) (ak:Nat) (ah:Option Addr) (am:Nat) (ai:Option Addr) (ap:Nat) (aj:Option Addr) (aq:Nat) (w:World) (U:PHeap) (hS:St0 w U []) (aV:Sl U 1 ae ak p0.Starts.length (hH KL.encI p0.Starts)) (aW:Sl U 2 ah am p0.Splits.length (hH wAB p0.Splits)) (aX:Sl U 3 ai ap p0.Clocks.length (hH wAD p0.Clocks)) (aY:Sl U 4 aj aq p0.Readings.length (hH wAC p0.Readings)) {r:Unit} (hm:wCy p0=some r):Gv Tryz.prog 106 [.agg #[.slice ae p0.Starts.length ak,.slice ah p0.Splits.length am,.slice ai p0.Clocks.length ap,.slice aj p0.Readings.length aq]] w (wCq w [] U (fun U_ L_ v=>∃ (b0:Nat),v=.func (.func 126) #[] #[.pointer (some ⟨b0,0,none⟩)]/\L_=[]/\Cl U_ b0 0 [.slice ae p0.Starts.length ak,.slice ah p0.Splits.length am,.slice ai p0.Clocks.length ap,.slice aj p0.Readings.length aq])):=by
 unfold wCy at hm
 refine Gv.of Tryz.func106 Z Tryz.ntmps106 Tryz.results106 Z (sR gAf Z ?_)
 let B0:List Value:=[.slice ae p0.Starts.length ak,.slice ah p0.Splits.length am,.slice ai p0.Clocks.length ap,.slice aj p0.Readings.length aq]
 refine zy (cs:=B0) rfl rfl rfl rfl rfl rfl (by rfl) hS ?_
 intro W1 b2 aS
 have q:=aS.freeze (k:=0) rfl
 obtain ⟨U5,aZ,ab,aT⟩:=q
 replace ab:=Cl.of ab
 have aU:sW w U U5 [] W1:=aT
 replace ab:Cl U5 b2 0 B0:=ab
 refine oA Z Z (eN (sR fL2 Z (oR Z (Runs.mkf Z zM (zB Z zM)) (oA Z Z (eN (zP ?_))))))
 cases hm
 exact ⟨Z,_,(ZL Z),U5,_,aU,b2,Z,Z,ab⟩
theorem wIi (p0:wAA) (aX:Option Addr) (ba:Nat) (aY:Option Addr) (bb:Nat) (aZ:Option Addr) (bd:Nat) (a0:Option Addr) (be:Nat) (p1:wAK) (w:World) (U:PHeap) (hS:St0 w U []) (cb:Sl U 1 aX ba p0.Starts.length (hH KL.encI p0.Starts)) (cd:Sl U 2 aY bb p0.Splits.length (hH wAB p0.Splits)) (cf:Sl U 3 aZ bd p0.Clocks.length (hH wAD p0.Clocks)) (cg:Sl U 4 a0 be p0.Readings.length (hH wAC p0.Readings)) {r:wAG × wAG} (hm:wDn p0 p1=some r):Gv Tryz.prog 134 [.agg #[.slice aX p0.Starts.length ba,.slice aY p0.Splits.length bb,.slice aZ p0.Clocks.length bd,.slice a0 p0.Readings.length be],.agg #[jV p1.Kind,jV p1.Skier,jV p1.Index,.bool p1.Up]] w (wCq w [] U (fun U_ L_ v=>v=.tuple #[.agg #[jV r.1.skier,jV r.1.mat],.agg #[jV r.2.skier,jV r.2.mat]]/\L_=[])):=by
 unfold wDn at hm
 refine Gv.of Tryz.func134 Z Tryz.ntmps134 Tryz.results134 Z (sR gBf Z ?_)
 let B0:List Value:=[.slice aX p0.Starts.length ba,.slice aY p0.Splits.length bb,.slice aZ p0.Clocks.length bd,.slice a0 p0.Readings.length be]
 refine zy (cs:=B0) rfl rfl rfl rfl rfl rfl (by rfl) hS ?_
 intro W1 b2 bC
 let B1:List Value:=[jV p1.Kind,jV p1.Skier,jV p1.Index,.bool p1.Up]
 refine zy (cs:=B1) rfl rfl rfl rfl rfl rfl (by rfl) bC ?_
 intro W5 b6 bL
 let B2:List Value:=[jV 0,jV 0]
 refine zV (cs:=B2) Z Z Z Z Z zk Z bL ?_
 intro W9 ak bA
 refine zV (cs:=B2) Z Z Z Z Z zk Z bA ?_
 intro bf am bB
 refine eN ?_
 have q:=bnd hm
 obtain ⟨⟨bU,bV⟩,bS,bj⟩:=q
 try dsimp only at bj
 let B3:List Value:=[jV p1.Skier,jV 0]
 let B4:List Value:=[jV bU,jV bV]
 refine yQ (fun σ_ w_=>∃ (U_:PHeap),σ_ 4=.pointer (some ⟨ak,0,none⟩)/\σ_ 5=.pointer (some ⟨am,0,none⟩)/\PHeap.Le U U_/\sW w U U_ [.blk am 123 B3,.blk ak 123 B4,.blk b6 93 B1,.blk b2 27 B0] w_) ?_ ?_
 refine bnK bS fun x22 bh aW=>zx zn [2,3,2,3,0,0] (.fl 1 (.fx 0 (.fx 2 (.fl 3 gAl) (.fx 4 (.fx 2 gAm .stop) .stop)) (.fx 2 (.fl 3 (.fx 0 gAl .stop)) .stop))) (by kernel_rfl) ?_
 have az:=bB.drew
 generalize hw_W40:({ bf with drawn:=bf.drawn + 1 }:World)=bg at az ⊢
 refine oR Z (zE Z Z ZM Z zC) (zt ?_ ?_)
 refine zG 0 Z Z Z Z (zH Z Z yK zM Z) az (fun hs=>wBQ bg U hs bh) (.inr Z) ?_
 rintro au bW cm bn bk bD ⟨rfl,rfl⟩
 have aU:sW w U au [.blk am 123 B2,.blk ak 123 B2,.blk b6 93 B1,.blk b2 27 B0] bn:=bD
 refine zt ?_ ?_
 refine Zc Z Z Z Z (aU.ldB (j:=2) Z Z Z zF (v:=jV p1.Skier) Z) (oR Z (ZC (pv:=[(0,jV p1.Skier),(1,jV 0)]) (z:=B2) (cs:=B3) Z (wAH Z (wAH Z wAU)) zk wBl Z Z) ?_)
 let B5:List Value:=[jV x22.skier,jV x22.mat]
 refine zY (j:=1) (vs:=B5) Z Z Z Z aU Z Z Z Z zI (zA Z) Z Z Z ?_
 intro bo bE
 have bF:sW w U au [.blk am 123 B2,.blk ak 123 B5,.blk b6 93 B1,.blk b2 27 B0] bo:=bE
 refine zY (j:=0) (vs:=B3) Z Z Z Z bF Z Z Z Z zI (zA Z) Z Z Z ?_
 intro bp bG
 have bH:sW w U au [.blk am 123 B3,.blk ak 123 B5,.blk b6 93 B1,.blk b2 27 B0] bp:=bG
 refine zw ?_
 cases aW
 exact zK ⟨Z,⟨au,Z,Z,bk,bH⟩⟩
 let B6:List Value:=[jV x22.skier,jV x22.mat]
 refine zY (j:=1) (vs:=B6) Z Z Z Z aU Z Z Z Z zI (zA Z) Z Z Z ?_
 intro bq bI
 have bi:sW w U au [.blk am 123 B2,.blk ak 123 B6,.blk b6 93 B1,.blk b2 27 B0] bq:=bI
 refine Zc Z Z Z Z (bi.ldB (j:=2) Z Z Z zF (v:=jV p1.Skier) Z) (oR Z (ZC (pv:=[(0,jV p1.Skier),(1,jV 0)]) (z:=B2) (cs:=B3) Z (wAH Z (wAH Z wAU)) zk wBl Z Z) (zY (j:=0) (vs:=B3) Z Z Z Z bi Z Z Z Z zI (zA Z) Z Z Z ?_))
 intro br bJ
 have bK:sW w U au [.blk am 123 B3,.blk ak 123 B6,.blk b6 93 B1,.blk b2 27 B0] br:=bJ
 refine zw ?_
 cases aW
 exact zK ⟨Z,⟨au,Z,Z,bk,bK⟩⟩
 refine Zc Z Z Z Z (az.ldB (j:=2) Z Z Z zF (v:=jV p1.Skier) Z) (oR Z (ZC (pv:=[(0,jV p1.Skier),(1,jV 0)]) (z:=B2) (cs:=B3) Z (wAH Z (wAH Z wAU)) zk wBl Z Z) (zG 0 Z Z Z Z (zH Z Z yK zM Z) az (fun hs=>wBQ bg U hs bh) (.inr Z) ?_))
 rintro av bX cn bs bT bM ⟨rfl,rfl⟩
 have bN:sW w U av [.blk am 123 B2,.blk ak 123 B2,.blk b6 93 B1,.blk b2 27 B0] bs:=bM
 let B7:List Value:=[jV x22.skier,jV x22.mat]
 refine zY (j:=1) (vs:=B7) Z Z Z Z bN Z Z Z Z zI (zA Z) Z Z Z ?_
 intro bu bO
 have bP:sW w U av [.blk am 123 B2,.blk ak 123 B7,.blk b6 93 B1,.blk b2 27 B0] bu:=bO
 refine zY (j:=0) (vs:=B3) Z Z Z Z bP Z Z Z Z zI (zA Z) Z Z Z ?_
 intro bv bQ
 have bR:sW w U av [.blk am 123 B3,.blk ak 123 B7,.blk b6 93 B1,.blk b2 27 B0] bv:=bQ
 refine zw ?_
 cases aW
 exact zK ⟨Z,⟨av,Z,Z,bT,bR⟩⟩
 rintro cp b5 ⟨bm,bw,bz,cj,aV⟩
 refine zP ?_
 cases bj
 exact ⟨rfl,_,(wCx (rs:=[.cell 4 123,.cell 5 123]) (vs:=[.agg B4.toArray,.agg B3.toArray]) ⟨⟨_,bw,(wAs zh zI (aV.blkAt (k:=1) rfl) (vs:=B4) rfl rfl)⟩,⟨⟨_,bz,(wAs zh zI (aV.blkAt (k:=0) rfl) (vs:=B3) rfl rfl)⟩,trivial⟩⟩ rfl),bm,_,(aV.pick [] _ (by decide) rfl),rfl,rfl⟩
theorem wIj (p0:wAA) (ai:Option Addr) (aj:Nat) (ak:Option Addr) (aq:Nat) (am:Option Addr) (au:Nat) (ap:Option Addr) (av:Nat) (p1:wAK) (w:World) (U:PHeap) (hS:St0 w U []) (aQ:Sl U 1 ai aj p0.Starts.length (hH KL.encI p0.Starts)) (bf:Sl U 2 ak aq p0.Splits.length (hH wAB p0.Splits)) (bg:Sl U 3 am au p0.Clocks.length (hH wAD p0.Clocks)) (bh:Sl U 4 ap av p0.Readings.length (hH wAC p0.Readings)) {r:Int × Int} (hm:wDo p0 p1=some r):Gv Tryz.prog 135 [.agg #[.slice ai p0.Starts.length aj,.slice ak p0.Splits.length aq,.slice am p0.Clocks.length au,.slice ap p0.Readings.length av],.agg #[jV p1.Kind,jV p1.Skier,jV p1.Index,.bool p1.Up]] w (wCq w [] U (fun U_ L_ v=>v=.tuple #[jV r.1,jV r.2]/\L_=[])):=by
 unfold wDo at hm
 refine Gv.of Tryz.func135 rfl Tryz.ntmps135 Tryz.results135 rfl (sR gBg rfl (zy (cs:=[.slice ai p0.Starts.length aj,.slice ak p0.Splits.length aq,.slice am p0.Clocks.length au,.slice ap p0.Readings.length av]) rfl rfl rfl rfl rfl rfl (by rfl) hS ?_))
 intro W1 b2 aW
 refine zy (cs:=[jV p1.Kind,jV p1.Skier,jV p1.Index,.bool p1.Up]) rfl rfl rfl rfl rfl rfl (by rfl) aW ?_
 intro W5 b6 aX
 refine yi rfl rfl rfl rfl rfl rfl (yi rfl rfl rfl rfl rfl rfl (eN (zJ (zx zn [3,1,3,1,3,1,3,1,3,1,3,1,3,3,3] fL15 (by kernel_rfl) ?_))))
 have ae:=aX.drew
 generalize hw_W10:({ W5 with drawn:=W5.drawn + 1 }:World)=a0 at ae ⊢
 refine oR Z (zE Z Z zU Z zW) (oL Z (ae.ldB (j:=1) Z Z Z zX (v:=.slice ai p0.Starts.length aj) Z) (oR Z (zE Z Z ZM Z zC) (oL Z (ae.ldB (j:=0) Z Z Z zF (v:=jV p1.Skier) Z) (bnK hm fun aR ah aY=>?_))))
 have q:=aQ.el (fun _=>rfl) (wAR ah)
 obtain ⟨ba,bi,aS,aU⟩:=q
 refine oR Z (ZB Z Z aS Z zD zC (wAv ah) (wAz ah)) (oL Z (ae.ldC (f:=0) aU (v:=jV aR) Z Z zF Z) (oR Z (zE Z Z zU Z zW) (oL Z (ae.ldB (j:=1) Z Z Z zX (v:=.slice ai p0.Starts.length aj) Z) (oR Z (zE Z Z ZM Z zC) (oL Z (ae.ldB (j:=0) Z Z Z zF (v:=jV p1.Skier) Z) ?_)))))
 have q:=aQ.el (fun _=>rfl) (wAR ah)
 obtain ⟨bb,bj,aT,aV⟩:=q
 refine oR Z (ZB Z Z aT Z zD zC (wAv ah) (wAz ah)) (oL Z (ae.ldC (f:=0) aV (v:=jV aR) Z Z zF Z) (oR Z (yo Z Z) (oA Z Z (oA Z Z (eN (zP ?_))))))
 cases aY
 exact ⟨rfl,_,(wHO rfl rfl),U,_,(ae.pick [] _ (by decide) rfl),rfl,rfl⟩
end Go.Proofs.YtlnfbjphfoipaaaGreat
namespace Go.Proofs.YtlnfbjphfoipaaaGreat
open Go.KL
set_option maxHeartbeats 4000000
theorem wIk (p0:wAA) (aS:Option Addr) (aW:Nat) (aT:Option Addr) (aX:Nat) (aU:Option Addr) (aY:Nat) (aV:Option Addr) (aZ:Nat) (p1:wAK) (w:World) (U:PHeap) (hS:St0 w U []) (bY:Sl U 1 aS aW p0.Starts.length (hH KL.encI p0.Starts)) (bZ:Sl U 2 aT aX p0.Splits.length (hH wAB p0.Splits)) (b5:Sl U 3 aU aY p0.Clocks.length (hH wAD p0.Clocks)) (b9:Sl U 4 aV aZ p0.Readings.length (hH wAC p0.Readings)) {r:wAG × wAG} (hm:wDp p0 p1=some r):Gv Tryz.prog 137 [.agg #[.slice aS p0.Starts.length aW,.slice aT p0.Splits.length aX,.slice aU p0.Clocks.length aY,.slice aV p0.Readings.length aZ],.agg #[jV p1.Kind,jV p1.Skier,jV p1.Index,.bool p1.Up]] w (wCq w [] U (fun U_ L_ v=>v=.tuple #[.agg #[jV r.1.skier,jV r.1.mat],.agg #[jV r.2.skier,jV r.2.mat]]/\L_=[])):=by
 unfold wDp at hm
 refine Gv.of Tryz.func137 Z Tryz.ntmps137 Tryz.results137 Z (sR gBf Z ?_)
 let B0:List Value:=[.slice aS p0.Starts.length aW,.slice aT p0.Splits.length aX,.slice aU p0.Clocks.length aY,.slice aV p0.Readings.length aZ]
 refine zy (cs:=B0) rfl rfl rfl rfl rfl rfl (by rfl) hS ?_
 intro W1 b2 bz
 let B1:List Value:=[jV p1.Kind,jV p1.Skier,jV p1.Index,.bool p1.Up]
 refine zy (cs:=B1) rfl rfl rfl rfl rfl rfl (by rfl) bz ?_
 intro W5 b6 bS
 let B2:List Value:=[jV 0,jV 0]
 refine zV (cs:=B2) Z Z Z Z Z zk Z bS ?_
 intro W9 am bu
 refine zV (cs:=B2) Z Z Z Z Z zk Z bu ?_
 intro a0 ap bv
 refine eN ?_
 have q:=bnd hm
 obtain ⟨⟨⟩,aQ,bd⟩:=q
 try dsimp only at bd
 let B3:List Value:=[jV p1.Skier,jV (w64 (p1.Index + 1))]
 let B4:List Value:=[jV p1.Skier,jV p1.Index]
 refine yQ (fun σ_ w_=>∃ (U_:PHeap),σ_ 4=.pointer (some ⟨am,0,none⟩)/\σ_ 5=.pointer (some ⟨ap,0,none⟩)/\PHeap.Le U U_/\sW w U U_ [.blk ap 123 B3,.blk am 123 B4,.blk b6 93 B1,.blk b2 27 B0] w_) ?_ ?_
 refine zx zn [3,1,3,1,3,3,2,3,2,3,3,0,0] (wHD (.fl 7 (.fx 6 (.fx 8 (.fl 9 gAw) (.fx 11 gBh .stop)) (.fx 8 (.fl 9 (.fx 6 gAw (.fx 11 gAx .stop))) (.fx 11 (.fx 6 gBh (.fx 8 (.fl 9 gAx) .stop)) .stop))))) (by kernel_rfl) ?_
 have av:=bv.drew
 generalize hw_W27:({ a0 with drawn:=a0.drawn + 1 }:World)=bU at av ⊢
 refine oR Z (zE Z Z ZM Z zC) (oL Z (av.ldB (j:=2) Z Z Z zF (v:=jV p1.Skier) Z) (oR Z (zE Z Z ZM Z zC) (oL Z (av.ldB (j:=2) Z Z Z zF (v:=jV p1.Index) Z) (oR Z (ZC (pv:=[(0,jV p1.Skier),(1,jV p1.Index)]) (z:=B2) (cs:=B4) Z (wAH Z (wAH Z wAU)) zk wBl Z Z) (oR Z (zE Z Z ZM Z zC) (oR Z (zE Z Z ZM Z zC) (zt ?_ ?_)))))))
 refine Zc Z Z Z Z (av.ldB (j:=2) Z Z Z zF (v:=jV p1.Skier) Z) (zt ?_ ?_)
 refine Zc Z Z Z Z (av.ldB (j:=2) Z Z Z zF (v:=jV p1.Index) Z) (oR Z (zj Z Z Z) (oR Z (ZC (pv:=[(0,jV p1.Skier),(1,jV (w64 (p1.Index + 1)))]) (z:=B2) (cs:=B3) Z (wAH Z (wAH Z wAU)) zk wBl Z Z) (zY (j:=1) (vs:=B4) Z Z Z Z av Z Z Z Z zI (zA Z) Z Z Z ?_)))
 intro bf bw
 have bA:sW w U U [.blk ap 123 B2,.blk am 123 B4,.blk b6 93 B1,.blk b2 27 B0] bf:=bw
 refine zY (j:=0) (vs:=B3) Z Z Z Z bA Z Z Z Z zI (zA Z) Z Z Z ?_
 intro bg bB
 have bC:sW w U U [.blk ap 123 B3,.blk am 123 B4,.blk b6 93 B1,.blk b2 27 B0] bg:=bB
 refine zw ?_
 cases aQ
 exact zK ⟨Z,⟨U,Z,Z,(zQ _),bC⟩⟩
 refine zY (j:=1) (vs:=B4) Z Z Z Z av Z Z Z Z zI (zA Z) Z Z Z ?_
 intro bh bD
 have ba:sW w U U [.blk ap 123 B2,.blk am 123 B4,.blk b6 93 B1,.blk b2 27 B0] bh:=bD
 refine Zc Z Z Z Z (ba.ldB (j:=2) Z Z Z zF (v:=jV p1.Index) Z) (oR Z (zj Z Z Z) (oR Z (ZC (pv:=[(0,jV p1.Skier),(1,jV (w64 (p1.Index + 1)))]) (z:=B2) (cs:=B3) Z (wAH Z (wAH Z wAU)) zk wBl Z Z) (zY (j:=0) (vs:=B3) Z Z Z Z ba Z Z Z Z zI (zA Z) Z Z Z ?_)))
 intro bi bE
 have bF:sW w U U [.blk ap 123 B3,.blk am 123 B4,.blk b6 93 B1,.blk b2 27 B0] bi:=bE
 refine zw ?_
 cases aQ
 exact zK ⟨Z,⟨U,Z,Z,(zQ _),bF⟩⟩
 refine zt ?_ ?_
 refine Zc Z Z Z Z (av.ldB (j:=2) Z Z Z zF (v:=jV p1.Index) Z) (oR Z (zj Z Z Z) (zt ?_ ?_))
 refine Zc Z Z Z Z (av.ldB (j:=2) Z Z Z zF (v:=jV p1.Skier) Z) (oR Z (ZC (pv:=[(0,jV p1.Skier),(1,jV (w64 (p1.Index + 1)))]) (z:=B2) (cs:=B3) Z (wAH Z (wAH Z wAU)) zk wBl Z Z) (zY (j:=1) (vs:=B4) Z Z Z Z av Z Z Z Z zI (zA Z) Z Z Z ?_))
 intro bj bG
 have bH:sW w U U [.blk ap 123 B2,.blk am 123 B4,.blk b6 93 B1,.blk b2 27 B0] bj:=bG
 refine zY (j:=0) (vs:=B3) Z Z Z Z bH Z Z Z Z zI (zA Z) Z Z Z ?_
 intro bk bI
 have bJ:sW w U U [.blk ap 123 B3,.blk am 123 B4,.blk b6 93 B1,.blk b2 27 B0] bk:=bI
 refine zw ?_
 cases aQ
 exact zK ⟨Z,⟨U,Z,Z,(zQ _),bJ⟩⟩
 refine zY (j:=1) (vs:=B4) Z Z Z Z av Z Z Z Z zI (zA Z) Z Z Z ?_
 intro bm bK
 have bb:sW w U U [.blk ap 123 B2,.blk am 123 B4,.blk b6 93 B1,.blk b2 27 B0] bm:=bK
 refine Zc Z Z Z Z (bb.ldB (j:=2) Z Z Z zF (v:=jV p1.Skier) Z) (oR Z (ZC (pv:=[(0,jV p1.Skier),(1,jV (w64 (p1.Index + 1)))]) (z:=B2) (cs:=B3) Z (wAH Z (wAH Z wAU)) zk wBl Z Z) (zY (j:=0) (vs:=B3) Z Z Z Z bb Z Z Z Z zI (zA Z) Z Z Z ?_))
 intro bn bL
 have bM:sW w U U [.blk ap 123 B3,.blk am 123 B4,.blk b6 93 B1,.blk b2 27 B0] bn:=bL
 refine zw ?_
 cases aQ
 exact zK ⟨Z,⟨U,Z,Z,(zQ _),bM⟩⟩
 refine zY (j:=1) (vs:=B4) Z Z Z Z av Z Z Z Z zI (zA Z) Z Z Z ?_
 intro bo bN
 have az:sW w U U [.blk ap 123 B2,.blk am 123 B4,.blk b6 93 B1,.blk b2 27 B0] bo:=bN
 refine zt ?_ ?_
 refine Zc Z Z Z Z (az.ldB (j:=2) Z Z Z zF (v:=jV p1.Skier) Z) (Zc Z Z Z Z (az.ldB (j:=2) Z Z Z zF (v:=jV p1.Index) Z) (oR Z (zj Z Z Z) (oR Z (ZC (pv:=[(0,jV p1.Skier),(1,jV (w64 (p1.Index + 1)))]) (z:=B2) (cs:=B3) Z (wAH Z (wAH Z wAU)) zk wBl Z Z) (zY (j:=0) (vs:=B3) Z Z Z Z az Z Z Z Z zI (zA Z) Z Z Z ?_))))
 intro bp bO
 have bP:sW w U U [.blk ap 123 B3,.blk am 123 B4,.blk b6 93 B1,.blk b2 27 B0] bp:=bO
 refine zw ?_
 cases aQ
 exact zK ⟨Z,⟨U,Z,Z,(zQ _),bP⟩⟩
 refine Zc Z Z Z Z (az.ldB (j:=2) Z Z Z zF (v:=jV p1.Index) Z) (oR Z (zj Z Z Z) (Zc Z Z Z Z (az.ldB (j:=2) Z Z Z zF (v:=jV p1.Skier) Z) (oR Z (ZC (pv:=[(0,jV p1.Skier),(1,jV (w64 (p1.Index + 1)))]) (z:=B2) (cs:=B3) Z (wAH Z (wAH Z wAU)) zk wBl Z Z) (zY (j:=0) (vs:=B3) Z Z Z Z az Z Z Z Z zI (zA Z) Z Z Z ?_))))
 intro bq bQ
 have bR:sW w U U [.blk ap 123 B3,.blk am 123 B4,.blk b6 93 B1,.blk b2 27 B0] bq:=bQ
 refine zw ?_
 cases aQ
 exact zK ⟨Z,⟨U,Z,Z,(zQ _),bR⟩⟩
 rintro cd bW ⟨be,br,bs,cb,aR⟩
 refine zP ?_
 cases bd
 exact ⟨rfl,_,(wCx (rs:=[.cell 4 123,.cell 5 123]) (vs:=[.agg B4.toArray,.agg B3.toArray]) ⟨⟨_,br,(wAs zh zI (aR.blkAt (k:=1) rfl) (vs:=B4) rfl rfl)⟩,⟨⟨_,bs,(wAs zh zI (aR.blkAt (k:=0) rfl) (vs:=B3) rfl rfl)⟩,trivial⟩⟩ rfl),be,_,(aR.pick [] _ (by decide) rfl),rfl,rfl⟩
theorem wIl (p0:wAA) (ak:Option Addr) (aq:Nat) (ai:Option Addr) (aj:Nat) (am:Option Addr) (au:Nat) (ap:Option Addr) (av:Nat) (p1:wAK) (w:World) (U:PHeap) (hS:St0 w U []) (bf:Sl U 1 ak aq p0.Starts.length (hH KL.encI p0.Starts)) (aQ:Sl U 2 ai aj p0.Splits.length (hH wAB p0.Splits)) (bg:Sl U 3 am au p0.Clocks.length (hH wAD p0.Clocks)) (bh:Sl U 4 ap av p0.Readings.length (hH wAC p0.Readings)) {r:Int × Int} (hm:wDq p0 p1=some r):Gv Tryz.prog 138 [.agg #[.slice ak p0.Starts.length aq,.slice ai p0.Splits.length aj,.slice am p0.Clocks.length au,.slice ap p0.Readings.length av],.agg #[jV p1.Kind,jV p1.Skier,jV p1.Index,.bool p1.Up]] w (wCq w [] U (fun U_ L_ v=>v=.tuple #[jV r.1,jV r.2]/\L_=[])):=by
 unfold wDq at hm
 refine Gv.of Tryz.func138 rfl Tryz.ntmps138 Tryz.results138 rfl (sR gBg rfl (zy (cs:=[.slice ak p0.Starts.length aq,.slice ai p0.Splits.length aj,.slice am p0.Clocks.length au,.slice ap p0.Readings.length av]) rfl rfl rfl rfl rfl rfl (by rfl) hS ?_))
 intro W1 b2 aW
 refine zy (cs:=[jV p1.Kind,jV p1.Skier,jV p1.Index,.bool p1.Up]) rfl rfl rfl rfl rfl rfl (by rfl) aW ?_
 intro W5 b6 aX
 refine yi rfl rfl rfl rfl rfl rfl (yi rfl rfl rfl rfl rfl rfl (eN (zJ (zx zn [3,1,3,1,3,3,1,3,1,3,1,3,3,1,3,3,3] fL17 (by kernel_rfl) ?_))))
 have ae:=aX.drew
 generalize hw_W10:({ W5 with drawn:=W5.drawn + 1 }:World)=a0 at ae ⊢
 refine oR Z (zE Z Z zU Z Zg) (oL Z (ae.ldB (j:=1) Z Z Z Zl (v:=.slice ai p0.Splits.length aj) Z) (oR Z (zE Z Z ZM Z zC) (oL Z (ae.ldB (j:=0) Z Z Z zF (v:=jV p1.Index) Z) (bnK hm fun aR ah aY=>?_))))
 have q:=aQ.el (fun _=>rfl) (wAR ah)
 obtain ⟨ba,bi,aS,aU⟩:=q
 refine oR Z (ZB Z Z aS Z ZD zS (wAv ah) (wAz ah)) (oR Z (zE Z Z ZO Z zC) (oL Z (ae.ldC (f:=1) aU (v:=jV aR.Hi) Z Z zF Z) (oR Z (zE Z Z zU Z Zg) (oL Z (ae.ldB (j:=1) Z Z Z Zl (v:=.slice ai p0.Splits.length aj) Z) (oR Z (zE Z Z ZM Z zC) (oL Z (ae.ldB (j:=0) Z Z Z zF (v:=jV p1.Index) Z) ?_))))))
 have q:=aQ.el (fun _=>rfl) (wAR ah)
 obtain ⟨bb,bj,aT,aV⟩:=q
 refine oR Z (ZB Z Z aT Z ZD zS (wAv ah) (wAz ah)) (oR Z (zE Z Z ZO Z zC) (oL Z (ae.ldC (f:=0) aV (v:=jV aR.Lo) Z Z zF Z) (oR Z (yo Z Z) (oA Z Z (oA Z Z (eN (zP ?_)))))))
 cases aY
 exact ⟨rfl,_,(wHO rfl rfl),U,_,(ae.pick [] _ (by decide) rfl),rfl,rfl⟩
theorem wBy (p0:Int) (w:World) (U:PHeap) (hS:St0 w U [])  {r:wAG} (hm:wBK p0=some r):Gv Tryz.prog 70 [jV p0] w (wCq w [] U (fun U_ L_ v=>v=.agg #[jV r.skier,jV r.mat]/\L_=[])):=by
 unfold wBK at hm
 refine Gv.of Tryz.func70 Z Tryz.ntmps70 Tryz.results70 Z (sR (.fx 0 .nil .stop) Z (zV (cs:=[jV 0,jV 0]) Z Z Z Z Z zk Z hS ?_))
 intro W1 b2 aj
 refine eN (sR (wEF (.fx 3 .nil .stop)) Z (oM Z Z (oR Z (zj Z Z Z) ?_)))
 let B0:List Value:=[jV (-1),jV (w64 (1 + p0))]
 refine oR Z (ZC (pv:=[(0,jV (-1)),(1,jV (w64 (1 + p0)))]) (z:=[jV 0,jV 0]) (cs:=B0) Z (wAH Z (wAH Z wAU)) zk wBl Z Z) (zY (j:=0) (vs:=B0) Z Z Z Z aj Z Z Z Z zI (zA Z) Z Z Z ?_)
 intro W5 ak
 have ae:sW w U U [.blk b2 123 B0] W5:=ak
 refine eN (zP ?_)
 cases hm
 exact ⟨rfl,_,(wJs (v:=.agg B0.toArray) ⟨⟨_,rfl,(wAs zh zI (ae.blkAt (k:=0) rfl) (vs:=B0) rfl rfl)⟩,trivial⟩),U,_,(ae.pick [] _ (by decide) rfl),rfl,rfl⟩
theorem wIm (p0:wAA) (aR:Option Addr) (aV:Nat) (aS:Option Addr) (aW:Nat) (aT:Option Addr) (aX:Nat) (aU:Option Addr) (aY:Nat) (p1:wAK) (w:World) (U:PHeap) (hS:St0 w U []) (bG:Sl U 1 aR aV p0.Starts.length (hH KL.encI p0.Starts)) (bH:Sl U 2 aS aW p0.Splits.length (hH wAB p0.Splits)) (bI:Sl U 3 aT aX p0.Clocks.length (hH wAD p0.Clocks)) (bJ:Sl U 4 aU aY p0.Readings.length (hH wAC p0.Readings)) {r:wAG × wAG} (hm:wDr p0 p1=some r):Gv Tryz.prog 140 [.agg #[.slice aR p0.Starts.length aV,.slice aS p0.Splits.length aW,.slice aT p0.Clocks.length aX,.slice aU p0.Readings.length aY],.agg #[jV p1.Kind,jV p1.Skier,jV p1.Index,.bool p1.Up]] w (wCq w [] U (fun U_ L_ v=>v=.tuple #[.agg #[jV r.1.skier,jV r.1.mat],.agg #[jV r.2.skier,jV r.2.mat]]/\L_=[])):=by
 unfold wDr at hm
 refine Gv.of Tryz.func140 Z Tryz.ntmps140 Tryz.results140 Z (sR gBf Z ?_)
 let B0:List Value:=[.slice aR p0.Starts.length aV,.slice aS p0.Splits.length aW,.slice aT p0.Clocks.length aX,.slice aU p0.Readings.length aY]
 refine zy (cs:=B0) rfl rfl rfl rfl rfl rfl (by rfl) hS ?_
 intro W1 b2 bp
 let B1:List Value:=[jV p1.Kind,jV p1.Skier,jV p1.Index,.bool p1.Up]
 refine zy (cs:=B1) rfl rfl rfl rfl rfl rfl (by rfl) bp ?_
 intro W5 b6 bw
 let B2:List Value:=[jV 0,jV 0]
 refine zV (cs:=B2) Z Z Z Z Z zk Z bw ?_
 intro W9 ap bk
 refine zV (cs:=B2) Z Z Z Z Z zk Z bk ?_
 intro a0 aq bm
 refine eN (zJ (zx zn [2,3,1,2,0,0] (.fl 1 (.fl 2 (.fx 0 (.fx 3 gAl .stop) .stop))) (by kernel_rfl) ?_))
 have az:=bm.drew
 generalize hw_W18:({ a0 with drawn:=a0.drawn + 1 }:World)=be at az ⊢
 refine oR Z (zE Z Z ZM Z zC) (oL Z (az.ldB (j:=2) Z Z Z zF (v:=jV p1.Index) Z) (bnK hm fun bb bi bz=>zG 0 Z Z Z Z (zH Z Z yK zM Z) az (fun hs=>wBQ be U hs bi) (.inr Z) ?_))
 rintro aZ bB bM ba bK bn ⟨rfl,rfl⟩
 have bo:sW w U aZ [.blk aq 123 B2,.blk ap 123 B2,.blk b6 93 B1,.blk b2 27 B0] ba:=bn
 refine bnK bz fun bd bj bA=>zG 0 Z Z Z Z (zH Z Z Tryz.call70 (zB Z zM) Z) bo (fun hs=>wBy p1.Index ba aZ hs bj) (.inr Z) ?_
 rintro am bC bN bf bL bq ⟨rfl,rfl⟩
 have br:sW w U am [.blk aq 123 B2,.blk ap 123 B2,.blk b6 93 B1,.blk b2 27 B0] bf:=bq
 let B3:List Value:=[jV bb.skier,jV bb.mat]
 refine zY (j:=1) (vs:=B3) Z Z Z Z br Z Z Z Z zI (zA Z) Z Z Z ?_
 intro bg bs
 have bu:sW w U am [.blk aq 123 B2,.blk ap 123 B3,.blk b6 93 B1,.blk b2 27 B0] bg:=bs
 let B4:List Value:=[jV bd.skier,jV bd.mat]
 refine zY (j:=0) (vs:=B4) Z Z Z Z bu Z Z Z Z zI (zA Z) Z Z Z ?_
 intro bh bv
 have aQ:sW w U am [.blk aq 123 B4,.blk ap 123 B3,.blk b6 93 B1,.blk b2 27 B0] bh:=bv
 refine eN (zP ?_)
 cases bA
 exact ⟨rfl,_,(wCx (rs:=[.cell 4 123,.cell 5 123]) (vs:=[.agg B3.toArray,.agg B4.toArray]) ⟨⟨_,rfl,(wAs zh zI (aQ.blkAt (k:=1) rfl) (vs:=B3) rfl rfl)⟩,⟨⟨_,rfl,(wAs zh zI (aQ.blkAt (k:=0) rfl) (vs:=B4) rfl rfl)⟩,trivial⟩⟩ rfl),am,_,(aQ.pick [] _ (by decide) rfl),rfl,rfl⟩
theorem wIn (p0:wAA) (ak:Option Addr) (aq:Nat) (am:Option Addr) (au:Nat) (ai:Option Addr) (aj:Nat) (ap:Option Addr) (av:Nat) (p1:wAK) (w:World) (U:PHeap) (hS:St0 w U []) (bf:Sl U 1 ak aq p0.Starts.length (hH KL.encI p0.Starts)) (bg:Sl U 2 am au p0.Splits.length (hH wAB p0.Splits)) (aQ:Sl U 3 ai aj p0.Clocks.length (hH wAD p0.Clocks)) (bh:Sl U 4 ap av p0.Readings.length (hH wAC p0.Readings)) {r:Int × Int} (hm:wDs p0 p1=some r):Gv Tryz.prog 141 [.agg #[.slice ak p0.Starts.length aq,.slice am p0.Splits.length au,.slice ai p0.Clocks.length aj,.slice ap p0.Readings.length av],.agg #[jV p1.Kind,jV p1.Skier,jV p1.Index,.bool p1.Up]] w (wCq w [] U (fun U_ L_ v=>v=.tuple #[jV r.1,jV r.2]/\L_=[])):=by
 unfold wDs at hm
 refine Gv.of Tryz.func141 rfl Tryz.ntmps141 Tryz.results141 rfl (sR gBg rfl (zy (cs:=[.slice ak p0.Starts.length aq,.slice am p0.Splits.length au,.slice ai p0.Clocks.length aj,.slice ap p0.Readings.length av]) rfl rfl rfl rfl rfl rfl (by rfl) hS ?_))
 intro W1 b2 aW
 refine zy (cs:=[jV p1.Kind,jV p1.Skier,jV p1.Index,.bool p1.Up]) rfl rfl rfl rfl rfl rfl (by rfl) aW ?_
 intro W5 b6 aX
 refine yi rfl rfl rfl rfl rfl rfl (yi rfl rfl rfl rfl rfl rfl (eN (zJ (zx zn [3,1,3,1,3,3,3,1,3,3,1,3,1,3,3,3,1,3,3] fL19 (by kernel_rfl) ?_))))
 have ae:=aX.drew
 generalize hw_W10:({ W5 with drawn:=W5.drawn + 1 }:World)=a0 at ae ⊢
 refine oR Z (zE Z Z zU Z yE) (oL Z (ae.ldB (j:=1) Z Z Z yH (v:=.slice ai p0.Clocks.length aj) Z) (oR Z (zE Z Z ZM Z zC) (oL Z (ae.ldB (j:=0) Z Z Z zF (v:=jV p1.Index) Z) (bnK hm fun aR ah aY=>?_))))
 have q:=aQ.el (fun _=>rfl) (wAR ah)
 obtain ⟨ba,bi,aS,aU⟩:=q
 refine oR Z (ZB Z Z aS Z ZW Zv (wAv ah) (wAz ah)) (oR Z (zE Z Z ya Z zS) (oR Z (zE Z Z ZO Z zC) (oL Z (ae.ldC (f:=0) aU (v:=jV aR.Offset.Lo) Z Z zF Z) (oR Z (yo Z Z) (oR Z (zE Z Z zU Z yE) (oL Z (ae.ldB (j:=1) Z Z Z yH (v:=.slice ai p0.Clocks.length aj) Z) (oR Z (zE Z Z ZM Z zC) (oL Z (ae.ldB (j:=0) Z Z Z zF (v:=jV p1.Index) Z) ?_))))))))
 have q:=aQ.el (fun _=>rfl) (wAR ah)
 obtain ⟨bb,bj,aT,aV⟩:=q
 refine oR Z (ZB Z Z aT Z ZW Zv (wAv ah) (wAz ah)) (oR Z (zE Z Z ya Z zS) (oR Z (zE Z Z ZO Z zC) (oL Z (ae.ldC (f:=1) aV (v:=jV aR.Offset.Hi) Z Z zF Z) (oA Z Z (oA Z Z (eN (zP ?_)))))))
 cases aY
 exact ⟨rfl,_,(wHO rfl rfl),U,_,(ae.pick [] _ (by decide) rfl),rfl,rfl⟩
theorem wIN (p0:wAA) (bq:Option Addr) (bu:Nat) (br:Option Addr) (bv:Nat) (bs:Option Addr) (bw:Nat) (aY:Option Addr) (aZ:Nat) (p1:wAK) (w:World) (U:PHeap) (hS:St0 w U []) (gz:Sl U 1 bq bu p0.Starts.length (hH KL.encI p0.Starts)) (gA:Sl U 2 br bv p0.Splits.length (hH wAB p0.Splits)) (gB:Sl U 3 bs bw p0.Clocks.length (hH wAD p0.Clocks)) (fq:Sl U 4 aY aZ p0.Readings.length (hH wAC p0.Readings)) {r:wAG × wAG} (hm:wDY p0 p1=some r):Gv Tryz.prog 143 [.agg #[.slice bq p0.Starts.length bu,.slice br p0.Splits.length bv,.slice bs p0.Clocks.length bw,.slice aY p0.Readings.length aZ],.agg #[jV p1.Kind,jV p1.Skier,jV p1.Index,.bool p1.Up]] w (wCq w [] U (fun U_ L_ v=>v=.tuple #[.agg #[jV r.1.skier,jV r.1.mat],.agg #[jV r.2.skier,jV r.2.mat]]/\L_=[])):=by
 unfold wDY at hm
 refine Gv.of Tryz.func143 Z Tryz.ntmps143 Tryz.results143 Z (sR gBf Z ?_)
 let B0:List Value:=[.slice bq p0.Starts.length bu,.slice br p0.Splits.length bv,.slice bs p0.Clocks.length bw,.slice aY p0.Readings.length aZ]
 refine zy (cs:=B0) rfl rfl rfl rfl rfl rfl (by rfl) hS ?_
 intro W1 b2 eX
 let B1:List Value:=[jV p1.Kind,jV p1.Skier,jV p1.Index,.bool p1.Up]
 refine zy (cs:=B1) rfl rfl rfl rfl rfl rfl (by rfl) eX ?_
 intro W5 b6 fm
 let B2:List Value:=[jV 0,jV 0]
 refine zV (cs:=B2) Z Z Z Z Z zk Z fm ?_
 intro W9 ah eA
 refine zV (cs:=B2) Z Z Z Z Z zk Z eA ?_
 intro fT ai aV
 refine eN (sR (wHD gAo) Z (oR Z (zE Z Z zU Z yR) (oL Z (aV.ldB (j:=3) Z Z Z yW (v:=.slice aY p0.Readings.length aZ) Z) (oR Z (zE Z Z ZM Z zC) (oL Z (aV.ldB (j:=2) Z Z Z zF (v:=jV p1.Index) Z) (bnK hm fun ab bm ft=>?_))))))
 have q:=fq.el (fun _=>rfl) (wAR bm)
 obtain ⟨gk,gD,eu,ey⟩:=q
 refine oR Z (ZB Z Z eu Z Zn Zs (wAv bm) (wAz bm)) (oL Z (aV.ldCA (f:=0) ey Z Z ym Zs (us:=[jV ab.Skier,jV ab.Mat,jV ab.Clock,jV ab.Time]) Z Z) (zV (cs:=[jV 0,jV 0,jV 0,jV 0]) Z Z Z Z Z Tryz.zeroValue115 Z aV ?_))
 intro gb aa eP
 let B3:List Value:=[jV ab.Skier,jV ab.Mat,jV ab.Clock,jV ab.Time]
 refine zY (j:=0) (vs:=B3) Z Z Z Z eP Z Z Z Z Zs (zA Z) Z Z Z ?_
 intro bd eW
 have eY:sW w U U [.blk aa 115 B3,.blk ai 123 B2,.blk ah 123 B2,.blk b6 93 B1,.blk b2 27 B0] bd:=eW
 refine eN ?_
 have q:=bnd ft
 obtain ⟨⟨fM,fN⟩,fw,cq⟩:=q
 try dsimp only at cq
 let B4:List Value:=[jV ab.Skier,jV ab.Mat]
 let B5:List Value:=[jV fM,jV fN]
 refine yQ (fun σ_ w_=>∃ (U_:PHeap),σ_ 4=.pointer (some ⟨ah,0,none⟩)/\σ_ 5=.pointer (some ⟨ai,0,none⟩)/\PHeap.Le U U_/\sW w U U_ [.blk aa 115 B3,.blk ai 123 B4,.blk ah 123 B5,.blk b6 93 B1,.blk b2 27 B0] w_) ?_ ?_
 refine bnK fw fun cG aU fu=>zx zn [3,1,2,3,2,3,2,3,0,0] (.fl 0 (.fl 1 (.fl 3 (.fl 5 (.fx 2 (.fx 4 gBn (.fx 6 gBo (.fx 8 (.fx 4 gAy (.fx 6 gAz .stop)) .stop))) (.fx 4 (.fx 2 gBn (.fx 6 gBi .stop)) (.fx 6 (.fx 2 gBo (.fx 4 gBi .stop)) .stop))))))) (by kernel_rfl) ?_
 have aQ:=eY.drew
 generalize hw_W54:({ bd with drawn:=bd.drawn + 1 }:World)=be at aQ ⊢
 let B6:List Value:=[jV cG.skier,jV cG.mat]
 refine ZR (s:=.nil) (M:=fun σ_ w_=>∃ (U_:PHeap),σ_ 4=.pointer (some ⟨ah,0,none⟩)/\σ_ 5=.pointer (some ⟨ai,0,none⟩)/\σ_ 6=.pointer (some ⟨aa,0,none⟩)/\σ_ 13=.pointer (some ⟨aa,2,none⟩)/\σ_ 14=jV ab.Clock/\σ_ 15=.agg B6.toArray/\σ_ 16=.pointer (some ⟨aa,0,none⟩)/\σ_ 17=jV ab.Skier/\σ_ 18=.pointer (some ⟨aa,1,none⟩)/\σ_ 19=jV ab.Mat/\σ_ 20=.agg B4.toArray/\PHeap.Le U U_/\sW w U U_ [.blk aa 115 B3,.blk ai 123 B4,.blk ah 123 B6,.blk b6 93 B1,.blk b2 27 B0] w_) ?_ fun cr=>?_
 rintro gI fU ⟨cH,cZ,da,gm,gp,gq,gt,gu,gv,gw,gx,gy,fz,eC⟩
 refine zw ?_
 cases fu
 exact zK ⟨Z,⟨cH,cZ,da,fz,eC⟩⟩
 refine ZR (s:=.fx 9 .nil .stop) (M:=fun σ_ w_=>∃ (U_:PHeap),σ_ 4=.pointer (some ⟨ah,0,none⟩)/\σ_ 5=.pointer (some ⟨ai,0,none⟩)/\σ_ 6=.pointer (some ⟨aa,0,none⟩)/\σ_ 13=.pointer (some ⟨aa,2,none⟩)/\σ_ 14=jV ab.Clock/\σ_ 15=.agg B6.toArray/\σ_ 16=.pointer (some ⟨aa,0,none⟩)/\σ_ 17=jV ab.Skier/\σ_ 18=.pointer (some ⟨aa,1,none⟩)/\σ_ 19=jV ab.Mat/\σ_ 20=.agg B4.toArray/\PHeap.Le U U_/\sW w U U_ [.blk aa 115 B3,.blk ai 123 B2,.blk ah 123 B6,.blk b6 93 B1,.blk b2 27 B0] w_) ?_ fun ct=>?_
 rintro gJ fV ⟨bz,db,bG,de,df,dg,dh,dk,dl,dm,dp,bH,fA,eD⟩
 refine zY (j:=1) (vs:=B4) Z Z Z Z eD Z bG bH Z zI (zA Z) Z Z Z ?_
 intro cM eE
 have eF:sW w U bz [.blk aa 115 B3,.blk ai 123 B4,.blk ah 123 B6,.blk b6 93 B1,.blk b2 27 B0] cM:=eE
 exact cr _ _ ⟨bz,db,bG,de,df,dg,dh,dk,dl,dm,dp,bH,fA,eF⟩
 refine ZR (s:=gAp) (M:=fun σ_ w_=>∃ (U_:PHeap),σ_ 4=.pointer (some ⟨ah,0,none⟩)/\σ_ 5=.pointer (some ⟨ai,0,none⟩)/\σ_ 6=.pointer (some ⟨aa,0,none⟩)/\σ_ 13=.pointer (some ⟨aa,2,none⟩)/\σ_ 14=jV ab.Clock/\σ_ 15=.agg B6.toArray/\σ_ 16=.pointer (some ⟨aa,0,none⟩)/\σ_ 17=jV ab.Skier/\σ_ 18=.pointer (some ⟨aa,1,none⟩)/\σ_ 19=jV ab.Mat/\σ_ 20=.agg B4.toArray/\PHeap.Le U U_/\sW w U U_ [.blk aa 115 B3,.blk ai 123 B2,.blk ah 123 B2,.blk b6 93 B1,.blk b2 27 B0] w_) ?_ fun fy=>?_
 rintro gK fW ⟨bA,bI,dq,dr,dt,du,bJ,dv,dw,dx,dy,dz,fB,eG⟩
 refine zY (j:=2) (vs:=B6) Z Z Z Z eG Z bI bJ Z zI (zA Z) Z Z Z ?_
 intro cN eH
 have eI:sW w U bA [.blk aa 115 B3,.blk ai 123 B2,.blk ah 123 B6,.blk b6 93 B1,.blk b2 27 B0] cN:=eH
 exact ct _ _ ⟨bA,bI,dq,dr,dt,du,bJ,dv,dw,dx,dy,dz,fB,eI⟩
 refine ZR (s:=gAq) (M:=fun σ_ w_=>∃ (U_:PHeap),σ_ 4=.pointer (some ⟨ah,0,none⟩)/\σ_ 5=.pointer (some ⟨ai,0,none⟩)/\σ_ 6=.pointer (some ⟨aa,0,none⟩)/\σ_ 13=.pointer (some ⟨aa,2,none⟩)/\σ_ 14=jV ab.Clock/\σ_ 15=.agg B6.toArray/\σ_ 16=.pointer (some ⟨aa,0,none⟩)/\σ_ 17=jV ab.Skier/\σ_ 18=.pointer (some ⟨aa,1,none⟩)/\σ_ 19=jV ab.Mat/\PHeap.Le U U_/\sW w U U_ [.blk aa 115 B3,.blk ai 123 B2,.blk ah 123 B6,.blk b6 93 B1,.blk b2 27 B0] w_) ?_ fun cu=>?_
 rintro gL fY ⟨bB,dA,bK,dB,dC,dD,dE,dF,bL,dG,bM,fC,eJ⟩
 refine oR Z (ZC (pv:=[(0,jV ab.Skier),(1,jV ab.Mat)]) (z:=B2) (cs:=B4) Z (wAH bL (wAH bM wAU)) zk wBl Z Z) (zY (j:=1) (vs:=B4) Z Z Z Z eJ Z bK Z Z zI (zA Z) Z Z Z ?_)
 intro cO eK
 have eL:sW w U bB [.blk aa 115 B3,.blk ai 123 B4,.blk ah 123 B6,.blk b6 93 B1,.blk b2 27 B0] cO:=eK
 exact cr _ _ ⟨bB,dA,bK,dB,dC,dD,dE,dF,bL,dG,bM,Z,fC,eL⟩
 refine ZR (s:=gAz) (M:=fun σ_ w_=>∃ (U_:PHeap),σ_ 4=.pointer (some ⟨ah,0,none⟩)/\σ_ 5=.pointer (some ⟨ai,0,none⟩)/\σ_ 6=.pointer (some ⟨aa,0,none⟩)/\σ_ 13=.pointer (some ⟨aa,2,none⟩)/\σ_ 14=jV ab.Clock/\σ_ 15=.agg B6.toArray/\σ_ 16=.pointer (some ⟨aa,0,none⟩)/\σ_ 18=.pointer (some ⟨aa,1,none⟩)/\σ_ 19=jV ab.Mat/\PHeap.Le U U_/\sW w U U_ [.blk aa 115 B3,.blk ai 123 B2,.blk ah 123 B6,.blk b6 93 B1,.blk b2 27 B0] w_) ?_ fun cw=>?_
 rintro gM fZ ⟨cI,dH,dI,dJ,dK,dL,dM,bN,dN,dO,fD,cn⟩
 exact Zc Z Z Z Z (cn.ldB (j:=0) Z Z bN zF (v:=jV ab.Skier) Z) (cu _ _ ⟨cI,dH,dI,dJ,dK,dL,dM,bN,Z,dN,dO,fD,cn⟩)
 refine ZR (s:=gAy) (M:=fun σ_ w_=>∃ (U_:PHeap),σ_ 4=.pointer (some ⟨ah,0,none⟩)/\σ_ 5=.pointer (some ⟨ai,0,none⟩)/\σ_ 6=.pointer (some ⟨aa,0,none⟩)/\σ_ 13=.pointer (some ⟨aa,2,none⟩)/\σ_ 14=jV ab.Clock/\σ_ 15=.agg B6.toArray/\σ_ 16=.pointer (some ⟨aa,0,none⟩)/\σ_ 17=jV ab.Skier/\σ_ 18=.pointer (some ⟨aa,1,none⟩)/\PHeap.Le U U_/\sW w U U_ [.blk aa 115 B3,.blk ai 123 B2,.blk ah 123 B6,.blk b6 93 B1,.blk b2 27 B0] w_) ?_ fun cx=>?_
 rintro gN ga ⟨cJ,dP,dQ,dR,dS,dT,dU,dV,dW,bO,fE,cp⟩
 exact Zc Z Z Z Z (cp.ldB (j:=0) Z Z bO zF (v:=jV ab.Mat) Z) (cu _ _ ⟨cJ,dP,dQ,dR,dS,dT,dU,dV,dW,bO,Z,fE,cp⟩)
 refine ZR (s:=.fl 7 gAp) (M:=fun σ_ w_=>∃ (U_:PHeap),σ_ 4=.pointer (some ⟨ah,0,none⟩)/\σ_ 5=.pointer (some ⟨ai,0,none⟩)/\σ_ 6=.pointer (some ⟨aa,0,none⟩)/\σ_ 13=.pointer (some ⟨aa,2,none⟩)/\σ_ 14=jV ab.Clock/\σ_ 15=.agg B6.toArray/\σ_ 16=.pointer (some ⟨aa,0,none⟩)/\σ_ 17=jV ab.Skier/\σ_ 18=.pointer (some ⟨aa,1,none⟩)/\σ_ 19=jV ab.Mat/\PHeap.Le U U_/\sW w U U_ [.blk aa 115 B3,.blk ai 123 B2,.blk ah 123 B2,.blk b6 93 B1,.blk b2 27 B0] w_) ?_ fun cy=>?_
 rintro gO ge ⟨bC,bP,dX,dY,dZ,d5,bQ,d6,bR,d7,bS,fG,eM⟩
 refine oR Z (ZC (pv:=[(0,jV ab.Skier),(1,jV ab.Mat)]) (z:=B2) (cs:=B4) Z (wAH bR (wAH bS wAU)) zk wBl Z Z) (zY (j:=2) (vs:=B6) Z Z Z Z eM Z bP bQ Z zI (zA Z) Z Z Z ?_)
 intro cP eO
 have eQ:sW w U bC [.blk aa 115 B3,.blk ai 123 B2,.blk ah 123 B6,.blk b6 93 B1,.blk b2 27 B0] cP:=eO
 exact ct _ _ ⟨bC,bP,dX,dY,dZ,d5,bQ,d6,bR,d7,bS,Z,fG,eQ⟩
 refine ZR (s:=gBi) (M:=fun σ_ w_=>∃ (U_:PHeap),σ_ 4=.pointer (some ⟨ah,0,none⟩)/\σ_ 5=.pointer (some ⟨ai,0,none⟩)/\σ_ 6=.pointer (some ⟨aa,0,none⟩)/\σ_ 13=.pointer (some ⟨aa,2,none⟩)/\σ_ 14=jV ab.Clock/\σ_ 16=.pointer (some ⟨aa,0,none⟩)/\σ_ 17=jV ab.Skier/\σ_ 18=.pointer (some ⟨aa,1,none⟩)/\σ_ 19=jV ab.Mat/\PHeap.Le U U_/\sW w U U_ [.blk aa 115 B3,.blk ai 123 B2,.blk ah 123 B2,.blk b6 93 B1,.blk b2 27 B0] w_) ?_ fun cz=>?_
 rintro gP cQ ⟨cK,d8,d9,ec,ef,bT,eg,bU,eh,bV,fH,eS⟩
 refine oR Z (ZC (pv:=[(0,jV ab.Skier),(1,jV ab.Mat)]) (z:=B2) (cs:=B4) Z (wAH bU (wAH bV wAU)) zk wBl Z Z) (zG 0 Z Z Z Z (zH Z Z Tryz.call70 (zB bT zM) Z) eS (fun hs=>wBy ab.Clock cQ cK hs aU) (.inr Z) ?_)
 rintro bD fO gE cR fJ eU ⟨rfl,rfl⟩
 have eV:sW w U bD [.blk aa 115 B3,.blk ai 123 B2,.blk ah 123 B2,.blk b6 93 B1,.blk b2 27 B0] cR:=eU
 exact fy _ _ ⟨bD,d8,d9,ec,ef,bT,Z,eg,bU,eh,bV,Z,(fH.trans fJ),eV⟩
 refine ZR (s:=gBo) (M:=fun σ_ w_=>∃ (U_:PHeap),σ_ 4=.pointer (some ⟨ah,0,none⟩)/\σ_ 5=.pointer (some ⟨ai,0,none⟩)/\σ_ 6=.pointer (some ⟨aa,0,none⟩)/\σ_ 13=.pointer (some ⟨aa,2,none⟩)/\σ_ 14=jV ab.Clock/\σ_ 15=.agg B6.toArray/\σ_ 16=.pointer (some ⟨aa,0,none⟩)/\σ_ 18=.pointer (some ⟨aa,1,none⟩)/\σ_ 19=jV ab.Mat/\PHeap.Le U U_/\sW w U U_ [.blk aa 115 B3,.blk ai 123 B2,.blk ah 123 B2,.blk b6 93 B1,.blk b2 27 B0] w_) ?_ fun cA=>?_
 rintro gQ gf ⟨ba,bf,bW,bX,bY,bZ,bg,bh,b5,b9,cD,bn⟩
 refine zt ?_ ?_
 exact Zc Z Z Z Z (bn.ldB (j:=0) Z Z bh zF (v:=jV ab.Skier) Z) (cy _ _ ⟨ba,bf,bW,bX,bY,bZ,bg,bh,Z,b5,b9,cD,bn⟩)
 refine zY (j:=2) (vs:=B6) Z Z Z Z bn Z bf bg Z zI (zA Z) Z Z Z ?_
 intro cS eZ
 have e8:sW w U ba [.blk aa 115 B3,.blk ai 123 B2,.blk ah 123 B6,.blk b6 93 B1,.blk b2 27 B0] cS:=eZ
 exact cw _ _ ⟨ba,bf,bW,bX,bY,bZ,bg,bh,b5,b9,cD,e8⟩
 refine ZR (s:=gBn) (M:=fun σ_ w_=>∃ (U_:PHeap),σ_ 4=.pointer (some ⟨ah,0,none⟩)/\σ_ 5=.pointer (some ⟨ai,0,none⟩)/\σ_ 6=.pointer (some ⟨aa,0,none⟩)/\σ_ 13=.pointer (some ⟨aa,2,none⟩)/\σ_ 14=jV ab.Clock/\σ_ 15=.agg B6.toArray/\σ_ 16=.pointer (some ⟨aa,0,none⟩)/\σ_ 17=jV ab.Skier/\σ_ 18=.pointer (some ⟨aa,1,none⟩)/\PHeap.Le U U_/\sW w U U_ [.blk aa 115 B3,.blk ai 123 B2,.blk ah 123 B2,.blk b6 93 B1,.blk b2 27 B0] w_) ?_ fun cC=>?_
 rintro gR gg ⟨bb,bi,cb,cd,cf,cg,bj,cj,cm,bk,cE,bo⟩
 refine zt ?_ ?_
 exact Zc Z Z Z Z (bo.ldB (j:=0) Z Z bk zF (v:=jV ab.Mat) Z) (cy _ _ ⟨bb,bi,cb,cd,cf,cg,bj,cj,cm,bk,Z,cE,bo⟩)
 refine zY (j:=2) (vs:=B6) Z Z Z Z bo Z bi bj Z zI (zA Z) Z Z Z ?_
 intro cU e9
 have fb:sW w U bb [.blk aa 115 B3,.blk ai 123 B2,.blk ah 123 B6,.blk b6 93 B1,.blk b2 27 B0] cU:=e9
 exact cx _ _ ⟨bb,bi,cb,cd,cf,cg,bj,cj,cm,bk,cE,fb⟩
 refine oR Z (zE Z Z Zu Z zC) (oL Z (aQ.ldB (j:=0) Z Z Z zF (v:=jV ab.Clock) Z) (oR Z (zE Z Z Zu Z zC) (oR Z (zE Z Z Zu Z zC) (zt ?_ ?_))))
 refine zG 0 Z Z Z Z (zH Z Z Tryz.call70 (zB Z zM) Z) aQ (fun hs=>wBy ab.Clock be U hs aU) (.inr Z) ?_
 rintro aS fP gF cV aX fc ⟨rfl,rfl⟩
 have aT:sW w U aS [.blk aa 115 B3,.blk ai 123 B2,.blk ah 123 B2,.blk b6 93 B1,.blk b2 27 B0] cV:=fc
 refine zt ?_ ?_
 exact Zc Z Z Z Z (aT.ldB (j:=0) Z Z Z zF (v:=jV ab.Skier) Z) (cC _ _ ⟨aS,Z,Z,Z,Z,Z,Z,Z,Z,Z,aX,aT⟩)
 refine zt ?_ ?_
 exact Zc Z Z Z Z (aT.ldB (j:=0) Z Z Z zF (v:=jV ab.Mat) Z) (cA _ _ ⟨aS,Z,Z,Z,Z,Z,Z,Z,Z,Z,aX,aT⟩)
 refine zY (j:=2) (vs:=B6) Z Z Z Z aT Z Z Z Z zI (zA Z) Z Z Z ?_
 intro cW fd
 have aW:sW w U aS [.blk aa 115 B3,.blk ai 123 B2,.blk ah 123 B6,.blk b6 93 B1,.blk b2 27 B0] cW:=fd
 refine zt ?_ ?_
 exact Zc Z Z Z Z (aW.ldB (j:=0) Z Z Z zF (v:=jV ab.Skier) Z) (cx _ _ ⟨aS,Z,Z,Z,Z,Z,Z,Z,Z,Z,aX,aW⟩)
 exact Zc Z Z Z Z (aW.ldB (j:=0) Z Z Z zF (v:=jV ab.Mat) Z) (cw _ _ ⟨aS,Z,Z,Z,Z,Z,Z,Z,Z,Z,aX,aW⟩)
 refine zt ?_ ?_
 refine Zc Z Z Z Z (aQ.ldB (j:=0) Z Z Z zF (v:=jV ab.Skier) Z) (zt ?_ ?_)
 refine zG 0 Z Z Z Z (zH Z Z Tryz.call70 (zB Z zM) Z) aQ (fun hs=>wBy ab.Clock be U hs aU) (.inr Z) ?_
 rintro bE fQ gG cX fK ff ⟨rfl,rfl⟩
 have fg:sW w U bE [.blk aa 115 B3,.blk ai 123 B2,.blk ah 123 B2,.blk b6 93 B1,.blk b2 27 B0] cX:=ff
 exact cC _ _ ⟨bE,Z,Z,Z,Z,Z,Z,Z,Z,Z,fK,fg⟩
 exact Zc Z Z Z Z (aQ.ldB (j:=0) Z Z Z zF (v:=jV ab.Mat) Z) (cz _ _ ⟨U,Z,Z,Z,Z,Z,Z,Z,Z,Z,(zQ _),aQ⟩)
 refine Zc Z Z Z Z (aQ.ldB (j:=0) Z Z Z zF (v:=jV ab.Mat) Z) (zt ?_ ?_)
 refine zG 0 Z Z Z Z (zH Z Z Tryz.call70 (zB Z zM) Z) aQ (fun hs=>wBy ab.Clock be U hs aU) (.inr Z) ?_
 rintro bF fR gH cY fL fh ⟨rfl,rfl⟩
 have fj:sW w U bF [.blk aa 115 B3,.blk ai 123 B2,.blk ah 123 B2,.blk b6 93 B1,.blk b2 27 B0] cY:=fh
 exact cA _ _ ⟨bF,Z,Z,Z,Z,Z,Z,Z,Z,Z,fL,fj⟩
 exact Zc Z Z Z Z (aQ.ldB (j:=0) Z Z Z zF (v:=jV ab.Skier) Z) (cz _ _ ⟨U,Z,Z,Z,Z,Z,Z,Z,Z,Z,(zQ _),aQ⟩)
 rintro gS gh ⟨cL,ej,en,gC,bp⟩
 refine zP ?_
 cases cq
 exact ⟨rfl,_,(wCx (rs:=[.cell 4 123,.cell 5 123]) (vs:=[.agg B5.toArray,.agg B4.toArray]) ⟨⟨_,ej,(wAs zh zI (bp.blkAt (k:=2) rfl) (vs:=B5) rfl rfl)⟩,⟨⟨_,en,(wAs zh zI (bp.blkAt (k:=1) rfl) (vs:=B4) rfl rfl)⟩,trivial⟩⟩ rfl),cL,_,(bp.pick [] _ (by decide) rfl),rfl,rfl⟩
end Go.Proofs.YtlnfbjphfoipaaaGreat
namespace Go.Proofs.YtlnfbjphfoipaaaGreat
open Go.KL
set_option maxHeartbeats 4000000
theorem wIO (p0:wAA) (av:Option Addr) (aQ:Nat) (az:Option Addr) (aR:Nat) (ai:Option Addr) (aj:Nat) (am:Option Addr) (ap:Nat) (p1:wAK) (w:World) (U:PHeap) (hS:St0 w U []) (bw:Sl U 1 av aQ p0.Starts.length (hH KL.encI p0.Starts)) (bz:Sl U 2 az aR p0.Splits.length (hH wAB p0.Splits)) (aV:Sl U 3 ai aj p0.Clocks.length (hH wAD p0.Clocks)) (bk:Sl U 4 am ap p0.Readings.length (hH wAC p0.Readings)) {r:Int × Int} (hm:wDZ p0 p1=some r):Gv Tryz.prog 144 [.agg #[.slice av p0.Starts.length aQ,.slice az p0.Splits.length aR,.slice ai p0.Clocks.length aj,.slice am p0.Readings.length ap],.agg #[jV p1.Kind,jV p1.Skier,jV p1.Index,.bool p1.Up]] w (wCq w [] U (fun U_ L_ v=>v=.tuple #[jV r.1,jV r.2]/\L_=[])):=by
 unfold wDZ at hm
 refine Gv.of Tryz.func144 Z Tryz.ntmps144 Tryz.results144 Z (sR gBg Z ?_)
 let B0:List Value:=[.slice av p0.Starts.length aQ,.slice az p0.Splits.length aR,.slice ai p0.Clocks.length aj,.slice am p0.Readings.length ap]
 refine zy (cs:=B0) rfl rfl rfl rfl rfl rfl (by rfl) hS ?_
 intro W1 b2 bj
 let B1:List Value:=[jV p1.Kind,jV p1.Skier,jV p1.Index,.bool p1.Up]
 refine zy (cs:=B1) rfl rfl rfl rfl rfl rfl (by rfl) bj ?_
 intro W5 b6 ak
 refine oA Z Z (oA Z Z (eN (sR (wHD gAo) Z (oR Z (zE Z Z zU Z yR) (oL Z (ak.ldB (j:=1) Z Z Z yW (v:=.slice am p0.Readings.length ap) Z) (oR Z (zE Z Z ZM Z zC) (oL Z (ak.ldB (j:=0) Z Z Z zF (v:=jV p1.Index) Z) (bnK hm fun x9 au bm=>?_))))))))
 have q:=bk.el (fun _=>rfl) (wAR au)
 obtain ⟨bs,bA,a0,bd⟩:=q
 refine oR Z (ZB Z Z a0 Z Zn Zs (wAv au) (wAz au)) (oL Z (ak.ldCA (f:=0) bd Z Z ym Zs (us:=[jV x9.Skier,jV x9.Mat,jV x9.Clock,jV x9.Time]) Z Z) (zV (cs:=[jV 0,jV 0,jV 0,jV 0]) Z Z Z Z Z Tryz.zeroValue115 Z ak ?_))
 intro bp aX bg
 let B2:List Value:=[jV x9.Skier,jV x9.Mat,jV x9.Clock,jV x9.Time]
 refine zY (j:=0) (vs:=B2) Z Z Z Z bg Z Z Z Z Zs (zA Z) Z Z Z ?_
 intro aq bh
 have bi:sW w U U [.blk aX 115 B2,.blk b6 93 B1,.blk b2 27 B0] aq:=bh
 refine eN (zJ (zx zn [3,1,3,1,3,1,3,3,1,3,3,1,3,1,3,3,1,3,1,3,3,3] fL22 (by kernel_rfl) ?_))
 have ab:=bi.drew
 generalize hw_W24:({ aq with drawn:=aq.drawn + 1 }:World)=bq at ab ⊢
 refine oR Z (zE Z Z Zu Z zC) (oL Z (ab.ldB (j:=0) Z Z Z zF (v:=jV x9.Time) Z) (oR Z (zE Z Z zU Z yE) (oL Z (ab.ldB (j:=2) Z Z Z yH (v:=.slice ai p0.Clocks.length aj) Z) (oR Z (zE Z Z Zu Z zC) (oL Z (ab.ldB (j:=0) Z Z Z zF (v:=jV x9.Clock) Z) (bnK bm fun aW ah bn=>?_))))))
 have q:=aV.el (fun _=>rfl) (wAR ah)
 obtain ⟨bu,bB,ba,be⟩:=q
 refine oR Z (ZB Z Z ba Z ZW Zv (wAv ah) (wAz ah)) (oR Z (zE Z Z ya Z zC) (oL Z (ab.ldC (f:=2) be (v:=jV aW.Error) Z Z zF Z) (oR Z (zj Z Z Z) (oR Z (zE Z Z zU Z yE) (oL Z (ab.ldB (j:=2) Z Z Z yH (v:=.slice ai p0.Clocks.length aj) Z) (oR Z (zE Z Z Zu Z zC) (oL Z (ab.ldB (j:=0) Z Z Z zF (v:=jV x9.Clock) Z) ?_)))))))
 have q:=aV.el (fun _=>rfl) (wAR ah)
 obtain ⟨bv,bC,bb,bf⟩:=q
 refine oR Z (ZB Z Z bb Z ZW Zv (wAv ah) (wAz ah)) (oR Z (zE Z Z ya Z zC) (oL Z (ab.ldC (f:=2) bf (v:=jV aW.Error) Z Z zF Z) (oR Z (zE Z Z Zu Z zC) (oL Z (ab.ldB (j:=0) Z Z Z zF (v:=jV x9.Time) Z) (oR Z (yV Z Z Z) (oA Z Z (oA Z Z (eN (zP ?_)))))))))
 cases bn
 exact ⟨rfl,_,(wHO rfl rfl),U,_,(ab.pick [] _ (by decide) rfl),rfl,rfl⟩
theorem wBz  (w:World) (U:PHeap) (hS:St0 w U [])  {r:Unit} (hm:wCc =some r):Gv Tryz.prog 127 [] w (wCq w [] U (fun U_ L_ v=>v=.agg #[.func (.func 133) #[] #[],.func (.func 134) #[] #[],.func (.func 135) #[] #[],.func (.func 136) #[] #[],.func (.func 137) #[] #[],.func (.func 138) #[] #[],.func (.func 139) #[] #[],.func (.func 140) #[] #[],.func (.func 141) #[] #[],.func (.func 142) #[] #[],.func (.func 143) #[] #[],.func (.func 144) #[] #[]]/\L_=[])):=by
 unfold wCc at hm
 refine Gv.of Tryz.func127 Z Tryz.ntmps127 Tryz.results127 Z (sR (.fx 0 .nil .stop) Z ?_)
 let B0:List Value:=[.nilFunc,.nilFunc,.nilFunc,.nilFunc,.nilFunc,.nilFunc,.nilFunc,.nilFunc,.nilFunc,.nilFunc,.nilFunc,.nilFunc]
 refine zV (cs:=B0) Z Z Z Z Z Tryz.zeroValue201 Z hS ?_
 intro W1 b2 au
 refine eN (sR (wGG (.fx 5 .nil .stop)) Z ?_)
 let B1:List Value:=[.nilFunc,.nilFunc,.nilFunc]
 let B2:List Value:=[.func (.func 133) #[] #[],.func (.func 134) #[] #[],.func (.func 135) #[] #[]]
 refine oR Z (ZC (pv:=[(0,.func (.func 133) #[] #[]),(1,.func (.func 134) #[] #[]),(2,.func (.func 135) #[] #[])]) (z:=B1) (cs:=B2) Z (wAH Z (wAH Z (wAH Z wAU))) Zx wGX Z Z) ?_
 let B3:List Value:=[.func (.func 136) #[] #[],.func (.func 137) #[] #[],.func (.func 138) #[] #[]]
 refine oR Z (ZC (pv:=[(0,.func (.func 136) #[] #[]),(1,.func (.func 137) #[] #[]),(2,.func (.func 138) #[] #[])]) (z:=B1) (cs:=B3) Z (wAH Z (wAH Z (wAH Z wAU))) Zx wGX Z Z) ?_
 let B4:List Value:=[.func (.func 139) #[] #[],.func (.func 140) #[] #[],.func (.func 141) #[] #[]]
 refine oR Z (ZC (pv:=[(0,.func (.func 139) #[] #[]),(1,.func (.func 140) #[] #[]),(2,.func (.func 141) #[] #[])]) (z:=B1) (cs:=B4) Z (wAH Z (wAH Z (wAH Z wAU))) Zx wGX Z Z) ?_
 let B5:List Value:=[.func (.func 142) #[] #[],.func (.func 143) #[] #[],.func (.func 144) #[] #[]]
 refine oR Z (ZC (pv:=[(0,.func (.func 142) #[] #[]),(1,.func (.func 143) #[] #[]),(2,.func (.func 144) #[] #[])]) (z:=B1) (cs:=B5) Z (wAH Z (wAH Z (wAH Z wAU))) Zx wGX Z Z) ?_
 let B6:List Value:=[.func (.func 133) #[] #[],.func (.func 134) #[] #[],.func (.func 135) #[] #[],.func (.func 136) #[] #[],.func (.func 137) #[] #[],.func (.func 138) #[] #[],.func (.func 139) #[] #[],.func (.func 140) #[] #[],.func (.func 141) #[] #[],.func (.func 142) #[] #[],.func (.func 143) #[] #[],.func (.func 144) #[] #[]]
 refine oR Z (Runs.buildA (pv:=[(0,.agg B2.toArray),(1,.agg B3.toArray),(2,.agg B4.toArray),(3,.agg B5.toArray)]) (z:=B0) (cs:=B6) Z (wAH Z (wAH Z (wAH Z (wAH Z wAU)))) Tryz.zeroValue201 yG Ze Z Z) (zY (j:=0) (vs:=B6) Z Z Z Z au Z Z Z Z Tryz.sizeOf201 (zA Z) Z Z Z ?_)
 intro W5 av
 have am:sW w U U [.blk b2 201 B6] W5:=av
 refine eN (zP ?_)
 cases hm
 exact ⟨rfl,_,(wJs (v:=.agg B6.toArray) ⟨⟨_,rfl,(wAs Tryz.isAgg201 Tryz.sizeOf201 (am.blkAt (k:=0) rfl) (vs:=B6) rfl rfl)⟩,trivial⟩),U,_,(am.pick [] _ (by decide) rfl),rfl,rfl⟩
theorem wGv (p0:wAA) (bv:Option Addr) (bB:Nat) (bw:Option Addr) (bC:Nat) (bz:Option Addr) (bD:Nat) (bA:Option Addr) (bE:Nat) (p1:wAK) (w:World) (U:PHeap) (hS:St0 w U []) (cJ:Sl U 1 bv bB p0.Starts.length (hH KL.encI p0.Starts)) (cK:Sl U 2 bw bC p0.Splits.length (hH wAB p0.Splits)) (cL:Sl U 3 bz bD p0.Clocks.length (hH wAD p0.Clocks)) (cM:Sl U 4 bA bE p0.Readings.length (hH wAC p0.Readings)) {r:wAG × wAG × Int} (hm:wCA p0 p1=some r):Gv Tryz.prog 107 [.agg #[.slice bv p0.Starts.length bB,.slice bw p0.Splits.length bC,.slice bz p0.Clocks.length bD,.slice bA p0.Readings.length bE],.agg #[jV p1.Kind,jV p1.Skier,jV p1.Index,.bool p1.Up]] w (wCq w [] U (fun U_ L_ v=>v=.tuple #[.agg #[jV r.1.skier,jV r.1.mat],.agg #[jV r.2.1.skier,jV r.2.1.mat],jV r.2.2]/\L_=[])):=by
 unfold wCA at hm
 refine Gv.of Tryz.func107 Z Tryz.ntmps107 Tryz.results107 Z ?_
 by_cases c1:p1.Kind=0
 have fP:=hm;rw [if_pos c1] at fP
 refine sR gBp Z ?_
 let B0:List Value:=[.slice bv p0.Starts.length bB,.slice bw p0.Splits.length bC,.slice bz p0.Clocks.length bD,.slice bA p0.Readings.length bE]
 refine zy (cs:=B0) rfl rfl rfl rfl rfl rfl (by rfl) hS ?_
 intro W6 b7 m8
 let B1:List Value:=[jV p1.Kind,jV p1.Skier,jV p1.Index,.bool p1.Up]
 refine zy (cs:=B1) rfl rfl rfl rfl rfl rfl (by rfl) m8 ?_
 intro o8 bd jD
 let B2:List Value:=[jV 0,jV 0]
 refine zV (cs:=B2) Z Z Z Z Z zk Z jD ?_
 intro pe aV jP
 refine zV (cs:=B2) Z Z Z Z Z zk Z jP ?_
 intro d7 aY jY
 refine oA Z Z (eN ?_)
 have q:=bnd fP
 obtain ⟨⟨⟩,oe,fE⟩:=q
 try dsimp only at fE
 let B3:List Value:=[.func (.func 133) #[] #[],.func (.func 134) #[] #[],.func (.func 135) #[] #[]]
 refine yQ (fun σ_ w_=>∃ (U_:PHeap) (bG:Nat),σ_ 2=.pointer (some ⟨b7,0,none⟩)/\σ_ 3=.pointer (some ⟨bd,0,none⟩)/\σ_ 4=.pointer (some ⟨aV,0,none⟩)/\σ_ 5=.pointer (some ⟨aY,0,none⟩)/\σ_ 7=.pointer (some ⟨bG,0,none⟩)/\PHeap.Le U U_/\sW w U U_ [.blk aY 123 B2,.blk aV 123 B2,.blk bd 93 B1,.blk b7 27 B0,.blk bG 200 B3] w_) ?_ ?_
 have q:=bnd oe
 obtain ⟨⟨⟩,eV,dT⟩:=q
 try dsimp only at dT
 refine zx zn [2,3,1,3,2,0] gBu (by kernel_rfl) ?_
 have cC:=jY.drew
 generalize hw_W45:({ d7 with drawn:=d7.drawn + 1 }:World)=ib at cC ⊢
 refine oR Z (zE Z Z ZM Z Tryz.sizeOf91) (oL Z (cC.ldB (j:=2) Z Z Z Tryz.isAgg91 (v:=jV p1.Kind) Z) (zt ?_ ?_))
 refine zG 0 Z Z Z Z (zH Z Z yg zM Z) cC (fun hs=>wBz ib U hs eV) (.inr Z) ?_
 rintro dm oU qd il ot mi ⟨rfl,rfl⟩
 have mj:sW w U dm [.blk aY 123 B2,.blk aV 123 B2,.blk bd 93 B1,.blk b7 27 B0] il:=mi
 refine zq rfl rfl rfl rfl (fun _=>(Runs.ixA (i:=0) rfl rfl (congrArg (jV) c1) yG Ze (by decide) (by decide) (wDG yn Ze rfl))) (zV (cs:=[.nilFunc,.nilFunc,.nilFunc]) rfl rfl rfl rfl rfl Zx rfl mj ?_)
 intro pE ey mw
 refine zY (j:=0) (vs:=B3) Z Z Z Z mw Z Z Z Z Ze (zA Z) Z Z Z ?_
 intro iv mC
 have mG:sW w U dm [.blk ey 200 B3,.blk aY 123 B2,.blk aV 123 B2,.blk bd 93 B1,.blk b7 27 B0] iv:=mC
 refine zw ?_
 cases dT
 exact zK ⟨rfl,⟨dm,ey,rfl,rfl,rfl,rfl,rfl,ot,(mG.pick [1,2,3,4,0] _ (by decide) rfl)⟩⟩
 refine zV (cs:=[.nilFunc,.nilFunc,.nilFunc]) Z Z Z Z Z Zx Z cC ?_
 intro iB dA mS
 refine zG 0 Z Z Z Z (zH Z Z yg zM Z) mS (fun hs=>wBz iB U hs eV) (.inr Z) ?_
 rintro dr o3 qk iK ox m4 ⟨rfl,rfl⟩
 have m5:sW w U dr [.blk dA 200 [.nilFunc,.nilFunc,.nilFunc],.blk aY 123 B2,.blk aV 123 B2,.blk bd 93 B1,.blk b7 27 B0] iK:=m4
 refine zq rfl rfl rfl rfl (fun _=>(Runs.ixA (i:=0) rfl rfl (congrArg (jV) c1) yG Ze (by decide) (by decide) (wDG yn Ze rfl))) (zY (j:=0) (vs:=B3) rfl rfl rfl rfl m5 rfl rfl rfl rfl Ze (zA rfl) rfl rfl rfl ?_)
 intro iL m6
 have m7:sW w U dr [.blk dA 200 B3,.blk aY 123 B2,.blk aV 123 B2,.blk bd 93 B1,.blk b7 27 B0] iL:=m6
 refine zw ?_
 cases dT
 exact zK ⟨rfl,⟨dr,dA,rfl,rfl,rfl,rfl,rfl,ox,(m7.pick [1,2,3,4,0] _ (by decide) rfl)⟩⟩
 rintro qw iM ⟨gv,bG,eL,dI,bU,bQ,eM,cV,cI⟩
 refine sR (wEu (.fx 4 (wPL gAp) .stop)) Z (oR Z (zE Z eM yI Z Tryz.sizeOf197) (oL Z (cI.ldB (j:=4) Z Z Z Tryz.isAgg197 (v:=.func (.func 134) #[] #[]) Z) (oL Z (cI.ldBA (j:=3) Z Z eL ZA zl (vs:=B0) Z Z) (oL Z (cI.ldBA (j:=2) Z Z dI yh yS (vs:=B1) Z Z) ?_))))
 have fh:=cJ.le cV
 have fj:=cK.le cV
 have fm:=cL.le cV
 have fq:=cM.le cV
 have q:=bnd fE
 obtain ⟨⟨x92,x93⟩,jx,fV⟩:=q
 try dsimp only at fV
 refine zG 0 Z Z Z Z (zH Z Z Tryz.call134 (zB Z (zB Z zM)) Z) cI (fun hs=>wIi p0 bv bB bw bC bz bD bA bE p1 iM gv hs fh fj fm fq jx) (.inr Z) ?_
 rintro cq o7 qn iN cN jy ⟨rfl,rfl⟩
 have jz:sW w U cq [.blk aY 123 B2,.blk aV 123 B2,.blk bd 93 B1,.blk b7 27 B0,.blk bG 200 B3] iN:=jy
 refine oM Z Z (oR Z (ze Z Z (v:=.agg #[jV x92.skier,jV x92.mat]) Z) (oR Z (ze Z Z (v:=.agg #[jV x93.skier,jV x93.mat]) Z) ?_))
 let B4:List Value:=[jV x92.skier,jV x92.mat]
 refine zY (j:=1) (vs:=B4) Z Z Z Z jz Z bU Z Z zI (zA Z) Z Z Z ?_
 intro gw jA
 have jB:sW w U cq [.blk aY 123 B2,.blk aV 123 B4,.blk bd 93 B1,.blk b7 27 B0,.blk bG 200 B3] gw:=jA
 let B5:List Value:=[jV x93.skier,jV x93.mat]
 refine zY (j:=0) (vs:=B5) Z Z Z Z jB Z bQ Z Z zI (zA Z) Z Z Z ?_
 intro d5 jC
 have ct:sW w U cq [.blk aY 123 B5,.blk aV 123 B4,.blk bd 93 B1,.blk b7 27 B0,.blk bG 200 B3] d5:=jC
 refine eN (sR (wEu (.fx 4 (wJj (.nil)) .stop)) Z (oR Z (zE Z eM yI Z Tryz.sizeOf198) (oL Z (ct.ldB (j:=4) Z Z Z Tryz.isAgg198 (v:=.func (.func 135) #[] #[]) Z) (oL Z (ct.ldBA (j:=3) Z Z eL ZA zl (vs:=B0) Z Z) (oL Z (ct.ldBA (j:=2) Z Z dI yh yS (vs:=B1) Z Z) ?_)))))
 have i8:=fh.le cN
 have i9:=fj.le cN
 have ja:=fm.le cN
 have jb:=fq.le cN
 have q:=bnd fV
 obtain ⟨⟨dW,gb⟩,jc,fz⟩:=q
 try dsimp only at fz
 refine zG 0 Z Z Z Z (zH Z Z Tryz.call135 (zB Z (zB Z zM)) Z) ct (fun hs=>wIj p0 bv bB bw bC bz bD bA bE p1 d5 cq hs i8 i9 ja jb jc) (.inr Z) ?_
 rintro bJ oy pY dt pO jE ⟨rfl,rfl⟩
 have bZ:sW w U bJ [.blk aY 123 B5,.blk aV 123 B4,.blk bd 93 B1,.blk b7 27 B0,.blk bG 200 B3] dt:=jE
 refine oM Z Z (oR Z (ze Z Z (v:=jV dW) Z) (oR Z (ze Z Z (v:=jV gb) Z) (oA Z Z (oA Z Z (eN (zJ (sR fL3 Z (oR Z (zE Z dI ZM Z Tryz.sizeOf4) (oL Z (bZ.ldB (j:=2) Z Z Z Tryz.isAgg4 (v:=.bool p1.Up) Z) (oR Z (Zm Z Z) (eN (ifc fz ?_ ?_))))))))))))
 intro dB m9
 refine zr (nC dB.out) (kN ?_)
 have q:=bnd m9
 obtain ⟨⟨⟩,fW,fA⟩:=q
 try dsimp only at fA
 refine yQ (fun σ_ w_=>∃ (U_:PHeap),σ_ 4=.pointer (some ⟨aV,0,none⟩)/\σ_ 5=.pointer (some ⟨aY,0,none⟩)/\σ_ 6=jV dW/\PHeap.Le bJ U_/\sW w U U_ [.blk aY 123 B5,.blk aV 123 B4,.blk bd 93 B1,.blk b7 27 B0,.blk bG 200 B3] w_) ?_ ?_
 refine zx zn [1,2,3,0,0,3] gBv (by kernel_rfl) ?_
 have b5:=bZ.drew
 generalize hw_W136:({ dt with drawn:=dt.drawn + 1 }:World)=o9 at b5 ⊢
 refine oL Z (b5.ldBA (j:=1) Z Z bU zh zI (vs:=B4) Z Z) (oM Z Z (zt ?_ ?_))
 refine Zc Z Z Z Z (b5.ldBA (j:=0) Z Z bQ zh zI (vs:=B5) Z Z) (zY (j:=1) (vs:=B4) Z Z Z Z b5 Z bU Z Z zI (zA Z) Z Z Z ?_)
 intro gx jG
 have jH:sW w U bJ [.blk aY 123 B5,.blk aV 123 B4,.blk bd 93 B1,.blk b7 27 B0,.blk bG 200 B3] gx:=jG
 refine zY (j:=0) (vs:=B5) Z Z Z Z jH Z bQ Z Z zI (zA Z) Z Z Z ?_
 intro gy jJ
 have jK:sW w U bJ [.blk aY 123 B5,.blk aV 123 B4,.blk bd 93 B1,.blk b7 27 B0,.blk bG 200 B3] gy:=jJ
 refine oA Z Z (zw ?_)
 cases fW
 exact zK ⟨Z,⟨bJ,bU,bQ,Z,(zQ _),jK⟩⟩
 refine zY (j:=1) (vs:=B4) Z Z Z Z b5 Z bU Z Z zI (zA Z) Z Z Z ?_
 intro gz jL
 have ft:sW w U bJ [.blk aY 123 B5,.blk aV 123 B4,.blk bd 93 B1,.blk b7 27 B0,.blk bG 200 B3] gz:=jL
 refine Zc Z Z Z Z (ft.ldBA (j:=0) Z Z bQ zh zI (vs:=B5) Z Z) (zY (j:=0) (vs:=B5) Z Z Z Z ft Z bQ Z Z zI (zA Z) Z Z Z ?_)
 intro gA jM
 have jN:sW w U bJ [.blk aY 123 B5,.blk aV 123 B4,.blk bd 93 B1,.blk b7 27 B0,.blk bG 200 B3] gA:=jM
 refine oA Z Z (zw ?_)
 cases fW
 exact zK ⟨Z,⟨bJ,bU,bQ,Z,(zQ _),jN⟩⟩
 rintro qo pf ⟨gh,iP,iQ,iR,pP,dJ⟩
 refine zP ?_
 cases fA
 exact ⟨rfl,_,(wCx (rs:=[.cell 4 123,.cell 5 123,.tmp 6]) (vs:=[.agg B4.toArray,.agg B5.toArray,jV dW]) ⟨⟨_,iP,(wAs zh zI (dJ.blkAt (k:=1) rfl) (vs:=B4) rfl rfl)⟩,⟨⟨_,iQ,(wAs zh zI (dJ.blkAt (k:=0) rfl) (vs:=B5) rfl rfl)⟩,⟨iR,trivial⟩⟩⟩ rfl),gh,_,(dJ.pick [] _ (by decide) rfl),rfl,rfl⟩
 intro dB n5
 refine ZG (nF (dB.out)) (sR (wEF gBa) Z (oL Z (bZ.ldBA (j:=0) Z Z bQ zh zI (vs:=B5) Z Z) (oL Z (bZ.ldBA (j:=1) Z Z bU zh zI (vs:=B4) Z Z) (oM Z Z (zY (j:=1) (vs:=B5) Z Z Z Z bZ Z bU Z Z zI (zA Z) Z Z Z ?_)))))
 intro gB jO
 have jQ:sW w U bJ [.blk aY 123 B5,.blk aV 123 B5,.blk bd 93 B1,.blk b7 27 B0,.blk bG 200 B3] gB:=jO
 refine zY (j:=0) (vs:=B4) Z Z Z Z jQ Z bQ Z Z zI (zA Z) Z Z Z ?_
 intro gC jR
 have dK:sW w U bJ [.blk aY 123 B4,.blk aV 123 B5,.blk bd 93 B1,.blk b7 27 B0,.blk bG 200 B3] gC:=jR
 refine oA Z Z (eN (zP (zN ?_)))
 cases n5
 exact ⟨rfl,_,(wCx (rs:=[.cell 4 123,.cell 5 123,.tmp 6]) (vs:=[.agg B5.toArray,.agg B4.toArray,jV gb]) ⟨⟨_,bU,(wAs zh zI (dK.blkAt (k:=1) rfl) (vs:=B5) rfl rfl)⟩,⟨⟨_,bQ,(wAs zh zI (dK.blkAt (k:=0) rfl) (vs:=B4) rfl rfl)⟩,⟨rfl,trivial⟩⟩⟩ rfl),bJ,_,(dK.pick [] _ (by decide) rfl),rfl,rfl⟩
 by_cases c2:p1.Kind=1
 have fB:=hm;rw [if_neg c1,if_pos c2] at fB
 refine sR gBp Z ?_
 let B6:List Value:=[.slice bv p0.Starts.length bB,.slice bw p0.Splits.length bC,.slice bz p0.Clocks.length bD,.slice bA p0.Readings.length bE]
 refine zy (cs:=B6) rfl rfl rfl rfl rfl rfl (by rfl) hS ?_
 intro pg be jS
 let B7:List Value:=[jV p1.Kind,jV p1.Skier,jV p1.Index,.bool p1.Up]
 refine zy (cs:=B7) rfl rfl rfl rfl rfl rfl (by rfl) jS ?_
 intro ph bf jU
 let B8:List Value:=[jV 0,jV 0]
 refine zV (cs:=B8) Z Z Z Z Z zk Z jU ?_
 intro pj aW jW
 refine zV (cs:=B8) Z Z Z Z Z zk Z jW ?_
 intro d6 aX jX
 refine oA Z Z (eN ?_)
 have q:=bnd fB
 obtain ⟨⟨⟩,od,fC⟩:=q
 try dsimp only at fC
 let B9:List Value:=[.func (.func 136) #[] #[],.func (.func 137) #[] #[],.func (.func 138) #[] #[]]
 refine yQ (fun σ_ w_=>∃ (U_:PHeap) (bF:Nat),σ_ 2=.pointer (some ⟨be,0,none⟩)/\σ_ 3=.pointer (some ⟨bf,0,none⟩)/\σ_ 4=.pointer (some ⟨aW,0,none⟩)/\σ_ 5=.pointer (some ⟨aX,0,none⟩)/\σ_ 7=.pointer (some ⟨bF,0,none⟩)/\PHeap.Le U U_/\sW w U U_ [.blk aX 123 B8,.blk aW 123 B8,.blk bf 93 B7,.blk be 27 B6,.blk bF 200 B9] w_) ?_ ?_
 have q:=bnd od
 obtain ⟨⟨⟩,eO,dR⟩:=q
 try dsimp only at dR
 refine zx zn [2,3,1,3,2,0] gBu (by kernel_rfl) ?_
 have cu:=jX.drew
 generalize hw_W204:({ d6 with drawn:=d6.drawn + 1 }:World)=gD at cu ⊢
 refine oR Z (zE Z Z ZM Z Tryz.sizeOf91) (oL Z (cu.ldB (j:=2) Z Z Z Tryz.isAgg91 (v:=jV p1.Kind) Z) (zt ?_ ?_))
 refine zG 0 Z Z Z Z (zH Z Z yg zM Z) cu (fun hs=>wBz gD U hs eO) (.inr Z) ?_
 rintro dg oz pZ gE oi jZ ⟨rfl,rfl⟩
 have j0:sW w U dg [.blk aX 123 B8,.blk aW 123 B8,.blk bf 93 B7,.blk be 27 B6] gE:=jZ
 refine zq rfl rfl rfl rfl (fun _=>(Runs.ixA (i:=1) rfl rfl (congrArg (jV) c2) yG Ze (by decide) (by decide) (wDG yn Ze rfl))) (zV (cs:=[.nilFunc,.nilFunc,.nilFunc]) rfl rfl rfl rfl rfl Zx rfl j0 ?_)
 intro pk ej j5
 refine zY (j:=0) (vs:=B9) Z Z Z Z j5 Z Z Z Z Ze (zA Z) Z Z Z ?_
 intro gF j6
 have j7:sW w U dg [.blk ej 200 B9,.blk aX 123 B8,.blk aW 123 B8,.blk bf 93 B7,.blk be 27 B6] gF:=j6
 refine zw ?_
 cases dR
 exact zK ⟨rfl,⟨dg,ej,rfl,rfl,rfl,rfl,rfl,oi,(j7.pick [1,2,3,4,0] _ (by decide) rfl)⟩⟩
 refine zV (cs:=[.nilFunc,.nilFunc,.nilFunc]) Z Z Z Z Z Zx Z cu ?_
 intro gG dx j8
 refine zG 0 Z Z Z Z (zH Z Z yg zM Z) j8 (fun hs=>wBz gG U hs eO) (.inr Z) ?_
 rintro dh oB p6 gH oj j9 ⟨rfl,rfl⟩
 have k9:sW w U dh [.blk dx 200 [.nilFunc,.nilFunc,.nilFunc],.blk aX 123 B8,.blk aW 123 B8,.blk bf 93 B7,.blk be 27 B6] gH:=j9
 refine zq rfl rfl rfl rfl (fun _=>(Runs.ixA (i:=1) rfl rfl (congrArg (jV) c2) yG Ze (by decide) (by decide) (wDG yn Ze rfl))) (zY (j:=0) (vs:=B9) rfl rfl rfl rfl k9 rfl rfl rfl rfl Ze (zA rfl) rfl rfl rfl ?_)
 intro gI lf
 have lg:sW w U dh [.blk dx 200 B9,.blk aX 123 B8,.blk aW 123 B8,.blk bf 93 B7,.blk be 27 B6] gI:=lf
 refine zw ?_
 cases dR
 exact zK ⟨rfl,⟨dh,dx,rfl,rfl,rfl,rfl,rfl,oj,(lg.pick [1,2,3,4,0] _ (by decide) rfl)⟩⟩
 rintro qp gJ ⟨gi,bF,eF,dF,bR,bN,eG,cO,cw⟩
 refine sR (wEu (.fx 4 (wPL gAp) .stop)) Z (oR Z (zE Z eG yI Z Tryz.sizeOf197) (oL Z (cw.ldB (j:=4) Z Z Z Tryz.isAgg197 (v:=.func (.func 137) #[] #[]) Z) (oL Z (cw.ldBA (j:=3) Z Z eF ZA zl (vs:=B6) Z Z) (oL Z (cw.ldBA (j:=2) Z Z dF yh yS (vs:=B7) Z Z) ?_))))
 have eP:=cJ.le cO
 have eQ:=cK.le cO
 have eS:=cL.le cO
 have eU:=cM.le cO
 have q:=bnd fC
 obtain ⟨⟨cW,cX⟩,jd,fD⟩:=q
 try dsimp only at fD
 refine zG 0 Z Z Z Z (zH Z Z Tryz.call137 (zB Z (zB Z zM)) Z) cw (fun hs=>wIk p0 bv bB bw bC bz bD bA bE p1 gJ gi hs eP eQ eS eU jd) (.inr Z) ?_
 rintro cm oG p7 gK cP lh ⟨rfl,rfl⟩
 have li:sW w U cm [.blk aX 123 B8,.blk aW 123 B8,.blk bf 93 B7,.blk be 27 B6,.blk bF 200 B9] gK:=lh
 refine oM Z Z (oR Z (ze Z Z (v:=.agg #[jV cW.skier,jV cW.mat]) Z) (oR Z (ze Z Z (v:=.agg #[jV cX.skier,jV cX.mat]) Z) ?_))
 let ap:List Value:=[jV cW.skier,jV cW.mat]
 refine zY (j:=1) (vs:=ap) Z Z Z Z li Z bR Z Z zI (zA Z) Z Z Z ?_
 intro gL lj
 have lm:sW w U cm [.blk aX 123 B8,.blk aW 123 ap,.blk bf 93 B7,.blk be 27 B6,.blk bF 200 B9] gL:=lj
 let ae:List Value:=[jV cX.skier,jV cX.mat]
 refine zY (j:=0) (vs:=ae) Z Z Z Z lm Z bN Z Z zI (zA Z) Z Z Z ?_
 intro d8 ln
 have cx:sW w U cm [.blk aX 123 ae,.blk aW 123 ap,.blk bf 93 B7,.blk be 27 B6,.blk bF 200 B9] d8:=ln
 refine eN (sR (wEu (.fx 4 (wJj (.nil)) .stop)) Z (oR Z (zE Z eG yI Z Tryz.sizeOf198) (oL Z (cx.ldB (j:=4) Z Z Z Tryz.isAgg198 (v:=.func (.func 138) #[] #[]) Z) (oL Z (cx.ldBA (j:=3) Z Z eF ZA zl (vs:=B6) Z Z) (oL Z (cx.ldBA (j:=2) Z Z dF yh yS (vs:=B7) Z Z) ?_)))))
 have je:=eP.le cP
 have jf:=eQ.le cP
 have jg:=eS.le cP
 have jh:=eU.le cP
 have q:=bnd fD
 obtain ⟨⟨dX,ge⟩,ji,fG⟩:=q
 try dsimp only at fG
 refine zG 0 Z Z Z Z (zH Z Z Tryz.call138 (zB Z (zB Z zM)) Z) cx (fun hs=>wIl p0 bv bB bw bC bz bD bA bE p1 d8 cm hs je jf jg jh ji) (.inr Z) ?_
 rintro bK oH p8 du pQ lp ⟨rfl,rfl⟩
 have b9:sW w U bK [.blk aX 123 ae,.blk aW 123 ap,.blk bf 93 B7,.blk be 27 B6,.blk bF 200 B9] du:=lp
 refine oM Z Z (oR Z (ze Z Z (v:=jV dX) Z) (oR Z (ze Z Z (v:=jV ge) Z) (oA Z Z (oA Z Z (eN (zJ (sR fL3 Z (oR Z (zE Z dF ZM Z Tryz.sizeOf4) (oL Z (b9.ldB (j:=2) Z Z Z Tryz.isAgg4 (v:=.bool p1.Up) Z) (oR Z (Zm Z Z) (eN (ifc fG ?_ ?_))))))))))))
 intro dC n6
 refine zr (nC dC.out) (kN ?_)
 have q:=bnd n6
 obtain ⟨⟨⟩,fY,fH⟩:=q
 try dsimp only at fH
 refine yQ (fun σ_ w_=>∃ (U_:PHeap),σ_ 4=.pointer (some ⟨aW,0,none⟩)/\σ_ 5=.pointer (some ⟨aX,0,none⟩)/\σ_ 6=jV dX/\PHeap.Le bK U_/\sW w U U_ [.blk aX 123 ae,.blk aW 123 ap,.blk bf 93 B7,.blk be 27 B6,.blk bF 200 B9] w_) ?_ ?_
 refine zx zn [1,2,3,0,0,3] gBv (by kernel_rfl) ?_
 have cb:=b9.drew
 generalize hw_W295:({ du with drawn:=du.drawn + 1 }:World)=pm at cb ⊢
 refine oL Z (cb.ldBA (j:=1) Z Z bR zh zI (vs:=ap) Z Z) (oM Z Z (zt ?_ ?_))
 refine Zc Z Z Z Z (cb.ldBA (j:=0) Z Z bN zh zI (vs:=ae) Z Z) (zY (j:=1) (vs:=ap) Z Z Z Z cb Z bR Z Z zI (zA Z) Z Z Z ?_)
 intro gM ls
 have lu:sW w U bK [.blk aX 123 ae,.blk aW 123 ap,.blk bf 93 B7,.blk be 27 B6,.blk bF 200 B9] gM:=ls
 refine zY (j:=0) (vs:=ae) Z Z Z Z lu Z bN Z Z zI (zA Z) Z Z Z ?_
 intro gN lv
 have lw:sW w U bK [.blk aX 123 ae,.blk aW 123 ap,.blk bf 93 B7,.blk be 27 B6,.blk bF 200 B9] gN:=lv
 refine oA Z Z (zw ?_)
 cases fY
 exact zK ⟨Z,⟨bK,bR,bN,Z,(zQ _),lw⟩⟩
 refine zY (j:=1) (vs:=ap) Z Z Z Z cb Z bR Z Z zI (zA Z) Z Z Z ?_
 intro gO lx
 have fu:sW w U bK [.blk aX 123 ae,.blk aW 123 ap,.blk bf 93 B7,.blk be 27 B6,.blk bF 200 B9] gO:=lx
 refine Zc Z Z Z Z (fu.ldBA (j:=0) Z Z bN zh zI (vs:=ae) Z Z) (zY (j:=0) (vs:=ae) Z Z Z Z fu Z bN Z Z zI (zA Z) Z Z Z ?_)
 intro gP ly
 have lz:sW w U bK [.blk aX 123 ae,.blk aW 123 ap,.blk bf 93 B7,.blk be 27 B6,.blk bF 200 B9] gP:=ly
 refine oA Z Z (zw ?_)
 cases fY
 exact zK ⟨Z,⟨bK,bR,bN,Z,(zQ _),lz⟩⟩
 rintro qq pn ⟨gj,iT,iU,iV,pR,dL⟩
 refine zP ?_
 cases fH
 exact ⟨rfl,_,(wCx (rs:=[.cell 4 123,.cell 5 123,.tmp 6]) (vs:=[.agg ap.toArray,.agg ae.toArray,jV dX]) ⟨⟨_,iT,(wAs zh zI (dL.blkAt (k:=1) rfl) (vs:=ap) rfl rfl)⟩,⟨⟨_,iU,(wAs zh zI (dL.blkAt (k:=0) rfl) (vs:=ae) rfl rfl)⟩,⟨iV,trivial⟩⟩⟩ rfl),gj,_,(dL.pick [] _ (by decide) rfl),rfl,rfl⟩
 intro dC n7
 refine ZG (nF (dC.out)) (sR (wEF gBa) Z (oL Z (b9.ldBA (j:=0) Z Z bN zh zI (vs:=ae) Z Z) (oL Z (b9.ldBA (j:=1) Z Z bR zh zI (vs:=ap) Z Z) (oM Z Z (zY (j:=1) (vs:=ae) Z Z Z Z b9 Z bR Z Z zI (zA Z) Z Z Z ?_)))))
 intro gQ lA
 have lB:sW w U bK [.blk aX 123 ae,.blk aW 123 ae,.blk bf 93 B7,.blk be 27 B6,.blk bF 200 B9] gQ:=lA
 refine zY (j:=0) (vs:=ap) Z Z Z Z lB Z bN Z Z zI (zA Z) Z Z Z ?_
 intro gR lD
 have dM:sW w U bK [.blk aX 123 ap,.blk aW 123 ae,.blk bf 93 B7,.blk be 27 B6,.blk bF 200 B9] gR:=lD
 refine oA Z Z (eN (zP (zN ?_)))
 cases n7
 exact ⟨rfl,_,(wCx (rs:=[.cell 4 123,.cell 5 123,.tmp 6]) (vs:=[.agg ae.toArray,.agg ap.toArray,jV ge]) ⟨⟨_,bR,(wAs zh zI (dM.blkAt (k:=1) rfl) (vs:=ae) rfl rfl)⟩,⟨⟨_,bN,(wAs zh zI (dM.blkAt (k:=0) rfl) (vs:=ap) rfl rfl)⟩,⟨rfl,trivial⟩⟩⟩ rfl),bK,_,(dM.pick [] _ (by decide) rfl),rfl,rfl⟩
 by_cases c3:p1.Kind=2
 have fJ:=hm;rw [if_neg c1,if_neg c2,if_pos c3] at fJ
 refine sR gBp Z ?_
 let aq:List Value:=[.slice bv p0.Starts.length bB,.slice bw p0.Splits.length bC,.slice bz p0.Clocks.length bD,.slice bA p0.Readings.length bE]
 refine zy (cs:=aq) rfl rfl rfl rfl rfl rfl (by rfl) hS ?_
 intro po bg lE
 let au:List Value:=[jV p1.Kind,jV p1.Skier,jV p1.Index,.bool p1.Up]
 refine zy (cs:=au) rfl rfl rfl rfl rfl rfl (by rfl) lE ?_
 intro pp bh lF
 let bq:List Value:=[jV 0,jV 0]
 refine zV (cs:=bq) Z Z Z Z Z zk Z lF ?_
 intro pq aZ lG
 refine zV (cs:=bq) Z Z Z Z Z zk Z lG ?_
 intro d9 a0 lH
 refine oA Z Z (eN ?_)
 have q:=bnd fJ
 obtain ⟨⟨⟩,og,fK⟩:=q
 try dsimp only at fK
 let bm:List Value:=[.func (.func 139) #[] #[],.func (.func 140) #[] #[],.func (.func 141) #[] #[]]
 refine yQ (fun σ_ w_=>∃ (U_:PHeap) (bH:Nat),σ_ 2=.pointer (some ⟨bg,0,none⟩)/\σ_ 3=.pointer (some ⟨bh,0,none⟩)/\σ_ 4=.pointer (some ⟨aZ,0,none⟩)/\σ_ 5=.pointer (some ⟨a0,0,none⟩)/\σ_ 7=.pointer (some ⟨bH,0,none⟩)/\PHeap.Le U U_/\sW w U U_ [.blk a0 123 bq,.blk aZ 123 bq,.blk bh 93 au,.blk bg 27 aq,.blk bH 200 bm] w_) ?_ ?_
 have q:=bnd og
 obtain ⟨⟨⟩,eW,dS⟩:=q
 try dsimp only at dS
 refine zx zn [2,3,1,3,2,0] gBu (by kernel_rfl) ?_
 have cy:=lH.drew
 generalize hw_W363:({ d9 with drawn:=d9.drawn + 1 }:World)=gS at cy ⊢
 refine oR Z (zE Z Z ZM Z Tryz.sizeOf91) (oL Z (cy.ldB (j:=2) Z Z Z Tryz.isAgg91 (v:=jV p1.Kind) Z) (zt ?_ ?_))
 refine zG 0 Z Z Z Z (zH Z Z yg zM Z) cy (fun hs=>wBz gS U hs eW) (.inr Z) ?_
 rintro dk oI p9 gT om lI ⟨rfl,rfl⟩
 have lJ:sW w U dk [.blk a0 123 bq,.blk aZ 123 bq,.blk bh 93 au,.blk bg 27 aq] gT:=lI
 refine zq rfl rfl rfl rfl (fun _=>(Runs.ixA (i:=2) rfl rfl (congrArg (jV) c3) yG Ze (by decide) (by decide) (wDG yn Ze rfl))) (zV (cs:=[.nilFunc,.nilFunc,.nilFunc]) rfl rfl rfl rfl rfl Zx rfl lJ ?_)
 intro pu en lK
 refine zY (j:=0) (vs:=bm) Z Z Z Z lK Z Z Z Z Ze (zA Z) Z Z Z ?_
 intro gU lL
 have lM:sW w U dk [.blk en 200 bm,.blk a0 123 bq,.blk aZ 123 bq,.blk bh 93 au,.blk bg 27 aq] gU:=lL
 refine zw ?_
 cases dS
 exact zK ⟨rfl,⟨dk,en,rfl,rfl,rfl,rfl,rfl,om,(lM.pick [1,2,3,4,0] _ (by decide) rfl)⟩⟩
 refine zV (cs:=[.nilFunc,.nilFunc,.nilFunc]) Z Z Z Z Z Zx Z cy ?_
 intro gW dy lN
 refine zG 0 Z Z Z Z (zH Z Z yg zM Z) lN (fun hs=>wBz gW U hs eW) (.inr Z) ?_
 rintro dl oK qa gX oq lO ⟨rfl,rfl⟩
 have lP:sW w U dl [.blk dy 200 [.nilFunc,.nilFunc,.nilFunc],.blk a0 123 bq,.blk aZ 123 bq,.blk bh 93 au,.blk bg 27 aq] gX:=lO
 refine zq rfl rfl rfl rfl (fun _=>(Runs.ixA (i:=2) rfl rfl (congrArg (jV) c3) yG Ze (by decide) (by decide) (wDG yn Ze rfl))) (zY (j:=0) (vs:=bm) rfl rfl rfl rfl lP rfl rfl rfl rfl Ze (zA rfl) rfl rfl rfl ?_)
 intro gZ lQ
 have lR:sW w U dl [.blk dy 200 bm,.blk a0 123 bq,.blk aZ 123 bq,.blk bh 93 au,.blk bg 27 aq] gZ:=lQ
 refine zw ?_
 cases dS
 exact zK ⟨rfl,⟨dl,dy,rfl,rfl,rfl,rfl,rfl,oq,(lR.pick [1,2,3,4,0] _ (by decide) rfl)⟩⟩
 rintro qr g7 ⟨gk,bH,eH,dG,bS,bO,eI,cQ,cz⟩
 refine sR (wEu (.fx 4 (wPL gAp) .stop)) Z (oR Z (zE Z eI yI Z Tryz.sizeOf197) (oL Z (cz.ldB (j:=4) Z Z Z Tryz.isAgg197 (v:=.func (.func 140) #[] #[]) Z) (oL Z (cz.ldBA (j:=3) Z Z eH ZA zl (vs:=aq) Z Z) (oL Z (cz.ldBA (j:=2) Z Z dG yh yS (vs:=au) Z Z) ?_))))
 have eX:=cJ.le cQ
 have eY:=cK.le cQ
 have eZ:=cL.le cQ
 have e8:=cM.le cQ
 have q:=bnd fK
 obtain ⟨⟨cY,cZ⟩,jj,fL⟩:=q
 try dsimp only at fL
 refine zG 0 Z Z Z Z (zH Z Z Tryz.call140 (zB Z (zB Z zM)) Z) cz (fun hs=>wIm p0 bv bB bw bC bz bD bA bE p1 g7 gk hs eX eY eZ e8 jj) (.inr Z) ?_
 rintro cn oO qb g8 cR lS ⟨rfl,rfl⟩
 have lT:sW w U cn [.blk a0 123 bq,.blk aZ 123 bq,.blk bh 93 au,.blk bg 27 aq,.blk bH 200 bm] g8:=lS
 refine oM Z Z (oR Z (ze Z Z (v:=.agg #[jV cY.skier,jV cY.mat]) Z) (oR Z (ze Z Z (v:=.agg #[jV cZ.skier,jV cZ.mat]) Z) ?_))
 let av:List Value:=[jV cY.skier,jV cY.mat]
 refine zY (j:=1) (vs:=av) Z Z Z Z lT Z bS Z Z zI (zA Z) Z Z Z ?_
 intro g9 lU
 have lV:sW w U cn [.blk a0 123 bq,.blk aZ 123 av,.blk bh 93 au,.blk bg 27 aq,.blk bH 200 bm] g9:=lU
 let ah:List Value:=[jV cZ.skier,jV cZ.mat]
 refine zY (j:=0) (vs:=ah) Z Z Z Z lV Z bO Z Z zI (zA Z) Z Z Z ?_
 intro ec lW
 have cA:sW w U cn [.blk a0 123 ah,.blk aZ 123 av,.blk bh 93 au,.blk bg 27 aq,.blk bH 200 bm] ec:=lW
 refine eN (sR (wEu (.fx 4 (wJj (.nil)) .stop)) Z (oR Z (zE Z eI yI Z Tryz.sizeOf198) (oL Z (cA.ldB (j:=4) Z Z Z Tryz.isAgg198 (v:=.func (.func 141) #[] #[]) Z) (oL Z (cA.ldBA (j:=3) Z Z eH ZA zl (vs:=aq) Z Z) (oL Z (cA.ldBA (j:=2) Z Z dG yh yS (vs:=au) Z Z) ?_)))))
 have jk:=eX.le cR
 have jl:=eY.le cR
 have jm:=eZ.le cR
 have jo:=e8.le cR
 have q:=bnd fL
 obtain ⟨⟨dY,gf⟩,jp,fM⟩:=q
 try dsimp only at fM
 refine zG 0 Z Z Z Z (zH Z Z Tryz.call141 (zB Z (zB Z zM)) Z) cA (fun hs=>wIn p0 bv bB bw bC bz bD bA bE p1 ec cn hs jk jl jm jo jp) (.inr Z) ?_
 rintro bL oP qc dv pS lX ⟨rfl,rfl⟩
 have cd:sW w U bL [.blk a0 123 ah,.blk aZ 123 av,.blk bh 93 au,.blk bg 27 aq,.blk bH 200 bm] dv:=lX
 refine oM Z Z (oR Z (ze Z Z (v:=jV dY) Z) (oR Z (ze Z Z (v:=jV gf) Z) (oA Z Z (oA Z Z (eN (zJ (sR fL3 Z (oR Z (zE Z dG ZM Z Tryz.sizeOf4) (oL Z (cd.ldB (j:=2) Z Z Z Tryz.isAgg4 (v:=.bool p1.Up) Z) (oR Z (Zm Z Z) (eN (ifc fM ?_ ?_))))))))))))
 intro dD n8
 refine zr (nC dD.out) (kN ?_)
 have q:=bnd n8
 obtain ⟨⟨⟩,fZ,fN⟩:=q
 try dsimp only at fN
 refine yQ (fun σ_ w_=>∃ (U_:PHeap),σ_ 4=.pointer (some ⟨aZ,0,none⟩)/\σ_ 5=.pointer (some ⟨a0,0,none⟩)/\σ_ 6=jV dY/\PHeap.Le bL U_/\sW w U U_ [.blk a0 123 ah,.blk aZ 123 av,.blk bh 93 au,.blk bg 27 aq,.blk bH 200 bm] w_) ?_ ?_
 refine zx zn [1,2,3,0,0,3] gBv (by kernel_rfl) ?_
 have cf:=cd.drew
 generalize hw_W454:({ dv with drawn:=dv.drawn + 1 }:World)=py at cf ⊢
 refine oL Z (cf.ldBA (j:=1) Z Z bS zh zI (vs:=av) Z Z) (oM Z Z (zt ?_ ?_))
 refine Zc Z Z Z Z (cf.ldBA (j:=0) Z Z bO zh zI (vs:=ah) Z Z) (zY (j:=1) (vs:=av) Z Z Z Z cf Z bS Z Z zI (zA Z) Z Z Z ?_)
 intro ic lY
 have lZ:sW w U bL [.blk a0 123 ah,.blk aZ 123 av,.blk bh 93 au,.blk bg 27 aq,.blk bH 200 bm] ic:=lY
 refine zY (j:=0) (vs:=ah) Z Z Z Z lZ Z bO Z Z zI (zA Z) Z Z Z ?_
 intro ie l5
 have l6:sW w U bL [.blk a0 123 ah,.blk aZ 123 av,.blk bh 93 au,.blk bg 27 aq,.blk bH 200 bm] ie:=l5
 refine oA Z Z (zw ?_)
 cases fZ
 exact zK ⟨Z,⟨bL,bS,bO,Z,(zQ _),l6⟩⟩
 refine zY (j:=1) (vs:=av) Z Z Z Z cf Z bS Z Z zI (zA Z) Z Z Z ?_
 intro ig l7
 have fw:sW w U bL [.blk a0 123 ah,.blk aZ 123 av,.blk bh 93 au,.blk bg 27 aq,.blk bH 200 bm] ig:=l7
 refine Zc Z Z Z Z (fw.ldBA (j:=0) Z Z bO zh zI (vs:=ah) Z Z) (zY (j:=0) (vs:=ah) Z Z Z Z fw Z bO Z Z zI (zA Z) Z Z Z ?_)
 intro ii l8
 have ma:sW w U bL [.blk a0 123 ah,.blk aZ 123 av,.blk bh 93 au,.blk bg 27 aq,.blk bH 200 bm] ii:=l8
 refine oA Z Z (zw ?_)
 cases fZ
 exact zK ⟨Z,⟨bL,bS,bO,Z,(zQ _),ma⟩⟩
 rintro qt pz ⟨gm,iW,iX,iY,pT,dN⟩
 refine zP ?_
 cases fN
 exact ⟨rfl,_,(wCx (rs:=[.cell 4 123,.cell 5 123,.tmp 6]) (vs:=[.agg av.toArray,.agg ah.toArray,jV dY]) ⟨⟨_,iW,(wAs zh zI (dN.blkAt (k:=1) rfl) (vs:=av) rfl rfl)⟩,⟨⟨_,iX,(wAs zh zI (dN.blkAt (k:=0) rfl) (vs:=ah) rfl rfl)⟩,⟨iY,trivial⟩⟩⟩ rfl),gm,_,(dN.pick [] _ (by decide) rfl),rfl,rfl⟩
 intro dD n9
 refine ZG (nF (dD.out)) (sR (wEF gBa) Z (oL Z (cd.ldBA (j:=0) Z Z bO zh zI (vs:=ah) Z Z) (oL Z (cd.ldBA (j:=1) Z Z bS zh zI (vs:=av) Z Z) (oM Z Z (zY (j:=1) (vs:=ah) Z Z Z Z cd Z bS Z Z zI (zA Z) Z Z Z ?_)))))
 intro ij mb
 have mc:sW w U bL [.blk a0 123 ah,.blk aZ 123 ah,.blk bh 93 au,.blk bg 27 aq,.blk bH 200 bm] ij:=mb
 refine zY (j:=0) (vs:=av) Z Z Z Z mc Z bO Z Z zI (zA Z) Z Z Z ?_
 intro ik md
 have dO:sW w U bL [.blk a0 123 av,.blk aZ 123 ah,.blk bh 93 au,.blk bg 27 aq,.blk bH 200 bm] ik:=md
 refine oA Z Z (eN (zP (zN ?_)))
 cases n9
 exact ⟨rfl,_,(wCx (rs:=[.cell 4 123,.cell 5 123,.tmp 6]) (vs:=[.agg ah.toArray,.agg av.toArray,jV gf]) ⟨⟨_,bS,(wAs zh zI (dO.blkAt (k:=1) rfl) (vs:=ah) rfl rfl)⟩,⟨⟨_,bO,(wAs zh zI (dO.blkAt (k:=0) rfl) (vs:=av) rfl rfl)⟩,⟨rfl,trivial⟩⟩⟩ rfl),bL,_,(dO.pick [] _ (by decide) rfl),rfl,rfl⟩
 by_cases c4:p1.Kind=3
 have fO:=hm;rw [if_neg c1,if_neg c2,if_neg c3,if_pos c4] at fO
 refine sR gBp Z ?_
 let az:List Value:=[.slice bv p0.Starts.length bB,.slice bw p0.Splits.length bC,.slice bz p0.Clocks.length bD,.slice bA p0.Readings.length bE]
 refine zy (cs:=az) rfl rfl rfl rfl rfl rfl (by rfl) hS ?_
 intro pB bi me
 let aQ:List Value:=[jV p1.Kind,jV p1.Skier,jV p1.Index,.bool p1.Up]
 refine zy (cs:=aQ) rfl rfl rfl rfl rfl rfl (by rfl) me ?_
 intro pC bj mf
 let bs:List Value:=[jV 0,jV 0]
 refine zV (cs:=bs) Z Z Z Z Z zk Z mf ?_
 intro pD ba mg
 refine zV (cs:=bs) Z Z Z Z Z zk Z mg ?_
 intro ef bb mh
 refine oA Z Z (eN ?_)
 have q:=bnd fO
 obtain ⟨⟨⟩,oh,fQ⟩:=q
 try dsimp only at fQ
 let bn:List Value:=[.func (.func 142) #[] #[],.func (.func 143) #[] #[],.func (.func 144) #[] #[]]
 refine yQ (fun σ_ w_=>∃ (U_:PHeap) (bI:Nat),σ_ 2=.pointer (some ⟨bi,0,none⟩)/\σ_ 3=.pointer (some ⟨bj,0,none⟩)/\σ_ 4=.pointer (some ⟨ba,0,none⟩)/\σ_ 5=.pointer (some ⟨bb,0,none⟩)/\σ_ 7=.pointer (some ⟨bI,0,none⟩)/\PHeap.Le U U_/\sW w U U_ [.blk bb 123 bs,.blk ba 123 bs,.blk bj 93 aQ,.blk bi 27 az,.blk bI 200 bn] w_) ?_ ?_
 have q:=bnd oh
 obtain ⟨⟨⟩,e9,dU⟩:=q
 try dsimp only at dU
 refine zx zn [2,3,1,3,2,0] gBu (by kernel_rfl) ?_
 have cD:=mh.drew
 generalize hw_W522:({ ef with drawn:=ef.drawn + 1 }:World)=im at cD ⊢
 refine oR Z (zE Z Z ZM Z Tryz.sizeOf91) (oL Z (cD.ldB (j:=2) Z Z Z Tryz.isAgg91 (v:=jV p1.Kind) Z) (zt ?_ ?_))
 refine zG 0 Z Z Z Z (zH Z Z yg zM Z) cD (fun hs=>wBz im U hs e9) (.inr Z) ?_
 rintro dp oW qe io ou ml ⟨rfl,rfl⟩
 have mn:sW w U dp [.blk bb 123 bs,.blk ba 123 bs,.blk bj 93 aQ,.blk bi 27 az] io:=ml
 refine zq rfl rfl rfl rfl (fun _=>(Runs.ixA (i:=3) rfl rfl (congrArg (jV) c4) yG Ze (by decide) (by decide) (wDG yn Ze rfl))) (zV (cs:=[.nilFunc,.nilFunc,.nilFunc]) rfl rfl rfl rfl rfl Zx rfl mn ?_)
 intro pF eu mo
 refine zY (j:=0) (vs:=bn) Z Z Z Z mo Z Z Z Z Ze (zA Z) Z Z Z ?_
 intro ip mp
 have mq:sW w U dp [.blk eu 200 bn,.blk bb 123 bs,.blk ba 123 bs,.blk bj 93 aQ,.blk bi 27 az] ip:=mp
 refine zw ?_
 cases dU
 exact zK ⟨rfl,⟨dp,eu,rfl,rfl,rfl,rfl,rfl,ou,(mq.pick [1,2,3,4,0] _ (by decide) rfl)⟩⟩
 refine zV (cs:=[.nilFunc,.nilFunc,.nilFunc]) Z Z Z Z Z Zx Z cD ?_
 intro iq dz mr
 refine zG 0 Z Z Z Z (zH Z Z yg zM Z) mr (fun hs=>wBz iq U hs e9) (.inr Z) ?_
 rintro dq oX qf ir ow ms ⟨rfl,rfl⟩
 have mu:sW w U dq [.blk dz 200 [.nilFunc,.nilFunc,.nilFunc],.blk bb 123 bs,.blk ba 123 bs,.blk bj 93 aQ,.blk bi 27 az] ir:=ms
 refine zq rfl rfl rfl rfl (fun _=>(Runs.ixA (i:=3) rfl rfl (congrArg (jV) c4) yG Ze (by decide) (by decide) (wDG yn Ze rfl))) (zY (j:=0) (vs:=bn) rfl rfl rfl rfl mu rfl rfl rfl rfl Ze (zA rfl) rfl rfl rfl ?_)
 intro it my
 have mz:sW w U dq [.blk dz 200 bn,.blk bb 123 bs,.blk ba 123 bs,.blk bj 93 aQ,.blk bi 27 az] it:=my
 refine zw ?_
 cases dU
 exact zK ⟨rfl,⟨dq,dz,rfl,rfl,rfl,rfl,rfl,ow,(mz.pick [1,2,3,4,0] _ (by decide) rfl)⟩⟩
 rintro qu iu ⟨gp,bI,eJ,dH,bT,bP,eK,cS,cE⟩
 refine sR (wEu (.fx 4 (wPL gAp) .stop)) Z (oR Z (zE Z eK yI Z Tryz.sizeOf197) (oL Z (cE.ldB (j:=4) Z Z Z Tryz.isAgg197 (v:=.func (.func 143) #[] #[]) Z) (oL Z (cE.ldBA (j:=3) Z Z eJ ZA zl (vs:=az) Z Z) (oL Z (cE.ldBA (j:=2) Z Z dH yh yS (vs:=aQ) Z Z) ?_))))
 have fb:=cJ.le cS
 have fc:=cK.le cS
 have fd:=cL.le cS
 have ff:=cM.le cS
 have q:=bnd fQ
 obtain ⟨⟨da,db⟩,jq,fR⟩:=q
 try dsimp only at fR
 refine zG 0 Z Z Z Z (zH Z Z Tryz.call143 (zB Z (zB Z zM)) Z) cE (fun hs=>wIN p0 bv bB bw bC bz bD bA bE p1 iu gp hs fb fc fd ff jq) (.inr Z) ?_
 rintro cp oY qh iw cU mA ⟨rfl,rfl⟩
 have mB:sW w U cp [.blk bb 123 bs,.blk ba 123 bs,.blk bj 93 aQ,.blk bi 27 az,.blk bI 200 bn] iw:=mA
 refine oM Z Z (oR Z (ze Z Z (v:=.agg #[jV da.skier,jV da.mat]) Z) (oR Z (ze Z Z (v:=.agg #[jV db.skier,jV db.mat]) Z) ?_))
 let aR:List Value:=[jV da.skier,jV da.mat]
 refine zY (j:=1) (vs:=aR) Z Z Z Z mB Z bT Z Z zI (zA Z) Z Z Z ?_
 intro iy mD
 have mE:sW w U cp [.blk bb 123 bs,.blk ba 123 aR,.blk bj 93 aQ,.blk bi 27 az,.blk bI 200 bn] iy:=mD
 let ai:List Value:=[jV db.skier,jV db.mat]
 refine zY (j:=0) (vs:=ai) Z Z Z Z mE Z bP Z Z zI (zA Z) Z Z Z ?_
 intro eg mF
 have cG:sW w U cp [.blk bb 123 ai,.blk ba 123 aR,.blk bj 93 aQ,.blk bi 27 az,.blk bI 200 bn] eg:=mF
 refine eN (sR (wEu (.fx 4 (wJj (.nil)) .stop)) Z (oR Z (zE Z eK yI Z Tryz.sizeOf198) (oL Z (cG.ldB (j:=4) Z Z Z Tryz.isAgg198 (v:=.func (.func 144) #[] #[]) Z) (oL Z (cG.ldBA (j:=3) Z Z eJ ZA zl (vs:=az) Z Z) (oL Z (cG.ldBA (j:=2) Z Z dH yh yS (vs:=aQ) Z Z) ?_)))))
 have jr:=fb.le cU
 have jt:=fc.le cU
 have ju:=fd.le cU
 have jv:=ff.le cU
 have q:=bnd fR
 obtain ⟨⟨dZ,gg⟩,jw,fS⟩:=q
 try dsimp only at fS
 refine zG 0 Z Z Z Z (zH Z Z Tryz.call144 (zB Z (zB Z zM)) Z) cG (fun hs=>wIO p0 bv bB bw bC bz bD bA bE p1 eg cp hs jr jt ju jv jw) (.inr Z) ?_
 rintro bM o0 qi dw pU mH ⟨rfl,rfl⟩
 have cg:sW w U bM [.blk bb 123 ai,.blk ba 123 aR,.blk bj 93 aQ,.blk bi 27 az,.blk bI 200 bn] dw:=mH
 refine oM Z Z (oR Z (ze Z Z (v:=jV dZ) Z) (oR Z (ze Z Z (v:=jV gg) Z) (oA Z Z (oA Z Z (eN (zJ (sR fL3 Z (oR Z (zE Z dH ZM Z Tryz.sizeOf4) (oL Z (cg.ldB (j:=2) Z Z Z Tryz.isAgg4 (v:=.bool p1.Up) Z) (oR Z (Zm Z Z) (eN (ifc fS ?_ ?_))))))))))))
 intro dE oa
 refine zr (nC dE.out) (kN ?_)
 have q:=bnd oa
 obtain ⟨⟨⟩,ga,fT⟩:=q
 try dsimp only at fT
 refine yQ (fun σ_ w_=>∃ (U_:PHeap),σ_ 4=.pointer (some ⟨ba,0,none⟩)/\σ_ 5=.pointer (some ⟨bb,0,none⟩)/\σ_ 6=jV dZ/\PHeap.Le bM U_/\sW w U U_ [.blk bb 123 ai,.blk ba 123 aR,.blk bj 93 aQ,.blk bi 27 az,.blk bI 200 bn] w_) ?_ ?_
 refine zx zn [1,2,3,0,0,3] gBv (by kernel_rfl) ?_
 have cj:=cg.drew
 generalize hw_W613:({ dw with drawn:=dw.drawn + 1 }:World)=pH at cj ⊢
 refine oL Z (cj.ldBA (j:=1) Z Z bT zh zI (vs:=aR) Z Z) (oM Z Z (zt ?_ ?_))
 refine Zc Z Z Z Z (cj.ldBA (j:=0) Z Z bP zh zI (vs:=ai) Z Z) (zY (j:=1) (vs:=aR) Z Z Z Z cj Z bT Z Z zI (zA Z) Z Z Z ?_)
 intro iz mI
 have mJ:sW w U bM [.blk bb 123 ai,.blk ba 123 aR,.blk bj 93 aQ,.blk bi 27 az,.blk bI 200 bn] iz:=mI
 refine zY (j:=0) (vs:=ai) Z Z Z Z mJ Z bP Z Z zI (zA Z) Z Z Z ?_
 intro iA mK
 have mL:sW w U bM [.blk bb 123 ai,.blk ba 123 aR,.blk bj 93 aQ,.blk bi 27 az,.blk bI 200 bn] iA:=mK
 refine oA Z Z (zw ?_)
 cases ga
 exact zK ⟨Z,⟨bM,bT,bP,Z,(zQ _),mL⟩⟩
 refine zY (j:=1) (vs:=aR) Z Z Z Z cj Z bT Z Z zI (zA Z) Z Z Z ?_
 intro iC mM
 have fy:sW w U bM [.blk bb 123 ai,.blk ba 123 aR,.blk bj 93 aQ,.blk bi 27 az,.blk bI 200 bn] iC:=mM
 refine Zc Z Z Z Z (fy.ldBA (j:=0) Z Z bP zh zI (vs:=ai) Z Z) (zY (j:=0) (vs:=ai) Z Z Z Z fy Z bP Z Z zI (zA Z) Z Z Z ?_)
 intro iD mN
 have mO:sW w U bM [.blk bb 123 ai,.blk ba 123 aR,.blk bj 93 aQ,.blk bi 27 az,.blk bI 200 bn] iD:=mN
 refine oA Z Z (zw ?_)
 cases ga
 exact zK ⟨Z,⟨bM,bT,bP,Z,(zQ _),mO⟩⟩
 rintro qv pI ⟨gq,iZ,i4,i6,pV,dP⟩
 refine zP ?_
 cases fT
 exact ⟨rfl,_,(wCx (rs:=[.cell 4 123,.cell 5 123,.tmp 6]) (vs:=[.agg aR.toArray,.agg ai.toArray,jV dZ]) ⟨⟨_,iZ,(wAs zh zI (dP.blkAt (k:=1) rfl) (vs:=aR) rfl rfl)⟩,⟨⟨_,i4,(wAs zh zI (dP.blkAt (k:=0) rfl) (vs:=ai) rfl rfl)⟩,⟨i6,trivial⟩⟩⟩ rfl),gq,_,(dP.pick [] _ (by decide) rfl),rfl,rfl⟩
 intro dE oc
 refine ZG (nF (dE.out)) (sR (wEF gBa) Z (oL Z (cg.ldBA (j:=0) Z Z bP zh zI (vs:=ai) Z Z) (oL Z (cg.ldBA (j:=1) Z Z bT zh zI (vs:=aR) Z Z) (oM Z Z (zY (j:=1) (vs:=ai) Z Z Z Z cg Z bT Z Z zI (zA Z) Z Z Z ?_)))))
 intro iE mP
 have mQ:sW w U bM [.blk bb 123 ai,.blk ba 123 ai,.blk bj 93 aQ,.blk bi 27 az,.blk bI 200 bn] iE:=mP
 refine zY (j:=0) (vs:=aR) Z Z Z Z mQ Z bP Z Z zI (zA Z) Z Z Z ?_
 intro iF mR
 have dQ:sW w U bM [.blk bb 123 aR,.blk ba 123 ai,.blk bj 93 aQ,.blk bi 27 az,.blk bI 200 bn] iF:=mR
 refine oA Z Z (eN (zP (zN ?_)))
 cases oc
 exact ⟨rfl,_,(wCx (rs:=[.cell 4 123,.cell 5 123,.tmp 6]) (vs:=[.agg ai.toArray,.agg aR.toArray,jV gg]) ⟨⟨_,bT,(wAs zh zI (dQ.blkAt (k:=1) rfl) (vs:=ai) rfl rfl)⟩,⟨⟨_,bP,(wAs zh zI (dQ.blkAt (k:=0) rfl) (vs:=aR) rfl rfl)⟩,⟨rfl,trivial⟩⟩⟩ rfl),bM,_,(dQ.pick [] _ (by decide) rfl),rfl,rfl⟩
 have fU:=hm;rw [if_neg c1,if_neg c2,if_neg c3,if_neg c4] at fU
 refine sR gBp Z ?_
 let de:List Value:=[.slice bv p0.Starts.length bB,.slice bw p0.Splits.length bC,.slice bz p0.Clocks.length bD,.slice bA p0.Readings.length bE]
 refine zy (cs:=de) rfl rfl rfl rfl rfl rfl (by rfl) hS ?_
 intro pJ eA mT
 let df:List Value:=[jV p1.Kind,jV p1.Skier,jV p1.Index,.bool p1.Up]
 refine zy (cs:=df) rfl rfl rfl rfl rfl rfl (by rfl) mT ?_
 intro pK eC mU
 let bW:List Value:=[jV 0,jV 0]
 refine zV (cs:=bW) Z Z Z Z Z zk Z mU ?_
 intro pL eD mV
 refine zV (cs:=bW) Z Z Z Z Z zk Z mV ?_
 intro eh eE mW
 refine oA Z Z (eN (zJ ?_))
 have q:=bnd fU
 obtain ⟨⟨⟩,fg,dV⟩:=q
 try dsimp only at dV
 refine zx zn [2,3,1,3,2,0] gBu (by kernel_rfl) ?_
 have cH:=mW.drew
 generalize hw_W669:({ eh with drawn:=eh.drawn + 1 }:World)=iG at cH ⊢
 refine oR Z (zE Z Z ZM Z Tryz.sizeOf91) (oL Z (cH.ldB (j:=2) Z Z Z Tryz.isAgg91 (v:=jV p1.Kind) Z) (zt ?_ ?_))
 refine zG 0 Z Z Z Z (zH Z Z yg zM Z) cH (fun hs=>wBz iG U hs fg) (.inr Z) ?_
 rintro gt o5 qj iH pW mX ⟨rfl,rfl⟩
 have pM:sW w U gt [.blk eE 123 bW,.blk eD 123 bW,.blk eC 93 df,.blk eA 27 de] iH:=mX
 cases dV
 refine zV (cs:=[.nilFunc,.nilFunc,.nilFunc]) Z Z Z Z Z Zx Z cH ?_
 intro iI iO mY
 refine zG 0 Z Z Z Z (zH Z Z yg zM Z) mY (fun hs=>wBz iI U hs fg) (.inr Z) ?_
 rintro gu o6 qm iJ pX mZ ⟨rfl,rfl⟩
 have pN:sW w U gu [.blk iO 200 [.nilFunc,.nilFunc,.nilFunc],.blk eE 123 bW,.blk eD 123 bW,.blk eC 93 df,.blk eA 27 de] iJ:=mZ
 cases dV
end Go.Proofs.YtlnfbjphfoipaaaGreat
namespace Go.Proofs.YtlnfbjphfoipaaaGreat
open Go.KL
set_option maxHeartbeats 4000000
theorem wJf (p0:wAA) (ai:Option Addr) (ap:Nat) (aj:Option Addr) (aq:Nat) (ak:Option Addr) (au:Nat) (am:Option Addr) (av:Nat) (w:World) (U:PHeap) (hS:St0 w U []) (re:Sl U 1 ai ap p0.Starts.length (hH KL.encI p0.Starts)) (ri:Sl U 2 aj aq p0.Splits.length (hH wAB p0.Splits)) (rk:Sl U 3 ak au p0.Clocks.length (hH wAD p0.Clocks)) (rn:Sl U 4 am av p0.Readings.length (hH wAC p0.Readings)) {r:wAk} (hm:wDa p0=some r):Gv Tryz.prog 124 [.agg #[.slice ai p0.Starts.length ap,.slice aj p0.Splits.length aq,.slice ak p0.Clocks.length au,.slice am p0.Readings.length av]] w (wCq w [] U (fun U_ L_ v=>∃ (b0:Nat) (A0p00:Option Addr) (c0p00:Nat) (A0p01:Option Addr) (c0p01:Nat) (A0p02:Option Addr) (c0p02:Nat) (A0p03:Option Addr) (c0p03:Nat) (m0p1:Nat) (es0p1:Array MapEntry) (ck0p1:Nat) (A0p2:Option Addr) (c0p2:Nat),v=.pointer (some ⟨b0,0,none⟩)/\L_=[.blk b0 139 [.slice A0p00 r.Race.Starts.length c0p00,.slice A0p01 r.Race.Splits.length c0p01,.slice A0p02 r.Race.Clocks.length c0p02,.slice A0p03 r.Race.Readings.length c0p03,.map (some m0p1),.slice A0p2 r.edges.length c0p2],.obj m0p1 (.map es0p1 ck0p1),.row A0p2 c0p2 184 7 (hH wAY r.edges)]/\Sl U_ 1 A0p00 c0p00 r.Race.Starts.length (hH KL.encI r.Race.Starts)/\Sl U_ 2 A0p01 c0p01 r.Race.Splits.length (hH wAB r.Race.Splits)/\Sl U_ 3 A0p02 c0p02 r.Race.Clocks.length (hH wAD r.Race.Clocks)/\Sl U_ 4 A0p03 c0p03 r.Race.Readings.length (hH wAC r.Race.Readings)/\MpR es0p1 wBP wBV r.number)):=by
 unfold wDa at hm
 refine Go.KX.Gv.ofM Tryz.func124 Z Tryz.ntmps124 Tryz.results124 (zA Z) (sR gAf Z ?_)
 let B0:List Value:=[.slice ai p0.Starts.length ap,.slice aj p0.Splits.length aq,.slice ak p0.Clocks.length au,.slice am p0.Readings.length av]
 refine zy (cs:=B0) rfl rfl rfl rfl rfl rfl (by rfl) hS ?_
 intro W1 b2 qm
 refine oA Z Z (eN (bnK hm fun jo rS rx=>yQ (fun σ_ w_=>∃ (U_:PHeap) (b6:Nat) (b8:Nat) (ah:Nat) (cq:Array MapEntry) (dg:Nat),σ_ 1=.pointer (some ⟨b2,0,none⟩)/\σ_ 3=.pointer (some ⟨b6,0,none⟩)/\PHeap.Le U U_/\sW w U U_ [.blk b2 27 B0,.blk b6 118 [.pointer (some ⟨b8,0,none⟩)],.blk b8 139 [.slice ai p0.Starts.length ap,.slice aj p0.Splits.length aq,.slice ak p0.Clocks.length au,.slice am p0.Readings.length av,.map (some ah),.slice none 0 0],.obj ah (.map cq dg)] w_/\MpR cq wBP wBV jo) ?_ ?_))
 refine bnK rS fun x22 br rE=>zx zn [2,2,2,0,3,3,2,2,0] (.fx 0 (.fx 1 gBz (.fx 2 gCa (.fx 7 gCb .stop))) (.fx 1 (.fx 0 gBz (.fx 2 gCe (.fx 7 gCc .stop))) (.fx 2 (.fx 0 gCa (.fx 1 gCe (.fx 7 gCd .stop))) (.fx 7 (.fx 0 gCb (.fx 1 gCc (.fx 2 gCd .stop))) .stop)))) (by kernel_rfl) ?_
 have bu:=qm.drew
 generalize hw_W51:({ W1 with drawn:=W1.drawn + 1 }:World)=gt at bu ⊢
 refine ZR (s:=.nil) (M:=fun σ_ w_=>∃ (U_:PHeap) (cQ:Nat) (bZ:Nat) (bv:Nat) (du:Array MapEntry) (eg:Nat),σ_ 1=.pointer (some ⟨b2,0,none⟩)/\σ_ 3=.pointer (some ⟨cQ,0,none⟩)/\σ_ 12=.agg B0.toArray/\σ_ 13=.map (some bv)/\σ_ 14=.agg #[jV x22.skier,jV x22.mat]/\σ_ 15=.map (some bv)/\σ_ 16=.agg #[.slice ai p0.Starts.length ap,.slice aj p0.Splits.length aq,.slice ak p0.Clocks.length au,.slice am p0.Readings.length av,.map (some bv),.slice none 0 0]/\σ_ 17=.pointer (some ⟨bZ,0,none⟩)/\PHeap.Le U U_/\sW w U U_ [.blk b2 27 B0,.blk cQ 118 [.pointer (some ⟨bZ,0,none⟩)],.blk bZ 139 [.slice ai p0.Starts.length ap,.slice aj p0.Splits.length aq,.slice ak p0.Clocks.length au,.slice am p0.Readings.length av,.map (some bv),.slice none 0 0],.obj bv (.map du eg)] w_/\MpR du wBP wBV (mput ([]:List (wAG × Int)) x22 0)) ?_ fun rV=>?_
 rintro uz tf ⟨jH,cQ,bZ,bv,du,eg,mq,mr,tU,tV,tW,tX,tY,tZ,sd,qn,oB⟩
 refine zw ?_
 cases rE
 exact zK ⟨Z,⟨jH,cQ,bZ,bv,du,eg,mq,mr,sd,qn,oB⟩⟩
 refine ZR (s:=.fx 8 .nil .stop) (M:=fun σ_ w_=>∃ (U_:PHeap) (b5:Nat) (bo:Nat) (ct:Array MapEntry) (dk:Nat) (bH:Nat),σ_ 1=.pointer (some ⟨b2,0,none⟩)/\σ_ 3=.pointer (some ⟨b5,0,none⟩)/\σ_ 12=.agg B0.toArray/\σ_ 13=.map (some bo)/\σ_ 14=.agg #[jV x22.skier,jV x22.mat]/\σ_ 15=.map (some bo)/\σ_ 16=.agg #[.slice ai p0.Starts.length ap,.slice aj p0.Splits.length aq,.slice ak p0.Clocks.length au,.slice am p0.Readings.length av,.map (some bo),.slice none 0 0]/\σ_ 17=.pointer (some ⟨bH,0,none⟩)/\PHeap.Le U U_/\sW w U U_ [.blk b2 27 B0,.blk b5 118 [.pointer none],.obj bo (.map ct dk),.blk bH 139 [.slice ai p0.Starts.length ap,.slice aj p0.Splits.length aq,.slice ak p0.Clocks.length au,.slice am p0.Readings.length av,.map (some bo),.slice none 0 0]] w_/\MpR ct wBP wBV (mput ([]:List (wAG × Int)) x22 0)) ?_ fun dN=>?_
 rintro uA tg ⟨fW,b5,bo,ct,dk,bH,ms,gZ,mu,mw,my,mz,mA,g7,se,qo,oG⟩
 let B1:List Value:=[.pointer (some ⟨bH,0,none⟩)]
 refine zY (j:=1) (vs:=B1) Z Z Z Z qo Z gZ g7 Z Tryz.sizeOf118 (zA Z) Z Z Z ?_
 intro lw qp
 have qq:sW w U fW [.blk b2 27 B0,.blk b5 118 B1,.obj bo (.map ct dk),.blk bH 139 [.slice ai p0.Starts.length ap,.slice aj p0.Splits.length aq,.slice ak p0.Clocks.length au,.slice am p0.Readings.length av,.map (some bo),.slice none 0 0]] lw:=qp
 exact rV _ _ ⟨fW,b5,bH,bo,ct,dk,ms,gZ,mu,mw,my,mz,mA,g7,se,(qq.pick [0,1,3,2] _ (by decide) rfl),oG⟩
 refine ZR (s:=gAs) (M:=fun σ_ w_=>∃ (U_:PHeap) (cR:Nat) (bw:Nat) (dv:Array MapEntry) (eh:Nat),σ_ 1=.pointer (some ⟨b2,0,none⟩)/\σ_ 3=.pointer (some ⟨cR,0,none⟩)/\σ_ 12=.agg B0.toArray/\σ_ 13=.map (some bw)/\σ_ 14=.agg #[jV x22.skier,jV x22.mat]/\σ_ 15=.map (some bw)/\σ_ 16=.agg #[.slice ai p0.Starts.length ap,.slice aj p0.Splits.length aq,.slice ak p0.Clocks.length au,.slice am p0.Readings.length av,.map (some bw),.slice none 0 0]/\PHeap.Le U U_/\sW w U U_ [.blk b2 27 B0,.blk cR 118 [.pointer none],.obj bw (.map dv eh)] w_/\MpR dv wBP wBV (mput ([]:List (wAG × Int)) x22 0)) ?_ fun jg=>?_
 rintro uB th ⟨jJ,cR,bw,dv,eh,mB,mC,mD,mE,mF,mG,g8,sf,qr,oH⟩
 refine zy (cs:=[.slice ai p0.Starts.length ap,.slice aj p0.Splits.length aq,.slice ak p0.Clocks.length au,.slice am p0.Readings.length av,.map (some bw),.slice none 0 0]) rfl rfl rfl rfl rfl g8 (by rfl) qr ?_
 intro tj lT qt
 exact dN _ _ ⟨jJ,cR,bw,dv,eh,lT,mB,mC,mD,mE,mF,mG,g8,rfl,sf,(qt.pick [1,2,3,0] _ (by decide) rfl),oH⟩
 refine ZR (s:=gAi) (M:=fun σ_ w_=>∃ (U_:PHeap) (bz:Nat) (dw:Array MapEntry) (ej:Nat) (cS:Nat),σ_ 1=.pointer (some ⟨b2,0,none⟩)/\σ_ 12=.agg B0.toArray/\σ_ 13=.map (some bz)/\σ_ 14=.agg #[jV x22.skier,jV x22.mat]/\σ_ 15=.map (some bz)/\σ_ 16=.agg #[.slice ai p0.Starts.length ap,.slice aj p0.Splits.length aq,.slice ak p0.Clocks.length au,.slice am p0.Readings.length av,.map (some bz),.slice none 0 0]/\σ_ 17=.pointer (some ⟨cS,0,none⟩)/\PHeap.Le U U_/\sW w U U_ [.blk b2 27 B0,.obj bz (.map dw ej),.blk cS 139 [.slice ai p0.Starts.length ap,.slice aj p0.Splits.length aq,.slice ak p0.Clocks.length au,.slice am p0.Readings.length av,.map (some bz),.slice none 0 0]] w_/\MpR dw wBP wBV (mput ([]:List (wAG × Int)) x22 0)) ?_ fun jh=>?_
 rintro uC tl ⟨jK,bz,dw,ej,cS,mH,mI,mJ,mK,mL,mM,mN,sg,qu,oI⟩
 refine zV (cs:=[.pointer none]) Z Z Z Z Z yC Z qu ?_
 intro tm lU qv
 exact dN _ _ ⟨jK,lU,bz,dw,ej,cS,mH,rfl,mI,mJ,mK,mL,mM,mN,sg,(qv.pick [1,0,2,3] _ (by decide) rfl),oI⟩
 refine ZR (s:=.fl 5 gAs) (M:=fun σ_ w_=>∃ (U_:PHeap) (cU:Nat) (bA:Nat) (dx:Array MapEntry) (en:Nat),σ_ 1=.pointer (some ⟨b2,0,none⟩)/\σ_ 3=.pointer (some ⟨cU,0,none⟩)/\σ_ 12=.agg B0.toArray/\σ_ 13=.map (some bA)/\σ_ 14=.agg #[jV x22.skier,jV x22.mat]/\σ_ 15=.map (some bA)/\PHeap.Le U U_/\sW w U U_ [.blk b2 27 B0,.blk cU 118 [.pointer none],.obj bA (.map dx en)] w_/\MpR dx wBP wBV (mput ([]:List (wAG × Int)) x22 0)) ?_ fun ji=>?_
 rintro uD tn ⟨jL,cU,bA,dx,en,mO,mP,g9,mQ,mR,ib,sh,qw,oK⟩
 let B2:List Value:=[.slice ai p0.Starts.length ap,.slice aj p0.Splits.length aq,.slice ak p0.Clocks.length au,.slice am p0.Readings.length av,.map (some bA),.slice none 0 0]
 refine zq rfl rfl rfl rfl (fun _=>ZC (pv:=[(0,.agg B0.toArray),(1,.map (some bA))]) (z:=[.slice none 0 0,.slice none 0 0,.slice none 0 0,.slice none 0 0,.map none,.slice none 0 0]) (cs:=B2) rfl (wAH g9 (wAH ib wAU)) Tryz.zeroValue139 wGW rfl rfl) (zy (cs:=B2) rfl rfl rfl rfl rfl rfl (by rfl) qw ?_)
 intro tp lV qx
 exact dN _ _ ⟨jL,cU,bA,dx,en,lV,mO,mP,g9,mQ,mR,ib,rfl,rfl,sh,(qx.pick [1,2,3,0] _ (by decide) rfl),oK⟩
 refine ZR (s:=gBk) (M:=fun σ_ w_=>∃ (U_:PHeap) (cV:Nat) (b9:Nat) (dy:Array MapEntry) (eu:Nat),σ_ 1=.pointer (some ⟨b2,0,none⟩)/\σ_ 3=.pointer (some ⟨cV,0,none⟩)/\σ_ 13=.map (some b9)/\σ_ 14=.agg #[jV x22.skier,jV x22.mat]/\σ_ 15=.map (some b9)/\PHeap.Le U U_/\sW w U U_ [.blk b2 27 B0,.blk cV 118 [.pointer none],.obj b9 (.map dy eu)] w_/\MpR dy wBP wBV (mput ([]:List (wAG × Int)) x22 0)) ?_ fun rW=>?_
 rintro uE tq ⟨jM,cV,b9,dy,eu,ic,mS,mT,mU,mV,sj,iX,oO⟩
 exact Zc Z Z Z Z (iX.ldBA (j:=0) Z Z ic ZA zl (vs:=B0) Z Z) (ji _ _ ⟨jM,cV,b9,dy,eu,ic,mS,Z,mT,mU,mV,sj,iX,oO⟩)
 refine ZR (s:=gBq) (M:=fun σ_ w_=>∃ (U_:PHeap) (bq:Nat) (cu:Array MapEntry) (dl:Nat),σ_ 1=.pointer (some ⟨b2,0,none⟩)/\σ_ 12=.agg B0.toArray/\σ_ 13=.map (some bq)/\σ_ 14=.agg #[jV x22.skier,jV x22.mat]/\σ_ 15=.map (some bq)/\PHeap.Le U U_/\sW w U U_ [.blk b2 27 B0,.obj bq (.map cu dl)] w_/\MpR cu wBP wBV (mput ([]:List (wAG × Int)) x22 0)) ?_ fun rX=>?_
 rintro uF tr ⟨fY,bq,cu,dl,ie,eG,ig,ii,eH,jt,iY,iK⟩
 let B3:List Value:=[.slice ai p0.Starts.length ap,.slice aj p0.Splits.length aq,.slice ak p0.Clocks.length au,.slice am p0.Readings.length av,.map (some bq),.slice none 0 0]
 refine oR Z (ZC (pv:=[(0,.agg B0.toArray),(1,.map (some bq))]) (z:=[.slice none 0 0,.slice none 0 0,.slice none 0 0,.slice none 0 0,.map none,.slice none 0 0]) (cs:=B3) Z (wAH eG (wAH eH wAU)) Tryz.zeroValue139 wGW Z Z) (zt ?_ ?_)
 refine zy (cs:=B3) rfl rfl rfl rfl rfl rfl (by rfl) iY ?_
 intro tu lW qy
 exact jh _ _ ⟨fY,bq,cu,dl,lW,ie,eG,ig,ii,eH,rfl,rfl,jt,(qy.pick [1,2,0] _ (by decide) rfl),iK⟩
 refine zV (cs:=[.pointer none]) Z Z Z Z Z yC Z iY ?_
 intro tv lX qz
 exact jg _ _ ⟨fY,lX,bq,cu,dl,ie,rfl,eG,ig,ii,eH,rfl,jt,(qz.pick [1,0,2] _ (by decide) rfl),iK⟩
 refine ZR (s:=gBj) (M:=fun σ_ w_=>∃ (U_:PHeap) (cW:Nat) (bI:Nat) (dz:Array MapEntry) (ey:Nat),σ_ 1=.pointer (some ⟨b2,0,none⟩)/\σ_ 3=.pointer (some ⟨cW,0,none⟩)/\σ_ 12=.agg B0.toArray/\σ_ 13=.map (some bI)/\σ_ 14=.agg #[jV x22.skier,jV x22.mat]/\PHeap.Le U U_/\sW w U U_ [.blk b2 27 B0,.blk cW 118 [.pointer none],.obj bI (.map dz ey)] w_/\MpR dz wBP wBV (mput ([]:List (wAG × Int)) x22 0)) ?_ fun rY=>?_
 rintro uG tw ⟨jN,cW,bI,dz,ey,mW,mX,ij,ik,mY,sk,qA,oP⟩
 refine oM Z ik ?_
 let B4:List Value:=[.slice ai p0.Starts.length ap,.slice aj p0.Splits.length aq,.slice ak p0.Clocks.length au,.slice am p0.Readings.length av,.map (some bI),.slice none 0 0]
 refine zq rfl rfl rfl rfl (fun _=>ZC (pv:=[(0,.agg B0.toArray),(1,.map (some bI))]) (z:=[.slice none 0 0,.slice none 0 0,.slice none 0 0,.slice none 0 0,.map none,.slice none 0 0]) (cs:=B4) rfl (wAH ij (wAH rfl wAU)) Tryz.zeroValue139 wGW rfl rfl) (zy (cs:=B4) rfl rfl rfl rfl rfl rfl (by rfl) qA ?_)
 intro tz lY qB
 exact dN _ _ ⟨jN,cW,bI,dz,ey,lY,mW,mX,ij,ik,mY,rfl,rfl,rfl,sk,(qB.pick [1,2,3,0] _ (by decide) rfl),oP⟩
 refine ZR (s:=.fl 4 gBk) (M:=fun σ_ w_=>∃ (U_:PHeap) (cX:Nat) (cY:Nat) (dA:Array MapEntry) (eA:Nat),σ_ 1=.pointer (some ⟨b2,0,none⟩)/\σ_ 3=.pointer (some ⟨cX,0,none⟩)/\σ_ 13=.map (some cY)/\σ_ 14=.agg #[jV x22.skier,jV x22.mat]/\PHeap.Le U U_/\sW w U U_ [.blk b2 27 B0,.blk cX 118 [.pointer none],.obj cY (.map dA eA)] w_/\MpR dA wBP wBV (mput ([]:List (wAG × Int)) x22 0)) ?_ fun rZ=>?_
 rintro uH tA ⟨jO,cX,cY,dA,eA,il,mZ,im,m4,sm,iZ,oU⟩
 exact oM Z im (Zc Z Z Z Z (iZ.ldBA (j:=0) Z Z il ZA zl (vs:=B0) Z Z) (ji _ _ ⟨jO,cX,cY,dA,eA,il,mZ,Z,im,m4,Z,sm,iZ,oU⟩))
 refine ZR (s:=gBr) (M:=fun σ_ w_=>∃ (U_:PHeap) (cb:Nat) (cd:Nat) (eE:Array MapEntry) (gz:Nat),σ_ 1=.pointer (some ⟨b2,0,none⟩)/\σ_ 3=.pointer (some ⟨cb,0,none⟩)/\σ_ 12=.agg B0.toArray/\σ_ 13=.map (some cd)/\σ_ 14=.agg #[jV x22.skier,jV x22.mat]/\PHeap.Le U U_/\sW w U U_ [.blk b2 27 B0,.blk cb 118 [.pointer none],.obj cd (.map eE gz)] w_/\MpR eE wBP wBV ([]:List (wAG × Int))) ?_ fun dO=>?_
 rintro uI tB ⟨fZ,cb,cd,eE,gz,m5,m6,m7,io,ip,sn,qC,oW⟩
 refine OKS.mapPut (x:=.tmp 13) (y:=.tmp 14) (j:=2) (mk:=wBP) (mv:=wBV) (a:=x22) (v:=0) rfl rfl rfl (by first | exact .inl rfl | exact .inr rfl) qC rfl io ip rfl (wBn ZF) wCr oW rfl ?_
 intro gF gA lx rK qD
 have qE:sW w U fZ [.blk b2 27 B0,.blk cb 118 [.pointer none],.obj cd (.map gF gA)] lx:=qD
 exact rY _ _ ⟨fZ,cb,cd,gF,gA,m5,m6,m7,io,ip,sn,qE,rK⟩
 refine ZR (s:=.fl 4 gBq) (M:=fun σ_ w_=>∃ (U_:PHeap) (bC:Nat) (cw:Array MapEntry) (dm:Nat),σ_ 1=.pointer (some ⟨b2,0,none⟩)/\σ_ 12=.agg B0.toArray/\σ_ 13=.map (some bC)/\σ_ 14=.agg #[jV x22.skier,jV x22.mat]/\PHeap.Le U U_/\sW w U U_ [.blk b2 27 B0,.obj bC (.map cw dm)] w_/\MpR cw wBP wBV (mput ([]:List (wAG × Int)) x22 0)) ?_ fun r6=>?_
 rintro uJ tC ⟨ga,bC,cw,dm,iq,eI,eJ,ir,ju,i4,iL⟩
 refine oM Z eJ ?_
 let B5:List Value:=[.slice ai p0.Starts.length ap,.slice aj p0.Splits.length aq,.slice ak p0.Clocks.length au,.slice am p0.Readings.length av,.map (some bC),.slice none 0 0]
 refine oR Z (ZC (pv:=[(0,.agg B0.toArray),(1,.map (some bC))]) (z:=[.slice none 0 0,.slice none 0 0,.slice none 0 0,.slice none 0 0,.map none,.slice none 0 0]) (cs:=B5) Z (wAH eI (wAH Z wAU)) Tryz.zeroValue139 wGW Z Z) (zt ?_ ?_)
 refine zy (cs:=B5) rfl rfl rfl rfl rfl rfl (by rfl) i4 ?_
 intro tD lZ qF
 exact jh _ _ ⟨ga,bC,cw,dm,lZ,iq,eI,eJ,ir,rfl,rfl,rfl,ju,(qF.pick [1,2,0] _ (by decide) rfl),iL⟩
 refine zV (cs:=[.pointer none]) Z Z Z Z Z yC Z i4 ?_
 intro tE l5 qG
 exact jg _ _ ⟨ga,l5,bC,cw,dm,iq,rfl,eI,eJ,ir,rfl,rfl,ju,(qG.pick [1,0,2] _ (by decide) rfl),iL⟩
 refine ZR (s:=gBy) (M:=fun σ_ w_=>∃ (U_:PHeap) (bJ:Nat) (bK:Nat) (dB:Array MapEntry) (eC:Nat),σ_ 1=.pointer (some ⟨b2,0,none⟩)/\σ_ 3=.pointer (some ⟨bJ,0,none⟩)/\σ_ 13=.map (some bK)/\σ_ 14=.agg #[jV x22.skier,jV x22.mat]/\PHeap.Le U U_/\sW w U U_ [.blk b2 27 B0,.blk bJ 118 [.pointer none],.obj bK (.map dB eC)] w_/\MpR dB wBP wBV ([]:List (wAG × Int))) ?_ fun fw=>?_
 rintro uK tF ⟨d7,bJ,bK,dB,eC,eK,it,eL,eM,jv,ff,iM⟩
 refine zt ?_ ?_
 exact Zc Z Z Z Z (ff.ldBA (j:=0) Z Z eK ZA zl (vs:=B0) Z Z) (dO _ _ ⟨d7,bJ,bK,dB,eC,eK,it,Z,eL,eM,jv,ff,iM⟩)
 refine OKS.mapPut (x:=.tmp 13) (y:=.tmp 14) (j:=2) (mk:=wBP) (mv:=wBV) (a:=x22) (v:=0) rfl rfl rfl (by first | exact .inl rfl | exact .inr rfl) ff rfl eL eM rfl (wBn ZF) wCr iM rfl ?_
 intro gG gB ly rL qH
 have qI:sW w U d7 [.blk b2 27 B0,.blk bJ 118 [.pointer none],.obj bK (.map gG gB)] ly:=qH
 exact rZ _ _ ⟨d7,bJ,bK,gG,gB,eK,it,eL,eM,jv,qI,rL⟩
 refine ZR (s:=gBx) (M:=fun σ_ w_=>∃ (U_:PHeap) (cf:Nat) (cx:Array MapEntry) (dp:Nat),σ_ 1=.pointer (some ⟨b2,0,none⟩)/\σ_ 13=.map (some cf)/\σ_ 14=.agg #[jV x22.skier,jV x22.mat]/\PHeap.Le U U_/\sW w U U_ [.blk b2 27 B0,.obj cf (.map cx dp)] w_/\MpR cx wBP wBV (mput ([]:List (wAG × Int)) x22 0)) ?_ fun r7=>?_
 rintro uL tG ⟨gb,cf,cx,dp,eO,eP,iu,jw,fg,iN⟩
 refine oM Z eP (zt ?_ ?_)
 exact Zc Z Z Z Z (fg.ldBA (j:=0) Z Z eO ZA zl (vs:=B0) Z Z) (rX _ _ ⟨gb,cf,cx,dp,eO,Z,eP,iu,Z,jw,fg,iN⟩)
 refine zV (cs:=[.pointer none]) Z Z Z Z Z yC Z fg ?_
 intro tH l6 qJ
 exact rW _ _ ⟨gb,l6,cf,cx,dp,eO,rfl,eP,iu,rfl,jw,(qJ.pick [1,0,2] _ (by decide) rfl),iN⟩
 refine ZR (s:=gBt) (M:=fun σ_ w_=>∃ (U_:PHeap) (cZ:Nat),σ_ 1=.pointer (some ⟨b2,0,none⟩)/\σ_ 3=.pointer (some ⟨cZ,0,none⟩)/\σ_ 12=.agg B0.toArray/\σ_ 14=.agg #[jV x22.skier,jV x22.mat]/\PHeap.Le U U_/\sW w U U_ [.blk b2 27 B0,.blk cZ 118 [.pointer none]] w_) ?_ fun fy=>?_
 rintro uM tI ⟨jP,cZ,m8,m9,n5,n6,so,qK⟩
 refine OKS.makeMap Z Z Z Z Z qK ?_
 intro tJ l7 qL
 have rM:=MpR.nil wBP wBV
 exact dO _ _ ⟨jP,cZ,l7,#[],0,m8,m9,n5,rfl,n6,so,(qL.pick [1,2,0] _ (by decide) rfl),rM⟩
 refine ZR (s:=gBs) (M:=fun σ_ w_=>∃ (U_:PHeap) (cg:Nat) (cj:Nat) (cy:Array MapEntry) (dq:Nat),σ_ 1=.pointer (some ⟨b2,0,none⟩)/\σ_ 3=.pointer (some ⟨cg,0,none⟩)/\σ_ 12=.agg B0.toArray/\σ_ 13=.map (some cj)/\PHeap.Le U U_/\sW w U U_ [.blk b2 27 B0,.blk cg 118 [.pointer none],.obj cj (.map cy dq)] w_/\MpR cy wBP wBV ([]:List (wAG × Int))) ?_ fun fz=>?_
 rintro uN lz ⟨jQ,cg,cj,cy,dq,n7,n8,n9,oa,sq,qM,oX⟩
 refine zG 0 Z Z Z Z (zH Z Z yK zM Z) qM (fun hs=>wBQ lz jQ hs br) (.inr Z) ?_
 rintro ge sK uk lA ss qN ⟨rfl,rfl⟩
 have qO:sW w U ge [.blk b2 27 B0,.blk cg 118 [.pointer none],.obj cj (.map cy dq)] lA:=qN
 exact dO _ _ ⟨ge,cg,cj,cy,dq,n7,n8,n9,oa,Z,(sq.trans ss),qO,oX⟩
 refine ZR (s:=gBw) (M:=fun σ_ w_=>∃ (U_:PHeap) (bL:Nat) (dC:Array MapEntry) (eD:Nat),σ_ 1=.pointer (some ⟨b2,0,none⟩)/\σ_ 12=.agg B0.toArray/\σ_ 13=.map (some bL)/\σ_ 14=.agg #[jV x22.skier,jV x22.mat]/\PHeap.Le U U_/\sW w U U_ [.blk b2 27 B0,.obj bL (.map dC eD)] w_/\MpR dC wBP wBV ([]:List (wAG × Int))) ?_ fun fA=>?_
 rintro uO tK ⟨d8,bL,dC,eD,iv,iw,eQ,eS,jx,i6,iO⟩
 refine zt ?_ ?_
 refine OKS.mapPut (x:=.tmp 13) (y:=.tmp 14) (j:=1) (mk:=wBP) (mv:=wBV) (a:=x22) (v:=0) rfl rfl rfl (by first | exact .inl rfl | exact .inr rfl) i6 rfl eQ eS rfl (wBn ZF) wCr iO rfl ?_
 intro gH gC lB rN qP
 have qQ:sW w U d8 [.blk b2 27 B0,.obj bL (.map gH gC)] lB:=qP
 exact r6 _ _ ⟨d8,bL,gH,gC,iv,iw,eQ,eS,jx,qQ,rN⟩
 refine zV (cs:=[.pointer none]) Z Z Z Z Z yC Z i6 ?_
 intro tL l8 qR
 exact dO _ _ ⟨d8,l8,bL,dC,eD,iv,rfl,iw,eQ,eS,jx,(qR.pick [1,0,2] _ (by decide) rfl),iO⟩
 refine ZR (s:=gCd) (M:=fun σ_ w_=>∃ (U_:PHeap) (cm:Nat),σ_ 1=.pointer (some ⟨b2,0,none⟩)/\σ_ 3=.pointer (some ⟨cm,0,none⟩)/\σ_ 14=.agg #[jV x22.skier,jV x22.mat]/\PHeap.Le U U_/\sW w U U_ [.blk b2 27 B0,.blk cm 118 [.pointer none]] w_) ?_ fun jj=>?_
 rintro uP tM ⟨gf,cm,eU,iy,iz,jy,fh⟩
 refine zt ?_ ?_
 exact Zc Z Z Z Z (fh.ldBA (j:=0) Z Z eU ZA zl (vs:=B0) Z Z) (fy _ _ ⟨gf,cm,eU,iy,Z,iz,jy,fh⟩)
 refine OKS.makeMap Z Z Z Z Z fh ?_
 intro tO ma qS
 have rO:=MpR.nil wBP wBV
 exact fw _ _ ⟨gf,cm,ma,#[],0,eU,iy,rfl,iz,jy,(qS.pick [1,2,0] _ (by decide) rfl),rO⟩
 refine ZR (s:=gCc) (M:=fun σ_ w_=>∃ (U_:PHeap) (bM:Nat) (bN:Nat) (bR:Array MapEntry) (cp:Nat),σ_ 1=.pointer (some ⟨b2,0,none⟩)/\σ_ 3=.pointer (some ⟨bM,0,none⟩)/\σ_ 13=.map (some bN)/\PHeap.Le U U_/\sW w U U_ [.blk b2 27 B0,.blk bM 118 [.pointer none],.obj bN (.map bR cp)] w_/\MpR bR wBP wBV ([]:List (wAG × Int))) ?_ fun jk=>?_
 rintro uQ lD ⟨gg,bM,bN,bR,cp,eV,iA,iB,jz,fj,iP⟩
 refine zt ?_ ?_
 exact Zc Z Z Z Z (fj.ldBA (j:=0) Z Z eV ZA zl (vs:=B0) Z Z) (fz _ _ ⟨gg,bM,bN,bR,cp,eV,iA,Z,iB,jz,fj,iP⟩)
 refine zG 0 Z Z Z Z (zH Z Z yK zM Z) fj (fun hs=>wBQ lD gg hs br) (.inr Z) ?_
 rintro gh sL ul lE su qT ⟨rfl,rfl⟩
 have qU:sW w U gh [.blk b2 27 B0,.blk bM 118 [.pointer none],.obj bN (.map bR cp)] lE:=qT
 exact fw _ _ ⟨gh,bM,bN,bR,cp,eV,iA,iB,Z,(jz.trans su),qU,iP⟩
 refine ZR (s:=gCe) (M:=fun σ_ w_=>∃ (U_:PHeap) (bD:Nat) (cz:Array MapEntry) (dr:Nat),σ_ 1=.pointer (some ⟨b2,0,none⟩)/\σ_ 13=.map (some bD)/\σ_ 14=.agg #[jV x22.skier,jV x22.mat]/\PHeap.Le U U_/\sW w U U_ [.blk b2 27 B0,.obj bD (.map cz dr)] w_/\MpR cz wBP wBV ([]:List (wAG × Int))) ?_ fun jl=>?_
 rintro uR tP ⟨cN,bD,cz,dr,dD,dE,dF,fC,dL,fb⟩
 refine zt ?_ ?_
 exact Zc Z Z Z Z (dL.ldBA (j:=0) Z Z dD ZA zl (vs:=B0) Z Z) (fA _ _ ⟨cN,bD,cz,dr,dD,Z,dE,dF,fC,dL,fb⟩)
 refine zt ?_ ?_
 refine OKS.mapPut (x:=.tmp 13) (y:=.tmp 14) (j:=1) (mk:=wBP) (mv:=wBV) (a:=x22) (v:=0) rfl rfl rfl (by first | exact .inl rfl | exact .inr rfl) dL rfl dE dF rfl (wBn ZF) wCr fb rfl ?_
 intro gI gD lF rP qV
 have qW:sW w U cN [.blk b2 27 B0,.obj bD (.map gI gD)] lF:=qV
 exact r7 _ _ ⟨cN,bD,gI,gD,dD,dE,dF,fC,qW,rP⟩
 refine zV (cs:=[.pointer none]) Z Z Z Z Z yC Z dL ?_
 intro tQ mb qX
 exact fw _ _ ⟨cN,mb,bD,cz,dr,dD,rfl,dE,dF,fC,(qX.pick [1,0,2] _ (by decide) rfl),fb⟩
 refine ZR (s:=gCb) (M:=fun σ_ w_=>∃ (U_:PHeap) (bO:Nat),σ_ 1=.pointer (some ⟨b2,0,none⟩)/\σ_ 3=.pointer (some ⟨bO,0,none⟩)/\σ_ 12=.agg B0.toArray/\PHeap.Le U U_/\sW w U U_ [.blk b2 27 B0,.blk bO 118 [.pointer none]] w_) ?_ fun jm=>?_
 rintro uS lG ⟨gi,bO,iC,iD,iE,jA,i8⟩
 refine zt ?_ ?_
 refine OKS.makeMap Z Z Z Z Z i8 ?_
 intro tR mc qY
 have rQ:=MpR.nil wBP wBV
 exact fz _ _ ⟨gi,bO,mc,#[],0,iC,iD,iE,rfl,jA,(qY.pick [1,2,0] _ (by decide) rfl),rQ⟩
 refine zG 0 Z Z Z Z (zH Z Z yK zM Z) i8 (fun hs=>wBQ lG gi hs br) (.inr Z) ?_
 rintro gj sM um lH sv qZ ⟨rfl,rfl⟩
 have o5:sW w U gj [.blk b2 27 B0,.blk bO 118 [.pointer none]] lH:=qZ
 exact fy _ _ ⟨gj,bO,iC,iD,iE,Z,(jA.trans sv),o5⟩
 refine ZR (s:=gCa) (M:=fun σ_ w_=>∃ (U_:PHeap),σ_ 1=.pointer (some ⟨b2,0,none⟩)/\σ_ 12=.agg B0.toArray/\σ_ 14=.agg #[jV x22.skier,jV x22.mat]/\PHeap.Le U U_/\sW w U U_ [.blk b2 27 B0] w_) ?_ fun je=>?_
 rintro uu sN ⟨fP,gJ,gK,gL,jp,iQ⟩
 refine zt ?_ ?_
 refine OKS.makeMap Z Z Z Z Z iQ ?_
 intro sP lI o6
 have rF:=MpR.nil wBP wBV
 exact fA _ _ ⟨fP,lI,#[],0,gJ,gK,rfl,gL,jp,(o6.pick [1,0] _ (by decide) rfl),rF⟩
 refine zV (cs:=[.pointer none]) Z Z Z Z Z yC Z iQ ?_
 intro sQ lJ o7
 exact fy _ _ ⟨fP,lJ,gJ,rfl,gK,gL,jp,(o7.pick [1,0] _ (by decide) rfl)⟩
 refine ZR (s:=gBz) (M:=fun σ_ w_=>∃ (U_:PHeap) (bG:Nat) (bQ:Array MapEntry) (cn:Nat),σ_ 1=.pointer (some ⟨b2,0,none⟩)/\σ_ 12=.agg B0.toArray/\σ_ 13=.map (some bG)/\PHeap.Le U U_/\sW w U U_ [.blk b2 27 B0,.obj bG (.map bQ cn)] w_/\MpR bQ wBP wBV ([]:List (wAG × Int))) ?_ fun jf=>?_
 rintro uv jR ⟨fQ,bG,bQ,cn,gM,gN,gO,jq,iR,iF⟩
 refine zt ?_ ?_
 refine zG 0 Z Z Z Z (zH Z Z yK zM Z) iR (fun hs=>wBQ jR fQ hs br) (.inr Z) ?_
 rintro fR sB ud jS r8 o8 ⟨rfl,rfl⟩
 have o9:sW w U fR [.blk b2 27 B0,.obj bG (.map bQ cn)] jS:=o8
 exact fA _ _ ⟨fR,bG,bQ,cn,gM,gN,gO,Z,(jq.trans r8),o9,iF⟩
 refine zV (cs:=[.pointer none]) Z Z Z Z Z yC Z iR ?_
 intro sS lK pe
 exact fz _ _ ⟨fQ,lK,bG,bQ,cn,gM,rfl,gN,gO,jq,(pe.pick [1,0,2] _ (by decide) rfl),iF⟩
 refine zt ?_ ?_
 refine Zc Z Z Z Z (bu.ldBA (j:=0) Z Z Z ZA zl (vs:=B0) Z Z) (zt ?_ ?_)
 refine OKS.makeMap Z Z Z Z Z bu ?_
 intro sU lL pf
 have rG:=MpR.nil wBP wBV
 exact jf _ _ ⟨U,lL,#[],0,rfl,rfl,rfl,(zQ _),(pf.pick [1,0] _ (by decide) rfl),rG⟩
 refine zt ?_ ?_
 refine zG 0 Z Z Z Z (zH Z Z yK zM Z) bu (fun hs=>wBQ gt U hs br) (.inr Z) ?_
 rintro fS sC ue jU r9 pg ⟨rfl,rfl⟩
 have ph:sW w U fS [.blk b2 27 B0] jU:=pg
 exact je _ _ ⟨fS,Z,Z,Z,r9,ph⟩
 refine zV (cs:=[.pointer none]) Z Z Z Z Z yC Z bu ?_
 intro sV lM pj
 exact jm _ _ ⟨U,lM,rfl,rfl,rfl,(zQ _),(pj.pick [1,0] _ (by decide) rfl)⟩
 refine zt ?_ ?_
 refine OKS.makeMap Z Z Z Z Z bu ?_
 intro jW cO dI
 have fu:=MpR.nil wBP wBV
 refine zt ?_ ?_
 exact Zc rfl rfl rfl rfl (dI.ldBA (j:=1) rfl rfl rfl ZA zl (vs:=B0) rfl rfl) (jf _ _ ⟨U,cO,#[],0,rfl,rfl,rfl,(zQ _),(dI.pick [1,0] _ (by decide) rfl),fu⟩)
 refine zt ?_ ?_
 refine zG 0 Z Z Z Z (zH Z Z yK zM Z) dI (fun hs=>wBQ jW U hs br) (.inr Z) ?_
 rintro fT sD uf jX sb pk ⟨rfl,rfl⟩
 have pm:sW w U fT [.obj cO (.map #[] 0),.blk b2 27 B0] jX:=pk
 exact jl _ _ ⟨fT,cO,#[],0,rfl,rfl,rfl,sb,(pm.pick [1,0] _ (by decide) rfl),fu⟩
 refine zV (cs:=[.pointer none]) Z Z Z Z Z yC Z dI ?_
 intro sX lN pn
 exact jk _ _ ⟨U,lN,cO,#[],0,rfl,rfl,rfl,(zQ _),(pn.pick [2,0,1] _ (by decide) rfl),fu⟩
 refine zt ?_ ?_
 refine zG 0 Z Z Z Z (zH Z Z yK zM Z) bu (fun hs=>wBQ gt U hs br) (.inr Z) ?_
 rintro cL sE ug jY fB po ⟨rfl,rfl⟩
 have dJ:sW w U cL [.blk b2 27 B0] jY:=po
 refine zt ?_ ?_
 exact Zc Z Z Z Z (dJ.ldBA (j:=0) Z Z Z ZA zl (vs:=B0) Z Z) (je _ _ ⟨cL,Z,Z,Z,fB,dJ⟩)
 refine zt ?_ ?_
 refine OKS.makeMap Z Z Z Z Z dJ ?_
 intro sY lO pp
 have rH:=MpR.nil wBP wBV
 exact jl _ _ ⟨cL,lO,#[],0,rfl,rfl,rfl,fB,(pp.pick [1,0] _ (by decide) rfl),rH⟩
 refine zV (cs:=[.pointer none]) Z Z Z Z Z yC Z dJ ?_
 intro sZ lP pq
 exact jj _ _ ⟨cL,lP,rfl,rfl,rfl,fB,(pq.pick [1,0] _ (by decide) rfl)⟩
 refine zV (cs:=[.pointer none]) Z Z Z Z Z yC Z bu ?_
 intro jZ cP dK
 refine zt ?_ ?_
 exact Zc rfl rfl rfl rfl (dK.ldBA (j:=1) rfl rfl rfl ZA zl (vs:=B0) rfl rfl) (jm _ _ ⟨U,cP,rfl,rfl,rfl,(zQ _),(dK.pick [1,0] _ (by decide) rfl)⟩)
 refine zt ?_ ?_
 refine OKS.makeMap Z Z Z Z Z dK ?_
 intro s5 lQ pu
 have rI:=MpR.nil wBP wBV
 exact jk _ _ ⟨U,cP,lQ,#[],0,rfl,rfl,rfl,(zQ _),(pu.pick [2,1,0] _ (by decide) rfl),rI⟩
 refine zG 0 Z Z Z Z (zH Z Z yK zM Z) dK (fun hs=>wBQ jZ U hs br) (.inr Z) ?_
 rintro fU sF uh j0 sc py ⟨rfl,rfl⟩
 have pz:sW w U fU [.blk cP 118 [.pointer none],.blk b2 27 B0] j0:=py
 exact jj _ _ ⟨fU,cP,rfl,rfl,rfl,sc,(pz.pick [1,0] _ (by decide) rfl)⟩
 rintro uw j5 ⟨jG,b6,b8,ah,cq,dg,gP,mf,dP,iT,od⟩
 refine zJ (sR gAk Z (oL Z (iT.ldBA (j:=0) Z Z gP ZA zl (vs:=B0) Z Z) ?_))
 have iG:=re.le dP
 have iH:=ri.le dP
 have iI:=rk.le dP
 have iJ:=rn.le dP
 have q:=bnd rx
 obtain ⟨⟨⟩,oe,jb⟩:=q
 try dsimp only at jb
 refine zG 0 Z Z Z Z (zH Z Z Tryz.call106 (zB Z zM) Z) iT (fun hs=>wGu p0 ai ap aj aq ak au am av j5 jG hs iG iH iI iJ oe) (.inr Z) ?_
 rintro fV sG ui j6 dQ pB ⟨gv,rfl,rfl,og⟩
 let B6:Res:=.blk b6 118 [.pointer (some ⟨b8,0,none⟩)]
 have pC:sW w U fV [.blk b2 27 B0,B6,.blk b8 139 [.slice ai p0.Starts.length ap,.slice aj p0.Splits.length aq,.slice ak p0.Clocks.length au,.slice am p0.Readings.length av,.map (some ah),.slice none 0 0],.obj ah (.map cq dg)] j6:=pB
 refine eN (zd (yj fun dV dM=>?_))
 have mg:dV 1=.pointer (some ⟨b2,0,none⟩):=(dM 1).trans gP
 have gQ:dV 3=.pointer (some ⟨b6,0,none⟩):=(dM 3).trans mf
 have mh:dV 19=.func (.func 126) #[] #[.pointer (some ⟨gv,0,none⟩)]:=(dM 19).trans rfl
 clear dM
 have pD:=pC.nilrow 184 7
 refine bnK jb fun jC rq jc=>?_
 have eW:=iG.le dQ
 have eX:=iH.le dQ
 have eY:=iI.le dQ
 have eZ:=iJ.le dQ
 refine CK.rangeY (S:=(List wAd) × (List (wAG × Int))) (E:=Empty) (ar:=wTn) (PY:=(fun (s_:(List wAd) × (List (wAG × Int))) (U_:PHeap) (L_:List Res)=>match s_ with | (l1591,l1595)=>∃ (bF:Option Addr) (bP:Nat) (bm:Array MapEntry) (bn:Nat),L_=[.blk b2 27 B0,B6,.row bF bP 184 7 (hH wAY l1591),.blk b8 139 [.slice ai p0.Starts.length ap,.slice aj p0.Splits.length aq,.slice ak p0.Clocks.length au,.slice am p0.Readings.length av,.map (some ah),.slice bF l1591.length bP],.obj ah (.map bm bn)]/\MpR bm wBP wBV l1595)) (PE:=(fun (_:Empty) _ _=>False)) (exO:=Empty.elim) (s0:=([],jo)) (rr:=jC) mh Tryz.call126 (pD.pick [1,2,0,3,4] _ (by decide) rfl) (by decide) (fun _ _ _ h=>by obtain rfl:=h;rfl) (fun e=>nomatch e) ⟨none,0,cq,dg,rfl,od⟩ (fun l w1 L1 PY' PE' o3 oY rc=>wGB PY' PE' _ l _ p0 gv ai ap aj aq ak au am av w1 L1 fV o3 oY rc og eW eX eY eZ rq) ?_ ?_
 rintro aV ub t7 ⟨l1591,l1595⟩ az uo ua dT sH sA fD aZ dR pE o0 rj i9 dU bT
 obtain ⟨bF,bP,bm,bn,rfl,oh⟩:=o0
 obtain rfl:=rj
 replace bT:∀ t,dU t=upd dV 20 (.agg #[jV az.Kind,jV az.Skier,jV az.Index,.bool az.Up]) t:=bT
 have mi:dU 20=.agg #[jV az.Kind,jV az.Skier,jV az.Index,.bool az.Up]:=(bT 20).trans (wDU _ _ _)
 have gR:dU 1=.pointer (some ⟨b2,0,none⟩):=(bT 1).trans ((wEI _ _ (by decide)).trans mg)
 have mj:dU 3=.pointer (some ⟨b6,0,none⟩):=(bT 3).trans ((wEI _ _ (by decide)).trans gQ)
 clear bT
 let B7:Res:=.blk b8 139 [.slice ai p0.Starts.length ap,.slice aj p0.Splits.length aq,.slice ak p0.Clocks.length au,.slice am p0.Readings.length av,.map (some ah),.slice bF l1591.length bP]
 let B8:Res:=.row bF bP 184 7 (hH wAY l1591)
 have pF:St aZ dT [.obj aV fD,.blk b2 27 B0,B6,B8,B7,.obj ah (.map bm bn)] sA:=pE
 try dsimp only at i9
 refine rR gAh Z (zV (cs:=[jV 0,jV 0,jV 0,.bool false]) Z Z Z Z Z Tryz.zeroValue93 Z pF ?_)
 intro s6 aU pG
 let B9:List Value:=[jV az.Kind,jV az.Skier,jV az.Index,.bool az.Up]
 refine zY (j:=0) (vs:=B9) Z Z Z Z pG Z Z mi Z yS (zA Z) Z Z Z ?_
 intro j7 pH
 have pI:St aZ dT [.blk aU 93 B9,.obj aV fD,.blk b2 27 B0,B6,B8,B7,.obj ah (.map bm bn)] j7:=pH
 refine zw ⟨rfl,rfl,_,_,(pI.pick [1,0,2,3,4,5,6] [.obj aV fD,.blk aU 93 B9,.blk b2 27 B0,B6,B8,B7,.obj ah (.map bm bn)] (by decide) rfl),fun gm bd pJ=>?_⟩
 have fc:St aZ dT [.obj aV bd,.blk aU 93 B9,.blk b2 27 B0,B6,B8,B7,.obj ah (.map bm bn)] gm:=pJ
 refine zd (sR (.fl 0 (.fl 1 (.fx 2 (wUP (.fx 7 (.fx 8 (.fx 9 (.fx 10 (.fl 11 .nil) .stop) .stop) .stop) .stop)) .stop))) Z (oL Z (fc.ldBA (j:=2) Z Z gR ZA zl (vs:=B0) Z Z) (oL Z (fc.ldBA (j:=1) Z Z Z yh yS (vs:=B9) Z Z) ?_)))
 have oi:=eW.le dR
 have oj:=eX.le dR
 have om:=eY.le dR
 have oq:=eZ.le dR
 have q:=bnd i9
 obtain ⟨⟨aW,aX,bh⟩,ot,jd⟩:=q
 try dsimp only at jd
 refine zG 0 Z Z Z Z (zH Z Z Tryz.call107 (zB Z (zB Z zM)) Z) fc (fun hs=>wGv p0 ai ap aj aq ak au am av az gm dT hs oi oj om oq ot) (.inr Z) ?_
 rintro bY sI uj j8 t8 pK ⟨rfl,rfl⟩
 have pL:St aZ bY [.obj aV bd,.blk aU 93 B9,.blk b2 27 B0,B6,B8,B7,.obj ah (.map bm bn)] j8:=pK
 refine oM Z Z (oR Z (ze Z Z (v:=.agg #[jV aW.skier,jV aW.mat]) Z) (oR Z (ze Z Z (v:=.agg #[jV aX.skier,jV aX.mat]) Z) (oR Z (ze Z Z (v:=jV bh) Z) ?_)))
 let cK:List Value:=[jV 0,jV 0]
 refine zV (cs:=cK) Z Z Z Z Z zk Z pL ?_
 intro s7 be pM
 refine zV (cs:=cK) Z Z Z Z Z zk Z pM ?_
 intro s8 bf pN
 let aY:List Value:=[jV aW.skier,jV aW.mat]
 refine zY (j:=1) (vs:=aY) Z Z Z Z pN Z Z Z Z zI (zA Z) Z Z Z ?_
 intro j9 pO
 have pP:St aZ bY [.blk bf 123 cK,.blk be 123 aY,.obj aV bd,.blk aU 93 B9,.blk b2 27 B0,B6,B8,B7,.obj ah (.map bm bn)] j9:=pO
 let a0:List Value:=[jV aX.skier,jV aX.mat]
 refine zY (j:=0) (vs:=a0) Z Z Z Z pP Z Z Z Z zI (zA Z) Z Z Z ?_
 intro k9 pQ
 have fd:St aZ bY [.blk bf 123 a0,.blk be 123 aY,.obj aV bd,.blk aU 93 B9,.blk b2 27 B0,B6,B8,B7,.obj ah (.map bm bn)] k9:=pQ
 refine oA Z Z (eN (zJ (sR fL4 Z (oL Z (fd.ldBA (j:=1) Z Z Z zh zI (vs:=aY) Z Z) (oL Z (fd.ldBA (j:=0) Z Z Z zh zI (vs:=a0) Z Z) ?_)))))
 let fG:List Value:=[jV aW.skier,jV aW.mat,jV aX.skier,jV aX.mat]
 refine oR Z (Runs.buildA (pv:=[(0,.agg aY.toArray),(1,.agg a0.toArray)]) (z:=[jV 0,jV 0,jV 0,jV 0]) (cs:=fG) Z (wAH Z (wAH Z wAU)) Tryz.zeroValue210 Tryz.runUnderlying210 zI Z Z) (oM Z Z (eN (zd (bnK jd fun aT ro ry=>?_))))
 have q:=wCw ro
 obtain ⟨fq,rp⟩:=q
 replace fq:=zL fq
 refine CK.forN' (fun cE cG σ_ w_=>∃ (U_:PHeap) (cr:Array MapEntry) (dh:Nat),σ_ 31=jV (↑cE:Int)/\σ_ 1=.pointer (some ⟨b2,0,none⟩)/\σ_ 3=.pointer (some ⟨b6,0,none⟩)/\σ_ 4=.pointer (some ⟨aU,0,none⟩)/\σ_ 5=.pointer (some ⟨be,0,none⟩)/\σ_ 6=.pointer (some ⟨bf,0,none⟩)/\σ_ 7=jV bh/\σ_ 30=.agg fG.toArray/\PHeap.Le bY U_/\St aZ U_ [.blk bf 123 a0,.blk be 123 aY,.obj aV bd,.blk aU 93 B9,.blk b2 27 B0,B6,B8,B7,.obj ah (.map cr dh)] w_/\MpR cr wBP wBV cG) rp ?_ ?_ ?_
 exact ⟨bY,bm,bn,Z,gR,mj,Z,Z,Z,Z,Z,(zQ _),fd,oh⟩
 rintro cE cG uq ux s9 fm ⟨cM,cr,dh,dG,gS,cA,gT,gU,gW,gX,eF,jr,pR,dH⟩ rT
 have gx:Hid ((↑cE:Int) < 2):=zL (wBm fm)
 replace fm:=zL fm
 have ja:Hid (w64 ((↑cE:Int) + 1)=(↑(cE + 1):Int)):=zL (by have h1:=fq.out;have h2:=gx.out;rw [wAZ] <;> omega)
 refine sR fL1 Z (oR Z (zf Z dG Z) (eN (zJ (cT Z gx (kN (zJ (zd (sR (.fl 0 (.fx 1 (.fx 2 .nil .stop) .stop)) Z (bnK rT fun bU e8 rA=>oR Z (Runs.ixA (cs:=hH wIM ([aW,aX]:List wAG)) Z eF dG Tryz.runUnderlying210 zI (wAv e8) (wAz e8) (wDG zh zI (wJt (sz:=2) (fun _=>Z) _ _ (wAR e8)))) (zV (cs:=cK) Z Z Z Z Z zk Z pR ?_))))))))))
 intro tc gw pS
 let bV:List Value:=[jV bU.skier,jV bU.mat]
 refine zY (j:=0) (vs:=bV) Z Z Z Z pS Z Z Z Z zI (zA Z) Z Z Z ?_
 intro d9 pT
 have pU:St aZ cM [.blk gw 123 bV,.blk bf 123 a0,.blk be 123 aY,.obj aV bd,.blk aU 93 B9,.blk b2 27 B0,B6,B8,B7,.obj ah (.map cr dh)] d9:=pT
 refine eN (zJ (zx zn [1,3,3,1,1,1,3,3,3,3,3] fL11 (by kernel_rfl) ?_))
 have bE:=pU.drew
 generalize hw_W1729:({ d9 with drawn:=d9.drawn + 1 }:World)=gp at bE ⊢
 refine oL Z (bE.ldB (j:=6) Z Z cA yX (v:=.pointer (some ⟨b8,0,none⟩)) Z) (oR Z (Zz Z Z) (oR Z (zE Z Z ZK Z Zw) (oL Z (bE.ldB (j:=8) Z Z Z yB (v:=.map (some ah)) Z) (oL Z (bE.ldBA (j:=0) Z Z Z zh zI (vs:=bV) Z Z) (oL Z (bE.lookup2 (j:=9) (mk:=wBP) (mv:=wBV) (a:=bU) (z:=0) Z Z Z Z (wBn ZF) wCr ZV dH) (oM Z Z (oR Z (ze Z Z (v:=jV (wAt cG bU 0)) Z) (oR Z (ze Z Z (v:=.bool (wJM cG bU)) Z) (oA Z Z (oA Z Z (eN (sR fL2 Z (oM Z Z (oR Z (Zm Z Z) (eN (ifc rA ?_ ?_))))))))))))))))
 intro ec rC
 refine zr (nC ec.out) (Zr (ZE (zK (rR fL2 Z (oR Z (Zd (zj Z dG Z) (congrArg (jV) ja.out)) (oM Z Z (zw ?_)))))))
 cases rC
 exact zK ⟨rfl,⟨cM,cr,dh,rfl,gS,cA,gT,gU,gW,gX,eF,jr,(bE.pick [1,2,3,4,5,6,7,8,9] _ (by decide) rfl),dH⟩⟩
 intro ec rD
 refine ZG (nF (ec.out)) (zx zn [1,3,3,1,1,1,3,3,1,1,0] (fC0_9 (.fx 10 .nil .stop)) (by kernel_rfl) ?_)
 have bs:=bE.drew
 generalize hw_W1737:({ gp with drawn:=gp.drawn + 1 }:World)=td at bs ⊢
 refine ZI rfl rfl rfl rfl (bs.ldB (j:=6) rfl rfl cA yX (v:=.pointer (some ⟨b8,0,none⟩)) rfl) rfl (zq rfl rfl rfl rfl (fun _=>Zz rfl rfl) (zq rfl rfl rfl rfl (fun _=>zE rfl rfl ZK rfl Zw) (ZI rfl rfl rfl rfl (bs.ldB (j:=8) rfl rfl rfl yB (v:=.map (some ah)) rfl) rfl (ZI rfl rfl rfl rfl (bs.ldBA (j:=0) rfl rfl rfl zh zI (vs:=bV) rfl rfl) rfl (ZI rfl rfl rfl rfl (bs.ldB (j:=6) rfl rfl cA yX (v:=.pointer (some ⟨b8,0,none⟩)) rfl) rfl (zq rfl rfl rfl rfl (fun _=>Zz rfl rfl) (zq rfl rfl rfl rfl (fun _=>zE rfl rfl ZK rfl Zw) (ZI rfl rfl rfl rfl (bs.ldB (j:=8) rfl rfl rfl yB (v:=.map (some ah)) rfl) rfl (ZI rfl rfl rfl rfl (bs.lenM (j:=9) (mk:=wBP) (mv:=wBV) rfl rfl rfl (wBn ZF) dH) rfl (OKS.mapPut (x:=.tmp 48) (y:=.tmp 49) (z:=.tmp 54) (j:=9) (mk:=wBP) (mv:=wBV) (a:=bU) (v:=(↑(cG.length):Int)) rfl rfl rfl (by first | exact .inl rfl | exact .inr rfl) bs rfl rfl rfl rfl (wBn ZF) wCr dH rfl ?_))))))))))
 intro gE gy lf rJ pV
 have pW:St aZ cM [.blk gw 123 bV,.blk bf 123 a0,.blk be 123 aY,.obj aV bd,.blk aU 93 B9,.blk b2 27 B0,B6,B8,B7,.obj ah (.map gE gy)] lf:=pV
 refine zw (ZE (zK (rR fL2 Z (oR Z (Zd (zj Z dG Z) (congrArg (jV) ja.out)) (oM Z Z (zw ?_))))))
 cases rD
 exact zK ⟨rfl,⟨cM,gE,gy,rfl,gS,cA,gT,gU,gW,gX,eF,jr,(pW.pick [1,2,3,4,5,6,7,8,9] _ (by decide) rfl),rJ⟩⟩
 rintro uy gq ⟨bp,bk,bj,oc,tS,bS,ml,mn,mo,mp,tT,t9,pX,cC⟩
 have md:Hid (¬ ((↑((2:Int) - 0).toNat:Int) < 2)):=zL (wBB)
 refine sR fL1 rfl (zq rfl rfl rfl rfl (fun _=>zf rfl oc rfl) (eN (zJ (cF Z md (Zf (zo (zo (ZX (zK (bnK ry fun bi e9 ft=>zx zn [2,1,3,3,1,1,1,3,3,1,1,1,1,3,3,1,1,1,3,3,2,0,3,3,0] (wUN (.fx 0 (.fx 20 gBl .stop) (.fx 20 (.fx 0 gBl (.fx 21 (.fx 0 gBb .stop) .stop)) .stop))) (by kernel_rfl) ?_))))))))))
 have bb:=pX.drew
 generalize hw_W1786:({ gq with drawn:=gq.drawn + 1 }:World)=te at bb ⊢
 refine oL Z (bb.ldB (j:=5) Z Z bS yX (v:=.pointer (some ⟨b8,0,none⟩)) Z) (oR Z (Zz Z Z) (oR Z (zE Z Z ZK Z yk) (oL Z (bb.ldB (j:=7) Z Z Z Tryz.isAgg137 (v:=.slice bF l1591.length bP) Z) (oL Z (bb.ldBA (j:=3) Z Z ml yh yS (vs:=B9) Z Z) (oL Z (bb.ldB (j:=5) Z Z bS yX (v:=.pointer (some ⟨b8,0,none⟩)) Z) (oR Z (Zz Z Z) (oR Z (zE Z Z ZK Z Zw) (oL Z (bb.ldB (j:=7) Z Z Z yB (v:=.map (some ah)) Z) (oL Z (bb.ldBA (j:=1) Z Z mn zh zI (vs:=aY) Z Z) (oL Z (bb.lookup1 (j:=8) (mk:=wBP) (mv:=wBV) (a:=aW) (z:=0) Z Z Z Z (wBn ZF) wCr ZV cC) (oL Z (bb.ldB (j:=5) Z Z bS yX (v:=.pointer (some ⟨b8,0,none⟩)) Z) (oR Z (Zz Z Z) (oR Z (zE Z Z ZK Z Zw) (oL Z (bb.ldB (j:=7) Z Z Z yB (v:=.map (some ah)) Z) (oL Z (bb.ldBA (j:=0) Z Z mo zh zI (vs:=a0) Z Z) (oL Z (bb.lookup1 (j:=8) (mk:=wBP) (mv:=wBV) (a:=aX) (z:=0) Z Z Z Z (wBn ZF) wCr ZV cC) (oM Z mp ?_)))))))))))))))))
 let bW:List Value:=[jV az.Kind,jV az.Skier,jV az.Index,.bool az.Up,jV (wAt aT aW 0),jV (wAt aT aX 0),jV bh]
 let dX:List Value:=[jV 0,jV 0,jV 0,.bool false,jV 0,jV 0,jV 0]
 refine oR Z (ZC (pv:=[(0,.agg B9.toArray),(1,jV (wAt aT aW 0)),(2,jV (wAt aT aX 0)),(3,jV bh)]) (z:=dX) (cs:=bW) Z (wAH Z (wAH Z (wAH Z (wAH Z wAU)))) Tryz.zeroValue184 wOo Z Z) (zt ?_ ?_)
 refine Zc Z Z Z Z (bb.ldB (j:=5) Z Z bS yX (v:=.pointer (some ⟨b8,0,none⟩)) Z) (Zk (pv:=[(0,.agg bW.toArray)]) (zs:=dX) (cs:=bW) Z Z Z Z Z (wAH Z wAU) Tryz.runUnderlying137 Tryz.sizeOf184 Tryz.zeroValue184 Z Z Z Z Z bb ?_)
 intro lg lR pY
 let dY:Res:=.row (some ⟨lR,0,none⟩) 1 184 7 (hH wAY [(⟨az,(wAt aT aW 0),(wAt aT aX 0),bh⟩:wAd)])
 have iU:St aZ bp [dY,.blk bf 123 a0,.blk be 123 aY,.obj aV bd,.blk aU 93 B9,.blk b2 27 B0,B6,B8,B7,.obj ah (.map bk bj)] lg:=pY
 refine ye (j:=7) (enc:=wAY) (xs:=l1591) (ys:=[(⟨az,(wAt aT aW 0),(wAt aT aX 0),bh⟩:wAd)]) (zs:=bi) rfl rfl rfl rfl rfl Tryz.underlying137 wLT rfl rfl rfl rfl rfl rfl iU rfl rfl rfl (iU.srcR (j:=0) rfl (by decide) (wAI (f:=wAY) (sz:=7) (fun _=>rfl) [(⟨az,(wAt aT aW 0),(wAt aT aX 0),bh⟩:wAd)])) (fun _=>rfl) (fun _=>rfl) e9 rfl ?_
 intro cH da lh pZ
 let fH:Res:=.row cH da 184 7 (hH wAY bi)
 have p6:St aZ bp [dY,.blk bf 123 a0,.blk be 123 aY,.obj aV bd,.blk aU 93 B9,.blk b2 27 B0,B6,fH,B7,.obj ah (.map bk bj)] lh:=pZ
 refine oR Z (Zz Z Z) (oR Z (zE Z Z ZK Z yk) (zY (j:=8) (vs:=[.slice cH bi.length da]) Z Z Z Z p6 Z Z Z Z yk (zA Z) Z Z Z ?_))
 intro li p7
 have p8:St aZ bp [dY,.blk bf 123 a0,.blk be 123 aY,.obj aV bd,.blk aU 93 B9,.blk b2 27 B0,B6,fH,.blk b8 139 [.slice ai p0.Starts.length ap,.slice aj p0.Splits.length aq,.slice ak p0.Clocks.length au,.slice am p0.Readings.length av,.map (some ah),.slice cH bi.length da],.obj ah (.map bk bj)] li:=p7
 refine zw (ZE ?_)
 obtain rfl:=nA ft
 exact ⟨_,_,(p8.pick [3,5,6,7,8,9] _ (by decide) rfl),rfl,⟨cH,da,bk,bj,rfl,cC⟩⟩
 refine Zk (pv:=[(0,.agg bW.toArray)]) (zs:=dX) (cs:=bW) Z Z Z Z Z (wAH Z wAU) Tryz.runUnderlying137 Tryz.sizeOf184 Tryz.zeroValue184 Z Z Z Z Z bb ?_
 intro lj lS p9
 let bX:Res:=.row (some ⟨lS,0,none⟩) 1 184 7 (hH wAY [(⟨az,(wAt aT aW 0),(wAt aT aX 0),bh⟩:wAd)])
 have cD:St aZ bp [bX,.blk bf 123 a0,.blk be 123 aY,.obj aV bd,.blk aU 93 B9,.blk b2 27 B0,B6,B8,B7,.obj ah (.map bk bj)] lj:=p9
 refine zt ?_ ?_
 refine Zc rfl rfl rfl rfl (cD.ldB (j:=6) rfl rfl bS yX (v:=.pointer (some ⟨b8,0,none⟩)) rfl) (ye (j:=7) (enc:=wAY) (xs:=l1591) (ys:=[(⟨az,(wAt aT aW 0),(wAt aT aX 0),bh⟩:wAd)]) (zs:=bi) rfl rfl rfl rfl rfl Tryz.underlying137 wLT rfl rfl rfl rfl rfl rfl cD rfl rfl rfl (cD.srcR (j:=0) rfl (by decide) (wAI (f:=wAY) (sz:=7) (fun _=>rfl) [(⟨az,(wAt aT aW 0),(wAt aT aX 0),bh⟩:wAd)])) (fun _=>rfl) (fun _=>rfl) e9 rfl ?_)
 intro cI db lm qa
 let fK:Res:=.row cI db 184 7 (hH wAY bi)
 have qb:St aZ bp [bX,.blk bf 123 a0,.blk be 123 aY,.obj aV bd,.blk aU 93 B9,.blk b2 27 B0,B6,fK,B7,.obj ah (.map bk bj)] lm:=qa
 refine oR Z (Zz Z Z) (oR Z (zE Z Z ZK Z yk) (zY (j:=8) (vs:=[.slice cI bi.length db]) Z Z Z Z qb Z Z Z Z yk (zA Z) Z Z Z ?_))
 intro ln qc
 have qd:St aZ bp [bX,.blk bf 123 a0,.blk be 123 aY,.obj aV bd,.blk aU 93 B9,.blk b2 27 B0,B6,fK,.blk b8 139 [.slice ai p0.Starts.length ap,.slice aj p0.Splits.length aq,.slice ak p0.Clocks.length au,.slice am p0.Readings.length av,.map (some ah),.slice cI bi.length db],.obj ah (.map bk bj)] ln:=qc
 refine zw (ZE ?_)
 obtain rfl:=nA ft
 exact ⟨_,_,(qd.pick [3,5,6,7,8,9] _ (by decide) rfl),rfl,⟨cI,db,bk,bj,rfl,cC⟩⟩
 refine ye (j:=7) (enc:=wAY) (xs:=l1591) (ys:=[(⟨az,(wAt aT aW 0),(wAt aT aX 0),bh⟩:wAd)]) (zs:=bi) rfl rfl rfl rfl rfl Tryz.underlying137 wLT rfl rfl rfl rfl rfl rfl cD rfl rfl rfl (cD.srcR (j:=0) rfl (by decide) (wAI (f:=wAY) (sz:=7) (fun _=>rfl) [(⟨az,(wAt aT aW 0),(wAt aT aX 0),bh⟩:wAd)])) (fun _=>rfl) (fun _=>rfl) e9 rfl ?_
 intro cJ de lp qe
 let fL:Res:=.row cJ de 184 7 (hH wAY bi)
 have iV:St aZ bp [bX,.blk bf 123 a0,.blk be 123 aY,.obj aV bd,.blk aU 93 B9,.blk b2 27 B0,B6,fL,B7,.obj ah (.map bk bj)] lp:=qe
 refine Zc Z Z Z Z (iV.ldB (j:=6) Z Z bS yX (v:=.pointer (some ⟨b8,0,none⟩)) Z) (oR Z (Zz Z Z) (oR Z (zE Z Z ZK Z yk) (zY (j:=8) (vs:=[.slice cJ bi.length de]) Z Z Z Z iV Z Z Z Z yk (zA Z) Z Z Z ?_)))
 intro ls qf
 have qh:St aZ bp [bX,.blk bf 123 a0,.blk be 123 aY,.obj aV bd,.blk aU 93 B9,.blk b2 27 B0,B6,fL,.blk b8 139 [.slice ai p0.Starts.length ap,.slice aj p0.Splits.length aq,.slice ak p0.Clocks.length au,.slice am p0.Readings.length av,.map (some ah),.slice cJ bi.length de],.obj ah (.map bk bj)] ls:=qf
 refine zw (ZE ?_)
 obtain rfl:=nA ft
 exact ⟨_,_,(qh.pick [3,5,6,7,8,9] _ (by decide) rfl),rfl,⟨cJ,de,bk,bj,rfl,cC⟩⟩
 rintro jB d6 sJ lu dS qi
 rcases jC with ⟨jD,ur⟩ | me
 try dsimp only at jc
 rintro ⟨dW,ef,dt,df,rfl,ou⟩
 let dZ:Res:=.blk b8 139 [.slice ai p0.Starts.length ap,.slice aj p0.Splits.length aq,.slice ak p0.Clocks.length au,.slice am p0.Readings.length av,.map (some ah),.slice dW jD.length ef]
 let d5:Res:=.row dW ef 184 7 (hH wAY jD)
 have iW:sW w U d6 [.blk b2 27 B0,B6,d5,dZ,.obj ah (.map dt df),.obj jB (.deferred (some []))] lu:=qi
 refine ZE (zK (sR fL2 Z (oL Z (iW.ldB (j:=1) Z Z gQ yX (v:=.pointer (some ⟨b8,0,none⟩)) Z) (oA Z Z (eN (zP ?_))))))
 have ow:=eW.le dS
 have ox:=eX.le dS
 have oy:=eY.le dS
 have oz:=eZ.le dS
 refine wRK (by first | exact .inl rfl | exact .inr rfl) (rbs:=[jB]) (L:=[.blk b2 27 B0,B6,d5,dZ,.obj ah (.map dt df)]) iW fun lv qj=>?_
 have qk:sW w U d6 [.blk b2 27 B0,B6,d5,dZ,.obj ah (.map dt df)] lv:=qj
 cases jc
 exact ⟨_,(ZL rfl),d6,_,(qk.pick [3,4,2] _ (by decide) rfl),b8,ai,ap,aj,aq,ak,au,am,av,ah,dt,df,dW,ef,rfl,rfl,ow,ox,oy,oz,ou⟩
 exact me.elim
end Go.Proofs.YtlnfbjphfoipaaaGreat
