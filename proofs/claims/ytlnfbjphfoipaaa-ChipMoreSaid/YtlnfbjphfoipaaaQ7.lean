import Derived.Test.YtlnfbjphfoipaaaQ6
set_option linter.all false
open List renaming flatMap->hD
open Go.Value renaming bool->hH
open Option.some renaming inj->hJ
open Bool renaming eq_false_iff->nA
open Prod.mk renaming injEq->nB
open Nat renaming blt->nD,le_of_ble_eq_true->nE
namespace Go.Proofs.Ytlnfbjphfoipaaa
open Go.KL
def gAl:Sch:=.fl 1 (.fl 2 .nil)
def gAm:Sch:=.fl 2 (.fl 3 .nil)
def gAn:Sch:=.fl 3 (.fl 4 .nil)
def gAo:Sch:=.fl 4 (.fl 5 .nil)
def gAp:Sch:=.fl 7 (.fl 8 .nil)
def gAq:Sch:=.fl 15 (.fl 16 .nil)
def gAr:Sch:=.fx 1 (.fl 2 .nil) .stop
def gAs:Sch:=.fx 2 (.fx 3 .nil .stop) .stop
def gAt:Sch:=.fx 3 (.fl 4 .nil) .stop
def gAu:Sch:=.fx 17 (.fl 18 .nil) .stop
def gAv:Sch:=.fx 0 (.fx 1 .nil .stop) .stop
def gAw:Sch:=.fx 11 (.fx 12 .nil .stop) .stop
def gAx:Sch:=.fx 0 (.fl 1 .nil) .stop
def gAy:Sch:=.fx 4 (.fx 5 .nil .stop) .stop
def gAz:Sch:=.fl 10 (.fx 12 .nil .stop)
def gBa:Sch:=.fx 6 gAp .stop
def gBb:Sch:=.fx 1 gAm .stop
def gBc:Sch:=.fl 0 gAr
def gBd:Sch:=.fx 15 gAu .stop
def gBe:Sch:=.fx 15 (.fl 16 (.fx 18 .nil .stop)) .stop
def gBf:Sch:=.fx 3 gAo .stop
def gBg:Sch:=.fx 0 gAr .stop
def gBh:Sch:=.fx 13 (.fl 14 (.fl 15 .nil)) .stop
def gBi:Sch:=.fx 14 gAq .stop
def gBj:Sch:=.fx 6 gAz .stop
def gBk:Sch:=.fl 0 (.fl 1 (.fx 2 (.fl 3 .nil) .stop))
def gBl:Sch:=.fl 0 (.fl 1 gAs)
def gBm:Sch:=.fx 14 gBd .stop
def gBn:Sch:=.fx 10 gBe .stop
def gBo:Sch:=.fx 0 (.fx 1 gAs .stop) .stop
def gBp:Sch:=.fx 0 gBb .stop
def gBq:Sch:=.fx 8 (.fl 9 gAz) .stop
def gBr:Sch:=.fl 0 (.fl 1 (.fx 2 gAt .stop))
def gBs:Sch:=.fx 13 gBm .stop
def gBt:Sch:=.fl 0 (.fl 1 (.fx 2 gAn .stop))
def gBu:Sch:=.fx 12 gBs .stop
def gBv:Sch:=.fx 9 gBs .stop
def gBw:Sch:=.fx 4 (.fl 16 gBs) .stop
def gBx:Sch:=.fx 3 gBw .stop
def gBy:Sch:=.fx 4 (.fl 16 gBu) (.fx 12 gBw .stop)
def gBz:Sch:=.fx 4 (.fl 16 gBv) (.fx 9 gBw .stop)
set_option maxHeartbeats 4000000
theorem Z {α:Type} {a:α}:a=a:=rfl
section
variable {r:Option Nat} {N:Nat} {P:Program} {l:List Oper} {Q:wDa} {D:List Deferred} {ks:List Nat} {σ:Env} {w:World} {i d j e:Nat} {s:Sch} {o:Oper} {b:Bool} {x:Operand} {v:Value} {p:Prop} {inst:Decidable p} {K:List Deferred->Env->World->Prop} {c1 c2:Code}
abbrev jV (n:Int):Value:=.int .i64 n
abbrev SW (w:World) (X:List Res) (U U':PHeap) (L:List Res) (w':World):Prop:=St ⟨w,X,U⟩ U' L w'
abbrev sW (w:World) (U U':PHeap) (L:List Res) (w':World):Prop:=St ⟨w,[],U⟩ U' L w'
abbrev St0 (w:World) (U:PHeap) (L:List Res):Prop:=St ⟨w,L,U⟩ U L w
theorem ifc {α:Type} {G p:Prop} {inst:Decidable p} {a b r:α} (h:@ite α p inst a b=r) (h1:Hid p->a=r->G) (h2:Hid (¬ p)->b=r->G):G:=by
 by_cases c:p
 rw [if_pos c] at h;exact h1 ⟨c⟩ h
 rw [if_neg c] at h;exact h2 ⟨c⟩ h
theorem bnK {α β:Type} {G:Prop} {o:Option α} {f:α->Option β} {r:β} (h:o.bind f=some r) (k:∀ x,o=some x->f x=some r->G):G:=by
 obtain ⟨x,h1,h2⟩:=bnd h
 exact k x h1 h2
theorem oR (h:(l[i]?,o.dst,nD d N,wanted l σ o)=(some o,some d,true,true)) (hr:∀ {w'},Runs P σ w' o v w') (k:OKS N P l Q D ks s (upd σ d v) w):OKS N P l Q D ks (.fl i s) σ w:=by
 simp only [nB] at h;exact OKS.r h.1 h.2.1 h.2.2.1 h.2.2.2 (fun _=>hr) k
theorem oL (h:(l[i]?,o.dst,nD d N,wanted l σ o,wLs (kOf ks i))=(some o,some d,true,true,false)) (hr:wFB P σ w o v) (k:OKS N P l Q D ks s (upd σ d v) w):OKS N P l Q D ks (.fl i s) σ w:=by
 simp only [nB] at h;exact OKS.m h.1 h.2.1 h.2.2.1 h.2.2.2.1 hr h.2.2.2.2 k
theorem oM (h:(l[i]?,o.dst,nD d N,wanted l σ o,o.op)=(some o,some d,true,true,.move x)) (hx:ev σ x=v) (k:OKS N P l Q D ks s (upd σ d v) w):OKS N P l Q D ks (.fl i s) σ w:=by
 simp only [nB] at h;exact OKS.rm h.1 h.2.1 h.2.2.1 h.2.2.2.1 h.2.2.2.2 hx k
theorem oA (h:(l[i]?,o.dst,nD d N,wanted l σ o,o.op)=(some o,some d,true,true,.assign x)) (hx:ev σ x=v) (k:OKS N P l Q D ks s (upd σ d v) w):OKS N P l Q D ks (.fl i s) σ w:=by
 simp only [nB] at h;exact OKS.ra h.1 h.2.1 h.2.2.1 h.2.2.2.1 h.2.2.2.2 hx k
theorem oF (h:(l[i]?,o.dst,nD d N,o.guard,(l[j]?).bind (·.dst),σ e,false == b)=(some o,some d,true,some (j,b),some e,.bool (decide p),false)) (c:Hid (¬ p)) (k:OKS N P l Q D ks s (upd σ d undef) w):OKS N P l Q D ks (.fl i s) σ w:=by
 simp only [nB] at h;exact OKS.p h.1 h.2.1 h.2.2.1 (wFt h.2.2.2.1 h.2.2.2.2.1 (h.2.2.2.2.2.1.trans (wLq c.out)) h.2.2.2.2.2.2) k
theorem oT (h:(l[i]?,o.dst,nD d N,o.guard,(l[j]?).bind (·.dst),σ e,true == b)=(some o,some d,true,some (j,b),some e,.bool (decide p),false)) (c:Hid p) (k:OKS N P l Q D ks s (upd σ d undef) w):OKS N P l Q D ks (.fl i s) σ w:=by
 simp only [nB] at h;exact OKS.p h.1 h.2.1 h.2.2.1 (wFt h.2.2.2.1 h.2.2.2.2.1 (h.2.2.2.2.2.1.trans (wLp c.out)) h.2.2.2.2.2.2) k
theorem oN {b2:Bool} (h:(l[i]?,o.dst,nD d N,o.guard,(l[j]?).bind (·.dst),σ e,b2 == b)=(some o,some d,true,some (j,b),some e,.bool b2,false)) (k:OKS N P l Q D ks s (upd σ d undef) w):OKS N P l Q D ks (.fl i s) σ w:=by
 simp only [nB] at h;exact OKS.p h.1 h.2.1 h.2.2.1 (wFt h.2.2.2.1 h.2.2.2.2.1 h.2.2.2.2.2.1 h.2.2.2.2.2.2) k
theorem nC {a b:Bool} (h:a=b):hH (!a)=hH (!b):=h ▸ rfl
theorem nF {a:Bool} (h:¬ a=true):hH (!a)=hH (!false):=nC (nA.2 h)
theorem wT (h:(o.guard,(l[j]?).bind (·.dst),σ e)=(some (j,true),some e,.bool (decide p))) (c:Hid p):wanted l σ o=true:=by
 simp only [nB] at h;exact wGr h.1 h.2.1 (h.2.2.trans (wLp c.out))
theorem wF (h:(o.guard,(l[j]?).bind (·.dst),σ e)=(some (j,false),some e,.bool (decide p))) (c:Hid (¬ p)):wanted l σ o=true:=by
 simp only [nB] at h;exact wGr h.1 h.2.1 (h.2.2.trans (wLq c.out))
theorem rU (h:(l[i]?,o.dst,nD d N)=(some o,some d,true)) (hw:wanted l σ o=true) (hr:∀ {w'},Runs P σ w' o v w') (k:OKS N P l Q D ks s (upd σ d v) w):OKS N P l Q D ks (.fl i s) σ w:=by
 simp only [nB] at h;exact OKS.r h.1 h.2.1 h.2.2 hw (fun _=>hr) k
theorem sR {id:Nat} (s:Sch) (hs:inOrder 0 s l.length=true) (h:OKS N P l (wEw (fun D σ w=>CK r N P c2 Q D σ w) Q) D [] s σ w):CK r N P (.seq (.region id l.toArray false) c2) Q D σ w:=CK.seq (CK.reg s hs h)
theorem rR {id:Nat} (s:Sch) (hs:inOrder 0 s l.length=true) (h:OKS N P l Q D [] s σ w):CK r N P (.region id l.toArray false) Q D σ w:=CK.reg s hs h
theorem eN (h:K D σ w):OKS N P l (wEw K Q) D ks .nil σ w:=OKS.e (wGn h)
theorem cT (hz:ev σ x=.bool (decide p)) (c:Hid p) (h:CK r N P c1 Q D σ w):CK r N P (.cond x c1 c2) Q D σ w:=CK.condT (hz.trans (wLp c.out)) h
theorem cF (hz:ev σ x=.bool (decide p)) (c:Hid (¬ p)) (h:CK r N P c2 Q D σ w):CK r N P (.cond x c1 c2) Q D σ w:=CK.condF (hz.trans (wLq c.out)) h
theorem kN (h:K D σ w):CK r N P .skip (wEw K Q) D σ w:=CK.skip (wGn h)
end
def fL1:Sch:=.fl 0 .nil
def fL2:Sch:=.fl 0 (.fl 1 .nil)
def fL3:Sch:=.fl 0 gAl
def fL4:Sch:=.fl 0 (.fl 1 gAm)
def fL5:Sch:=.fl 0 (.fl 1 (.fl 2 gAn))
def fL6:Sch:=.fl 0 (.fl 1 (.fl 2 (.fl 3 gAo)))
def fL7:Sch:=.fl 0 (.fl 1 (.fl 2 (.fl 3 (.fl 4 (.fl 5 (.fl 6 .nil))))))
def fL8:Sch:=.fl 0 (.fl 1 (.fl 2 (.fl 3 (.fl 4 (.fl 5 (.fl 6 (.fl 7 .nil)))))))
def fL9:Sch:=.fl 0 (.fl 1 (.fl 2 (.fl 3 (.fl 4 (.fl 5 (.fl 6 gAp))))))
def fL10:Sch:=.fl 0 (.fl 1 (.fl 2 (.fl 3 (.fl 4 (.fl 5 (.fl 6 (.fl 7 (.fl 8 (.fl 9 .nil)))))))))
def wMX:Sch:=.fl 0 (.fl 1 (.fl 2 (.fl 3 (.fl 4 (.fl 5 (.fl 6 (.fl 7 (.fl 8 (.fl 9 (.fl 10 .nil))))))))))
def fL14:Sch:=.fl 0 (.fl 1 (.fl 2 (.fl 3 (.fl 4 (.fl 5 (.fl 6 (.fl 7 (.fl 8 (.fl 9 (.fl 10 (.fl 11 (.fl 12 (.fl 13 .nil)))))))))))))
def fL15:Sch:=.fl 0 (.fl 1 (.fl 2 (.fl 3 (.fl 4 (.fl 5 (.fl 6 (.fl 7 (.fl 8 (.fl 9 (.fl 10 (.fl 11 (.fl 12 (.fl 13 (.fl 14 .nil))))))))))))))
def fL17:Sch:=.fl 0 (.fl 1 (.fl 2 (.fl 3 (.fl 4 (.fl 5 (.fl 6 (.fl 7 (.fl 8 (.fl 9 (.fl 10 (.fl 11 (.fl 12 (.fl 13 (.fl 14 gAq))))))))))))))
def fL18:Sch:=.fl 0 (.fl 1 (.fl 2 (.fl 3 (.fl 4 (.fl 5 (.fl 6 (.fl 7 (.fl 8 (.fl 9 (.fl 10 (.fl 11 (.fl 12 (.fl 13 (.fl 14 (.fl 15 (.fl 16 (.fl 17 .nil)))))))))))))))))
def fL19:Sch:=.fl 0 (.fl 1 (.fl 2 (.fl 3 (.fl 4 (.fl 5 (.fl 6 (.fl 7 (.fl 8 (.fl 9 (.fl 10 (.fl 11 (.fl 12 (.fl 13 (.fl 14 (.fl 15 (.fl 16 (.fl 17 (.fl 18 .nil))))))))))))))))))
def fL22:Sch:=.fl 0 (.fl 1 (.fl 2 (.fl 3 (.fl 4 (.fl 5 (.fl 6 (.fl 7 (.fl 8 (.fl 9 (.fl 10 (.fl 11 (.fl 12 (.fl 13 (.fl 14 (.fl 15 (.fl 16 (.fl 17 (.fl 18 (.fl 19 (.fl 20 (.fl 21 .nil)))))))))))))))))))))
def fL30:Sch:=.fl 0 (.fl 1 (.fl 2 (.fl 3 (.fl 4 (.fl 5 (.fl 6 (.fl 7 (.fl 8 (.fl 9 (.fl 10 (.fl 11 (.fl 12 (.fl 13 (.fl 14 (.fl 15 (.fl 16 (.fl 17 (.fl 18 (.fl 19 (.fl 20 (.fl 21 (.fl 22 (.fl 23 (.fl 24 (.fl 25 (.fl 26 (.fl 27 (.fl 28 (.fl 29 .nil)))))))))))))))))))))))))))))
def fL42:Sch:=.fl 0 (.fl 1 (.fl 2 (.fl 3 (.fl 4 (.fl 5 (.fl 6 (.fl 7 (.fl 8 (.fl 9 (.fl 10 (.fl 11 (.fl 12 (.fl 13 (.fl 14 (.fl 15 (.fl 16 (.fl 17 (.fl 18 (.fl 19 (.fl 20 (.fl 21 (.fl 22 (.fl 23 (.fl 24 (.fl 25 (.fl 26 (.fl 27 (.fl 28 (.fl 29 (.fl 30 (.fl 31 (.fl 32 (.fl 33 (.fl 34 (.fl 35 (.fl 36 (.fl 37 (.fl 38 (.fl 39 (.fl 40 (.fl 41 .nil)))))))))))))))))))))))))))))))))))))))))
def wDF (s:Sch):Sch:=.fl 0 (.fl 1 (.fl 2 (s)))
def wDo (s:Sch):Sch:=.fl 0 (.fl 1 (.fl 2 (.fl 3 (s))))
def wFk (s:Sch):Sch:=.fl 0 (.fl 1 (.fl 2 (.fl 3 (.fl 4 (s)))))
def wHG (s:Sch):Sch:=.fl 0 (.fl 1 (.fl 2 (.fl 3 (.fl 4 (.fl 5 (s))))))
def wGc (s:Sch):Sch:=.fl 0 (.fl 1 (.fl 2 (.fl 3 (.fl 4 (.fl 5 (.fl 6 (s)))))))
def fC0_7 (s:Sch):Sch:=.fl 0 (.fl 1 (.fl 2 (.fl 3 (.fl 4 (.fl 5 (.fl 6 (.fl 7 (s))))))))
def fC0_8 (s:Sch):Sch:=.fl 0 (.fl 1 (.fl 2 (.fl 3 (.fl 4 (.fl 5 (.fl 6 (.fl 7 (.fl 8 (s)))))))))
def wKg (s:Sch):Sch:=.fl 0 (.fl 1 (.fl 2 (.fl 3 (.fl 4 (.fl 5 (.fl 6 (.fl 7 (.fl 8 (.fl 9 (s))))))))))
def wMY (s:Sch):Sch:=.fl 0 (.fl 1 (.fl 2 (.fl 3 (.fl 4 (.fl 5 (.fl 6 (.fl 7 (.fl 8 (.fl 9 (.fl 10 (.fl 11 (.fl 12 (.fl 13 (s))))))))))))))
def wMZ (s:Sch):Sch:=.fl 0 (.fl 1 (.fl 2 (.fl 3 (.fl 4 (.fl 5 (.fl 6 (.fl 7 (.fl 8 (.fl 9 (.fl 10 (.fl 11 (.fl 12 (.fl 13 (.fl 14 (s)))))))))))))))
def wKy (s:Sch):Sch:=.fl 0 (.fl 1 (.fl 2 (.fl 3 (.fl 4 (.fl 5 (.fl 6 (.fl 7 (.fl 8 (.fl 9 (.fl 10 (.fl 11 (.fl 12 (.fl 13 (.fl 14 (.fl 15 (s))))))))))))))))
def wJx (s:Sch):Sch:=.fl 0 (.fl 1 (.fl 2 (.fl 3 (.fl 4 (.fl 5 (.fl 6 (.fl 7 (.fl 8 (.fl 9 (.fl 10 (.fl 11 (.fl 12 (.fl 13 (.fl 14 (.fl 15 (.fl 16 (.fl 17 (.fl 18 (s)))))))))))))))))))
def wMa (s:Sch):Sch:=.fl 0 (.fl 1 (.fl 2 (.fl 3 (.fl 4 (.fl 5 (.fl 6 (.fl 7 (.fl 8 (.fl 9 (.fl 10 (.fl 11 (.fl 12 (.fl 13 (.fl 14 (.fl 15 (.fl 16 (.fl 17 (.fl 18 (.fl 19 (s))))))))))))))))))))
def wMb (s:Sch):Sch:=.fl 0 (.fl 1 (.fl 2 (.fl 3 (.fl 4 (.fl 5 (.fl 6 (.fl 7 (.fl 8 (.fl 9 (.fl 10 (.fl 11 (.fl 12 (.fl 13 (.fl 14 (.fl 15 (.fl 16 (.fl 17 (.fl 18 (.fl 19 (.fl 20 (.fl 21 (s))))))))))))))))))))))
def wMc (s:Sch):Sch:=.fl 0 (.fl 1 (.fl 2 (.fl 3 (.fl 4 (.fl 5 (.fl 6 (.fl 7 (.fl 8 (.fl 9 (.fl 10 (.fl 11 (.fl 12 (.fl 13 (.fl 14 (.fl 15 (.fl 16 (.fl 17 (.fl 18 (.fl 19 (.fl 20 (.fl 21 (.fl 22 (.fl 23 (.fl 24 (.fl 25 (.fl 26 (.fl 27 (.fl 28 (.fl 29 (.fl 30 (.fl 31 (.fl 32 (.fl 33 (.fl 34 (.fl 35 (.fl 36 (.fl 37 (.fl 38 (.fl 39 (.fl 40 (.fl 41 (.fl 42 (.fl 43 (.fl 44 (s)))))))))))))))))))))))))))))))))))))))))))))
def fC1_3 (s:Sch):Sch:=.fl 1 (.fl 2 (.fl 3 (s)))
def fC1_4 (s:Sch):Sch:=.fl 1 (.fl 2 (.fl 3 (.fl 4 (s))))
def fC1_5 (s:Sch):Sch:=.fl 1 (.fl 2 (.fl 3 (.fl 4 (.fl 5 (s)))))
def wMd (s:Sch):Sch:=.fl 1 (.fl 2 (.fl 3 (.fl 4 (.fl 5 (.fl 6 (.fl 7 (.fl 8 (.fl 9 (.fl 10 (.fl 11 (.fl 12 (.fl 13 (.fl 14 (.fl 15 (.fl 16 (.fl 17 (.fl 18 (.fl 19 (s)))))))))))))))))))
def wLf (s:Sch):Sch:=.fl 2 (.fl 3 (.fl 4 (.fl 5 (s))))
def wHH (s:Sch):Sch:=.fl 2 (.fl 3 (.fl 4 (.fl 5 (.fl 6 (s)))))
def wFd (s:Sch):Sch:=.fl 3 (.fl 4 (.fl 5 (s)))
def wJy (s:Sch):Sch:=.fl 3 (.fl 4 (.fl 5 (.fl 6 (s))))
def wLg (s:Sch):Sch:=.fl 3 (.fl 4 (.fl 5 (.fl 6 (.fl 7 (s)))))
def wMe (s:Sch):Sch:=.fl 4 (.fl 5 (.fl 6 (s)))
def fC4_7 (s:Sch):Sch:=.fl 4 (.fl 5 (.fl 6 (.fl 7 (s))))
def wLh (s:Sch):Sch:=.fl 4 (.fl 5 (.fl 6 (.fl 7 (.fl 8 (s)))))
def wMf (s:Sch):Sch:=.fl 4 (.fl 5 (.fl 6 (.fl 7 (.fl 8 (.fl 9 (.fl 10 (.fl 11 (.fl 12 (.fl 13 (.fl 14 (.fl 15 (.fl 16 (.fl 17 (.fl 18 (.fl 19 (.fl 20 (.fl 21 (.fl 22 (.fl 23 (s))))))))))))))))))))
def wKh (s:Sch):Sch:=.fl 5 (.fl 6 (.fl 7 (s)))
def wGd (s:Sch):Sch:=.fl 5 (.fl 6 (.fl 7 (.fl 8 (s))))
def wHq (s:Sch):Sch:=.fl 5 (.fl 6 (.fl 7 (.fl 8 (.fl 9 (s)))))
def wKz (s:Sch):Sch:=.fl 5 (.fl 6 (.fl 7 (.fl 8 (.fl 9 (.fl 10 (.fl 11 (.fl 12 (.fl 13 (.fl 14 (.fl 15 (s)))))))))))
def wLi (s:Sch):Sch:=.fl 6 (.fl 7 (.fl 8 (s)))
def wMg (s:Sch):Sch:=.fl 6 (.fl 7 (.fl 8 (.fl 9 (.fl 10 (s)))))
def wLA (s:Sch):Sch:=.fl 6 (.fl 7 (.fl 8 (.fl 9 (.fl 10 (.fl 11 (.fl 12 (s)))))))
def fC7_9 (s:Sch):Sch:=.fl 7 (.fl 8 (.fl 9 (s)))
def wLB (s:Sch):Sch:=.fl 7 (.fl 8 (.fl 9 (.fl 10 (.fl 11 (s)))))
def wLC (s:Sch):Sch:=.fl 7 (.fl 8 (.fl 9 (.fl 10 (.fl 11 (.fl 12 (s))))))
def wLD (s:Sch):Sch:=.fl 7 (.fl 8 (.fl 9 (.fl 10 (.fl 11 (.fl 12 (.fl 13 (s)))))))
def wGm (s:Sch):Sch:=.fl 8 (.fl 9 (.fl 10 (s)))
def wHr (s:Sch):Sch:=.fl 8 (.fl 9 (.fl 10 (.fl 11 (s))))
def wMh (s:Sch):Sch:=.fl 9 (.fl 10 (.fl 11 (.fl 12 (s))))
def wLE (s:Sch):Sch:=.fl 9 (.fl 10 (.fl 11 (.fl 12 (.fl 13 (.fl 14 (s))))))
def wLj (s:Sch):Sch:=.fl 10 (.fl 11 (.fl 12 (.fl 13 (s))))
def wJz (s:Sch):Sch:=.fl 11 (.fl 12 (.fl 13 (.fl 14 (s))))
def wKA (s:Sch):Sch:=.fl 16 (.fl 17 (.fl 18 (.fl 19 (s))))
def wIP (s:Sch):Sch:=.fl 20 (.fl 21 (.fl 22 (s)))
def wLk (s:Sch):Sch:=.fl 22 (.fl 23 (.fl 24 (s)))
def wLl (s:Sch):Sch:=.fl 47 (.fl 48 (.fl 49 (.fl 50 (s))))
theorem zA:type_of% @nE:=@nE
theorem zB:type_of% @wJM:=@wJM
theorem zC:type_of% @Try.sizeOf3:=@Try.sizeOf3
theorem zD:type_of% @Enters.mk:=@Enters.mk
theorem zE:type_of% @Runs.fa:=@Runs.fa
theorem zF:type_of% @OKS.callH:=@OKS.callH
theorem zG:type_of% @Try.isAgg3:=@Try.isAgg3
theorem zH:type_of% @Try.sizeOf104:=@Try.sizeOf104
theorem zI:type_of% @Try.runUnderlying28:=@Try.runUnderlying28
theorem zJ:type_of% @wKi:=@wKi
theorem zK:type_of% @Try.runUnderlying23:=@Try.runUnderlying23
theorem zL:type_of% @wGn:=@wGn
theorem zM:type_of% @CK.seq:=@CK.seq
theorem zN:type_of% @Runs.pickT:=@Runs.pickT
theorem zO:type_of% @Hid.mk:=@Hid.mk
theorem zP:type_of% @PHeap.Le.refl:=@PHeap.Le.refl
theorem zQ:type_of% @OKS.alloc:=@OKS.alloc
theorem zR:type_of% @CK.ret:=@CK.ret
theorem zS:type_of% @wGr:=@wGr
theorem zT:type_of% @Runs.ext:=@Runs.ext
theorem zU:type_of% @OKS.st:=@OKS.st
theorem zV:type_of% @wFt:=@wFt
theorem zW:type_of% @wJL:=@wJL
theorem zX:type_of% @Try.runUnderlying41:=@Try.runUnderlying41
theorem zY:type_of% @Try.sizeOf28:=@Try.sizeOf28
theorem zZ:type_of% @Try.sizeOf41:=@Try.sizeOf41
theorem za:type_of% @Runs.addw:=@Runs.addw
theorem zb:type_of% @Try.zeroValue104:=@Try.zeroValue104
theorem zc:type_of% @OKS.r:=@OKS.r
theorem zd:type_of% @CK.block:=@CK.block
theorem ze:type_of% @Runs.lss:=@Runs.lss
theorem zf:type_of% @Try.isAgg28:=@Try.isAgg28
theorem zg:type_of% @Runs.pickF:=@Runs.pickF
theorem zh:type_of% @OKS.e:=@OKS.e
theorem zi:type_of% @Try.zeroValue41:=@Try.zeroValue41
theorem zj:type_of% @Try.isAgg104:=@Try.isAgg104
theorem zk:type_of% @Runs.build:=@Runs.build
theorem zl:type_of% @Try.runUnderlying78:=@Try.runUnderlying78
theorem zm:type_of% @OKS.both:=@OKS.both
theorem zn:type_of% @Try.runUnderlying24:=@Try.runUnderlying24
theorem zo:type_of% @wJK:=@wJK
theorem zq:type_of% @wIS:=@wIS
theorem zr:type_of% @OKS.buildSlice:=@OKS.buildSlice
theorem zt:type_of% @CK.anyOrd:=@CK.anyOrd
theorem zu:type_of% @Try.mixed:=@Try.mixed
theorem zw:type_of% @OKS.rm:=@OKS.rm
theorem zx:type_of% @Runs.len:=@Runs.len
theorem zy:type_of% @OKS.box:=@OKS.box
theorem zz:type_of% @Try.zeroValue3:=@Try.zeroValue3
theorem ZA:type_of% @wIQ:=@wIQ
theorem ZB:type_of% @Try.sizeOf23:=@Try.sizeOf23
theorem ZC:type_of% @OKS.px:=@OKS.px
theorem ZD:type_of% @wLq:=@wLq
theorem ZE:type_of% @CK.condF:=@CK.condF
theorem ZF:type_of% @OKS.m:=@OKS.m
theorem ZG:type_of% @Try.sizeOf45:=@Try.sizeOf45
theorem ZH:type_of% @Runs.to:=@Runs.to
theorem ZI:type_of% @CK.condT:=@CK.condT
theorem ZJ:type_of% @Try.runUnderlying39:=@Try.runUnderlying39
theorem ZK:type_of% @Try.isAgg23:=@Try.isAgg23
theorem ZL:type_of% @res1:=@res1
theorem ZM:type_of% @Try.runUnderlying124:=@Try.runUnderlying124
theorem ZN:type_of% @Try.runUnderlying26:=@Try.runUnderlying26
theorem ZO:type_of% @Try.sizeOf26:=@Try.sizeOf26
theorem ZP:type_of% @Try.runUnderlying121:=@Try.runUnderlying121
theorem ZQ:type_of% @OKS.mx2:=@OKS.mx2
theorem ZR:type_of% @OKS.cutD:=@OKS.cutD
theorem ZS:type_of% @Try.runUnderlying25:=@Try.runUnderlying25
theorem ZT:type_of% @Runs.nilp:=@Runs.nilp
theorem ZU:type_of% @Try.sizeOf169:=@Try.sizeOf169
theorem ZV:type_of% @wIR:=@wIR
theorem ZW:type_of% @Try.sizeOf39:=@Try.sizeOf39
theorem ZX:type_of% @Try.zeroValue39:=@Try.zeroValue39
theorem ZY:type_of% @Try.isAgg45:=@Try.isAgg45
theorem ZZ:type_of% @Try.call32:=@Try.call32
theorem Za:type_of% @Try.runUnderlying118:=@Try.runUnderlying118
theorem Zb:type_of% @CK.exit:=@CK.exit
theorem Zc:type_of% @Try.runUnderlying43:=@Try.runUnderlying43
theorem Zd:type_of% @Runs.iaI:=@Runs.iaI
theorem Ze:type_of% @Runs.neq:=@Runs.neq
theorem Zf:type_of% @OKS.p:=@OKS.p
theorem Zg:type_of% @Runs.notT:=@Runs.notT
theorem Zh:type_of% @Try.sizeOf78:=@Try.sizeOf78
theorem Zi:type_of% @wLp:=@wLp
theorem Zj:type_of% @Try.sizeOf24:=@Try.sizeOf24
theorem Zk:type_of% @Runs.iaN:=@Runs.iaN
theorem Zl:type_of% @Try.sizeOf25:=@Try.sizeOf25
theorem Zm:type_of% @Try.zeroValue118:=@Try.zeroValue118
theorem Zn:type_of% @Try.isAgg41:=@Try.isAgg41
theorem Zo:type_of% @CK.skip:=@CK.skip
theorem Zp:type_of% @Try.runUnderlying170:=@Try.runUnderlying170
theorem Zq:type_of% @Try.runUnderlying112:=@Try.runUnderlying112
theorem Zr:type_of% @Try.isAgg24:=@Try.isAgg24
theorem Zs:type_of% @Try.isAgg26:=@Try.isAgg26
theorem Zt:type_of% @OKS.callHT:=@OKS.callHT
theorem Zu:type_of% @Try.zeroValue45:=@Try.zeroValue45
theorem Zv:type_of% @Try.runUnderlying169:=@Try.runUnderlying169
theorem Zw:type_of% @OKS.append:=@OKS.append
theorem Zx:type_of% @Try.runUnderlying94:=@Try.runUnderlying94
theorem Zy:type_of% @Try.zeroValue78:=@Try.zeroValue78
theorem Zz:type_of% @Try.isAgg78:=@Try.isAgg78
theorem yA:type_of% @Try.sizeOf43:=@Try.sizeOf43
theorem yC:type_of% @Try.zeroValue28:=@Try.zeroValue28
theorem yD:type_of% @Try.isAgg25:=@Try.isAgg25
theorem yE:type_of% @Try.zeroValue169:=@Try.zeroValue169
theorem yF:type_of% @Try.sizeOf121:=@Try.sizeOf121
theorem yG:type_of% @Try.call48:=@Try.call48
theorem yH:type_of% @Try.sizeOf118:=@Try.sizeOf118
theorem yI:type_of% @OKS.ra:=@OKS.ra
theorem yJ:type_of% @Try.isAgg121:=@Try.isAgg121
theorem yK:type_of% @Try.runUnderlying45:=@Try.runUnderlying45
theorem yL:type_of% @Try.call49:=@Try.call49
theorem yM:type_of% @Try.sizeOf74:=@Try.sizeOf74
theorem yN:type_of% @Try.zeroValue99:=@Try.zeroValue99
theorem yO:type_of% @Runs.eql:=@Runs.eql
theorem yP:type_of% @Runs.subw:=@Runs.subw
theorem yQ:type_of% @Try.runUnderlying69:=@Try.runUnderlying69
theorem yR:type_of% @Try.call75:=@Try.call75
theorem yS:type_of% @CK.cut:=@CK.cut
theorem yU:type_of% @Try.isAgg74:=@Try.isAgg74
theorem yV:type_of% @Try.call103:=@Try.call103
theorem yW:type_of% @OKS.mt:=@OKS.mt
theorem yX:type_of% @CK.forN:=@CK.forN
theorem yY:type_of% @Try.isAgg169:=@Try.isAgg169
theorem yZ:type_of% @Try.zeroValue43:=@Try.zeroValue43
theorem ya:type_of% @OKS.stR:=@OKS.stR
theorem yb:type_of% @Try.underlying23:=@Try.underlying23
theorem yd:type_of% @Try.runUnderlying3:=@Try.runUnderlying3
theorem ye:type_of% @Runs.gtr:=@Runs.gtr
theorem yf:type_of% @Try.runUnderlying130:=@Try.runUnderlying130
theorem yg:type_of% @Try.call15:=@Try.call15
theorem yh:type_of% @CK.fresh:=@CK.fresh
theorem yi:type_of% @Runs.ixA:=@Runs.ixA
theorem yj:type_of% @Try.isAgg39:=@Try.isAgg39
theorem yk:type_of% @Try.isAgg99:=@Try.isAgg99
theorem yl:type_of% @Try.call47:=@Try.call47
theorem ym:type_of% @Try.sizeOf122:=@Try.sizeOf122
theorem yn:type_of% @Runs.neS:=@Runs.neS
end Go.Proofs.Ytlnfbjphfoipaaa
namespace Go.Proofs.Ytlnfbjphfoipaaa
open Go.KL
set_option maxHeartbeats 4000000
theorem wEa (p0:List Int) (ae:Option Addr) (af:Nat) (w:World) (U:PHeap) (hS:St0 w U []) (ak:Sl U 1 ae af p0.length (hD KL.encB8 p0)) {r:wAI} (hm:wCJ p0=some r):Gv Try.prog 9 [.slice ae p0.length af] w (wBw w [] U (fun U_ L_ v=>∃ (b0:Nat) (A0p0:Option Addr) (c0p0:Nat),v=.pointer (some ⟨b0,0,none⟩)/\L_=[.blk b0 94 [.slice A0p0 r.bytes.length c0p0,jV r.next,.int .u32 r.state]]/\Sl U_ 1 A0p0 c0p0 r.bytes.length (hD KL.encB8 r.bytes))):=by
 unfold wCJ at hm
 refine Gv.of Try.func9 Z Try.ntmps9 Try.results9 Z (sR fL1 Z (oA Z Z (eN (sR gBk Z (oM Z Z ?_)))))
 let B0:List Value:=[.slice ae p0.length af,jV 0,.int .u32 17]
 refine zc rfl rfl rfl rfl (fun _=>zk (pv:=[(0,.slice ae p0.length af),(2,.int .u32 17)]) (z:=[.slice none 0 0,jV 0,.int .u32 0]) (cs:=B0) rfl (wAH rfl (wAH rfl wAO)) Try.zeroValue94 wKJ rfl rfl) (zy (cs:=B0) rfl rfl rfl rfl rfl rfl (by rfl) hS ?_)
 intro W1 b2 aj
 refine oA Z Z (eN (zR ?_))
 cases hm
 exact ⟨Z,_,(ZL Z),U,_,aj,b2,ae,af,Z,Z,ak⟩
theorem wAN (p0:wAI) (ai:Nat) (af:Option Addr) (ag:Nat) (p1:Int) (w:World) (U:PHeap) (hS:St0 w U [.blk ai 94 [.slice af p0.bytes.length ag,jV p0.next,.int .u32 p0.state]]) (ak:Sl U 1 af ag p0.bytes.length (hD KL.encB8 p0.bytes)) {r:Int × wAI} (hm:wAM p0 p1=some r):Gv Try.prog 32 [.pointer (some ⟨ai,0,none⟩),jV p1] w (wBw w [.blk ai 94 [.slice af p0.bytes.length ag,jV p0.next,.int .u32 p0.state]] U (fun U_ L_ v=>∃ (a7:Option Addr) (a9:Nat),v=jV r.1/\L_=[.blk ai 94 [.slice a7 r.2.bytes.length a9,jV r.2.next,.int .u32 r.2.state]]/\Sl U_ 1 a7 a9 r.2.bytes.length (hD KL.encB8 r.2.bytes))):=by
 unfold wAM at hm
 refine Gv.of Try.func32 Z Try.ntmps32 Try.results32 Z (sR fL1 Z (oA Z Z (eN (zM (sR fL10 Z (oM Z Z (oR Z (Runs.leq Z Z Z) (oM Z Z ?_))))))))
 by_cases c2:p1 <= 1
 have bc:=hm;rw [if_pos c2] at bc;replace c2:=zO c2
 refine oT Z c2 (oT Z c2 (oT Z c2 (oT Z c2 (oT Z c2 (oT Z c2 (oR Z (zN Z (Zi c2.out) Z) (eN (ZI Z (sR fL1 Z (oA Z Z (eN (zR (zW ?_)))))))))))))
 cases bc
 exact ⟨Z,_,(ZL Z),U,_,hS,af,ag,Z,Z,ak⟩
 have bd:=hm;rw [if_neg c2] at bd;replace c2:=zO c2
 refine zw Z Z Z (wF Z c2) Z Z (rU Z (wF Z c2) (ZT Z Z) (rU Z (wF Z c2) (zE Z Z Zx Z Try.sizeOf22) (ZF Z Z Z (wF Z c2) (hS.ldB (j:=0) Z Z Z Try.isAgg22 (v:=.slice af p0.bytes.length ag) Z) Z (rU Z (wF Z c2) (zx Z Z Try.runUnderlying22) (rU Z (wF Z c2) (yO Z Z Z) (oR Z (zg Z (ZD c2.out) Z) (eN (ifc bd ?_ ?_))))))))
 intro c5 bE
 refine cT Z c5 (sR fL1 Z (oA Z Z (eN (zR (zW ?_)))))
 cases bE
 exact ⟨Z,_,(ZL Z),U,_,hS,af,ag,Z,Z,ak⟩
 intro c5 bF
 refine cF Z c5 (kN (zM (zt zu [3,3,3,1,3,3,3,1,3,3,3,1,3,3,3,1,3,3,3,3,1,3,3,3,1,3,3,3,3,3] fL30 (by kernel_rfl) ?_)))
 have ah:=hS.drew
 generalize hw_W9:({ w with drawn:=w.drawn + 1 }:World)=W9 at ah ⊢
 refine oM Z Z (oR Z (ZT Z Z) (oR Z (zE Z Z Zx Z Try.sizeOf22) (oL Z (ah.ldB (j:=0) Z Z Z Try.isAgg22 (v:=.slice af p0.bytes.length ag) Z) (oM Z Z (oR Z (ZT Z Z) (oR Z (zE Z Z Zx Z zC) (oL Z (ah.ldB (j:=0) Z Z Z zG (v:=jV p0.next) Z) (oM Z Z (oR Z (ZT Z Z) (oR Z (zE Z Z Zx Z Try.sizeOf22) (oL Z (ah.ldB (j:=0) Z Z Z Try.isAgg22 (v:=.slice af p0.bytes.length ag) Z) (oR Z (zx Z Z Try.runUnderlying22) (bnK bF fun bL bh bs=>oR Z (Runs.rem Z Z Z bh) (bnK bs fun be az bt=>?_))))))))))))))
 have q:=ak.el (fun _=>rfl) (wAb az)
 obtain ⟨bI,bJ,bo,bp⟩:=q
 refine oR Z (Zd Z Z bo Z Try.runUnderlying22 Try.sizeOf5 (wCG az) (wCM az)) (oL Z (ah.ldC (f:=0) bp (v:=.int .u8 be) Z Z Try.isAgg5 Z) (oR Z (Runs.cvu Z Z Try.runUnderlying5 Try.runUnderlying92 Z Z) (oM Z Z (oR Z (ZT Z Z) (oR Z (zE Z Z Zx Z zC) (oL Z (ah.ldB (j:=0) Z Z Z zG (v:=jV p0.next) Z) (oM Z Z (oR Z (ZT Z Z) (oR Z (zE Z Z Zx Z Try.sizeOf22) (oL Z (ah.ldB (j:=0) Z Z Z Try.isAgg22 (v:=.slice af p0.bytes.length ag) Z) (oR Z (zx Z Z Try.runUnderlying22) (bnK bt fun bG bi bu=>oR Z (Runs.quo Z Z Z bi) (oR Z (Runs.cvu Z Z yd Try.runUnderlying92 Z Z) (oA Z Z (oA Z Z (eN (zM (yh fun aw ao=>?_))))))))))))))))))
 have am:aw 0=.pointer (some ⟨ai,0,none⟩):=(ao 0).trans rfl
 have ap:aw 1=jV p1:=(ao 1).trans rfl
 have aq:aw 5=.int .u32 (wET be):=(ao 5).trans rfl
 have ba:aw 6=.int .u32 (wET bG):=(ao 6).trans rfl
 clear ao
 refine rR (wGc (.fx 7 .nil .stop)) Z (oM Z am (oR Z (ZT Z Z) (oR Z (zE Z Z Zx Z zC) (oL Z (ah.ldB (j:=0) Z Z Z zG (v:=jV p0.next) Z) (oR Z (za Z Z Z) (oR Z (ZT Z Z) (oR Z (zE Z Z Zx Z zC) (zU (j:=0) (vs:=[jV (w64 (p0.next + 1))]) Z Z Z Z ah Z Z Z Z zC (zA Z) Z Z Z ?_))))))))
 intro bf bq
 let B0:Res:=.blk ai 94 [.slice af p0.bytes.length ag,jV p0.next,.int .u32 p0.state]
 have bb:SW w [B0] U U [.blk ai 94 [.slice af p0.bytes.length ag,jV (w64 (p0.next + 1)),.int .u32 p0.state]] bf:=bq
 refine eN (sR (wMZ (.fx 15 .nil .stop)) Z (oM Z am (oM Z am (oR Z (ZT Z Z) (oR Z (zE Z Z Zx Z Try.sizeOf92) (oL Z (bb.ldB (j:=0) Z Z Z Try.isAgg92 (v:=.int .u32 p0.state) Z) (oR Z (Runs.mulu Z Z Z) (oM Z aq (oR Z (Runs.addu Z Z Z) (oM Z ba (oR Z (Runs.mulu Z Z Z) (oR Z (Runs.addu Z Z Z) (oR Z (Runs.addu Z Z Z) (bnK bu fun av bj bv=>oR Z (Runs.rem Z Z Z bj) (oR Z (ZT Z Z) (oR Z (zE Z Z Zx Z Try.sizeOf92) (zU (j:=0) (vs:=[.int .u32 av]) Z Z Z Z bb Z Z Z Z Try.sizeOf92 (zA Z) Z Z Z ?_)))))))))))))))))
 intro bg br
 have an:SW w [B0] U U [.blk ai 94 [.slice af p0.bytes.length ag,jV (w64 (p0.next + 1)),.int .u32 av]] bg:=br
 refine eN (zM (sR fL6 Z (oM Z ba (oR Z (yO Z Z Z) (oM Z Z (ifc bv ?_ ?_))))))
 intro aj bw
 refine zw Z Z Z (wT Z aj) Z ap (rU Z (wT Z aj) (Runs.leq Z Z Z) (oR Z (zN Z (Zi aj.out) Z) (eN (ifc bw ?_ ?_))))
 intro ax bx
 refine cT Z ax (sR fL5 Z (oM Z aq (oR Z (Runs.cvw Z Z Try.runUnderlying92 yd Z Z) (oM Z ap (bnK bx fun bM bk bz=>oR Z (Runs.rem Z Z Z bk) (oA Z Z (eN (zR (zW ?_)))))))))
 cases bz
 exact ⟨Z,_,(ZL Z),U,_,an,af,ag,Z,Z,ak⟩
 intro ax bA
 refine cF Z ax (kN (sR wMX Z (oM Z am (oR Z (ZT Z Z) (oR Z (zE Z Z Zx Z Try.sizeOf92) (oL Z (an.ldB (j:=0) Z Z Z Try.isAgg92 (v:=.int .u32 av) Z) (oR Z (Runs.mulu Z Z Z) (oM Z aq (oR Z (Runs.addu Z Z Z) (oR Z (Runs.cvw Z Z Try.runUnderlying92 yd Z Z) (oM Z ap (bnK bA fun bN bm bB=>oR Z (Runs.rem Z Z Z bm) (oA Z Z (eN (zR ?_)))))))))))))))
 cases bB
 exact ⟨Z,_,(ZL Z),U,_,an,af,ag,Z,Z,ak⟩
 intro aj bC
 refine oF Z aj (oF Z aj (oR Z (zg Z (ZD aj.out) Z) (eN (ZE Z (kN (sR wMX Z (oM Z am (oR Z (ZT Z Z) (oR Z (zE Z Z Zx Z Try.sizeOf92) (oL Z (an.ldB (j:=0) Z Z Z Try.isAgg92 (v:=.int .u32 av) Z) (oR Z (Runs.mulu Z Z Z) (oM Z aq (oR Z (Runs.addu Z Z Z) (oR Z (Runs.cvw Z Z Try.runUnderlying92 yd Z Z) (oM Z ap (bnK bC fun bO bn bD=>oR Z (Runs.rem Z Z Z bn) (oA Z Z (eN (zR ?_)))))))))))))))))))
 cases bD
 exact ⟨Z,_,(ZL Z),U,_,an,af,ag,Z,Z,ak⟩
theorem wAa (p0:wAI) (ae:Nat) (af:Option Addr) (ag:Nat) (p1:Int) (p2:Int) (w:World) (U:PHeap) (hS:St0 w U [.blk ae 94 [.slice af p0.bytes.length ag,jV p0.next,.int .u32 p0.state]]) (az:Sl U 1 af ag p0.bytes.length (hD KL.encB8 p0.bytes)) {r:Int × wAI} (hm:wAR p0 p1 p2=some r):Gv Try.prog 31 [.pointer (some ⟨ae,0,none⟩),jV p1,jV p2] w (wBw w [.blk ae 94 [.slice af p0.bytes.length ag,jV p0.next,.int .u32 p0.state]] U (fun U_ L_ v=>∃ (am:Option Addr) (ap:Nat),v=jV r.1/\L_=[.blk ae 94 [.slice am r.2.bytes.length ap,jV r.2.next,.int .u32 r.2.state]]/\Sl U_ 1 am ap r.2.bytes.length (hD KL.encB8 r.2.bytes))):=by
 unfold wAR at hm
 refine Gv.of Try.func31 Z Try.ntmps31 Try.results31 Z (sR fL1 Z (oA Z Z (eN (sR (wHG gBa) Z (oM Z Z (oM Z Z (oM Z Z (oM Z Z (oR Z (yP Z Z Z) (oR Z (za Z Z Z) ?_))))))))))
 have q:=bnd hm
 obtain ⟨⟨x2,x3⟩,h4,aq⟩:=q
 try dsimp only at aq
 refine zF 1 Z Z Z Z (zD Z Z ZZ (zB Z (zB Z zJ)) Z) hS (fun hs=>wAN p0 ae af ag (w64 ((w64 (p2 - p1)) + 1)) w U hs az h4) (.inl Z) ?_
 rintro U6 L7 v8 W9 a8 ax ⟨ak,ao,rfl,rfl,av⟩
 have ay:SW w [.blk ae 94 [.slice af p0.bytes.length ag,jV p0.next,.int .u32 p0.state]] U U6 [.blk ae 94 [.slice ak x3.bytes.length ao,jV x3.next,.int .u32 x3.state]] W9:=ax
 refine oR Z (za Z Z Z) (oA Z Z (eN (zR ?_)))
 cases aq
 exact ⟨Z,_,(ZL Z),U6,_,ay,ak,ao,Z,Z,av⟩
theorem wEs (p0:wAI) (ae:Nat) (fb:Option Addr) (fc:Nat) (p1:Int) (p2:Int) (p3:Int) (w:World) (U:PHeap) (hS:St0 w U [.blk ae 94 [.slice fb p0.bytes.length fc,jV p0.next,.int .u32 p0.state]]) (Ef:Sl U 1 fb fc p0.bytes.length (hD KL.encB8 p0.bytes)) {r:wAE × (List (List Int)) × (List Int) × wAI} (hm:wBl p0 p1 p2 p3=some r):Gv Try.prog 8 [.pointer (some ⟨ae,0,none⟩),jV p1,jV p2,jV p3] w (wBw w [.blk ae 94 [.slice fb p0.bytes.length fc,jV p0.next,.int .u32 p0.state]] U (fun U_ L_ v=>∃ (jZ:Option Addr) (mM:Nat) (j0:Option Addr) (mN:Nat) (j1:Option Addr) (mO:Nat) (j2:Option Addr) (mP:Nat) (A1:Option Addr) (c1:Nat) (A2:Option Addr) (c2:Nat) (ly:Option Addr) (ot:Nat),v=.tuple #[.agg #[.slice jZ r.1.Starts.length mM,.slice j0 r.1.Splits.length mN,.slice j1 r.1.Clocks.length mO,.slice j2 r.1.Readings.length mP],.slice A1 r.2.1.length c1,.slice A2 r.2.2.1.length c2]/\L_=[.row jZ mM 3 1 (hD KL.encI r.1.Starts),.row j0 mN 41 2 (hD wAC r.1.Splits),.row j1 mO 43 3 (hD wAA r.1.Clocks),.row j2 mP 39 4 (hD wAB r.1.Readings),.row A2 c2 3 1 (hD KL.encI r.2.2.1),.blk ae 94 [.slice ly r.2.2.2.bytes.length ot,jV r.2.2.2.next,.int .u32 r.2.2.2.state]]/\SlR U_ wJI A1 c1 r.2.1/\Sl U_ 1 ly ot r.2.2.2.bytes.length (hD KL.encB8 r.2.2.2.bytes))):=by
 unfold wBl at hm
 refine Gv.of Try.func8 Z Try.ntmps8 Try.results8 Z (sR (.fx 0 gAl .stop) Z ?_)
 let B0:List Value:=[.slice none 0 0,.slice none 0 0,.slice none 0 0,.slice none 0 0]
 refine zQ (cs:=B0) Z Z Z Z Z yC Z hS ?_
 intro W2 b3 Ds
 refine oA Z Z (oA Z Z (eN (sR (.fx 0 .nil .stop) Z (zQ (cs:=B0) Z Z Z Z Z yC Z Ds ?_))))
 intro W6 b7 DN
 refine eN (sR fL1 Z (oA Z Z (eN (sR fL1 Z (oA Z Z (eN (zM (sR gBk Z (oM Z Z (oM Z Z ?_))))))))))
 have q:=bnd hm
 obtain ⟨⟨gN,jG⟩,z4,qG⟩:=q
 try dsimp only at qG
 let B1:Res:=.blk ae 94 [.slice fb p0.bytes.length fc,jV p0.next,.int .u32 p0.state]
 have BL:SW w [B1] U U [B1,.blk b7 28 B0,.blk b3 28 B0] W6:=DN.pick [2,0,1] _ (by decide) rfl
 refine zF 1 Z Z Z Z (zD Z Z Try.call31 (zB Z (zB Z (zB Z zJ))) Z) BL (fun hs=>wAa p0 ae fb fc 1 p1 W6 U hs Ef z4) (.inl Z) ?_
 rintro iv F6 Hs sq Hf CP ⟨lj,n5,rfl,rfl,AL⟩
 have Dg:SW w [B1] U iv [.blk ae 94 [.slice lj jG.bytes.length n5,jV jG.next,.int .u32 jG.state],.blk b7 28 B0,.blk b3 28 B0] sq:=CP
 refine oM Z Z (eN (zd ?_))
 have q:=bnd qG
 obtain ⟨⟨FU,FV,FW,ay⟩,Eo,qW⟩:=q
 try dsimp only at qW
 have q:=wAx Eo
 obtain ⟨jz,Ep⟩:=q
 replace jz:=zO jz
 refine CK.forN' (fun eO (eY,jR,jS,cG) σ_ w_=>∃ (U_:PHeap) (fJ:Option Addr) (gm:Nat) (cQ:Option Addr) (da:Nat),σ_ 28=jV (↑eO:Int)/\σ_ 0=.pointer (some ⟨ae,0,none⟩)/\σ_ 2=jV p2/\σ_ 3=jV p3/\σ_ 8=.pointer (some ⟨b3,0,none⟩)/\σ_ 11=.pointer (some ⟨b7,0,none⟩)/\σ_ 12=.slice none 0 0/\σ_ 13=.slice none 0 0/\σ_ 27=jV gN/\PHeap.Le iv U_/\SW w [B1] U U_ [.blk ae 94 [.slice fJ eY.length gm,jV jR,.int .u32 jS],.row cQ da 3 1 (hD KL.encI cG),.blk b7 28 [.slice cQ cG.length da,.slice none 0 0,.slice none 0 0,.slice none 0 0],.blk b3 28 B0] w_/\Sl U_ 1 fJ gm eY.length (hD KL.encB8 eY)) Ep ?_ ?_ ?_
 have DJ:=Dg.nilrow 3 1
 exact ⟨iv,lj,n5,none,0,rfl,rfl,rfl,rfl,rfl,rfl,rfl,rfl,rfl,(zP _),(DJ.pick [1,0,2,3] _ (by decide) rfl),AL⟩
 rintro eO ⟨eY,jR,jS,cG⟩ HR Il mD jt ⟨rW,fJ,gm,cQ,da,qe,i7,yt,yu,yv,i8,yw,yy,qc,FD,DR,Bn⟩ rh
 try dsimp only at rh
 have oq:Hid ((↑eO:Int) < gN):=zO (wAs jt)
 replace jt:=zO jt
 have ED:Hid (w64 ((↑eO:Int) + 1)=(↑(eO + 1):Int)):=zO (by have h1:=jz.out;have h2:=oq.out;rw [wAU] <;> omega)
 refine sR fL1 rfl (zc rfl rfl rfl rfl (fun _=>ze rfl qe qc) (eN (zM (cT Z oq (kN (zM (zd (zt zu [3,1004,3,1005,3,3,1005,3,2,0,3,0,ae] (wDF (.fl 5 (.fx 3 (.fl 4 (.fx 6 (.fl 7 (.fx 8 (.fx 9 (.fl 10 (.fx 11 .nil .stop)) .stop) .stop)) .stop)) .stop))) (by kernel_rfl) ?_))))))))
 have jh:=DR.drew
 generalize hw_W140:({ mD with drawn:=mD.drawn + 1 }:World)=r9 at jh ⊢
 refine oR Z (zE Z i8 zI Z ZB) ?_
 let B2:Res:=.blk b7 28 [.slice cQ cG.length da,.slice none 0 0,.slice none 0 0,.slice none 0 0]
 let B3:Res:=.row cQ da 3 1 (hD KL.encI cG)
 refine yW (T:=[ae]) [0] [1,2,3] [B3,B2,.blk b3 28 B0] rfl rfl rfl rfl jh rfl ⟨⟨0,by decide,_,rfl,rfl⟩,trivial⟩ (by decide) rfl (by decide) (fun _ D1=>(D1.ldB (j:=1) rfl rfl rfl ZK (v:=.slice cQ cG.length da) rfl)) rfl (zw rfl rfl rfl rfl rfl i7 (zw rfl rfl rfl rfl rfl i7 ?_))
 have q:=bnd rh
 obtain ⟨⟨fd,gO⟩,Ab,qH⟩:=q
 try dsimp only at qH
 refine Zt 1 rfl rfl rfl rfl (zD rfl rfl ZZ (zB rfl (zB rfl zJ)) rfl) jh (fun hs=>wAN (⟨eY,jR,jS⟩:wAI) ae fJ gm 4 r9 rW hs Bn Ab) rfl (T:=[ae]) rfl ⟨fun b h=>(by cases h;exact .head _),trivial⟩ ?_
 rintro l8 F5 Hp mo Fh BP ⟨j8,mV,rfl,rfl,Ac⟩
 have BS:SW w [B1] U l8 [.blk ae 94 [.slice j8 gO.bytes.length mV,jV gO.next,.int .u32 gO.state],B3,B2,.blk b3 28 B0] mo:=BP
 refine oR Z (Runs.mulw Z Z Z) ?_
 have q:=bnd qH
 obtain ⟨⟨ff,jH⟩,Ae,qI⟩:=q
 try dsimp only at qI
 refine Zt 1 rfl rfl rfl rfl (zD rfl rfl ZZ (zB rfl (zB rfl zJ)) rfl) BS (fun hs=>wAN gO ae j8 mV 3 mo l8 hs Ac Ae) rfl (T:=[ae]) rfl ⟨fun b h=>(by cases h;exact .head _),trivial⟩ ?_
 rintro dP F7 Hq sl Fi Cd ⟨k5,mY,rfl,rfl,Ai⟩
 let B4:Res:=.blk ae 94 [.slice k5 jH.bytes.length mY,jV jH.next,.int .u32 jH.state]
 have Ch:SW w [B1] U dP [B4,B3,B2,.blk b3 28 B0] sl:=Cd
 refine oR Z (za Z Z Z) (zr (pv:=[(0,jV (w64 ((w64 (300 * fd)) + ff)))]) (zs:=[jV 0]) (cs:=[jV (w64 ((w64 (300 * fd)) + ff))]) Z Z Z Z Z (wAH Z wAO) zK zC zz Z Z Z Z Z Ch ?_)
 intro so tg Cm
 let B5:Res:=.row (some ⟨tg,0,none⟩) 1 3 1 (hD KL.encI [w64 ((w64 (300 * fd)) + ff)])
 have qv:SW w [B1] U dP [B5,B4,B3,B2,.blk b3 28 B0] so:=Cm
 refine bnK qI fun gP An EE=>Zw (j:=2) (enc:=KL.encI) (xs:=cG) (ys:=[w64 ((w64 (300 * fd)) + ff)]) (zs:=gP) rfl rfl rfl rfl rfl yb wGu rfl rfl rfl rfl rfl rfl qv rfl rfl rfl (qv.srcR (j:=0) rfl (by decide) (wAD (f:=KL.encI) (sz:=1) (fun _=>rfl) [w64 ((w64 (300 * fd)) + ff)])) (fun _=>rfl) (fun _=>rfl) An rfl ?_
 intro fC ge sr Cp
 let B6:Res:=.row fC ge 3 1 (hD KL.encI gP)
 have Cr:SW w [B1] U dP [B5,B4,B6,B2,.blk b3 28 B0] sr:=Cp
 refine oR Z (zE Z i8 zI Z ZB) (zU (j:=3) (vs:=[.slice fC gP.length ge]) Z Z Z Z Cr Z Z Z Z ZB (zA Z) Z Z Z ?_)
 intro ss Cs
 have Ct:SW w [B1] U dP [B5,B4,B6,.blk b7 28 [.slice fC gP.length ge,.slice none 0 0,.slice none 0 0,.slice none 0 0],.blk b3 28 B0] ss:=Cs
 refine zh (ZA (zL (rR fL2 Z (oR Z (ZH (za Z qe Z) (congrArg (jV) ED.out)) (oM Z Z (zh ?_))))))
 cases EE
 exact zL ⟨rfl,⟨dP,k5,mY,fC,ge,rfl,i7,yt,yu,yv,i8,yw,yy,qc,((FD.trans Fh).trans Fi),(Ct.pick [1,2,3,4] _ (by decide) rfl),Ai⟩⟩
 rintro Ib sA ⟨rS,rJ,tt,bf,bg,y5,pW,xc,xd,xe,xf,xg,xh,xi,Hg,C3,AD⟩
 have tu:Hid (¬ ((↑((gN:Int) - 0).toNat:Int) < gN)):=zO (wAc)
 refine sR fL1 Z (oR Z (ze Z y5 xi) (eN (zM (cF Z tu (Zb (zo (zo (ZV (zL (zM (sR gBk Z (oM Z pW (oM Z xc ?_)))))))))))))
 have q:=bnd qW
 obtain ⟨⟨gS,jL⟩,AI,qP⟩:=q
 try dsimp only at qP
 refine zF 1 Z Z Z Z (zD Z Z ZZ (zB Z (zB Z zJ)) Z) C3 (fun hs=>wAN (⟨FU,FV,FW⟩:wAI) ae rJ tt p2 sA rS hs AD AI) (.inl Z) ?_
 rintro iE Gj HD sP Hh De ⟨ll,n7,rfl,rfl,AM⟩
 let B7:Res:=.row bf bg 3 1 (hD KL.encI ay)
 have Df:SW w [B1] U iE [.blk ae 94 [.slice ll jL.bytes.length n7,jV jL.next,.int .u32 jL.state],B7,.blk b7 28 [.slice bf ay.length bg,.slice none 0 0,.slice none 0 0,.slice none 0 0],.blk b3 28 B0] sP:=De
 refine oM Z Z (eN (zd ?_))
 have q:=bnd qP
 obtain ⟨⟨HT,HU,HV,az⟩,Ei,qQ⟩:=q
 try dsimp only at qQ
 have q:=wAx Ei
 obtain ⟨jw,Ej⟩:=q
 replace jw:=zO jw
 refine CK.forN' (fun eJ (eU,jM,jN,cE) σ_ w_=>∃ (U_:PHeap) (fG:Option Addr) (gh:Nat) (cP:Option Addr) (c6:Nat),σ_ 45=jV (↑eJ:Int)/\σ_ 0=.pointer (some ⟨ae,0,none⟩)/\σ_ 3=jV p3/\σ_ 8=.pointer (some ⟨b3,0,none⟩)/\σ_ 11=.pointer (some ⟨b7,0,none⟩)/\σ_ 12=.slice none 0 0/\σ_ 13=.slice none 0 0/\σ_ 44=jV gS/\PHeap.Le iE U_/\SW w [B1] U U_ [.blk ae 94 [.slice fG eU.length gh,jV jM,.int .u32 jN],B7,.row cP c6 41 2 (hD wAC cE),.blk b7 28 [.slice bf ay.length bg,.slice cP cE.length c6,.slice none 0 0,.slice none 0 0],.blk b3 28 B0] w_/\Sl U_ 1 fG gh eU.length (hD KL.encB8 eU)) Ej ?_ ?_ ?_
 have Dh:=Df.nilrow 41 2
 exact ⟨iE,ll,n7,none,0,rfl,pW,xd,xe,xf,xg,xh,rfl,(zP _),(Dh.pick [1,2,0,3,4] _ (by decide) rfl),AM⟩
 rintro eJ ⟨eU,jM,jN,cE⟩ HO If sQ jp ⟨rT,fG,gh,cP,c6,qd,i5,xn,xo,i6,xp,xq,pZ,Fw,Di,AN⟩ rd
 try dsimp only at rd
 have n8:Hid ((↑eJ:Int) < gS):=zO (wAs jp)
 replace jp:=zO jp
 have Ez:Hid (w64 ((↑eJ:Int) + 1)=(↑(eJ + 1):Int)):=zO (by have h1:=jw.out;have h2:=n8.out;rw [wAU] <;> omega)
 refine sR fL1 Z (oR Z (ze Z qd pZ) (eN (zM (cT Z n8 (kN (zM (zd (sR (.fl 0 gBb) Z (oM Z i5 ?_)))))))))
 have q:=bnd rd
 obtain ⟨⟨bN,gT⟩,AP,qR⟩:=q
 try dsimp only at qR
 refine zF 1 Z Z Z Z (zD Z Z Try.call31 (zB Z (zB Z (zB Z zJ))) Z) Di (fun hs=>wAa (⟨eU,jM,jN⟩:wAI) ae fG gh 3 9 sQ rT hs AN AP) (.inl Z) ?_
 rintro mg Gk HE iJ Fx Dj ⟨lm,n9,rfl,rfl,AQ⟩
 let B8:Res:=.blk b7 28 [.slice bf ay.length bg,.slice cP cE.length c6,.slice none 0 0,.slice none 0 0]
 let B9:Res:=.row cP c6 41 2 (hD wAC cE)
 have Dk:SW w [B1] U mg [.blk ae 94 [.slice lm gT.bytes.length n9,jV gT.next,.int .u32 gT.state],B7,B9,B8,.blk b3 28 B0] iJ:=Dj
 refine zc rfl rfl rfl rfl (fun _=>Runs.mulw rfl rfl rfl) (yI rfl rfl rfl rfl rfl rfl (eN (zt zu [3,1004,3,3,3,1005,3,3,3,2,0,3,0,ae] (wFk (.fx 5 (wLi (.fx 9 (.fx 10 (.fl 11 (.fx 12 .nil .stop)) .stop) .stop)) .stop)) (by kernel_rfl) ?_)))
 have ji:=Dk.drew
 generalize hw_W351:({ iJ with drawn:=iJ.drawn + 1 }:World)=sS at ji ⊢
 refine zc rfl rfl rfl rfl (fun _=>zE rfl i6 zI rfl Zj) (yW (T:=[ae]) [0] [1,2,3,4] [B7,B9,B8,.blk b3 28 B0] rfl rfl rfl rfl ji rfl ⟨⟨0,by decide,_,rfl,rfl⟩,trivial⟩ (by decide) rfl (by decide) (fun _ Ee=>(Ee.ldB (j:=2) rfl rfl rfl Zr (v:=.slice cP cE.length c6) rfl)) rfl (zw rfl rfl rfl rfl rfl rfl (zw rfl rfl rfl rfl rfl rfl (zw rfl rfl rfl rfl rfl i5 ?_))))
 have q:=bnd qR
 obtain ⟨⟨fj,jO⟩,AS,qS⟩:=q
 try dsimp only at qS
 refine Zt 1 rfl rfl rfl rfl (zD rfl rfl ZZ (zB rfl (zB rfl zJ)) rfl) ji (fun hs=>wAN gT ae lm n9 30 sS mg hs AQ AS) rfl (T:=[ae]) rfl ⟨fun b h=>(by cases h;exact .head _),trivial⟩ ?_
 rintro dQ Gl HF sT Fy Dl ⟨ln,oa,rfl,rfl,AT⟩
 let fM:Res:=.blk ae 94 [.slice ln jO.bytes.length oa,jV jO.next,.int .u32 jO.state]
 have Dm:SW w [B1] U dQ [fM,B7,B9,B8,.blk b3 28 B0] sT:=Dl
 refine oR Z (Runs.mulw Z Z Z) (oR Z (za Z Z Z) ?_)
 let ij:List Value:=[jV (w64 (100 * bN)),jV (w64 ((w64 (100 * bN)) + (w64 (10 * fj))))]
 refine oR Z (zk (pv:=[(0,jV (w64 (100 * bN))),(1,jV (w64 ((w64 (100 * bN)) + (w64 (10 * fj)))))]) (z:=[jV 0,jV 0]) (cs:=ij) Z (wAH Z (wAH Z wAO)) zi wBd Z Z) (zr (pv:=[(0,.agg ij.toArray)]) (zs:=[jV 0,jV 0]) (cs:=ij) Z Z Z Z Z (wAH Z wAO) zn zZ zi Z Z Z Z Z Dm ?_)
 intro sU tm Dn
 let ik:Res:=.row (some ⟨tm,0,none⟩) 1 41 2 (hD wAC [(⟨w64 (100 * bN),w64 ((w64 (100 * bN)) + (w64 (10 * fj)))⟩:wAF)])
 have qB:SW w [B1] U dQ [ik,fM,B7,B9,B8,.blk b3 28 B0] sU:=Dn
 refine bnK qS fun gU AU EO=>Zw (j:=3) (enc:=wAC) (xs:=cE) (ys:=[(⟨w64 (100 * bN),w64 ((w64 (100 * bN)) + (w64 (10 * fj)))⟩:wAF)]) (zs:=gU) rfl rfl rfl rfl rfl Try.underlying24 wJc rfl rfl rfl rfl rfl rfl qB rfl rfl rfl (qB.srcR (j:=0) rfl (by decide) (wAD (f:=wAC) (sz:=2) (fun _=>rfl) [(⟨w64 (100 * bN),w64 ((w64 (100 * bN)) + (w64 (10 * fj)))⟩:wAF)])) (fun _=>rfl) (fun _=>rfl) AU rfl ?_
 intro fH gi sV Do
 let lz:Res:=.row fH gi 41 2 (hD wAC gU)
 have Dp:SW w [B1] U dQ [ik,fM,B7,lz,B8,.blk b3 28 B0] sV:=Do
 refine oR Z (zE Z i6 zI Z Zj) (zU (j:=4) (vs:=[.slice fH gU.length gi]) Z Z Z Z Dp Z Z Z Z Zj (zA Z) Z Z Z ?_)
 intro sX Dq
 have Dr:SW w [B1] U dQ [ik,fM,B7,lz,.blk b7 28 [.slice bf ay.length bg,.slice fH gU.length gi,.slice none 0 0,.slice none 0 0],.blk b3 28 B0] sX:=Dq
 refine zh (ZA (zL (rR fL2 Z (oR Z (ZH (za Z qd Z) (congrArg (jV) Ez.out)) (oM Z Z (zh ?_))))))
 cases EO
 exact zL ⟨rfl,⟨dQ,ln,oa,fH,gi,rfl,i5,xn,xo,i6,xp,xq,pZ,((Fw.trans Fx).trans Fy),(Dr.pick [1,2,3,4,5] _ (by decide) rfl),AT⟩⟩
 rintro Ig GI ⟨mh,rK,tw,bm,bn,y7,xr,xt,xu,p4,xv,xw,xx,Hj,qC,AW⟩
 have tx:Hid (¬ ((↑((gS:Int) - 0).toNat:Int) < gS)):=zO (wAc)
 refine sR fL1 Z (oR Z (ze Z y7 xx) (eN (zM (cF Z tx (Zb (zo (zo (ZV (zL (zM (sR fL4 Z (oR Z (zE Z p4 zI Z ZB) (oL Z (qC.ldB (j:=3) Z Z Z ZK (v:=.slice bf ay.length bg) Z) (oR Z (zx Z Z zK) (oM Z Z (eN (zd ?_)))))))))))))))))
 have q:=bnd qQ
 obtain ⟨⟨FO,FP,FQ,br⟩,Ek,qT⟩:=q
 try dsimp only at qT
 have q:=wAx Ek
 obtain ⟨jx,El⟩:=q
 replace jx:=zO jx
 let bB:Res:=.blk b7 28 [.slice bf ay.length bg,.slice bm az.length bn,.slice none 0 0,.slice none 0 0]
 refine CK.forN' (fun bY (eV,jP,jQ,eX) σ_ w_=>∃ (U_:PHeap) (dI:Option Addr) (ew:Nat) (dJ:Option Addr) (ey:Nat) (gq:List Value),σ_ 66=jV (↑bY:Int)/\σ_ 0=.pointer (some ⟨ae,0,none⟩)/\σ_ 3=jV p3/\σ_ 8=.pointer (some ⟨b3,0,none⟩)/\σ_ 11=.pointer (some ⟨b7,0,none⟩)/\σ_ 12=.slice dJ eX.length ey/\σ_ 13=.slice none 0 0/\σ_ 64=.slice bf ay.length bg/\σ_ 65=jV (↑ay.length:Int)/\PHeap.Le mh U_/\SW w [B1] U U_ [.blk ae 94 [.slice dI eV.length ew,jV jP,.int .u32 jQ],.row bf bg 3 1 (hD KL.encI ay),.row bm bn 41 2 (hD wAC az),bB,.blk b3 28 B0,.row dJ ey 23 1 gq] w_/\Sl U_ 1 dI ew eV.length (hD KL.encB8 eV)/\RlL U_ wJI eX gq) El ?_ ?_ ?_
 have Dt:=qC.nilrow 23 1
 exact ⟨mh,rK,tw,none,0,[],rfl,xr,xt,xu,p4,xv,xw,rfl,rfl,(zP _),(Dt.pick [1,2,3,4,5,0] _ (by decide) rfl),AW,RlL.nil⟩
 rintro bY ⟨eV,jP,jQ,eX⟩ HP Ih GJ jq ⟨iF,dI,ew,dJ,ey,gq,i9,xz,xA,xB,p5,xC,xD,p6,p7,Fz,jj,AX,AY⟩ re
 try dsimp only at re
 have oc:Hid ((↑bY:Int) < (↑ay.length:Int)):=zO (wAs jq)
 replace jq:=zO jq
 have EA:Hid (w64 ((↑bY:Int) + 1)=(↑(bY + 1):Int)):=zO (by have h1:=jx.out;have h2:=oc.out;rw [wAU] <;> omega)
 refine sR fL1 Z (oR Z (ze Z i9 p7) (eN (zM (cT Z oc (kN (zM (zd (sR fL3 Z (bnK re fun _ jd EP=>?_)))))))))
 obtain ⟨GS,qp⟩:=jj.rowSome (j:=1) rfl (by rw [wAD (f:=KL.encI) (sz:=1) (fun _=>rfl) ay];have hz:=wAS jd;omega)
 refine oR Z (Zk Z p6 qp i9 zK zC (wAS jd)) ?_
 have Ew:=wBL (xs:=ay) (wAS jd)
 refine ZF rfl rfl rfl rfl (jj.ldR (j:=1) rfl qp rfl rfl zG (wAV (sz:=1) (fun _=>rfl) _ _ 0 _ Ew (by first | omega | rfl | simp) rfl)) rfl (yI rfl rfl rfl rfl rfl rfl (eN (sR gBc rfl (zw rfl rfl rfl rfl rfl rfl (zr (pv:=[(0,jV (gd ay bY))]) (zs:=[jV 0]) (cs:=[jV (gd ay bY)]) rfl rfl rfl rfl rfl (wAH rfl wAO) zK zC zz rfl rfl rfl rfl rfl jj ?_)))))
 intro sY mL Du
 let bI:Res:=.row bm bn 41 2 (hD wAC az)
 let bQ:Res:=.row dJ ey 23 1 gq
 have qD:SW w [B1] U iF [.row (some ⟨mL,0,none⟩) 1 3 1 (hD KL.encI [(gd ay bY)]),.blk ae 94 [.slice dI eV.length ew,jV jP,.int .u32 jQ],B7,bI,bB,.blk b3 28 B0,bQ] sY:=Du
 refine oA Z Z (eN (zM (sR fL4 Z (oR Z (zE Z p5 zI Z Zj) (oL Z (qD.ldB (j:=4) Z Z Z Zr (v:=.slice bm az.length bn) Z) (oR Z (zx Z Z zn) (oM Z Z (eN (zd ?_)))))))))
 have q:=bnd EP
 obtain ⟨⟨FR,FS,FT,HW,cK⟩,Em,qU⟩:=q
 try dsimp only at qU
 have q:=wAx Em
 obtain ⟨jy,En⟩:=q
 replace jy:=zO jy
 refine CK.forN' (fun bG (di,gX,gY,cI,eZ) σ_ w_=>∃ (U_:PHeap) (dK:Option Addr) (eA:Nat) (fI:Option Addr) (gj:Nat),σ_ 75=jV (↑bG:Int)/\σ_ 0=.pointer (some ⟨ae,0,none⟩)/\σ_ 3=jV p3/\σ_ 8=.pointer (some ⟨b3,0,none⟩)/\σ_ 11=.pointer (some ⟨b7,0,none⟩)/\σ_ 12=.slice dJ eX.length ey/\σ_ 13=.slice none 0 0/\σ_ 16=jV cI/\σ_ 17=.slice fI eZ.length gj/\σ_ 64=.slice bf ay.length bg/\σ_ 65=jV (↑ay.length:Int)/\σ_ 66=jV (↑bY:Int)/\σ_ 73=.slice bm az.length bn/\σ_ 74=jV (↑az.length:Int)/\PHeap.Le iF U_/\SW w [B1] U U_ [.blk ae 94 [.slice dK di.length eA,jV gX,.int .u32 gY],B7,bI,bB,.blk b3 28 B0,bQ,.row fI gj 3 1 (hD KL.encI eZ)] w_/\Sl U_ 1 dK eA di.length (hD KL.encB8 di)) En ?_ ?_ ?_
 exact ⟨iF,dI,ew,(some ⟨mL,0,none⟩),1,rfl,xz,xA,xB,p5,xC,xD,rfl,rfl,p6,p7,i9,rfl,rfl,(zP _),(qD.pick [1,2,3,4,5,6,0] _ (by decide) rfl),AX⟩
 rintro bG ⟨di,gX,gY,cI,eZ⟩ HQ Ii GK jr ⟨iG,dK,eA,fI,gj,ja,p8,xE,xF,xG,xH,xI,xJ,xK,xL,xM,xN,p9,qa,FA,jk,AZ⟩ rf
 try dsimp only at rf
 have od:Hid ((↑bG:Int) < (↑az.length:Int)):=zO (wAs jr)
 replace jr:=zO jr
 have EB:Hid (w64 ((↑bG:Int) + 1)=(↑(bG + 1):Int)):=zO (by have h1:=jy.out;have h2:=od.out;rw [wAU] <;> omega)
 refine sR fL1 Z (oR Z (ze Z ja qa) (eN (zM (cT Z od (kN (zM (zd (sR gBl Z (bnK rf fun _ je EQ=>?_)))))))))
 obtain ⟨GT,qq⟩:=jk.rowSome (j:=2) rfl (by rw [wAD (f:=wAC) (sz:=2) (fun _=>rfl) az];have hz:=wAS je;omega)
 refine oR Z (Zk Z p9 qq ja zn zZ (wAS je)) ?_
 have Ey:=wBL (xs:=az) (wAS je)
 let cu:List Value:=[jV ((gd az bG).Lo),jV ((gd az bG).Hi)]
 refine ZF rfl rfl rfl rfl (jk.ldRA (j:=2) rfl qq rfl rfl Zn zZ (vs:=cu) (wFx (sz:=2) (fun _=>rfl) _ _ _ Ey (by first | omega | rfl | simp) rfl) rfl) rfl (zQ (cs:=[jV 0,jV 0]) rfl rfl rfl rfl rfl zi rfl jk ?_)
 intro GL dU Dv
 refine zU (j:=0) (vs:=cu) Z Z Z Z Dv Z Z Z Z zZ (zA Z) Z Z Z ?_
 intro iK Dw
 let fN:Res:=.row fI gj 3 1 (hD KL.encI eZ)
 let lA:Res:=.blk ae 94 [.slice dK di.length eA,jV gX,.int .u32 gY]
 have jl:SW w [B1] U iG [.blk dU 41 cu,lA,B7,bI,bB,.blk b3 28 B0,bQ,fN] iK:=Dw
 refine eN (sR (wHG gBa) Z (oM Z xJ (oM Z p8 (oR Z (zE Z Z zX Z zC) (oL Z (jl.ldB (j:=0) Z Z Z zG (v:=jV ((gd az bG).Lo)) Z) (oR Z (zE Z Z zX Z zC) (oL Z (jl.ldB (j:=0) Z Z Z zG (v:=jV ((gd az bG).Hi)) Z) ?_)))))))
 have q:=bnd EQ
 obtain ⟨⟨fk,jU⟩,A3,qV⟩:=q
 try dsimp only at qV
 have Dx:SW w [B1] U iG [lA,.blk dU 41 cu,B7,bI,bB,.blk b3 28 B0,bQ,fN] iK:=jl.pick [1,0,2,3,4,5,6,7] _ (by decide) rfl
 refine zF 1 Z Z Z Z (zD Z Z Try.call31 (zB Z (zB Z (zB Z zJ))) Z) Dx (fun hs=>wAa (⟨di,gX,gY⟩:wAI) ae dK eA ((gd az bG).Lo) ((gd az bG).Hi) iK iG hs AZ A3) (.inl Z) ?_
 rintro fY Gm HG sZ FB Dy ⟨lp,oe,rfl,rfl,A4⟩
 let il:Res:=.blk ae 94 [.slice lp jU.bytes.length oe,jV jU.next,.int .u32 jU.state]
 have Dz:SW w [B1] U fY [il,.blk dU 41 cu,B7,bI,bB,.blk b3 28 B0,bQ,fN] sZ:=Dy
 refine oR Z (za Z Z Z) (oA Z Z (eN (rR gBr Z (oM Z xK (oM Z Z (zr (pv:=[(0,jV (w64 (cI + fk)))]) (zs:=[jV 0]) (cs:=[jV (w64 (cI + fk))]) Z Z Z Z Z (wAH Z wAO) zK zC zz Z Z Z Z Z Dz ?_))))))
 intro s5 tn DA
 let lB:Res:=.row (some ⟨tn,0,none⟩) 1 3 1 (hD KL.encI [w64 (cI + fk)])
 have qE:SW w [B1] U fY [lB,il,.blk dU 41 cu,B7,bI,bB,.blk b3 28 B0,bQ,fN] s5:=DA
 refine bnK qV fun rG A5 ER=>Zw (j:=8) (enc:=KL.encI) (xs:=eZ) (ys:=[w64 (cI + fk)]) (zs:=rG) rfl rfl rfl rfl rfl yb wGu rfl rfl rfl rfl rfl rfl qE rfl rfl rfl (qE.srcR (j:=0) rfl (by decide) (wAD (f:=KL.encI) (sz:=1) (fun _=>rfl) [w64 (cI + fk)])) (fun _=>rfl) (fun _=>rfl) A5 rfl ?_
 intro lq og s6 DB
 have DC:SW w [B1] U fY [lB,il,.blk dU 41 cu,B7,bI,bB,.blk b3 28 B0,bQ,.row lq og 3 1 (hD KL.encI rG)] s6:=DB
 refine oA Z Z (zh (ZA (zL (rR fL2 Z (oR Z (ZH (za Z ja Z) (congrArg (jV) EB.out)) (oM Z Z (zh ?_)))))))
 cases ER
 exact zL ⟨rfl,⟨fY,lp,oe,lq,og,rfl,p8,xE,xF,xG,xH,xI,rfl,rfl,xL,xM,xN,p9,qa,(FA.trans FB),(DC.pick [1,3,4,5,6,7,8] _ (by decide) rfl),A4⟩⟩
 rintro Ij s7 ⟨Gs,ls,oh,ig,iT,y8,xO,xP,xR,xS,xT,xU,Hb,xV,xW,xX,xY,Hc,xZ,rz,DD,A6⟩
 have tz:Hid (¬ ((↑(((↑az.length:Int):Int) - 0).toNat:Int) < (↑az.length:Int))):=zO (wAc)
 refine sR fL1 Z (oR Z (ze Z y8 xZ) (eN (zM (cF Z tz (Zb (zo (zo (ZV (zL (rR gBr Z (oM Z xT (oM Z xV ?_))))))))))))
 have q:=DD.freezeR (k:=6) (n:=cK.length) rfl (wAD (f:=KL.encI) (sz:=1) (fun _=>rfl) cK) (by decide)
 obtain ⟨dR,jD,EY,DF⟩:=q
 let im:Res:=.blk ae 94 [.slice ls FR.length oh,jV FS,.int .u32 FT]
 have DG:SW w [B1] U dR [im,B7,bI,bB,.blk b3 28 B0,bQ] s7:=DF
 let fO:List Value:=[.slice ig cK.length iT]
 refine zr (pv:=[(0,.slice ig cK.length iT)]) (zs:=[.slice none 0 0]) (cs:=fO) Z Z Z Z Z (wAH Z wAO) Try.runUnderlying29 ZB Try.zeroValue23 Z Z Z Z Z DG ?_
 intro s8 tp DE
 have q8:RlL dR wJI [cK] fO:=(RlL.cons (R:=wJI) (x:=cK) (vs:=fO) ⟨ig,iT,rfl,EY⟩ RlL.nil)
 let lD:Res:=.row (some ⟨tp,0,none⟩) 1 23 1 fO
 have qF:SW w [B1] U dR [lD,im,B7,bI,bB,.blk b3 28 B0,bQ] s8:=DE
 refine bnK qU fun FK A8 ES=>?_
 have A9:=AY.le rz
 have Ba:=A9.le jD
 refine OKS.appendR (R:=wJI) (j:=6) (xs:=eX) (ys:=[cK]) (zs:=FK) rfl rfl rfl rfl rfl Try.underlying29 wKs rfl rfl rfl rfl rfl rfl rfl qF rfl rfl rfl Ba q8 (qF.srcR (j:=0) rfl (by decide) (RlL.len q8)) A8 rfl ?_
 intro lu oi ou s9 DH EX
 have DI:SW w [B1] U dR [lD,im,B7,bI,bB,.blk b3 28 B0,.row lu oi 23 1 ou] s9:=DH
 refine oA Z Z (zh (ZA (zL (rR fL2 Z (oR Z (ZH (za Z xY Z) (congrArg (jV) EA.out)) (oM Z Z (zh ?_)))))))
 cases ES
 have Bb:=A6.le jD
 exact zL ⟨rfl,⟨dR,ls,oh,lu,oi,ou,rfl,xO,xP,xR,xS,rfl,xU,xW,xX,((Fz.trans rz).trans jD),(DI.pick [1,2,3,4,5,6] _ (by decide) rfl),Bb,EX⟩⟩
 rintro Ik ta ⟨rV,rL,tA,bj,bk,tB,y9,qb,x7,x8,yo,yp,yq,He,yr,Hk,DK,Bc,Bd⟩
 have tC:Hid (¬ ((↑(((↑ay.length:Int):Int) - 0).toNat:Int) < (↑ay.length:Int))):=zO (wAc)
 refine sR fL1 Z (oR Z (ze Z y9 yr) (eN (zM (cF Z tC (Zb (zo (zo (ZV (zL (zM (sR gBc Z (oM Z qb ?_))))))))))))
 have q:=bnd qT
 obtain ⟨⟨bt,jW⟩,Be,qX⟩:=q
 try dsimp only at qX
 refine zF 1 Z Z Z Z (zD Z Z Try.call31 (zB Z (zB Z (zB Z zJ))) Z) DK (fun hs=>wAa (⟨FO,FP,FQ⟩:wAI) ae rL tA 1 3 ta rV hs Bc Be) (.inl Z) ?_
 rintro iH Gn HH tc FC DL ⟨lv,oj,rfl,rfl,Bf⟩
 let ak:Res:=.row bm bn 41 2 (hD wAC az)
 let au:Res:=.row bj bk 23 1 tB
 have DM:SW w [B1] U iH [.blk ae 94 [.slice lv jW.bytes.length oj,jV jW.next,.int .u32 jW.state],B7,ak,bB,.blk b3 28 B0,au] tc:=DL
 refine oM Z Z (eN (zd ?_))
 have q:=bnd qX
 obtain ⟨⟨FX,FY,FZ,bs,bw⟩,Er,qY⟩:=q
 try dsimp only at qY
 have q:=wAx Er
 obtain ⟨jA,Es⟩:=q
 replace jA:=zO jA
 refine CK.forN' (fun bo (e0,jX,jY,bv,bc) σ_ w_=>∃ (U_:PHeap) (fK:Option Addr) (gp:Nat) (bH:Option Addr) (bJ:Nat) (bd:Option Addr) (be:Nat),σ_ 99=jV (↑bo:Int)/\σ_ 0=.pointer (some ⟨ae,0,none⟩)/\σ_ 3=jV p3/\σ_ 8=.pointer (some ⟨b3,0,none⟩)/\σ_ 11=.pointer (some ⟨b7,0,none⟩)/\σ_ 12=.slice bj br.length bk/\σ_ 13=.slice bd bc.length be/\σ_ 98=jV bt/\PHeap.Le iH U_/\SW w [B1] U U_ [.blk ae 94 [.slice fK e0.length gp,jV jX,.int .u32 jY],B7,ak,.row bH bJ 43 3 (hD wAA bv),.blk b7 28 [.slice bf ay.length bg,.slice bm az.length bn,.slice bH bv.length bJ,.slice none 0 0],.blk b3 28 B0,au,.row bd be 3 1 (hD KL.encI bc)] w_/\Sl U_ 1 fK gp e0.length (hD KL.encB8 e0)) Es ?_ ?_ ?_
 have DO:=DM.nilrow 43 3
 have DP:=DO.nilrow 3 1
 exact ⟨iH,lv,oj,none,0,none,0,rfl,qb,x7,x8,yo,yp,yq,rfl,(zP _),(DP.pick [2,3,4,1,5,6,7,0] _ (by decide) rfl),Bf⟩
 rintro bo ⟨e0,jX,jY,bv,bc⟩ HS Im te ju ⟨rX,fK,gp,bH,bJ,bd,be,bW,bD,cg,ci,bL,cm,bU,bV,FE,DQ,Bg⟩ ri
 try dsimp only at ri
 have ol:Hid ((↑bo:Int) < bt):=zO (wAs ju)
 replace ju:=zO ju
 have EC:Hid (w64 ((↑bo:Int) + 1)=(↑(bo + 1):Int)):=zO (by have h1:=jA.out;have h2:=ol.out;rw [wAU] <;> omega)
 refine sR fL1 Z (oR Z (ze Z bW bV) (eN (zM (cT Z ol (kN (zM (zd (sR gBc Z (oM Z bD ?_)))))))))
 have q:=bnd ri
 obtain ⟨⟨ac,gZ⟩,Bh,qZ⟩:=q
 try dsimp only at qZ
 refine zF 1 Z Z Z Z (zD Z Z Try.call31 (zB Z (zB Z (zB Z zJ))) Z) DQ (fun hs=>wAa (⟨e0,jX,jY⟩:wAI) ae fK gp (-60) 20 te rX hs Bg Bh) (.inl Z) ?_
 rintro mi Gp HI mE FF DS ⟨lw,om,rfl,rfl,Bi⟩
 let a7:Res:=.blk b7 28 [.slice bf ay.length bg,.slice bm az.length bn,.slice bH bv.length bJ,.slice none 0 0]
 let ba:Res:=.row bd be 3 1 (hD KL.encI bc)
 let bC:Res:=.row bH bJ 43 3 (hD wAA bv)
 have DT:SW w [B1] U mi [.blk ae 94 [.slice lw gZ.bytes.length om,jV gZ.next,.int .u32 gZ.state],B7,ak,bC,a7,.blk b3 28 B0,au,ba] mE:=DS
 refine oA Z Z (eN (sR (wDF (.fx 3 (wMe (.fx 7 (.fl 8 (.fx 9 (.fx 10 .nil .stop) .stop)) .stop)) .stop)) Z (oM Z Z (oM Z Z (oM Z bD ?_)))))
 have q:=bnd qZ
 obtain ⟨⟨am,g6⟩,Bj,q5⟩:=q
 try dsimp only at q5
 refine zF 1 Z Z Z Z (zD Z Z ZZ (zB Z (zB Z zJ)) Z) DT (fun hs=>wAN gZ ae lw om 50 mE mi hs Bi Bj) (.inl Z) ?_
 rintro mj Gq HJ mF FG DU ⟨lx,oo,rfl,rfl,Bk⟩
 have DV:SW w [B1] U mj [.blk ae 94 [.slice lx g6.bytes.length oo,jV g6.next,.int .u32 g6.state],B7,ak,bC,a7,.blk b3 28 B0,au,ba] mF:=DU
 refine oR Z (za Z Z Z) ?_
 let lE:List Value:=[jV ac,jV (w64 (ac + am))]
 refine oR Z (zk (pv:=[(0,jV ac),(1,jV (w64 (ac + am)))]) (z:=[jV 0,jV 0]) (cs:=lE) Z (wAH Z (wAH Z wAO)) zi wBd Z Z) (oM Z bD ?_)
 have q:=bnd q5
 obtain ⟨⟨ap,fm⟩,Bl,q6⟩:=q
 try dsimp only at q6
 refine zF 1 Z Z Z Z (zD Z Z ZZ (zB Z (zB Z zJ)) Z) DV (fun hs=>wAN g6 ae lx oo 6 mF mj hs Bk Bl) (.inl Z) ?_
 rintro bb Gr HK tf FH DW ⟨ii,iU,rfl,rfl,qm⟩
 let bh:Res:=.blk ae 94 [.slice ii fm.bytes.length iU,jV fm.next,.int .u32 fm.state]
 have DX:SW w [B1] U bb [bh,B7,ak,bC,a7,.blk b3 28 B0,au,ba] tf:=DW
 let ao:List Value:=[jV ac,jV (w64 (ac + am)),jV ap]
 let cR:List Value:=[jV 0,jV 0,jV 0]
 refine oR Z (zk (pv:=[(0,.agg lE.toArray),(1,jV ap)]) (z:=cR) (cs:=ao) Z (wAH Z (wAH Z wAO)) yZ wIZ Z Z) (zQ (cs:=cR) Z Z Z Z Z yZ Z DX ?_)
 intro GM ah DY
 refine zU (j:=0) (vs:=ao) Z Z Z Z DY Z Z Z Z yA (zA Z) Z Z Z ?_
 intro iL DZ
 have D0:SW w [B1] U bb [.blk ah 43 ao,bh,B7,ak,bC,a7,.blk b3 28 B0,au,ba] iL:=DZ
 refine eN (bnK q6 fun ax gC ET=>?_)
 have q:=bnd ET
 obtain ⟨⟨bq,aq⟩,qn,q7⟩:=q
 try dsimp only at q7
 refine bnK q7 fun cJ Bm EU=>zt zu [3,1,1,2,0,3,3,3,3,2,3,3,2,0,2,0,3,0,3] (wDF (wGd (.fl 10 (.fl 11 (.fx 3 (.fx 4 (.fl 16 (.fx 9 gBu (.fx 12 gBv .stop))) (.fx 9 gBy (.fx 12 gBz .stop))) (.fx 9 (.fx 3 gBy (.fx 12 gBx .stop)) (.fx 12 (.fx 3 gBz (.fx 9 gBx .stop)) .stop))))))) (by kernel_rfl) ?_
 have bE:=D0.drew
 generalize hw_W923:({ iL with drawn:=iL.drawn + 1 }:World)=GN at bE ⊢
 refine ZR (s:=.fl 18 .nil) (M:=fun σ_ w_=>∃ (U_:PHeap) (fq:Option Addr) (f4:Nat) (dm:Option Addr) (dV:Nat) (g7:Option Addr) (iM:Nat) (g8:Option Addr) (iN:Nat) (ft:Option Addr) (f5:Nat),σ_ 0=.pointer (some ⟨ae,0,none⟩)/\σ_ 3=jV p3/\σ_ 8=.pointer (some ⟨b3,0,none⟩)/\σ_ 11=.pointer (some ⟨b7,0,none⟩)/\σ_ 12=.slice bj br.length bk/\σ_ 21=.pointer (some ⟨ah,0,none⟩)/\σ_ 98=jV bt/\σ_ 99=jV (↑bo:Int)/\σ_ 112=.pointer (some ⟨b7,2,none⟩)/\σ_ 114=.agg ao.toArray/\σ_ 115=.slice g7 ([(⟨(⟨ac,w64 (ac + am)⟩:wAF),ap⟩:wAG)].length) iM/\σ_ 116=.slice dm ax.length dV/\σ_ 118=.pointer (some ⟨ae,0,none⟩)/\σ_ 119=.pointer (some ⟨ah,0,none⟩)/\σ_ 120=.pointer (some ⟨ah,0,none⟩)/\σ_ 121=jV ac/\σ_ 122=.pointer (some ⟨ah,0,none⟩)/\σ_ 123=.pointer (some ⟨ah,1,none⟩)/\σ_ 124=jV (w64 (ac + am))/\σ_ 125=jV bq/\σ_ 126=.slice g8 ([bq].length) iN/\σ_ 127=.slice ft cJ.length f5/\σ_ 128=.pointer (some ⟨b7,2,none⟩)/\PHeap.Le bb U_/\SW w [B1] U U_ [.blk ae 94 [.slice fq aq.bytes.length f4,jV aq.next,.int .u32 aq.state],.blk ah 43 ao,B7,ak,.row dm dV 43 3 (hD wAA ax),.blk b7 28 [.slice bf ay.length bg,.slice bm az.length bn,.slice dm ax.length dV,.slice none 0 0],.blk b3 28 B0,au,.row g7 iM 43 3 (hD wAA [(⟨(⟨ac,w64 (ac + am)⟩:wAF),ap⟩:wAG)]),.row g8 iN 3 1 (hD KL.encI [bq]),.row ft f5 3 1 (hD KL.encI cJ)] w_/\Sl U_ 1 fq f4 aq.bytes.length (hD KL.encB8 aq.bytes)) ?_ fun E0=>?_
 rintro HX Gt ⟨rM,fq,f4,dm,dV,g7,iM,g8,iN,ft,f5,tD,tE,tF,tG,tH,GU,tI,tJ,GV,GW,GX,GY,GZ,G0,G1,G2,G3,G4,G5,G6,G7,tK,G8,E6,Bu,z2⟩
 refine oA Z tK (zh (ZA (zL (rR fL2 Z (oR Z (ZH (za Z tJ Z) (congrArg (jV) EC.out)) (oM Z Z (zh ?_)))))))
 cases EU
 exact zL ⟨rfl,⟨rM,fq,f4,dm,dV,ft,f5,rfl,tD,tE,tF,tG,tH,rfl,tI,((((FE.trans FF).trans FG).trans FH).trans E6),(Bu.pick [0,2,3,4,5,6,7,10] _ (by decide) rfl),z2⟩⟩
 refine ZR (s:=gAu) (M:=fun σ_ w_=>∃ (U_:PHeap) (dp:Option Addr) (dW:Nat) (dq:Option Addr) (dX:Nat) (ct:Option Addr) (cx:Nat) (dr:Option Addr) (dY:Nat) (dt:Option Addr) (dZ:Nat),σ_ 0=.pointer (some ⟨ae,0,none⟩)/\σ_ 3=jV p3/\σ_ 8=.pointer (some ⟨b3,0,none⟩)/\σ_ 11=.pointer (some ⟨b7,0,none⟩)/\σ_ 12=.slice bj br.length bk/\σ_ 21=.pointer (some ⟨ah,0,none⟩)/\σ_ 98=jV bt/\σ_ 99=jV (↑bo:Int)/\σ_ 112=.pointer (some ⟨b7,2,none⟩)/\σ_ 114=.agg ao.toArray/\σ_ 115=.slice dq ([(⟨(⟨ac,w64 (ac + am)⟩:wAF),ap⟩:wAG)].length) dX/\σ_ 116=.slice ct ax.length cx/\σ_ 118=.pointer (some ⟨ae,0,none⟩)/\σ_ 119=.pointer (some ⟨ah,0,none⟩)/\σ_ 120=.pointer (some ⟨ah,0,none⟩)/\σ_ 121=jV ac/\σ_ 122=.pointer (some ⟨ah,0,none⟩)/\σ_ 123=.pointer (some ⟨ah,1,none⟩)/\σ_ 124=jV (w64 (ac + am))/\σ_ 125=jV bq/\σ_ 126=.slice dr ([bq].length) dY/\σ_ 127=.slice dt cJ.length dZ/\σ_ 128=.pointer (some ⟨b7,2,none⟩)/\PHeap.Le bb U_/\SW w [B1] U U_ [.blk ae 94 [.slice dp aq.bytes.length dW,jV aq.next,.int .u32 aq.state],.blk ah 43 ao,B7,ak,a7,.blk b3 28 B0,au,.row dq dX 43 3 (hD wAA [(⟨(⟨ac,w64 (ac + am)⟩:wAF),ap⟩:wAG)]),.row ct cx 43 3 (hD wAA ax),.row dr dY 3 1 (hD KL.encI [bq]),.row dt dZ 3 1 (hD KL.encI cJ)] w_/\Sl U_ 1 dp dW aq.bytes.length (hD KL.encB8 aq.bytes)) ?_ fun E1=>?_
 rintro HY Gu ⟨lV,dp,dW,dq,dX,ct,cx,dr,dY,dt,dZ,tL,tM,tN,tO,tP,tQ,tR,tS,tT,tU,tV,ov,tW,tX,tY,tZ,t4,t5,t6,t7,t8,t9,ow,E7,Bv,z3⟩
 refine zU (j:=4) (vs:=[.slice ct ax.length cx]) Z Z Z Z Bv Z ow ov Z Zl (zA Z) Z Z Z ?_
 intro rY Bw
 have Bx:SW w [B1] U lV [.blk ae 94 [.slice dp aq.bytes.length dW,jV aq.next,.int .u32 aq.state],.blk ah 43 ao,B7,ak,.blk b7 28 [.slice bf ay.length bg,.slice bm az.length bn,.slice ct ax.length cx,.slice none 0 0],.blk b3 28 B0,au,.row dq dX 43 3 (hD wAA [(⟨(⟨ac,w64 (ac + am)⟩:wAF),ap⟩:wAG)]),.row ct cx 43 3 (hD wAA ax),.row dr dY 3 1 (hD KL.encI [bq]),.row dt dZ 3 1 (hD KL.encI cJ)] rY:=Bw
 exact E0 _ _ ⟨lV,dp,dW,ct,cx,dq,dX,dr,dY,dt,dZ,tL,tM,tN,tO,tP,tQ,tR,tS,tT,tU,tV,ov,tW,tX,tY,tZ,t4,t5,t6,t7,t8,t9,ow,E7,(Bx.pick [0,1,2,3,8,4,5,6,7,9,10] _ (by decide) rfl),z3⟩
 refine ZR (s:=gBd) (M:=fun σ_ w_=>∃ (U_:PHeap) (du:Option Addr) (d7:Nat) (dv:Option Addr) (d9:Nat) (dw:Option Addr) (ef:Nat) (dx:Option Addr) (eg:Nat),σ_ 0=.pointer (some ⟨ae,0,none⟩)/\σ_ 3=jV p3/\σ_ 8=.pointer (some ⟨b3,0,none⟩)/\σ_ 11=.pointer (some ⟨b7,0,none⟩)/\σ_ 12=.slice bj br.length bk/\σ_ 13=.slice bd bc.length be/\σ_ 21=.pointer (some ⟨ah,0,none⟩)/\σ_ 98=jV bt/\σ_ 99=jV (↑bo:Int)/\σ_ 112=.pointer (some ⟨b7,2,none⟩)/\σ_ 114=.agg ao.toArray/\σ_ 115=.slice dv ([(⟨(⟨ac,w64 (ac + am)⟩:wAF),ap⟩:wAG)].length) d9/\σ_ 116=.slice dw ax.length ef/\σ_ 117=.slice bd bc.length be/\σ_ 118=.pointer (some ⟨ae,0,none⟩)/\σ_ 119=.pointer (some ⟨ah,0,none⟩)/\σ_ 120=.pointer (some ⟨ah,0,none⟩)/\σ_ 121=jV ac/\σ_ 122=.pointer (some ⟨ah,0,none⟩)/\σ_ 123=.pointer (some ⟨ah,1,none⟩)/\σ_ 124=jV (w64 (ac + am))/\σ_ 125=jV bq/\σ_ 126=.slice dx ([bq].length) eg/\σ_ 128=.pointer (some ⟨b7,2,none⟩)/\PHeap.Le bb U_/\SW w [B1] U U_ [.blk ae 94 [.slice du aq.bytes.length d7,jV aq.next,.int .u32 aq.state],.blk ah 43 ao,B7,ak,a7,.blk b3 28 B0,au,ba,.row dv d9 43 3 (hD wAA [(⟨(⟨ac,w64 (ac + am)⟩:wAF),ap⟩:wAG)]),.row dw ef 43 3 (hD wAA ax),.row dx eg 3 1 (hD KL.encI [bq])] w_/\Sl U_ 1 du d7 aq.bytes.length (hD KL.encB8 aq.bytes)) ?_ fun E2=>?_
 rintro HZ Gw ⟨lW,du,d7,dv,d9,dw,ef,dx,eg,ua,ub,uc,ud,ue,G9,uf,ug,uh,ui,uj,uk,ul,um,un,uo,up,uq,ur,ut,uu,uv,ox,uw,E8,qr,z5⟩
 refine Zw (j:=7) (enc:=KL.encI) (xs:=bc) (ys:=[bq]) (zs:=cJ) rfl rfl rfl rfl rfl yb wGu rfl rfl rfl rfl rfl rfl qr rfl um ox (qr.srcR (j:=10) rfl (by decide) (wAD (f:=KL.encI) (sz:=1) (fun _=>rfl) [bq])) (fun _=>rfl) (fun _=>rfl) Bm rfl ?_
 intro j4 mR rZ By
 have Bz:SW w [B1] U lW [.blk ae 94 [.slice du aq.bytes.length d7,jV aq.next,.int .u32 aq.state],.blk ah 43 ao,B7,ak,a7,.blk b3 28 B0,au,.row j4 mR 3 1 (hD KL.encI cJ),.row dv d9 43 3 (hD wAA [(⟨(⟨ac,w64 (ac + am)⟩:wAF),ap⟩:wAG)]),.row dw ef 43 3 (hD wAA ax),.row dx eg 3 1 (hD KL.encI [bq])] rZ:=By
 exact E1 _ _ ⟨lW,du,d7,dv,d9,dw,ef,dx,eg,j4,mR,ua,ub,uc,ud,ue,uf,ug,uh,ui,uj,uk,ul,un,uo,up,uq,ur,ut,uu,uv,ox,rfl,uw,E8,(Bz.pick [0,1,2,3,4,5,6,8,9,10,7] _ (by decide) rfl),z5⟩
 refine ZR (s:=gBm) (M:=fun σ_ w_=>∃ (U_:PHeap) (dy:Option Addr) (eh:Nat) (dz:Option Addr) (ej:Nat) (dA:Option Addr) (ek:Nat),σ_ 0=.pointer (some ⟨ae,0,none⟩)/\σ_ 3=jV p3/\σ_ 8=.pointer (some ⟨b3,0,none⟩)/\σ_ 11=.pointer (some ⟨b7,0,none⟩)/\σ_ 12=.slice bj br.length bk/\σ_ 13=.slice bd bc.length be/\σ_ 21=.pointer (some ⟨ah,0,none⟩)/\σ_ 98=jV bt/\σ_ 99=jV (↑bo:Int)/\σ_ 112=.pointer (some ⟨b7,2,none⟩)/\σ_ 114=.agg ao.toArray/\σ_ 115=.slice dz ([(⟨(⟨ac,w64 (ac + am)⟩:wAF),ap⟩:wAG)].length) ej/\σ_ 116=.slice dA ax.length ek/\σ_ 117=.slice bd bc.length be/\σ_ 118=.pointer (some ⟨ae,0,none⟩)/\σ_ 119=.pointer (some ⟨ah,0,none⟩)/\σ_ 120=.pointer (some ⟨ah,0,none⟩)/\σ_ 121=jV ac/\σ_ 122=.pointer (some ⟨ah,0,none⟩)/\σ_ 123=.pointer (some ⟨ah,1,none⟩)/\σ_ 124=jV (w64 (ac + am))/\σ_ 125=jV bq/\σ_ 128=.pointer (some ⟨b7,2,none⟩)/\PHeap.Le bb U_/\SW w [B1] U U_ [.blk ae 94 [.slice dy aq.bytes.length eh,jV aq.next,.int .u32 aq.state],.blk ah 43 ao,B7,ak,a7,.blk b3 28 B0,au,ba,.row dz ej 43 3 (hD wAA [(⟨(⟨ac,w64 (ac + am)⟩:wAF),ap⟩:wAG)]),.row dA ek 43 3 (hD wAA ax)] w_/\Sl U_ 1 dy eh aq.bytes.length (hD KL.encB8 aq.bytes)) ?_ fun rj=>?_
 rintro H0 Gx ⟨lX,dy,eh,dz,ej,dA,ek,ux,uy,uz,uA,uB,uC,uD,uE,uF,uG,uH,uI,uJ,uK,uL,uM,uN,uO,uP,uQ,uR,oy,uS,E9,BA,z6⟩
 refine zr (pv:=[(0,jV bq)]) (zs:=[jV 0]) (cs:=[jV bq]) Z Z Z Z Z (wAH oy wAO) zK zC zz Z Z Z Z Z BA ?_
 intro r6 mG BB
 have BC:SW w [B1] U lX [.row (some ⟨mG,0,none⟩) 1 3 1 (hD KL.encI [bq]),.blk ae 94 [.slice dy aq.bytes.length eh,jV aq.next,.int .u32 aq.state],.blk ah 43 ao,B7,ak,a7,.blk b3 28 B0,au,ba,.row dz ej 43 3 (hD wAA [(⟨(⟨ac,w64 (ac + am)⟩:wAF),ap⟩:wAG)]),.row dA ek 43 3 (hD wAA ax)] r6:=BB
 exact E2 _ _ ⟨lX,dy,eh,dz,ej,dA,ek,(some ⟨mG,0,none⟩),1,ux,uy,uz,uA,uB,uC,uD,uE,uF,uG,uH,uI,uJ,uK,uL,uM,uN,uO,uP,uQ,uR,oy,rfl,uS,E9,(BC.pick [1,2,3,4,5,6,7,8,9,10,0] _ (by decide) rfl),z6⟩
 refine ZR (s:=gBs) (M:=fun σ_ w_=>∃ (U_:PHeap) (dB:Option Addr) (en:Nat) (dC:Option Addr) (eo:Nat),σ_ 0=.pointer (some ⟨ae,0,none⟩)/\σ_ 3=jV p3/\σ_ 8=.pointer (some ⟨b3,0,none⟩)/\σ_ 11=.pointer (some ⟨b7,0,none⟩)/\σ_ 12=.slice bj br.length bk/\σ_ 13=.slice bd bc.length be/\σ_ 21=.pointer (some ⟨ah,0,none⟩)/\σ_ 98=jV bt/\σ_ 99=jV (↑bo:Int)/\σ_ 112=.pointer (some ⟨b7,2,none⟩)/\σ_ 114=.agg ao.toArray/\σ_ 115=.slice dB ([(⟨(⟨ac,w64 (ac + am)⟩:wAF),ap⟩:wAG)].length) en/\σ_ 116=.slice dC ax.length eo/\σ_ 117=.slice bd bc.length be/\σ_ 118=.pointer (some ⟨ae,0,none⟩)/\σ_ 119=.pointer (some ⟨ah,0,none⟩)/\σ_ 120=.pointer (some ⟨ah,0,none⟩)/\σ_ 121=jV ac/\σ_ 122=.pointer (some ⟨ah,0,none⟩)/\σ_ 123=.pointer (some ⟨ah,1,none⟩)/\σ_ 124=jV (w64 (ac + am))/\σ_ 128=.pointer (some ⟨b7,2,none⟩)/\PHeap.Le bb U_/\SW w [B1] U U_ [.blk ah 43 ao,bh,B7,ak,a7,.blk b3 28 B0,au,ba,.row dB en 43 3 (hD wAA [(⟨(⟨ac,w64 (ac + am)⟩:wAF),ap⟩:wAG)]),.row dC eo 43 3 (hD wAA ax)] w_) ?_ fun gG=>?_
 rintro H1 mm ⟨lY,dB,en,dC,eo,uT,uU,uV,uW,uX,uY,uZ,u3,u4,u5,u6,u7,u9,va,oB,vb,vc,oG,vd,ve,oH,vf,rp,BD⟩
 have z7:=qm.le rp
 let lF:Res:=.row dB en 43 3 (hD wAA [(⟨(⟨ac,w64 (ac + am)⟩:wAF),ap⟩:wAG)])
 let lG:Res:=.row dC eo 43 3 (hD wAA ax)
 have BE:SW w [B1] U lY [bh,.blk ah 43 ao,B7,ak,a7,.blk b3 28 B0,au,ba,lF,lG] mm:=BD.pick [1,0,2,3,4,5,6,7,8,9] _ (by decide) rfl
 refine zF 1 Z Z Z Z (zD Z Z Try.call31 (zB oB (zB oG (zB oH zJ))) Z) BE (fun hs=>wAa fm ae ii iU ac (w64 (ac + am)) mm lY hs z7 qn) (.inl Z) ?_
 rintro lZ F0 Hn r7 Fa BF ⟨j5,mS,rfl,rfl,z8⟩
 have BG:SW w [B1] U lZ [.blk ae 94 [.slice j5 aq.bytes.length mS,jV aq.next,.int .u32 aq.state],.blk ah 43 ao,B7,ak,a7,.blk b3 28 B0,au,ba,lF,lG] r7:=BF
 exact rj _ _ ⟨lZ,j5,mS,dB,en,dC,eo,uT,uU,uV,uW,uX,uY,uZ,u3,u4,u5,u6,u7,u9,va,oB,vb,vc,oG,vd,ve,oH,Z,vf,(rp.trans Fa),BG,z8⟩
 refine ZR (s:=.fl 16 gBs) (M:=fun σ_ w_=>∃ (U_:PHeap) (dD:Option Addr) (ep:Nat) (dE:Option Addr) (er:Nat),σ_ 0=.pointer (some ⟨ae,0,none⟩)/\σ_ 3=jV p3/\σ_ 8=.pointer (some ⟨b3,0,none⟩)/\σ_ 11=.pointer (some ⟨b7,0,none⟩)/\σ_ 12=.slice bj br.length bk/\σ_ 13=.slice bd bc.length be/\σ_ 21=.pointer (some ⟨ah,0,none⟩)/\σ_ 98=jV bt/\σ_ 99=jV (↑bo:Int)/\σ_ 112=.pointer (some ⟨b7,2,none⟩)/\σ_ 114=.agg ao.toArray/\σ_ 115=.slice dD ([(⟨(⟨ac,w64 (ac + am)⟩:wAF),ap⟩:wAG)].length) ep/\σ_ 116=.slice dE ax.length er/\σ_ 117=.slice bd bc.length be/\σ_ 118=.pointer (some ⟨ae,0,none⟩)/\σ_ 119=.pointer (some ⟨ah,0,none⟩)/\σ_ 120=.pointer (some ⟨ah,0,none⟩)/\σ_ 121=jV ac/\σ_ 122=.pointer (some ⟨ah,0,none⟩)/\σ_ 123=.pointer (some ⟨ah,1,none⟩)/\σ_ 124=jV (w64 (ac + am))/\PHeap.Le bb U_/\SW w [B1] U U_ [.blk ah 43 ao,bh,B7,ak,a7,.blk b3 28 B0,au,ba,.row dD ep 43 3 (hD wAA [(⟨(⟨ac,w64 (ac + am)⟩:wAF),ap⟩:wAG)]),.row dE er 43 3 (hD wAA ax)] w_) ?_ fun E3=>?_
 rintro H2 mn ⟨l5,dD,ep,dE,er,vg,vh,vi,oI,vj,vk,vl,vm,vn,vo,vp,vq,vr,vt,oK,vu,vv,oO,vw,vx,oP,rq,BH⟩
 refine oR Z (zE Z oI zI Z Zl) ?_
 have z9:=qm.le rq
 let lH:Res:=.row dD ep 43 3 (hD wAA [(⟨(⟨ac,w64 (ac + am)⟩:wAF),ap⟩:wAG)])
 let lI:Res:=.row dE er 43 3 (hD wAA ax)
 have BI:SW w [B1] U l5 [bh,.blk ah 43 ao,B7,ak,a7,.blk b3 28 B0,au,ba,lH,lI] mn:=BH.pick [1,0,2,3,4,5,6,7,8,9] _ (by decide) rfl
 refine zF 1 Z Z Z Z (zD Z Z Try.call31 (zB oK (zB oO (zB oP zJ))) Z) BI (fun hs=>wAa fm ae ii iU ac (w64 (ac + am)) mn l5 hs z9 qn) (.inl Z) ?_
 rintro l6 F3 Ho r8 Fb BJ ⟨j6,mT,rfl,rfl,Aa⟩
 have BK:SW w [B1] U l6 [.blk ae 94 [.slice j6 aq.bytes.length mT,jV aq.next,.int .u32 aq.state],.blk ah 43 ao,B7,ak,a7,.blk b3 28 B0,au,ba,lH,lI] r8:=BJ
 exact rj _ _ ⟨l6,j6,mT,dD,ep,dE,er,vg,vh,vi,oI,vj,vk,vl,vm,vn,vo,vp,vq,vr,vt,oK,vu,vv,oO,vw,vx,oP,Z,Z,(rq.trans Fb),BK,Aa⟩
 refine ZR (s:=.fl 16 gBv) (M:=fun σ_ w_=>∃ (U_:PHeap) (fu:Option Addr) (f7:Nat) (fw:Option Addr) (f8:Nat),σ_ 0=.pointer (some ⟨ae,0,none⟩)/\σ_ 3=jV p3/\σ_ 8=.pointer (some ⟨b3,0,none⟩)/\σ_ 11=.pointer (some ⟨b7,0,none⟩)/\σ_ 12=.slice bj br.length bk/\σ_ 13=.slice bd bc.length be/\σ_ 21=.pointer (some ⟨ah,0,none⟩)/\σ_ 98=jV bt/\σ_ 99=jV (↑bo:Int)/\σ_ 112=.pointer (some ⟨b7,2,none⟩)/\σ_ 114=.agg ao.toArray/\σ_ 115=.slice fu ([(⟨(⟨ac,w64 (ac + am)⟩:wAF),ap⟩:wAG)].length) f7/\σ_ 116=.slice fw ax.length f8/\σ_ 117=.slice bd bc.length be/\σ_ 118=.pointer (some ⟨ae,0,none⟩)/\σ_ 119=.pointer (some ⟨ah,0,none⟩)/\σ_ 120=.pointer (some ⟨ah,0,none⟩)/\σ_ 122=.pointer (some ⟨ah,0,none⟩)/\σ_ 123=.pointer (some ⟨ah,1,none⟩)/\σ_ 124=jV (w64 (ac + am))/\PHeap.Le bb U_/\SW w [B1] U U_ [.blk ah 43 ao,bh,B7,ak,a7,.blk b3 28 B0,au,ba,.row fu f7 43 3 (hD wAA [(⟨(⟨ac,w64 (ac + am)⟩:wAF),ap⟩:wAG)]),.row fw f8 43 3 (hD wAA ax)] w_) ?_ fun E4=>?_
 rintro H3 Gy ⟨rN,fu,f7,fw,f8,vy,vz,vA,oU,vB,vC,vD,vE,vG,vH,vJ,vK,vL,vM,vN,vO,oW,vP,vQ,vR,Fc,qs⟩
 exact oR Z (zE Z oU zI Z Zl) (ZQ Z Z Z Z (qs.ldB (j:=0) Z Z oW zG (v:=jV ac) Z) (gG _ _ ⟨rN,fu,f7,fw,f8,vy,vz,vA,oU,vB,vC,vD,vE,vG,vH,vJ,vK,vL,vM,vN,vO,oW,Z,vP,vQ,vR,Z,Fc,qs⟩))
 refine ZR (s:=gBw) (M:=fun σ_ w_=>∃ (U_:PHeap) (dH:Option Addr) (eu:Nat),σ_ 0=.pointer (some ⟨ae,0,none⟩)/\σ_ 3=jV p3/\σ_ 8=.pointer (some ⟨b3,0,none⟩)/\σ_ 11=.pointer (some ⟨b7,0,none⟩)/\σ_ 12=.slice bj br.length bk/\σ_ 13=.slice bd bc.length be/\σ_ 21=.pointer (some ⟨ah,0,none⟩)/\σ_ 98=jV bt/\σ_ 99=jV (↑bo:Int)/\σ_ 112=.pointer (some ⟨b7,2,none⟩)/\σ_ 113=.slice bH bv.length bJ/\σ_ 114=.agg ao.toArray/\σ_ 115=.slice dH ([(⟨(⟨ac,w64 (ac + am)⟩:wAF),ap⟩:wAG)].length) eu/\σ_ 117=.slice bd bc.length be/\σ_ 118=.pointer (some ⟨ae,0,none⟩)/\σ_ 119=.pointer (some ⟨ah,0,none⟩)/\σ_ 120=.pointer (some ⟨ah,0,none⟩)/\σ_ 121=jV ac/\σ_ 122=.pointer (some ⟨ah,0,none⟩)/\σ_ 123=.pointer (some ⟨ah,1,none⟩)/\σ_ 124=jV (w64 (ac + am))/\PHeap.Le bb U_/\SW w [B1] U U_ [.blk ah 43 ao,bh,B7,ak,bC,a7,.blk b3 28 B0,au,ba,.row dH eu 43 3 (hD wAA [(⟨(⟨ac,w64 (ac + am)⟩:wAF),ap⟩:wAG)])] w_) ?_ fun jB=>?_
 rintro H4 Gz ⟨l7,dH,eu,vS,vU,vV,vW,vX,vY,vZ,v2,v3,v4,v5,v7,oX,v9,wa,wb,wc,wd,we,wg,wh,Fd,qt⟩
 refine Zw (j:=4) (enc:=wAA) (xs:=bv) (ys:=[(⟨(⟨ac,w64 (ac + am)⟩:wAF),ap⟩:wAG)]) (zs:=ax) rfl rfl rfl rfl rfl Try.underlying25 wHX rfl rfl rfl rfl rfl rfl qt rfl v5 oX (qt.srcR (j:=9) rfl (by decide) (wAD (f:=wAA) (sz:=3) (fun _=>rfl) [(⟨(⟨ac,w64 (ac + am)⟩:wAF),ap⟩:wAG)])) (fun _=>rfl) (fun _=>rfl) gC rfl ?_
 intro j7 mU sa BM
 have BN:SW w [B1] U l7 [.blk ah 43 ao,bh,B7,ak,.row j7 mU 43 3 (hD wAA ax),a7,.blk b3 28 B0,au,ba,.row dH eu 43 3 (hD wAA [(⟨(⟨ac,w64 (ac + am)⟩:wAF),ap⟩:wAG)])] sa:=BM
 exact E3 _ _ ⟨l7,dH,eu,j7,mU,vS,vU,vV,vW,vX,vY,vZ,v2,v3,v4,v7,oX,rfl,v9,wa,wb,wc,wd,we,wg,wh,Fd,(BN.pick [0,1,2,3,5,6,7,8,9,4] _ (by decide) rfl)⟩
 refine ZR (s:=.fl 16 gBu) (M:=fun σ_ w_=>∃ (U_:PHeap) (fy:Option Addr) (f9:Nat) (fz:Option Addr) (ga:Nat),σ_ 0=.pointer (some ⟨ae,0,none⟩)/\σ_ 3=jV p3/\σ_ 8=.pointer (some ⟨b3,0,none⟩)/\σ_ 11=.pointer (some ⟨b7,0,none⟩)/\σ_ 12=.slice bj br.length bk/\σ_ 13=.slice bd bc.length be/\σ_ 21=.pointer (some ⟨ah,0,none⟩)/\σ_ 98=jV bt/\σ_ 99=jV (↑bo:Int)/\σ_ 112=.pointer (some ⟨b7,2,none⟩)/\σ_ 114=.agg ao.toArray/\σ_ 115=.slice fy ([(⟨(⟨ac,w64 (ac + am)⟩:wAF),ap⟩:wAG)].length) f9/\σ_ 116=.slice fz ax.length ga/\σ_ 117=.slice bd bc.length be/\σ_ 118=.pointer (some ⟨ae,0,none⟩)/\σ_ 119=.pointer (some ⟨ah,0,none⟩)/\σ_ 120=.pointer (some ⟨ah,0,none⟩)/\σ_ 121=jV ac/\σ_ 122=.pointer (some ⟨ah,0,none⟩)/\σ_ 123=.pointer (some ⟨ah,1,none⟩)/\PHeap.Le bb U_/\SW w [B1] U U_ [.blk ah 43 ao,bh,B7,ak,a7,.blk b3 28 B0,au,ba,.row fy f9 43 3 (hD wAA [(⟨(⟨ac,w64 (ac + am)⟩:wAF),ap⟩:wAG)]),.row fz ga 43 3 (hD wAA ax)] w_) ?_ fun E5=>?_
 rintro H5 GA ⟨rO,fy,f9,fz,ga,wi,wj,wk,oY,wl,wm,wn,wo,wp,wq,ws,wt,wu,wv,ww,wx,wy,wz,wA,o0,Ff,qu⟩
 exact oR Z (zE Z oY zI Z Zl) (ZQ Z Z Z Z (qu.ldB (j:=0) Z Z o0 zG (v:=jV (w64 (ac + am))) Z) (gG _ _ ⟨rO,fy,f9,fz,ga,wi,wj,wk,oY,wl,wm,wn,wo,wp,wq,ws,wt,wu,wv,ww,wx,wy,wz,wA,o0,Z,Z,Ff,qu⟩))
 refine ZR (s:=gBx) (M:=fun σ_ w_=>∃ (U_:PHeap),σ_ 0=.pointer (some ⟨ae,0,none⟩)/\σ_ 3=jV p3/\σ_ 8=.pointer (some ⟨b3,0,none⟩)/\σ_ 11=.pointer (some ⟨b7,0,none⟩)/\σ_ 12=.slice bj br.length bk/\σ_ 13=.slice bd bc.length be/\σ_ 21=.pointer (some ⟨ah,0,none⟩)/\σ_ 98=jV bt/\σ_ 99=jV (↑bo:Int)/\σ_ 112=.pointer (some ⟨b7,2,none⟩)/\σ_ 113=.slice bH bv.length bJ/\σ_ 114=.agg ao.toArray/\σ_ 117=.slice bd bc.length be/\σ_ 118=.pointer (some ⟨ae,0,none⟩)/\σ_ 119=.pointer (some ⟨ah,0,none⟩)/\σ_ 120=.pointer (some ⟨ah,0,none⟩)/\σ_ 121=jV ac/\σ_ 122=.pointer (some ⟨ah,0,none⟩)/\σ_ 123=.pointer (some ⟨ah,1,none⟩)/\σ_ 124=jV (w64 (ac + am))/\PHeap.Le bb U_/\SW w [B1] U U_ [.blk ah 43 ao,bh,B7,ak,bC,a7,.blk b3 28 B0,au,ba] w_) ?_ fun rk=>?_
 rintro H6 GB ⟨ma,wB,wC,wD,wE,wG,wH,wI,wJ,wL,wM,wN,o3,wO,wQ,wR,wS,wU,wV,wW,wX,Fg,BO⟩
 refine zr (pv:=[(0,.agg ao.toArray)]) (zs:=cR) (cs:=ao) Z Z Z Z Z (wAH o3 wAO) ZS yA yZ Z Z Z Z Z BO ?_
 intro sc mH BQ
 have BR:SW w [B1] U ma [.row (some ⟨mH,0,none⟩) 1 43 3 (hD wAA [(⟨(⟨ac,w64 (ac + am)⟩:wAF),ap⟩:wAG)]),.blk ah 43 ao,bh,B7,ak,bC,a7,.blk b3 28 B0,au,ba] sc:=BQ
 exact jB _ _ ⟨ma,(some ⟨mH,0,none⟩),1,wB,wC,wD,wE,wG,wH,wI,wJ,wL,wM,wN,o3,rfl,wO,wQ,wR,wS,wU,wV,wW,wX,Fg,(BR.pick [1,2,3,4,5,6,7,8,9,0] _ (by decide) rfl)⟩
 refine ZR (s:=gBz) (M:=fun σ_ w_=>∃ (U_:PHeap) (cL:Option Addr) (cW:Nat),σ_ 0=.pointer (some ⟨ae,0,none⟩)/\σ_ 3=jV p3/\σ_ 8=.pointer (some ⟨b3,0,none⟩)/\σ_ 11=.pointer (some ⟨b7,0,none⟩)/\σ_ 12=.slice bj br.length bk/\σ_ 13=.slice bd bc.length be/\σ_ 21=.pointer (some ⟨ah,0,none⟩)/\σ_ 98=jV bt/\σ_ 99=jV (↑bo:Int)/\σ_ 112=.pointer (some ⟨b7,2,none⟩)/\σ_ 113=.slice bH bv.length bJ/\σ_ 114=.agg ao.toArray/\σ_ 115=.slice cL ([(⟨(⟨ac,w64 (ac + am)⟩:wAF),ap⟩:wAG)].length) cW/\σ_ 117=.slice bd bc.length be/\σ_ 118=.pointer (some ⟨ae,0,none⟩)/\σ_ 119=.pointer (some ⟨ah,0,none⟩)/\σ_ 120=.pointer (some ⟨ah,0,none⟩)/\σ_ 122=.pointer (some ⟨ah,0,none⟩)/\σ_ 123=.pointer (some ⟨ah,1,none⟩)/\σ_ 124=jV (w64 (ac + am))/\PHeap.Le bb U_/\SW w [B1] U U_ [.blk ah 43 ao,bh,B7,ak,bC,a7,.blk b3 28 B0,au,ba,.row cL cW 43 3 (hD wAA [(⟨(⟨ac,w64 (ac + am)⟩:wAF),ap⟩:wAG)])] w_) ?_ fun rn=>?_
 rintro H7 GC ⟨iw,cL,cW,o5,o6,o7,o8,o9,pd,pe,pf,pg,ph,pj,pk,iV,pm,pn,po,iW,pp,pq,pu,rv,gE⟩
 refine zm ?_ ?_
 refine Zw (j:=4) (enc:=wAA) (xs:=bv) (ys:=[(⟨(⟨ac,w64 (ac + am)⟩:wAF),ap⟩:wAG)]) (zs:=ax) rfl rfl rfl rfl rfl Try.underlying25 wHX rfl rfl rfl rfl rfl rfl gE rfl pj iV (gE.srcR (j:=9) rfl (by decide) (wAD (f:=wAA) (sz:=3) (fun _=>rfl) [(⟨(⟨ac,w64 (ac + am)⟩:wAF),ap⟩:wAG)])) (fun _=>rfl) (fun _=>rfl) gC rfl ?_
 intro j9 mW sd BT
 have BU:SW w [B1] U iw [.blk ah 43 ao,bh,B7,ak,.row j9 mW 43 3 (hD wAA ax),a7,.blk b3 28 B0,au,ba,.row cL cW 43 3 (hD wAA [(⟨(⟨ac,w64 (ac + am)⟩:wAF),ap⟩:wAG)])] sd:=BT
 exact E4 _ _ ⟨iw,cL,cW,j9,mW,o5,o6,o7,o8,o9,pd,pe,pf,pg,ph,pk,iV,rfl,pm,pn,po,iW,pp,pq,pu,rv,(BU.pick [0,1,2,3,5,6,7,8,9,4] _ (by decide) rfl)⟩
 exact ZQ Z Z Z Z (gE.ldB (j:=0) Z Z iW zG (v:=jV ac) Z) (jB _ _ ⟨iw,cL,cW,o5,o6,o7,o8,o9,pd,pe,pf,pg,ph,pj,pk,iV,pm,pn,po,iW,Z,pp,pq,pu,rv,gE⟩)
 refine ZR (s:=gBy) (M:=fun σ_ w_=>∃ (U_:PHeap) (cM:Option Addr) (cX:Nat),σ_ 0=.pointer (some ⟨ae,0,none⟩)/\σ_ 3=jV p3/\σ_ 8=.pointer (some ⟨b3,0,none⟩)/\σ_ 11=.pointer (some ⟨b7,0,none⟩)/\σ_ 12=.slice bj br.length bk/\σ_ 13=.slice bd bc.length be/\σ_ 21=.pointer (some ⟨ah,0,none⟩)/\σ_ 98=jV bt/\σ_ 99=jV (↑bo:Int)/\σ_ 112=.pointer (some ⟨b7,2,none⟩)/\σ_ 113=.slice bH bv.length bJ/\σ_ 114=.agg ao.toArray/\σ_ 115=.slice cM ([(⟨(⟨ac,w64 (ac + am)⟩:wAF),ap⟩:wAG)].length) cX/\σ_ 117=.slice bd bc.length be/\σ_ 118=.pointer (some ⟨ae,0,none⟩)/\σ_ 119=.pointer (some ⟨ah,0,none⟩)/\σ_ 120=.pointer (some ⟨ah,0,none⟩)/\σ_ 121=jV ac/\σ_ 122=.pointer (some ⟨ah,0,none⟩)/\σ_ 123=.pointer (some ⟨ah,1,none⟩)/\PHeap.Le bb U_/\SW w [B1] U U_ [.blk ah 43 ao,bh,B7,ak,bC,a7,.blk b3 28 B0,au,ba,.row cM cX 43 3 (hD wAA [(⟨(⟨ac,w64 (ac + am)⟩:wAF),ap⟩:wAG)])] w_) ?_ fun ro=>?_
 rintro H8 GD ⟨iy,cM,cX,py,pz,pB,pC,pD,pE,pF,pG,pH,pI,pJ,pK,iX,pL,pM,pN,pO,pP,pQ,iY,rx,gF⟩
 refine zm ?_ ?_
 refine Zw (j:=4) (enc:=wAA) (xs:=bv) (ys:=[(⟨(⟨ac,w64 (ac + am)⟩:wAF),ap⟩:wAG)]) (zs:=ax) rfl rfl rfl rfl rfl Try.underlying25 wHX rfl rfl rfl rfl rfl rfl gF rfl pJ iX (gF.srcR (j:=9) rfl (by decide) (wAD (f:=wAA) (sz:=3) (fun _=>rfl) [(⟨(⟨ac,w64 (ac + am)⟩:wAF),ap⟩:wAG)])) (fun _=>rfl) (fun _=>rfl) gC rfl ?_
 intro k3 mX sf BV
 have BW:SW w [B1] U iy [.blk ah 43 ao,bh,B7,ak,.row k3 mX 43 3 (hD wAA ax),a7,.blk b3 28 B0,au,ba,.row cM cX 43 3 (hD wAA [(⟨(⟨ac,w64 (ac + am)⟩:wAF),ap⟩:wAG)])] sf:=BV
 exact E5 _ _ ⟨iy,cM,cX,k3,mX,py,pz,pB,pC,pD,pE,pF,pG,pH,pI,pK,iX,rfl,pL,pM,pN,pO,pP,pQ,iY,rx,(BW.pick [0,1,2,3,5,6,7,8,9,4] _ (by decide) rfl)⟩
 exact ZQ Z Z Z Z (gF.ldB (j:=0) Z Z iY zG (v:=jV (w64 (ac + am))) Z) (jB _ _ ⟨iy,cM,cX,py,pz,pB,pC,pD,pE,pF,pG,pH,pI,pJ,pK,iX,pL,pM,pN,pO,pP,pQ,iY,Z,rx,gF⟩)
 refine oR Z (zE Z bL zI Z Zl) (oL Z (bE.ldB (j:=5) Z Z Z yD (v:=.slice bH bv.length bJ) Z) (oL Z (bE.ldBA (j:=0) Z Z Z Try.isAgg43 yA (vs:=ao) Z Z) (oM Z bU (oM Z bD (oR Z (zE Z Z Zc Z zZ) (oR Z (zE Z Z zX Z zC) (oR Z (zE Z Z Zc Z zZ) (oR Z (zE Z Z zX Z zC) (zm ?_ ?_)))))))))
 refine zr (pv:=[(0,.agg ao.toArray)]) (zs:=cR) (cs:=ao) Z Z Z Z Z (wAH Z wAO) ZS yA yZ Z Z Z Z Z bE ?_
 intro sg dS BX
 let lJ:Res:=.row (some ⟨dS,0,none⟩) 1 43 3 (hD wAA [(⟨(⟨ac,w64 (ac + am)⟩:wAF),ap⟩:wAG)])
 have df:SW w [B1] U bb [lJ,.blk ah 43 ao,bh,B7,ak,bC,a7,.blk b3 28 B0,au,ba] sg:=BX
 refine zm ?_ ?_
 refine Zw (j:=5) (enc:=wAA) (xs:=bv) (ys:=[(⟨(⟨ac,w64 (ac + am)⟩:wAF),ap⟩:wAG)]) (zs:=ax) rfl rfl rfl rfl rfl Try.underlying25 wHX rfl rfl rfl rfl rfl rfl df rfl rfl rfl (df.srcR (j:=0) rfl (by decide) (wAD (f:=wAA) (sz:=3) (fun _=>rfl) [(⟨(⟨ac,w64 (ac + am)⟩:wAF),ap⟩:wAG)])) (fun _=>rfl) (fun _=>rfl) gC rfl ?_
 intro g9 iO sh BY
 have dg:SW w [B1] U bb [lJ,.blk ah 43 ao,bh,B7,ak,.row g9 iO 43 3 (hD wAA ax),a7,.blk b3 28 B0,au,ba] sh:=BY
 refine oR Z (zE Z bL zI Z Zl) (zm ?_ ?_)
 exact ZQ rfl rfl rfl rfl (dg.ldB (j:=1) rfl rfl rfl zG (v:=jV ac) rfl) (ZQ rfl rfl rfl rfl (dg.ldB (j:=1) rfl rfl rfl zG (v:=jV (w64 (ac + am))) rfl) (gG _ _ ⟨bb,(some ⟨dS,0,none⟩),1,g9,iO,bD,cg,ci,bL,cm,bU,rfl,bV,bW,rfl,rfl,rfl,rfl,rfl,rfl,rfl,rfl,rfl,rfl,rfl,rfl,rfl,(zP _),(dg.pick [1,2,3,4,6,7,8,9,0,5] _ (by decide) rfl)⟩))
 exact ZQ rfl rfl rfl rfl (dg.ldB (j:=1) rfl rfl rfl zG (v:=jV (w64 (ac + am))) rfl) (ZQ rfl rfl rfl rfl (dg.ldB (j:=1) rfl rfl rfl zG (v:=jV ac) rfl) (gG _ _ ⟨bb,(some ⟨dS,0,none⟩),1,g9,iO,bD,cg,ci,bL,cm,bU,rfl,bV,bW,rfl,rfl,rfl,rfl,rfl,rfl,rfl,rfl,rfl,rfl,rfl,rfl,rfl,(zP _),(dg.pick [1,2,3,4,6,7,8,9,0,5] _ (by decide) rfl)⟩))
 refine zm ?_ ?_
 exact ZQ rfl rfl rfl rfl (df.ldB (j:=1) rfl rfl rfl zG (v:=jV ac) rfl) (ro _ _ ⟨bb,(some ⟨dS,0,none⟩),1,bD,cg,ci,bL,cm,bU,rfl,bV,bW,rfl,rfl,rfl,rfl,rfl,rfl,rfl,rfl,rfl,rfl,rfl,(zP _),(df.pick [1,2,3,4,5,6,7,8,9,0] _ (by decide) rfl)⟩)
 exact ZQ rfl rfl rfl rfl (df.ldB (j:=1) rfl rfl rfl zG (v:=jV (w64 (ac + am))) rfl) (rn _ _ ⟨bb,(some ⟨dS,0,none⟩),1,bD,cg,ci,bL,cm,bU,rfl,bV,bW,rfl,rfl,rfl,rfl,rfl,rfl,rfl,rfl,rfl,rfl,rfl,(zP _),(df.pick [1,2,3,4,5,6,7,8,9,0] _ (by decide) rfl)⟩)
 refine zm ?_ ?_
 refine ZQ Z Z Z Z (bE.ldB (j:=0) Z Z Z zG (v:=jV ac) Z) (zm ?_ ?_)
 refine zr (pv:=[(0,.agg ao.toArray)]) (zs:=cR) (cs:=ao) Z Z Z Z Z (wAH Z wAO) ZS yA yZ Z Z Z Z Z bE ?_
 intro sj mI BZ
 have Ca:SW w [B1] U bb [.row (some ⟨mI,0,none⟩) 1 43 3 (hD wAA [(⟨(⟨ac,w64 (ac + am)⟩:wAF),ap⟩:wAG)]),.blk ah 43 ao,bh,B7,ak,bC,a7,.blk b3 28 B0,au,ba] sj:=BZ
 exact ro _ _ ⟨bb,(some ⟨mI,0,none⟩),1,bD,cg,ci,bL,cm,bU,rfl,bV,bW,rfl,rfl,rfl,rfl,rfl,rfl,rfl,rfl,rfl,rfl,rfl,(zP _),(Ca.pick [1,2,3,4,5,6,7,8,9,0] _ (by decide) rfl)⟩
 exact ZQ Z Z Z Z (bE.ldB (j:=0) Z Z Z zG (v:=jV (w64 (ac + am))) Z) (rk _ _ ⟨bb,bD,cg,ci,bL,cm,bU,Z,bV,bW,Z,Z,Z,Z,Z,Z,Z,Z,Z,Z,Z,(zP _),bE⟩)
 refine ZQ Z Z Z Z (bE.ldB (j:=0) Z Z Z zG (v:=jV (w64 (ac + am))) Z) (zm ?_ ?_)
 refine zr (pv:=[(0,.agg ao.toArray)]) (zs:=cR) (cs:=ao) Z Z Z Z Z (wAH Z wAO) ZS yA yZ Z Z Z Z Z bE ?_
 intro sk mJ Cb
 have Cc:SW w [B1] U bb [.row (some ⟨mJ,0,none⟩) 1 43 3 (hD wAA [(⟨(⟨ac,w64 (ac + am)⟩:wAF),ap⟩:wAG)]),.blk ah 43 ao,bh,B7,ak,bC,a7,.blk b3 28 B0,au,ba] sk:=Cb
 exact rn _ _ ⟨bb,(some ⟨mJ,0,none⟩),1,bD,cg,ci,bL,cm,bU,rfl,bV,bW,rfl,rfl,rfl,rfl,rfl,rfl,rfl,rfl,rfl,rfl,rfl,(zP _),(Cc.pick [1,2,3,4,5,6,7,8,9,0] _ (by decide) rfl)⟩
 exact ZQ Z Z Z Z (bE.ldB (j:=0) Z Z Z zG (v:=jV ac) Z) (rk _ _ ⟨bb,bD,cg,ci,bL,cm,bU,Z,bV,bW,Z,Z,Z,Z,Z,Z,Z,Z,Z,Z,Z,(zP _),bE⟩)
 rintro H9 sn ⟨rP,rI,tq,bO,bS,cN,cY,y4,pR,wY,wZ,w5,w6,w7,w8,Fj,Ce,Af⟩
 have tr:Hid (¬ ((↑((bt:Int) - 0).toNat:Int) < bt)):=zO (wAc)
 refine sR fL1 Z (oR Z (ze Z y4 w8) (eN (zM (cF Z tr (Zb (zo (zo (ZV (zL (zM (sR (wDF gAt) Z (oM Z pR (oM Z wY (oR Z (za Z Z Z) ?_))))))))))))))
 have q:=bnd qY
 obtain ⟨⟨dk,jJ⟩,Ag,qJ⟩:=q
 try dsimp only at qJ
 refine zF 1 Z Z Z Z (zD Z Z ZZ (zB Z (zB Z zJ)) Z) Ce (fun hs=>wAN (⟨FX,FY,FZ⟩:wAI) ae rI tq (w64 (p3 + 1)) sn rP hs Af Ag) (.inl Z) ?_
 rintro rQ F8 Hr mp Fk Cf ⟨k6,mZ,rfl,rfl,Ah⟩
 let av:Res:=.row bO bS 43 3 (hD wAA bs)
 let aw:Res:=.row cN cY 3 1 (hD KL.encI bw)
 let lK:Res:=.blk b7 28 [.slice bf ay.length bg,.slice bm az.length bn,.slice bO bs.length bS,.slice none 0 0]
 let lL:Res:=.blk ae 94 [.slice k6 jJ.bytes.length mZ,jV jJ.next,.int .u32 jJ.state]
 have Cg:SW w [B1] U rQ [lL,B7,ak,av,lK,.blk b3 28 B0,au,aw] mp:=Cf
 refine oM Z Z (eN (zd ?_))
 have Aj:=Bd.le FC
 have Ak:=Aj.le Fj
 have Al:=Ak.le Fk
 have q:=Cg.freezeRR (R:=wJI) (k:=6) rfl Al rfl (by decide)
 obtain ⟨iz,Fm,q9,Ci⟩:=q
 have Cj:SW w [B1] U iz [lL,B7,ak,av,lK,.blk b3 28 B0,aw] mp:=Ci
 have q:=bnd qJ
 obtain ⟨⟨FL,FM,FN,rH⟩,Eg,qK⟩:=q
 try dsimp only at qK
 have q:=wAx Eg
 obtain ⟨jv,Eh⟩:=q
 replace jv:=zO jv
 refine CK.forN' (fun cB (cC,fg,fh,cD) σ_ w_=>∃ (U_:PHeap) (cO:Option Addr) (cZ:Nat) (cc:Option Addr) (cf:Nat),σ_ 134=jV (↑cB:Int)/\σ_ 0=.pointer (some ⟨ae,0,none⟩)/\σ_ 8=.pointer (some ⟨b3,0,none⟩)/\σ_ 11=.pointer (some ⟨b7,0,none⟩)/\σ_ 12=.slice bj br.length bk/\σ_ 13=.slice cN bw.length cY/\σ_ 133=jV dk/\PHeap.Le iz U_/\SW w [B1] U U_ [.blk ae 94 [.slice cO cC.length cZ,jV fg,.int .u32 fh],B7,ak,av,.row cc cf 39 4 (hD wAB cD),.blk b7 28 [.slice bf ay.length bg,.slice bm az.length bn,.slice bO bs.length bS,.slice cc cD.length cf],.blk b3 28 B0,aw] w_/\Sl U_ 1 cO cZ cC.length (hD KL.encB8 cC)) Eh ?_ ?_ ?_
 have Cn:=Cj.nilrow 39 4
 have Am:=Ah.le Fm
 exact ⟨iz,k6,mZ,none,0,rfl,pR,wZ,w5,w6,w7,rfl,(zP _),(Cn.pick [1,2,3,4,0,5,6,7] _ (by decide) rfl),Am⟩
 rintro cB ⟨cC,fg,fh,cD⟩ HN Ia mq jo ⟨fT,cO,cZ,cc,cf,eG,cy,gu,cz,gv,gw,eD,gI,Co,qf⟩ rc
 try dsimp only at rc
 have m3:Hid ((↑cB:Int) < dk):=zO (wAs jo)
 replace jo:=zO jo
 have jm:Hid (w64 ((↑cB:Int) + 1)=(↑(cB + 1):Int)):=zO (by have h1:=jv.out;have h2:=m3.out;rw [wAU] <;> omega)
 refine sR fL1 Z (oR Z (ze Z eG eD) (eN (zM (cT Z m3 (kN (zM (zd ?_)))))))
 have q:=bnd rc
 obtain ⟨⟨gH,rE,rF,bZ,cH,bp⟩,EZ,qL⟩:=q
 try dsimp only at qL
 let a8:Res:=.blk b7 28 [.slice bf ay.length bg,.slice bm az.length bn,.slice bO bs.length bS,.slice cc cD.length cf]
 let a9:Res:=.row cc cf 39 4 (hD wAB cD)
 let cd:List Value:=[jV bZ,jV cH,jV bp,jV 0]
 refine yS (fun σ_ w_=>∃ (U_:PHeap) (fA:Option Addr) (gb:Nat) (bu:Nat),σ_ 0=.pointer (some ⟨ae,0,none⟩)/\σ_ 8=.pointer (some ⟨b3,0,none⟩)/\σ_ 11=.pointer (some ⟨b7,0,none⟩)/\σ_ 12=.slice bj br.length bk/\σ_ 13=.slice cN bw.length cY/\σ_ 22=.pointer (some ⟨bu,0,none⟩)/\σ_ 133=jV dk/\σ_ 134=jV (↑cB:Int)/\PHeap.Le fT U_/\SW w [B1] U U_ [.blk ae 94 [.slice fA gH.length gb,jV rE,.int .u32 rF],B7,ak,av,a9,a8,.blk b3 28 B0,aw,.blk bu 39 cd] w_/\Sl U_ 1 fA gb gH.length (hD KL.encB8 gH)) ?_ ?_
 have q:=bnd EZ
 obtain ⟨⟨cn,ca⟩,qh,qM⟩:=q
 try dsimp only at qM
 have q:=bnd qM
 obtain ⟨⟨co,bA⟩,jb,qN⟩:=q
 try dsimp only at qN
 have q:=bnd qN
 obtain ⟨⟨cp,bF⟩,gz,eI⟩:=q
 try dsimp only at eI
 refine zt zu [3,3,1,3,1005,3,3,1004,3,3,1005,3,3,1004,3,0,3,2,0,ae] (wDo (wHq (wJz (.fx 4 (.fx 10 (.fx 15 (.fl 16 (.fx 17 (.fx 18 .nil .stop) .stop)) (.fx 17 gBe .stop)) (.fx 17 gBn .stop)) (.fx 17 (.fx 4 gBn .stop) .stop))))) (by kernel_rfl) ?_
 have dh:=Co.drew
 generalize hw_W1886:({ mq with drawn:=mq.drawn + 1 }:World)=su at dh ⊢
 refine zw rfl rfl rfl rfl rfl cy (zc rfl rfl rfl rfl (fun _=>zE rfl cz zI rfl ZB) (ZF rfl rfl rfl rfl (dh.ldB (j:=5) rfl rfl rfl ZK (v:=.slice bf ay.length bg) rfl) rfl (zc rfl rfl rfl rfl (fun _=>zx rfl rfl zK) (zw rfl rfl rfl rfl rfl cy (zc rfl rfl rfl rfl (fun _=>zE rfl cz zI rfl Zj) (yW (T:=[ae]) [0] [1,2,3,4,5,6,7] [B7,ak,av,a9,a8,.blk b3 28 B0,aw] rfl rfl rfl rfl dh rfl ⟨⟨0,by decide,_,rfl,rfl⟩,trivial⟩ (by decide) rfl (by decide) (fun _ D5=>(D5.ldB (j:=4) rfl rfl rfl Zr (v:=.slice bm az.length bn) rfl)) rfl (zc rfl rfl rfl rfl (fun _=>zx rfl rfl zn) (zc rfl rfl rfl rfl (fun _=>za rfl rfl rfl) (zw rfl rfl rfl rfl rfl cy (zc rfl rfl rfl rfl (fun _=>zE rfl cz zI rfl Zl) (yW (T:=[ae]) [0] [1,2,3,4,5,6,7] [B7,ak,av,a9,a8,.blk b3 28 B0,aw] rfl rfl rfl rfl dh rfl ⟨⟨0,by decide,_,rfl,rfl⟩,trivial⟩ (by decide) rfl (by decide) (fun _ D6=>(D6.ldB (j:=4) rfl rfl rfl yD (v:=.slice bO bs.length bS) rfl)) rfl (zc rfl rfl rfl rfl (fun _=>zx rfl rfl ZS) (zm ?_ ?_)))))))))))))
 refine Zt 1 rfl rfl rfl rfl (zD rfl rfl ZZ (zB rfl (zB rfl zJ)) rfl) dh (fun hs=>wAN (⟨cC,fg,fh⟩:wAI) ae cO cZ (↑ay.length:Int) su fT hs qf qh) rfl (T:=[ae]) rfl ⟨fun b h=>(by cases h;exact .head _),trivial⟩ ?_
 rintro fU F9 Ht mr jC Cu ⟨ib,iP,rfl,rfl,qi⟩
 let lM:Res:=.blk ae 94 [.slice ib ca.bytes.length iP,jV ca.next,.int .u32 ca.state]
 have qw:SW w [B1] U fU [lM,B7,ak,av,a9,a8,.blk b3 28 B0,aw] mr:=Cu
 refine zm ?_ ?_
 refine Zt 1 rfl rfl rfl rfl (zD rfl rfl ZZ (zB rfl (zB rfl zJ)) rfl) qw (fun hs=>wAN ca ae ib iP (w64 ((↑az.length:Int) + 1)) mr fU hs qi jb) rfl (T:=[ae]) rfl ⟨fun b h=>(by cases h;exact .head _),trivial⟩ ?_
 rintro fV Ga Hu ms ry Cv ⟨ic,iQ,rfl,rfl,qj⟩
 let lN:Res:=.blk ae 94 [.slice ic bA.bytes.length iQ,jV bA.next,.int .u32 bA.state]
 have qx:SW w [B1] U fV [lN,B7,ak,av,a9,a8,.blk b3 28 B0,aw] ms:=Cv
 refine zm ?_ ?_
 refine zF 1 Z Z Z Z (zD Z Z ZZ (zB Z (zB Z zJ)) Z) qx (fun hs=>wAN bA ae ic iQ (↑bs.length:Int) ms fV hs qj gz) (.inl Z) ?_
 rintro iA Gb Hv sv Fo Cw ⟨k7,m4,rfl,rfl,Ao⟩
 let lO:Res:=.blk ae 94 [.slice k7 bF.bytes.length m4,jV bF.next,.int .u32 bF.state]
 have Cx:SW w [B1] U iA [lO,B7,ak,av,a9,a8,.blk b3 28 B0,aw] sv:=Cw
 let io:List Value:=[jV cn,jV co,jV cp,jV 0]
 let lP:List Value:=[jV 0,jV 0,jV 0,jV 0]
 refine oR Z (zk (pv:=[(0,jV cn),(1,jV co),(2,jV cp)]) (z:=lP) (cs:=io) Z (wAH Z (wAH Z (wAH Z wAO))) ZX wDD Z Z) (zQ (cs:=lP) Z Z Z Z Z ZX Z Cx ?_)
 intro GE mK Cy
 refine zU (j:=0) (vs:=io) Z Z Z Z Cy Z Z Z Z ZW (zA Z) Z Z Z ?_
 intro sw Cz
 have CA:SW w [B1] U iA [.blk mK 39 io,lO,B7,ak,av,a9,a8,.blk b3 28 B0,aw] sw:=Cz
 refine zh ?_
 cases eI
 exact zL ⟨rfl,⟨iA,k7,m4,mK,cy,gu,cz,gv,gw,rfl,eD,eG,((jC.trans ry).trans Fo),(CA.pick [1,2,3,4,5,6,7,8,0] _ (by decide) rfl),Ao⟩⟩
 let fR:List Value:=[jV 0,jV 0,jV 0,jV 0]
 refine zQ (cs:=fR) Z Z Z Z Z ZX Z qx ?_
 intro mu fZ CC
 have CD:SW w [B1] U fV [lN,.blk fZ 39 fR,B7,ak,av,a9,a8,.blk b3 28 B0,aw] mu:=CC.pick [1,0,2,3,4,5,6,7,8] _ (by decide) rfl
 refine zF 1 Z Z Z Z (zD Z Z ZZ (zB Z (zB Z zJ)) Z) CD (fun hs=>wAN bA ae ic iQ (↑bs.length:Int) mu fV hs qj gz) (.inl Z) ?_
 rintro iB Gc Hw sB Fp CE ⟨k8,m5,rfl,rfl,Ap⟩
 let lQ:Res:=.blk ae 94 [.slice k8 bF.bytes.length m5,jV bF.next,.int .u32 bF.state]
 have CF:SW w [B1] U iB [lQ,.blk fZ 39 fR,B7,ak,av,a9,a8,.blk b3 28 B0,aw] sB:=CE
 let iq:List Value:=[jV cn,jV co,jV cp,jV 0]
 refine oR Z (zk (pv:=[(0,jV cn),(1,jV co),(2,jV cp)]) (z:=fR) (cs:=iq) Z (wAH Z (wAH Z (wAH Z wAO))) ZX wDD Z Z) (zU (j:=1) (vs:=iq) Z Z Z Z CF Z Z Z Z ZW (zA Z) Z Z Z ?_)
 intro sC CG
 have CH:SW w [B1] U iB [lQ,.blk fZ 39 iq,B7,ak,av,a9,a8,.blk b3 28 B0,aw] sC:=CG
 refine zh ?_
 cases eI
 exact zL ⟨rfl,⟨iB,k8,m5,fZ,cy,gu,cz,gv,gw,rfl,eD,eG,((jC.trans ry).trans Fp),(CH.pick [0,2,3,4,5,6,7,8,1] _ (by decide) rfl),Ap⟩⟩
 let dM:List Value:=[jV 0,jV 0,jV 0,jV 0]
 refine zQ (cs:=dM) Z Z Z Z Z ZX Z qw ?_
 intro mw dT CI
 have CJ:SW w [B1] U fU [lM,.blk dT 39 dM,B7,ak,av,a9,a8,.blk b3 28 B0,aw] mw:=CI.pick [1,0,2,3,4,5,6,7,8] _ (by decide) rfl
 refine Zt 1 rfl rfl rfl rfl (zD rfl rfl ZZ (zB rfl (zB rfl zJ)) rfl) CJ (fun hs=>wAN ca ae ib iP (w64 ((↑az.length:Int) + 1)) mw fU hs qi jb) rfl (T:=[ae]) rfl ⟨fun b h=>(by cases h;exact .head _),trivial⟩ ?_
 rintro mb Gd Hx mx Fq CM ⟨k9,m6,rfl,rfl,Aq⟩
 have CN:SW w [B1] U mb [.blk ae 94 [.slice k9 bA.bytes.length m6,jV bA.next,.int .u32 bA.state],.blk dT 39 dM,B7,ak,av,a9,a8,.blk b3 28 B0,aw] mx:=CM
 refine zF 1 Z Z Z Z (zD Z Z ZZ (zB Z (zB Z zJ)) Z) CN (fun hs=>wAN bA ae k9 m6 (↑bs.length:Int) mx mb hs Aq gz) (.inl Z) ?_
 rintro iC Ge Hy sD Fr CO ⟨lb,m7,rfl,rfl,Ar⟩
 let lR:Res:=.blk ae 94 [.slice lb bF.bytes.length m7,jV bF.next,.int .u32 bF.state]
 have CQ:SW w [B1] U iC [lR,.blk dT 39 dM,B7,ak,av,a9,a8,.blk b3 28 B0,aw] sD:=CO
 let ir:List Value:=[jV cn,jV co,jV cp,jV 0]
 refine oR Z (zk (pv:=[(0,jV cn),(1,jV co),(2,jV cp)]) (z:=dM) (cs:=ir) Z (wAH Z (wAH Z (wAH Z wAO))) ZX wDD Z Z) (zU (j:=1) (vs:=ir) Z Z Z Z CQ Z Z Z Z ZW (zA Z) Z Z Z ?_)
 intro sE CR
 have CS:SW w [B1] U iC [lR,.blk dT 39 ir,B7,ak,av,a9,a8,.blk b3 28 B0,aw] sE:=CR
 refine zh ?_
 cases eI
 exact zL ⟨rfl,⟨iC,lb,m7,dT,cy,gu,cz,gv,gw,rfl,eD,eG,((jC.trans Fq).trans Fr),(CS.pick [0,2,3,4,5,6,7,8,1] _ (by decide) rfl),Ar⟩⟩
 let cS:List Value:=[jV 0,jV 0,jV 0,jV 0]
 refine zQ (cs:=cS) Z Z Z Z Z ZX Z dh ?_
 intro my cV CT
 have CU:SW w [B1] U fT [.blk ae 94 [.slice cO cC.length cZ,jV fg,.int .u32 fh],.blk cV 39 cS,B7,ak,av,a9,a8,.blk b3 28 B0,aw] my:=CT.pick [1,0,2,3,4,5,6,7,8] _ (by decide) rfl
 refine Zt 1 rfl rfl rfl rfl (zD rfl rfl ZZ (zB rfl (zB rfl zJ)) rfl) CU (fun hs=>wAN (⟨cC,fg,fh⟩:wAI) ae cO cZ (↑ay.length:Int) my fT hs qf qh) rfl (T:=[ae]) rfl ⟨fun b h=>(by cases h;exact .head _),trivial⟩ ?_
 rintro mc Gf Hz mz Fs CV ⟨lf,m9,rfl,rfl,As⟩
 have CW:SW w [B1] U mc [.blk ae 94 [.slice lf ca.bytes.length m9,jV ca.next,.int .u32 ca.state],.blk cV 39 cS,B7,ak,av,a9,a8,.blk b3 28 B0,aw] mz:=CV
 refine Zt 1 rfl rfl rfl rfl (zD rfl rfl ZZ (zB rfl (zB rfl zJ)) rfl) CW (fun hs=>wAN ca ae lf m9 (w64 ((↑az.length:Int) + 1)) mz mc hs As jb) rfl (T:=[ae]) rfl ⟨fun b h=>(by cases h;exact .head _),trivial⟩ ?_
 rintro md Gg HA mA Ft CX ⟨lg,n3,rfl,rfl,Au⟩
 have CY:SW w [B1] U md [.blk ae 94 [.slice lg bA.bytes.length n3,jV bA.next,.int .u32 bA.state],.blk cV 39 cS,B7,ak,av,a9,a8,.blk b3 28 B0,aw] mA:=CX
 refine zF 1 Z Z Z Z (zD Z Z ZZ (zB Z (zB Z zJ)) Z) CY (fun hs=>wAN bA ae lg n3 (↑bs.length:Int) mA md hs Au gz) (.inl Z) ?_
 rintro iD Gh HB sF Fu CZ ⟨lh,n4,rfl,rfl,Av⟩
 let lS:Res:=.blk ae 94 [.slice lh bF.bytes.length n4,jV bF.next,.int .u32 bF.state]
 have C0:SW w [B1] U iD [lS,.blk cV 39 cS,B7,ak,av,a9,a8,.blk b3 28 B0,aw] sF:=CZ
 let it:List Value:=[jV cn,jV co,jV cp,jV 0]
 refine oR Z (zk (pv:=[(0,jV cn),(1,jV co),(2,jV cp)]) (z:=cS) (cs:=it) Z (wAH Z (wAH Z (wAH Z wAO))) ZX wDD Z Z) (zU (j:=1) (vs:=it) Z Z Z Z C0 Z Z Z Z ZW (zA Z) Z Z Z ?_)
 intro sG C1
 have C2:SW w [B1] U iD [lS,.blk cV 39 it,B7,ak,av,a9,a8,.blk b3 28 B0,aw] sG:=C1
 refine zh ?_
 cases eI
 exact zL ⟨rfl,⟨iD,lh,n4,cV,cy,gu,cz,gv,gw,rfl,eD,eG,((Fs.trans Ft).trans Fu),(C2.pick [0,2,3,4,5,6,7,8,1] _ (by decide) rfl),Av⟩⟩
 rintro Ic mB ⟨me,fA,gb,bu,pS,w9,pT,pU,pV,db,xa,xb,gJ,eH,Aw⟩
 refine sR fL8 Z (oR Z (zE Z pT zI Z Zl) (oL Z (eH.ldB (j:=5) Z Z Z yD (v:=.slice bO bs.length bS) Z) (oR Z (zE Z db ZJ Z zC) (oL Z (eH.ldB (j:=8) Z Z Z zG (v:=jV bp) Z) (bnK qL fun _ gA EF=>?_)))))
 obtain ⟨GO,qo⟩:=eH.rowSome (j:=3) rfl (by rw [wAD (f:=wAA) (sz:=3) (fun _=>rfl) bs];have hz:=wAS gA;omega)
 refine oR Z (Zd Z Z qo Z ZS yA (wBu gA) (wBv gA)) (oR Z (zE Z Z Zc Z zC) ?_)
 have Et:=wBL (xs:=bs) (wAS gA)
 refine ZF rfl rfl rfl rfl (eH.ldR (j:=3) rfl qo rfl rfl zG (wAV (sz:=3) (fun _=>rfl) _ _ 2 _ Et (by first | omega | rfl | simp) rfl)) rfl (yI rfl rfl rfl rfl rfl rfl (eN (zM (zt zu [3,3,1004,3,1004,3,1004,3,1004,3,3,1004,3,1004,3,3,3,3,3,1005,3,3,3,0,ae] (wJx (.fx 19 (wIP (.fx 23 .nil .stop)) .stop)) (by kernel_rfl) ?_))))
 have bX:=eH.drew
 generalize hw_W2138:({ mB with drawn:=mB.drawn + 1 }:World)=sI at bX ⊢
 refine zw rfl rfl rfl rfl rfl pU (zc rfl rfl rfl rfl (fun _=>zE rfl db ZJ rfl zC) (yW (T:=[ae]) [0] [1,2,3,4,5,6,7,8] [B7,ak,av,a9,a8,.blk b3 28 B0,aw,.blk bu 39 cd] rfl rfl rfl rfl bX rfl ⟨⟨0,by decide,_,rfl,rfl⟩,trivial⟩ (by decide) rfl (by decide) (fun _ D7=>(D7.ldB (j:=7) rfl rfl rfl zG (v:=jV bZ) rfl)) rfl (bnK EF fun gQ dd EG=>?_)))
 have Ax:=q9.le gI
 have qk:=Ax.le gJ
 have q:=qk.el (wAb dd)
 obtain ⟨th,FI,HL,Bo,jf,EV⟩:=q
 obtain ⟨rA,rC,rfl,Ay⟩:=EV
 replace jf:Cl me th (FI + bZ.toNat * 1) [.slice rA gQ.length rC]:=jf
 refine zc rfl rfl rfl rfl (fun _=>Zd rfl rfl Bo rfl Try.runUnderlying29 ZB (wCG dd) (wCM dd)) (yW (T:=[ae]) [0] [1,2,3,4,5,6,7,8] [B7,ak,av,a9,a8,.blk b3 28 B0,aw,.blk bu 39 cd] rfl rfl rfl rfl bX rfl ⟨⟨0,by decide,_,rfl,rfl⟩,trivial⟩ (by decide) rfl (by decide) (fun _ D8=>(D8.ldC (f:=0) jf (v:=.slice rA gQ.length rC) rfl rfl ZK rfl)) rfl (zc rfl rfl rfl rfl (fun _=>zE rfl db ZJ rfl zC) (yW (T:=[ae]) [0] [1,2,3,4,5,6,7,8] [B7,ak,av,a9,a8,.blk b3 28 B0,aw,.blk bu 39 cd] rfl rfl rfl rfl bX rfl ⟨⟨0,by decide,_,rfl,rfl⟩,trivial⟩ (by decide) rfl (by decide) (fun _ D9=>(D9.ldB (j:=7) rfl rfl rfl zG (v:=jV cH) rfl)) rfl (bnK EG fun cr de EH=>?_))))
 have q:=Ay.el (fun _=>rfl) (wAb de)
 obtain ⟨GP,Hl,Bp,Bs⟩:=q
 refine zc rfl rfl rfl rfl (fun _=>Zd rfl rfl Bp rfl zK zC (wCG de) (wCM de)) (yW (T:=[ae]) [0] [1,2,3,4,5,6,7,8] [B7,ak,av,a9,a8,.blk b3 28 B0,aw,.blk bu 39 cd] rfl rfl rfl rfl bX rfl ⟨⟨0,by decide,_,rfl,rfl⟩,trivial⟩ (by decide) rfl (by decide) (fun _ Ea=>(Ea.ldC (f:=0) Bs (v:=jV cr) rfl rfl zG rfl)) rfl (zw rfl rfl rfl rfl rfl pV (zc rfl rfl rfl rfl (fun _=>zE rfl db ZJ rfl zC) (yW (T:=[ae]) [0] [1,2,3,4,5,6,7,8] [B7,ak,av,a9,a8,.blk b3 28 B0,aw,.blk bu 39 cd] rfl rfl rfl rfl bX rfl ⟨⟨0,by decide,_,rfl,rfl⟩,trivial⟩ (by decide) rfl (by decide) (fun _ Eb=>(Eb.ldB (j:=7) rfl rfl rfl zG (v:=jV bp) rfl)) rfl (bnK EH fun _ cA EI=>?_)))))
 obtain ⟨GQ,gD⟩:=bX.rowSome (j:=7) rfl (by rw [wAD (f:=KL.encI) (sz:=1) (fun _=>rfl) bw];have hz:=wAS cA;omega)
 refine oR Z (Zd Z Z gD Z zK zC (wBu cA) (wBv cA)) ?_
 have Eu:=wBL (xs:=bw) (wAS cA)
 refine yW (T:=[ae]) [0] [1,2,3,4,5,6,7,8] [B7,ak,av,a9,a8,.blk b3 28 B0,aw,.blk bu 39 cd] rfl rfl rfl rfl bX rfl ⟨⟨0,by decide,_,rfl,rfl⟩,trivial⟩ (by decide) rfl (by decide) (fun _ Ec=>(Ec.ldR (j:=6) rfl gD rfl rfl zG (wAV (sz:=1) (fun _=>rfl) _ _ 0 _ Eu (by first | omega | rfl | simp) rfl))) rfl (zc rfl rfl rfl rfl (fun _=>za rfl rfl rfl) (zw rfl rfl rfl rfl rfl pS (zw rfl rfl rfl rfl rfl rfl (zc rfl rfl rfl rfl (fun _=>Runs.negw rfl rfl) (zw rfl rfl rfl rfl rfl rfl ?_)))))
 have q:=bnd EI
 obtain ⟨⟨dl,jK⟩,Az,qO⟩:=q
 try dsimp only at qO
 refine Zt 1 rfl rfl rfl rfl (zD rfl rfl Try.call31 (zB rfl (zB rfl (zB rfl zJ))) rfl) bX (fun hs=>wAa (⟨gH,rE,rF⟩:wAI) ae fA gb (w64 (-((gd bs bp.toNat).Error))) ((gd bs bp.toNat).Error) sI me hs Aw Az) rfl (T:=[ae]) rfl ⟨fun b h=>(by cases h;exact .head _),trivial⟩ ?_
 rintro bR Gi HC sJ gK C4 ⟨fD,gf,rfl,rfl,jc⟩
 let dN:Res:=.blk ae 94 [.slice fD jK.bytes.length gf,jV jK.next,.int .u32 jK.state]
 have C5:SW w [B1] U bR [dN,B7,ak,av,a9,a8,.blk b3 28 B0,aw,.blk bu 39 cd] sJ:=C4
 refine oR Z (za Z Z Z) (oR Z (Runs.max Z Z Z) (oR Z (zE Z db ZJ Z zC) (zU (j:=8) (vs:=[jV (max 0 (w64 ((w64 (cr + (gd bw bp.toNat))) + dl)))]) Z Z Z Z C5 Z Z Z Z zC (zA Z) Z Z Z ?_)))
 intro iI C6
 let cw:List Value:=[jV bZ,jV cH,jV bp,jV (max 0 (w64 ((w64 (cr + (gd bw bp.toNat))) + dl)))]
 have C7:SW w [B1] U bR [dN,B7,ak,av,a9,a8,.blk b3 28 B0,aw,.blk bu 39 cw] iI:=C6
 refine eN (zM (yh fun cb bM=>?_))
 have iZ:cb 0=.pointer (some ⟨ae,0,none⟩):=(bM 0).trans pS
 have i2:cb 8=.pointer (some ⟨b3,0,none⟩):=(bM 8).trans w9
 have eE:cb 11=.pointer (some ⟨b7,0,none⟩):=(bM 11).trans pT
 have gx:cb 12=.slice bj br.length bk:=(bM 12).trans pU
 have gy:cb 13=.slice cN bw.length cY:=(bM 13).trans pV
 have eF:cb 22=.pointer (some ⟨bu,0,none⟩):=(bM 22).trans db
 have pX:cb 23=jV ((gd bs bp.toNat).Error):=(bM 23).trans rfl
 have i3:cb 133=jV dk:=(bM 133).trans xa
 have i4:cb 134=jV (↑cB:Int):=(bM 134).trans xb
 clear bM
 refine zt zu [3,1,3,3,1,3,1,3,1,3,1,3,3,3,1,3,1,3,3] fL19 (by kernel_rfl) ?_
 have bx:=C7.drew
 generalize hw_W2200:({ iI with drawn:=iI.drawn + 1 }:World)=GG at bx ⊢
 refine oR Z (zE Z eF ZJ Z zC) (oL Z (bx.ldB (j:=8) Z Z Z zG (v:=jV (max 0 (w64 ((w64 (cr + (gd bw bp.toNat))) + dl)))) Z) (oM Z gx (oR Z (zE Z eF ZJ Z zC) (oL Z (bx.ldB (j:=8) Z Z Z zG (v:=jV bZ) Z) ?_))))
 have AA:=qk.le gK
 have q:=AA.el (wAb dd)
 obtain ⟨tj,FJ,HM,Bq,jg,EW⟩:=q
 obtain ⟨rB,rD,rfl,AE⟩:=EW
 replace jg:Cl bR tj (FJ + bZ.toNat * 1) [.slice rB gQ.length rD]:=jg
 refine oR Z (Zd Z Z Bq Z Try.runUnderlying29 ZB (wCG dd) (wCM dd)) (oL Z (bx.ldC (f:=0) jg (v:=.slice rB gQ.length rD) Z Z ZK Z) (oR Z (zE Z eF ZJ Z zC) (oL Z (bx.ldB (j:=8) Z Z Z zG (v:=jV cH) Z) ?_)))
 have q:=AE.el (fun _=>rfl) (wAb de)
 obtain ⟨GR,Hm,Br,Bt⟩:=q
 refine oR Z (Zd Z Z Br Z zK zC (wCG de) (wCM de)) (oL Z (bx.ldC (f:=0) Bt (v:=jV cr) Z Z zG Z) (oR Z (yP Z Z Z) (oM Z gy (oR Z (zE Z eF ZJ Z zC) (oL Z (bx.ldB (j:=8) Z Z Z zG (v:=jV bp) Z) (oR Z (Zd Z Z gD Z zK zC (wBu cA) (wBv cA)) ?_))))))
 have Ev:=wBL (xs:=bw) (wAS cA)
 refine ZF rfl rfl rfl rfl (bx.ldR (j:=7) rfl gD rfl rfl zG (wAV (sz:=1) (fun _=>rfl) _ _ 0 _ Ev (by first | omega | rfl | simp) rfl)) rfl (zc rfl rfl rfl rfl (fun _=>yP rfl rfl rfl) (yI rfl rfl rfl rfl rfl rfl (eN (sR fL9 rfl (zw rfl rfl rfl rfl rfl rfl (zw rfl rfl rfl rfl rfl pX (zc rfl rfl rfl rfl (fun _=>Runs.negw rfl rfl) (zc rfl rfl rfl rfl (fun _=>Runs.geq rfl rfl rfl) (zw rfl rfl rfl rfl rfl rfl (ifc qO ?_ ?_))))))))))
 intro bT EJ
 refine zw Z Z Z (wT Z bT) Z Z (zw Z Z Z (wT Z bT) Z pX (rU Z (wT Z bT) (Runs.leq Z Z Z) (oR Z (zN Z (Zi bT.out) Z) (eN (ifc EJ ?_ ?_)))))
 intro iR EK
 refine cT Z iR (rR (wDF (.fx 3 (.fx 4 (.fl 5 (.fx 6 .nil .stop)) .stop) .stop)) Z (oR Z (zE Z eE zI Z ZO) (oL Z (bx.ldB (j:=5) Z Z Z Zs (v:=.slice cc cD.length cf) Z) (oL Z (bx.ldBA (j:=8) Z Z eF yj ZW (vs:=cw) Z Z) (zr (pv:=[(0,.agg cw.toArray)]) (zs:=[jV 0,jV 0,jV 0,jV 0]) (cs:=cw) Z Z Z Z Z (wAH Z wAO) ZN ZW ZX Z Z Z Z Z bx ?_)))))
 intro sK tk C8
 let iu:Res:=.row (some ⟨tk,0,none⟩) 1 39 4 (hD wAB [(⟨bZ,cH,bp,max 0 (w64 ((w64 (cr + (gd bw bp.toNat))) + dl))⟩:wAJ)])
 have qy:SW w [B1] U bR [iu,dN,B7,ak,av,a9,a8,.blk b3 28 B0,aw,.blk bu 39 cw] sK:=C8
 refine bnK EK fun gR AG EL=>Zw (j:=5) (enc:=wAB) (xs:=cD) (ys:=[(⟨bZ,cH,bp,max 0 (w64 ((w64 (cr + (gd bw bp.toNat))) + dl))⟩:wAJ)]) (zs:=gR) rfl rfl rfl rfl rfl Try.underlying26 wHW rfl rfl rfl rfl rfl rfl qy rfl rfl rfl (qy.srcR (j:=0) rfl (by decide) (wAD (f:=wAB) (sz:=4) (fun _=>rfl) [(⟨bZ,cH,bp,max 0 (w64 ((w64 (cr + (gd bw bp.toNat))) + dl))⟩:wAJ)])) (fun _=>rfl) (fun _=>rfl) AG rfl ?_
 intro fE gg sM C9
 let lU:Res:=.row fE gg 39 4 (hD wAB gR)
 have Da:SW w [B1] U bR [iu,dN,B7,ak,av,lU,a8,.blk b3 28 B0,aw,.blk bu 39 cw] sM:=C9
 refine oR Z (zE Z eE zI Z ZO) (zU (j:=6) (vs:=[.slice fE gR.length gg]) Z Z Z Z Da Z Z Z Z ZO (zA Z) Z Z Z ?_)
 intro sN Db
 have Dc:SW w [B1] U bR [iu,dN,B7,ak,av,lU,.blk b7 28 [.slice bf ay.length bg,.slice bm az.length bn,.slice bO bs.length bS,.slice fE gR.length gg],.blk b3 28 B0,aw,.blk bu 39 cw] sN:=Db
 refine zh (ZA (zL (rR fL2 Z (oR Z (ZH (za Z i4 Z) (congrArg (jV) jm.out)) (oM Z Z (zh ?_))))))
 cases EL
 exact zL ⟨rfl,⟨bR,fD,gf,fE,gg,rfl,iZ,i2,eE,gx,gy,i3,((gI.trans gJ).trans gK),(Dc.pick [1,2,3,4,5,6,7,8] _ (by decide) rfl),jc⟩⟩
 intro iR EM
 refine cF Z iR (Zo (ZA (zL (rR fL2 Z (oR Z (ZH (za Z i4 Z) (congrArg (jV) jm.out)) (oM Z Z (zh ?_)))))))
 cases EM
 exact zL ⟨rfl,⟨bR,fD,gf,cc,cf,rfl,iZ,i2,eE,gx,gy,i3,((gI.trans gJ).trans gK),(bx.pick [0,1,2,3,4,5,6,7] _ (by decide) rfl),jc⟩⟩
 intro bT EN
 refine oF Z bT (oF Z bT (oF Z bT (oR Z (zg Z (ZD bT.out) Z) (eN (ZE Z (Zo (ZA (zL (rR fL2 Z (oR Z (ZH (za Z i4 Z) (congrArg (jV) jm.out)) (oM Z Z (zh ?_))))))))))))
 cases EN
 exact zL ⟨rfl,⟨bR,fD,gf,cc,cf,rfl,iZ,i2,eE,gx,gy,i3,((gI.trans gJ).trans gK),(bx.pick [0,1,2,3,4,5,6,7] _ (by decide) rfl),jc⟩⟩
 rintro Ie GH ⟨mf,lk,n6,ie,iS,y6,Ha,pY,xj,xk,xl,xm,Fv,qz,AJ⟩
 have tv:Hid (¬ ((↑((dk:Int) - 0).toNat:Int) < dk)):=zO (wAc)
 refine sR fL1 Z (oR Z (ze Z y6 xm) (eN (zM (cF Z tv (Zb (zo (zo (ZV (zL (sR (wDF gBf) Z ?_))))))))))
 let cU:List Value:=[.slice bf ay.length bg,.slice bm az.length bn,.slice bO bs.length bS,.slice ie rH.length iS]
 refine oL Z (qz.ldBA (j:=5) Z Z xj zf zY (vs:=cU) Z Z) (oM Z xk (oM Z xl (zU (j:=6) (vs:=cU) Z Z Z Z qz Z pY Z Z zY (zA Z) Z Z Z ?_)))
 intro sO Dd
 have qA:SW w [B1] U mf [.blk ae 94 [.slice lk FL.length n6,jV FM,.int .u32 FN],B7,ak,av,.row ie iS 39 4 (hD wAB rH),.blk b7 28 cU,.blk b3 28 cU,aw] sO:=Dd
 refine oA Z Z (oA Z Z (eN (zR ?_)))
 have AK:=q9.le Fv
 cases qK
 exact ⟨rfl,_,(wDg (rs:=[.cell 8 28,.tmp 9,.tmp 10]) (vs:=[.agg cU.toArray,.slice bj br.length bk,.slice cN bw.length cY]) ⟨⟨_,pY,(wAw zf zY (qA.blkAt (k:=6) rfl) (vs:=cU) rfl rfl)⟩,⟨rfl,⟨rfl,trivial⟩⟩⟩ rfl),mf,_,(qA.pick [1,2,3,4,7,0] _ (by decide) rfl),bf,bg,bm,bn,bO,bS,ie,iS,bj,bk,cN,cY,lk,n6,rfl,rfl,AK,AJ⟩
end Go.Proofs.Ytlnfbjphfoipaaa
namespace Go.Proofs.Ytlnfbjphfoipaaa
open Go.KL
set_option maxHeartbeats 4000000
theorem wAu (p0:Int) (p1:Int) (w:World) (U:PHeap) (hS:St0 w U [])  {r:wAP} (hm:wAi p0 p1=some r):Gv Try.prog 16 [jV p0,jV p1] w (wBw w [] U (fun U_ L_ v=>v=.agg #[jV r.Skier,jV r.Mat]/\L_=[])):=by
 unfold wAi at hm
 refine Gv.of Try.func16 Z Try.ntmps16 Try.results16 Z (sR (.fx 0 .nil .stop) Z (zQ (cs:=[jV 0,jV 0]) Z Z Z Z Z Zu Z hS ?_))
 intro W1 b2 aj
 refine eN (sR (wDF (.fx 3 .nil .stop)) Z (oM Z Z (oM Z Z ?_)))
 let B0:List Value:=[jV p0,jV p1]
 refine oR Z (zk (pv:=[(0,jV p0),(1,jV p1)]) (z:=[jV 0,jV 0]) (cs:=B0) Z (wAH Z (wAH Z wAO)) Zu wEg Z Z) (zU (j:=0) (vs:=B0) Z Z Z Z aj Z Z Z Z ZG (zA Z) Z Z Z ?_)
 intro W5 ak
 have ag:sW w U U [.blk b2 45 B0] W5:=ak
 refine eN (zR ?_)
 cases hm
 exact ⟨rfl,_,(wFv (v:=.agg B0.toArray) ⟨⟨_,rfl,(wAw ZY ZG (ag.blkAt (k:=0) rfl) (vs:=B0) rfl rfl)⟩,trivial⟩),U,_,(ag.pick [] _ (by decide) rfl),rfl,rfl⟩
theorem wEP (p0:wAI) (af:Nat) (am:Option Addr) (an:Nat) (p1:wAE) (aq:Option Addr) (av:Nat) (au:Option Addr) (aw:Nat) (a7:Option Addr) (a9:Nat) (a8:Option Addr) (ba:Nat) (w:World) (U:PHeap) (hS:St0 w U [.blk af 94 [.slice am p0.bytes.length an,jV p0.next,.int .u32 p0.state]]) (bO:Sl U 1 am an p0.bytes.length (hD KL.encB8 p0.bytes)) (bY:Sl U 1 aq av p1.Starts.length (hD KL.encI p1.Starts)) (bZ:Sl U 2 au aw p1.Splits.length (hD wAC p1.Splits)) (ca:Sl U 3 a7 a9 p1.Clocks.length (hD wAA p1.Clocks)) (cb:Sl U 4 a8 ba p1.Readings.length (hD wAB p1.Readings)) {r:wAP × wAI} (hm:wBT p0 p1=some r):Gv Try.prog 14 [.pointer (some ⟨af,0,none⟩),.agg #[.slice aq p1.Starts.length av,.slice au p1.Splits.length aw,.slice a7 p1.Clocks.length a9,.slice a8 p1.Readings.length ba]] w (wBw w [.blk af 94 [.slice am p0.bytes.length an,jV p0.next,.int .u32 p0.state]] U (fun U_ L_ v=>∃ (be:Option Addr) (bo:Nat),v=.agg #[jV r.1.Skier,jV r.1.Mat]/\L_=[.blk af 94 [.slice be r.2.bytes.length bo,jV r.2.next,.int .u32 r.2.state]]/\Sl U_ 1 be bo r.2.bytes.length (hD KL.encB8 r.2.bytes))):=by
 unfold wBT at hm
 refine Gv.of Try.func14 Z Try.ntmps14 Try.results14 Z (sR gAv Z ?_)
 let B0:List Value:=[.slice aq p1.Starts.length av,.slice au p1.Splits.length aw,.slice a7 p1.Clocks.length a9,.slice a8 p1.Readings.length ba]
 refine zy (cs:=B0) rfl rfl rfl rfl rfl rfl (by rfl) hS ?_
 intro W2 b3 bC
 let B1:List Value:=[jV 0,jV 0]
 refine zQ (cs:=B1) Z Z Z Z Z Zu Z bC ?_
 intro W6 b7 bG
 refine eN (zM (zt zu [3,3,1,3,1005,3,3,1004,3,3,0,2,0,af] (wDo (wHq (.fx 4 (.fx 10 gAw .stop) .stop))) (by kernel_rfl) ?_))
 have ap:=bG.drew
 generalize hw_W54:({ W6 with drawn:=W6.drawn + 1 }:World)=bh at ap ⊢
 refine zw rfl rfl rfl rfl rfl rfl (zc rfl rfl rfl rfl (fun _=>zE rfl rfl zI rfl ZB) (ZF rfl rfl rfl rfl (ap.ldB (j:=1) rfl rfl rfl ZK (v:=.slice aq p1.Starts.length av) rfl) rfl (zc rfl rfl rfl rfl (fun _=>zx rfl rfl zK) (zw rfl rfl rfl rfl rfl rfl (zc rfl rfl rfl rfl (fun _=>zE rfl rfl zI rfl Zj) (yW (T:=[af]) [2] [0,1] [.blk b7 45 B1,.blk b3 28 B0] rfl rfl rfl rfl ap rfl ⟨⟨2,by decide,_,rfl,rfl⟩,trivial⟩ (by decide) rfl (by decide) (fun _ bN=>(bN.ldB (j:=1) rfl rfl rfl Zr (v:=.slice au p1.Splits.length aw) rfl)) rfl (zc rfl rfl rfl rfl (fun _=>zx rfl rfl zn) (zc rfl rfl rfl rfl (fun _=>za rfl rfl rfl) ?_))))))))
 have q:=bnd hm
 obtain ⟨⟨bS,ax⟩,bv,bq⟩:=q
 try dsimp only at bq
 let B2:Res:=.blk af 94 [.slice am p0.bytes.length an,jV p0.next,.int .u32 p0.state]
 have bD:SW w [B2] U U [B2,.blk b7 45 B1,.blk b3 28 B0] bh:=ap.pick [2,0,1] _ (by decide) rfl
 refine Zt 1 rfl rfl rfl rfl (zD rfl rfl ZZ (zB rfl (zB rfl zJ)) rfl) bD (fun hs=>wAN p0 af am an (↑p1.Starts.length:Int) bh U hs bO bv) rfl (T:=[af]) rfl ⟨fun b h=>(by cases h;exact .head _),trivial⟩ ?_
 rintro bf bU cf bj cc bE ⟨bc,bm,rfl,rfl,bw⟩
 have bF:SW w [B2] U bf [.blk af 94 [.slice bc ax.bytes.length bm,jV ax.next,.int .u32 ax.state],.blk b7 45 B1,.blk b3 28 B0] bj:=bE
 have q:=bnd bq
 obtain ⟨⟨bT,bb⟩,bx,br⟩:=q
 try dsimp only at br
 refine zF 1 Z Z Z Z (zD Z Z ZZ (zB Z (zB Z zJ)) Z) bF (fun hs=>wAN ax af bc bm (w64 ((↑p1.Splits.length:Int) + 1)) bj bf hs bw bx) (.inl Z) ?_
 rintro bg bV cg bk cd bH ⟨bd,bn,rfl,rfl,bz⟩
 let B3:Res:=.blk af 94 [.slice bd bb.bytes.length bn,jV bb.next,.int .u32 bb.state]
 have bI:SW w [B2] U bg [B3,.blk b7 45 B1,.blk b3 28 B0] bk:=bH
 refine bnK br fun bs bA bQ=>zF 0 Z Z Z Z (zD Z Z Try.call16 (zB Z (zB Z zJ)) Z) bI (fun hs=>wAu bS bT bk bg hs bA) (.inr Z) ?_
 rintro az bW ci bt bR bJ ⟨rfl,rfl⟩
 have bL:SW w [B2] U az [B3,.blk b7 45 B1,.blk b3 28 B0] bt:=bJ
 let B4:List Value:=[jV bs.Skier,jV bs.Mat]
 refine zU (j:=1) (vs:=B4) Z Z Z Z bL Z Z Z Z ZG (zA Z) Z Z Z ?_
 intro bu bM
 have bp:SW w [B2] U az [B3,.blk b7 45 B4,.blk b3 28 B0] bu:=bM
 refine eN (zR ?_)
 have bB:=bz.le bR
 cases bQ
 exact ⟨rfl,_,(wFv (v:=.agg B4.toArray) ⟨⟨_,rfl,(wAw ZY ZG (bp.blkAt (k:=1) rfl) (vs:=B4) rfl rfl)⟩,trivial⟩),az,_,(bp.pick [0] _ (by decide) rfl),bd,bn,rfl,rfl,bB⟩
theorem wEQ (p0:List Int) (aj:Option Addr) (ak:Nat) (w:World) (U:PHeap) (hS:St0 w U []) (av:Sl U 1 aj ak p0.length (hD KL.encI p0)) {r:(List Int)} (hm:wBq p0=some r):Gv Try.prog 42 [.slice aj p0.length ak] w (wBw w [] U (fun U_ L_ v=>∃ (A0:Option Addr) (c0:Nat),v=.slice A0 r.length c0/\L_=[.row A0 c0 3 1 (hD KL.encI r)])):=by
 unfold wBq at hm
 refine Gv.of Try.func42 Z Try.ntmps42 Try.results42 Z (sR fL1 Z (oA Z Z (eN (sR gBc Z (oM Z Z ?_)))))
 have ap:=hS.nilrow 3 1
 have ai:sW w U U [.row none 0 3 1 (hD KL.encI ([]:List Int))] w:=ap
 refine bnK hm fun x4 h5 aw=>Zw (j:=0) (enc:=KL.encI) (xs:=([]:List Int)) (ys:=p0) (zs:=x4) Z Z Z Z Z yb wGu Z Z Z Z Z Z ai Z Z Z (ai.srcS av) (fun _=>Z) (fun _=>Z) h5 Z ?_
 intro A7 c8 W9 aq
 have au:sW w U U [.row A7 c8 3 1 (hD KL.encI x4)] W9:=aq
 refine oA Z Z (eN (zR ?_))
 have hE:=hJ aw;first | subst r | cases hE
 exact ⟨Z,_,(ZL Z),U,_,au,A7,c8,Z,Z⟩
theorem wDj (p0:List wAF) (aj:Option Addr) (ak:Nat) (w:World) (U:PHeap) (hS:St0 w U []) (av:Sl U 2 aj ak p0.length (hD wAC p0)) {r:(List wAF)} (hm:wBM p0=some r):Gv Try.prog 43 [.slice aj p0.length ak] w (wBw w [] U (fun U_ L_ v=>∃ (A0:Option Addr) (c0:Nat),v=.slice A0 r.length c0/\L_=[.row A0 c0 41 2 (hD wAC r)])):=by
 unfold wBM at hm
 refine Gv.of Try.func43 Z Try.ntmps43 Try.results43 Z (sR fL1 Z (oA Z Z (eN (sR gBc Z (oM Z Z ?_)))))
 have ap:=hS.nilrow 41 2
 have ai:sW w U U [.row none 0 41 2 (hD wAC ([]:List wAF))] w:=ap
 refine bnK hm fun x4 h5 aw=>Zw (j:=0) (enc:=wAC) (xs:=([]:List wAF)) (ys:=p0) (zs:=x4) Z Z Z Z Z Try.underlying24 wJc Z Z Z Z Z Z ai Z Z Z (ai.srcS av) (fun _=>Z) (fun _=>Z) h5 Z ?_
 intro A7 c8 W9 aq
 have au:sW w U U [.row A7 c8 41 2 (hD wAC x4)] W9:=aq
 refine oA Z Z (eN (zR ?_))
 have hE:=hJ aw;first | subst r | cases hE
 exact ⟨Z,_,(ZL Z),U,_,au,A7,c8,Z,Z⟩
theorem wDZ (p0:List wAG) (aj:Option Addr) (ak:Nat) (w:World) (U:PHeap) (hS:St0 w U []) (av:Sl U 3 aj ak p0.length (hD wAA p0)) {r:(List wAG)} (hm:wBC p0=some r):Gv Try.prog 44 [.slice aj p0.length ak] w (wBw w [] U (fun U_ L_ v=>∃ (A0:Option Addr) (c0:Nat),v=.slice A0 r.length c0/\L_=[.row A0 c0 43 3 (hD wAA r)])):=by
 unfold wBC at hm
 refine Gv.of Try.func44 Z Try.ntmps44 Try.results44 Z (sR fL1 Z (oA Z Z (eN (sR gBc Z (oM Z Z ?_)))))
 have ap:=hS.nilrow 43 3
 have ai:sW w U U [.row none 0 43 3 (hD wAA ([]:List wAG))] w:=ap
 refine bnK hm fun x4 h5 aw=>Zw (j:=0) (enc:=wAA) (xs:=([]:List wAG)) (ys:=p0) (zs:=x4) Z Z Z Z Z Try.underlying25 wHX Z Z Z Z Z Z ai Z Z Z (ai.srcS av) (fun _=>Z) (fun _=>Z) h5 Z ?_
 intro A7 c8 W9 aq
 have au:sW w U U [.row A7 c8 43 3 (hD wAA x4)] W9:=aq
 refine oA Z Z (eN (zR ?_))
 have hE:=hJ aw;first | subst r | cases hE
 exact ⟨Z,_,(ZL Z),U,_,au,A7,c8,Z,Z⟩
theorem wDK (p0:List wAJ) (aj:Option Addr) (ak:Nat) (w:World) (U:PHeap) (hS:St0 w U []) (av:Sl U 4 aj ak p0.length (hD wAB p0)) {r:(List wAJ)} (hm:wAy p0=some r):Gv Try.prog 45 [.slice aj p0.length ak] w (wBw w [] U (fun U_ L_ v=>∃ (A0:Option Addr) (c0:Nat),v=.slice A0 r.length c0/\L_=[.row A0 c0 39 4 (hD wAB r)])):=by
 unfold wAy at hm
 refine Gv.of Try.func45 Z Try.ntmps45 Try.results45 Z (sR fL1 Z (oA Z Z (eN (sR gBc Z (oM Z Z ?_)))))
 have ap:=hS.nilrow 39 4
 have ai:sW w U U [.row none 0 39 4 (hD wAB ([]:List wAJ))] w:=ap
 refine bnK hm fun x4 h5 aw=>Zw (j:=0) (enc:=wAB) (xs:=([]:List wAJ)) (ys:=p0) (zs:=x4) Z Z Z Z Z Try.underlying26 wHW Z Z Z Z Z Z ai Z Z Z (ai.srcS av) (fun _=>Z) (fun _=>Z) h5 Z ?_
 intro A7 c8 W9 aq
 have au:sW w U U [.row A7 c8 39 4 (hD wAB x4)] W9:=aq
 refine oA Z Z (eN (zR ?_))
 have hE:=hJ aw;first | subst r | cases hE
 exact ⟨Z,_,(ZL Z),U,_,au,A7,c8,Z,Z⟩
theorem wBg (p0:wAE) (am:Option Addr) (aq:Nat) (an:Option Addr) (au:Nat) (ao:Option Addr) (av:Nat) (ap:Option Addr) (aw:Nat) (w:World) (U:PHeap) (hS:St0 w U []) (cf:Sl U 1 am aq p0.Starts.length (hD KL.encI p0.Starts)) (cg:Sl U 2 an au p0.Splits.length (hD wAC p0.Splits)) (ci:Sl U 3 ao av p0.Clocks.length (hD wAA p0.Clocks)) (cm:Sl U 4 ap aw p0.Readings.length (hD wAB p0.Readings)) {r:wAE} (hm:wAk p0=some r):Gv Try.prog 13 [.agg #[.slice am p0.Starts.length aq,.slice an p0.Splits.length au,.slice ao p0.Clocks.length av,.slice ap p0.Readings.length aw]] w (wBw w [] U (fun U_ L_ v=>∃ (bk:Option Addr) (bx:Nat) (bm:Option Addr) (bz:Nat) (bn:Option Addr) (bA:Nat) (bo:Option Addr) (bB:Nat),v=.agg #[.slice bk r.Starts.length bx,.slice bm r.Splits.length bz,.slice bn r.Clocks.length bA,.slice bo r.Readings.length bB]/\L_=[.row bk bx 3 1 (hD KL.encI r.Starts),.row bm bz 41 2 (hD wAC r.Splits),.row bn bA 43 3 (hD wAA r.Clocks),.row bo bB 39 4 (hD wAB r.Readings)])):=by
 unfold wAk at hm
 refine Gv.of Try.func13 Z Try.ntmps13 Try.results13 Z (sR gAv Z ?_)
 let B0:List Value:=[.slice am p0.Starts.length aq,.slice an p0.Splits.length au,.slice ao p0.Clocks.length av,.slice ap p0.Readings.length aw]
 refine zy (cs:=B0) rfl rfl rfl rfl rfl rfl (by rfl) hS ?_
 intro W1 b2 bV
 let B1:List Value:=[.slice none 0 0,.slice none 0 0,.slice none 0 0,.slice none 0 0]
 refine zQ (cs:=B1) Z Z Z Z Z yC Z bV ?_
 intro W5 b6 cc
 refine eN (zM (zt zu [3,1,2,3,1,2,3,1,2,3,1,2,3,0] (.fl 0 (.fl 1 (.fl 3 (.fl 4 (.fl 6 (.fl 7 (.fl 9 (.fl 10 (.fx 2 (.fx 5 (.fx 8 (.fx 11 (.fl 12 (.fx 13 .nil .stop)) .stop) .stop) .stop) .stop))))))))) (by kernel_rfl) ?_))
 have ag:=cc.drew
 generalize hw_W10:({ W5 with drawn:=W5.drawn + 1 }:World)=bE at ag ⊢
 refine oR Z (zE Z Z zI Z ZB) (oL Z (ag.ldB (j:=1) Z Z Z ZK (v:=.slice am p0.Starts.length aq) Z) (oR Z (zE Z Z zI Z Zj) (oL Z (ag.ldB (j:=1) Z Z Z Zr (v:=.slice an p0.Splits.length au) Z) (oR Z (zE Z Z zI Z Zl) (oL Z (ag.ldB (j:=1) Z Z Z yD (v:=.slice ao p0.Clocks.length av) Z) (oR Z (zE Z Z zI Z ZO) (oL Z (ag.ldB (j:=1) Z Z Z Zs (v:=.slice ap p0.Readings.length aw) Z) (bnK hm fun bg bH cn=>zF 0 Z Z Z Z (zD Z Z Try.call42 (zB Z zJ) Z) ag (fun hs=>wEQ p0.Starts am aq bE U hs cf bH) (.inr Z) ?_))))))))
 rintro bq cu cB bt bf bT ⟨ax,a9,rfl,rfl⟩
 let B2:Res:=.row ax a9 3 1 (hD KL.encI bg)
 have bU:sW w U bq [B2,.blk b6 28 B1,.blk b2 28 B0] bt:=bT
 have bI:=cg.le bf
 refine bnK cn fun bh bJ co=>zF 0 Z Z Z Z (zD Z Z Try.call43 (zB Z zJ) Z) bU (fun hs=>wDj p0.Splits an au bt bq hs bI bJ) (.inr Z) ?_
 rintro br cw cC bu bD bW ⟨ay,ba,rfl,rfl⟩
 let B3:Res:=.row ay ba 41 2 (hD wAC bh)
 have bX:sW w U br [B3,B2,.blk b6 28 B1,.blk b2 28 B0] bu:=bW
 have bL:=ci.le bf
 have bM:=bL.le bD
 refine bnK co fun bi bN cp=>zF 0 Z Z Z Z (zD Z Z Try.call44 (zB Z zJ) Z) bX (fun hs=>wDZ p0.Clocks ao av bu br hs bM bN) (.inr Z) ?_
 rintro bs cx cD bv ct bY ⟨az,bb,rfl,rfl⟩
 let B4:Res:=.row az bb 43 3 (hD wAA bi)
 have bZ:sW w U bs [B4,B3,B2,.blk b6 28 B1,.blk b2 28 B0] bv:=bY
 have bO:=cm.le bf
 have bQ:=bO.le bD
 have bR:=bQ.le ct
 refine bnK cp fun bj bS cr=>zF 0 Z Z Z Z (zD Z Z Try.call45 (zB Z zJ) Z) bZ (fun hs=>wDK p0.Readings ap aw bv bs hs bR bS) (.inr Z) ?_
 rintro be cy cE bF cA ca ⟨a7,bc,rfl,rfl⟩
 let B5:Res:=.row a7 bc 39 4 (hD wAB bj)
 have cb:sW w U be [B5,B4,B3,B2,.blk b6 28 B1,.blk b2 28 B0] bF:=ca
 let B6:List Value:=[.slice ax bg.length a9,.slice ay bh.length ba,.slice az bi.length bb,.slice a7 bj.length bc]
 refine oR Z (zk (pv:=[(0,.slice ax bg.length a9),(1,.slice ay bh.length ba),(2,.slice az bi.length bb),(3,.slice a7 bj.length bc)]) (z:=B1) (cs:=B6) Z (wAH Z (wAH Z (wAH Z (wAH Z wAO)))) yC wIY Z Z) (zU (j:=4) (vs:=B6) Z Z Z Z cb Z Z Z Z zY (zA Z) Z Z Z ?_)
 intro bG cd
 have bC:sW w U be [B5,B4,B3,B2,.blk b6 28 B6,.blk b2 28 B0] bG:=cd
 refine eN (zR ?_)
 cases cr
 exact ⟨rfl,_,(wFv (v:=.agg B6.toArray) ⟨⟨_,rfl,(wAw zf zY (bC.blkAt (k:=4) rfl) (vs:=B6) rfl rfl)⟩,trivial⟩),be,_,(bC.pick [3,2,1,0] _ (by decide) rfl),ax,a9,ay,ba,az,bb,a7,bc,rfl,rfl⟩
theorem wBb (p0:Int) (p1:Int) (p2:Int) (w:World) (U:PHeap) (hS:St0 w U [])  {r:Bool} (hm:wBB p0 p1 p2=some r):Gv Try.prog 75 [jV p0,jV p1,jV p2] w (wBw w [] U (fun U_ L_ v=>v=.bool r/\L_=[])):=by
 unfold wBB at hm
 refine Gv.of Try.func75 Z Try.ntmps75 Try.results75 Z (sR fL1 Z (oA Z Z (eN (sR fL9 Z (oM Z Z (oM Z Z (oR Z (Runs.geq Z Z Z) (oM Z Z ?_))))))))
 by_cases c1:p1 <= p0
 have ae:=hm;rw [if_pos c1] at ae;replace c1:=zO c1
 refine zw Z Z Z (wT Z c1) Z Z (zw Z Z Z (wT Z c1) Z Z (rU Z (wT Z c1) (Runs.leq Z Z Z) (oR Z (zN Z (Zi c1.out) Z) (oA Z Z (eN (zR ?_))))))
 first | (obtain rfl:=hJ ae) | cases ae
 exact ⟨Z,_,(ZL Z),U,_,hS,Z,Z⟩
 have ah:=hm;rw [if_neg c1] at ah;replace c1:=zO c1
 refine oF Z c1 (oF Z c1 (oF Z c1 (oR Z (zg Z (ZD c1.out) Z) (oA Z Z (eN (zR ?_))))))
 have hE:=hJ ah;first | subst r | cases hE
 exact ⟨Z,_,(ZL Z),U,_,hS,Z,Z⟩
theorem wFY (p0:List Int) (an:Option Addr) (ao:Nat) (p1:(Int->Option Bool)) (ap:Value) (w:World) (U:PHeap) (hS:St0 w U []) (bp:Sl U 1 an ao p0.length (hD KL.encI p0)) (bq:FnOK Try.prog U ap ar76 rr76 p1) {r:Bool} (hm:wCK p0 p1=some r):Gv Try.prog 79 [.slice an p0.length ao,ap] w (wBw w [] U (fun U_ L_ v=>v=.bool r/\L_=[])):=by
 unfold wCK at hm
 refine Gv.of Try.func79 Z Try.ntmps79 Try.results79 Z (sR fL1 Z (oA Z Z (eN (zM (sR fL3 Z (oM Z Z (oR Z (zx Z Z zK) (oM Z Z (eN (zd ?_))))))))))
 have q:=wBy hm
 obtain ⟨r3,ai⟩:=q
 have q:=wBx ai
 obtain ⟨ak,bt⟩:=q
 replace ak:=zO ak
 refine yX (fun k2 _ σ_ w_=>∃ (U_:PHeap),σ_ 9=jV (↑k2:Int)/\σ_ 1=ap/\σ_ 7=.slice an p0.length ao/\σ_ 8=jV (↑p0.length:Int)/\PHeap.Le U U_/\sW w U U_ [] w_) bt ?_ ?_ ?_
 exact ⟨U,Z,Z,Z,Z,(zP _),hS⟩
 rintro k2 ⟨⟩ bR bT W8 aj ⟨bE,ah,au,av,aw,am,ay⟩ a8 br
 try dsimp only at a8
 have aq:Hid ((↑k2:Int) < (↑p0.length:Int)):=zO (wAs aj)
 replace aj:=zO aj
 have bu:Hid (w64 ((↑k2:Int) + 1)=(↑(k2 + 1):Int)):=zO (by have h1:=ak.out;have h2:=aq.out;rw [wAU] <;> omega)
 refine sR fL1 Z (oR Z (ze Z ah aw) (eN (zM (cT Z aq (kN (zM (zd (sR fL3 Z (bnK a8 fun ba ax bv=>?_)))))))))
 have bh:=bp.le am
 have q:=bh.el (fun _=>rfl) (wAb ax)
 obtain ⟨bH,bM,bk,bm⟩:=q
 refine oR Z (Zk Z av bk ah zK zC (wCl ax)) (oL Z (ay.ldC (f:=0) bm (v:=jV ba) Z Z zG Z) (oA Z Z (eN (sR gBk Z (oM Z au (oM Z Z (bnK bv fun bQ bi bw=>?_)))))))
 have bj:=bq.le am
 refine OKS.callV (a:=ba) Z Z Z Z Z Z (zB Z zJ) ay bj Z bi ?_
 rintro af bD bO bc bB bn ⟨rfl,rfl⟩
 have az:sW w U af [] bc:=bn
 refine oR Z (Zg Z Z) (eN (ifc bw ?_ ?_))
 intro ag bx
 refine ZE (nC ag.out) (Zo (ZA (zL (rR fL2 Z (oR Z (ZH (za Z ah Z) (congrArg (jV) bu.out)) (oM Z Z (zh ?_)))))))
 have q:=hJ bx
 obtain rfl:=q
 exact zL ⟨Z,_,Z,⟨af,Z,au,av,aw,(am.trans bB),az⟩⟩
 intro ag bz
 refine ZI (nF (ag.out)) (sR fL1 Z (oA Z Z (eN (zR (zq (zW ?_))))))
 have q:=wAY bz
 obtain ⟨bC,bA,be⟩:=q
 have q:=wBY hm ai (br bC be)
 obtain rfl:=q
 refine zW (zq (zW ?_))
 have hE:=hJ bA;first | subst r | cases hE
 exact ⟨Z,_,(ZL Z),af,_,az,Z,Z⟩
 rintro ⟨⟩ bS bF ⟨bb,bg,bI,bJ,bf,bL,bo⟩ bs
 have a7:=wCm hm ai bs
 try dsimp only at a7
 have bd:Hid (¬ ((↑(((↑p0.length:Int):Int) - 0).toNat:Int) < (↑p0.length:Int))):=zO (wAc)
 refine sR fL1 Z (oR Z (ze Z bg bf) (eN (zM (cF Z bd (Zb (zo (zo (ZV (zL (sR fL1 Z (oA Z Z (eN (zR ?_)))))))))))))
 have hE:=hJ a7;first | subst r | cases hE
 exact ⟨Z,_,(ZL Z),bb,_,bo,Z,Z⟩
theorem wGJ (p0:Int) (w:World) (U:PHeap) (hS:St0 w U [])  {r:Bool} (hm:wCU p0=some r):Gv Try.prog 92 [jV p0] w (wBw w [] U (fun U_ L_ v=>v=.bool r/\L_=[])):=by
 unfold wCU at hm
 refine Gv.of Try.func92 Z Try.ntmps92 Try.results92 Z (sR fL1 Z (oA Z Z (eN (sR gBc Z (oM Z Z (bnK hm fun x1 h2 aj=>zF 0 Z Z Z Z (zD Z Z yR (zB Z (zB Z (zB Z zJ))) Z) hS (fun hs=>wBb p0 0 360000 w U hs h2) (.inr Z) ?_))))))
 rintro U4 L5 v6 W7 am ai ⟨rfl,rfl⟩
 have ah:sW w U U4 [] W7:=ai
 refine oA Z Z (eN (zR ?_))
 have hE:=hJ aj;first | subst r | cases hE
 exact ⟨Z,_,(ZL Z),U4,_,ah,Z,Z⟩
theorem wER (p0:List wAF) (ap:Option Addr) (aq:Nat) (p1:(wAF->Option Bool)) (au:Value) (w:World) (U:PHeap) (hS:St0 w U []) (bw:Sl U 2 ap aq p0.length (hD wAC p0)) (bx:FnOK Try.prog U au wMG wMH p1) {r:Bool} (hm:wBU p0 p1=some r):Gv Try.prog 93 [.slice ap p0.length aq,au] w (wBw w [] U (fun U_ L_ v=>v=.bool r/\L_=[])):=by
 unfold wBU at hm
 refine Gv.of Try.func93 Z Try.ntmps93 Try.results93 Z (sR fL1 Z (oA Z Z (eN (zM (sR fL3 Z (oM Z Z (oR Z (zx Z Z zn) (oM Z Z (eN (zd ?_))))))))))
 have q:=wBy hm
 obtain ⟨r3,ak⟩:=q
 have q:=wBx ak
 obtain ⟨an,bB⟩:=q
 replace an:=zO an
 refine yX (fun k2 _ σ_ w_=>∃ (U_:PHeap),σ_ 9=jV (↑k2:Int)/\σ_ 1=au/\σ_ 7=.slice ap p0.length aq/\σ_ 8=jV (↑p0.length:Int)/\PHeap.Le U U_/\sW w U U_ [] w_) bB ?_ ?_ ?_
 exact ⟨U,Z,Z,Z,Z,(zP _),hS⟩
 rintro k2 ⟨⟩ bY ca W8 am ⟨be,aj,ax,ay,az,ao,a8⟩ bc bz
 try dsimp only at bc
 have aw:Hid ((↑k2:Int) < (↑p0.length:Int)):=zO (wAs am)
 replace am:=zO am
 have bC:Hid (w64 ((↑k2:Int) + 1)=(↑(k2 + 1):Int)):=zO (by have h1:=an.out;have h2:=aw.out;rw [wAU] <;> omega)
 refine sR fL1 Z (oR Z (ze Z aj az) (eN (zM (cT Z aw (kN (zM (zd (sR gBl Z (bnK bc fun af a7 bD=>?_)))))))))
 have bn:=bw.le ao
 have q:=bn.el (fun _=>rfl) (wAb a7)
 obtain ⟨bQ,bU,bq,br⟩:=q
 refine oR Z (Zk Z ay bq aj zn zZ (wCl a7)) (oL Z (a8.ldCA (f:=0) br Z Z Zn zZ (us:=[jV af.Lo,jV af.Hi]) Z Z) (zQ (cs:=[jV 0,jV 0]) Z Z Z Z Z zi Z a8 ?_))
 intro bM av bs
 let B0:List Value:=[jV af.Lo,jV af.Hi]
 refine zU (j:=0) (vs:=B0) Z Z Z Z bs Z Z Z Z zZ (zA Z) Z Z Z ?_
 intro bg bt
 have a9:sW w U be [.blk av 41 B0] bg:=bt
 refine eN (sR gBk Z (oM Z ax (oL Z (a9.ldBA (j:=0) Z Z Z Zn zZ (vs:=B0) Z Z) (bnK bD fun bX bo bE=>?_))))
 have bp:=bx.le ao
 refine OKS.callV (a:=af) Z Z Z Z Z Z (zB Z zJ) a9 bp Z bo ?_
 rintro ah bL bW bh bI bu ⟨rfl,rfl⟩
 have ba:sW w U ah [.blk av 41 B0] bh:=bu
 refine oR Z (Zg Z Z) (eN (ifc bE ?_ ?_))
 intro ai bF
 refine ZE (nC ai.out) (Zo (ZA (zL (rR fL2 Z (oR Z (ZH (za Z aj Z) (congrArg (jV) bC.out)) (oM Z Z (zh ?_)))))))
 have q:=hJ bF
 obtain rfl:=q
 exact zL ⟨rfl,_,rfl,⟨ah,rfl,ax,ay,az,(ao.trans bI),(ba.pick [] _ (by decide) rfl)⟩⟩
 intro ai bG
 refine ZI (nF (ai.out)) (sR fL1 Z (oA Z Z (eN (zR (zq (zW ?_))))))
 have q:=wAY bG
 obtain ⟨bJ,bH,bj⟩:=q
 have q:=wBY hm ak (bz bJ bj)
 obtain rfl:=q
 refine zW (zq (zW ?_))
 have hE:=hJ bH;first | subst r | cases hE
 exact ⟨rfl,_,(ZL rfl),ah,_,(ba.pick [] _ (by decide) rfl),rfl,rfl⟩
 rintro ⟨⟩ bZ bN ⟨bf,bm,bR,bS,bk,bT,bv⟩ bA
 have bb:=wCm hm ak bA
 try dsimp only at bb
 have bi:Hid (¬ ((↑(((↑p0.length:Int):Int) - 0).toNat:Int) < (↑p0.length:Int))):=zO (wAc)
 refine sR fL1 Z (oR Z (ze Z bm bk) (eN (zM (cF Z bi (Zb (zo (zo (ZV (zL (sR fL1 Z (oA Z Z (eN (zR ?_)))))))))))))
 have hE:=hJ bb;first | subst r | cases hE
 exact ⟨Z,_,(ZL Z),bf,_,bv,Z,Z⟩
theorem wEm (p0:wAF) (p1:Int) (p2:Int) (w:World) (U:PHeap) (hS:St0 w U [])  {r:Bool} (hm:wCV p0 p1 p2=some r):Gv Try.prog 95 [.agg #[jV p0.Lo,jV p0.Hi],jV p1,jV p2] w (wBw w [] U (fun U_ L_ v=>v=.bool r/\L_=[])):=by
 unfold wCV at hm
 refine Gv.of Try.func95 rfl Try.ntmps95 Try.results95 rfl (sR gAx rfl (zy (cs:=[jV p0.Lo,jV p0.Hi]) rfl rfl rfl rfl rfl rfl (by rfl) hS ?_))
 intro W1 b2 ag
 refine oA Z Z (eN (sR fL18 Z (oR Z (zE Z Z zX Z zC) (oL Z (ag.ldB (j:=0) Z Z Z zG (v:=jV p0.Lo) Z) (oR Z (zE Z Z zX Z zC) (oL Z (ag.ldB (j:=0) Z Z Z zG (v:=jV p0.Hi) Z) (oR Z (Runs.leq Z Z Z) (oM Z Z ?_))))))))
 by_cases c5:p0.Lo <= p0.Hi
 have ai:=hm;rw [if_pos c5] at ai;replace c5:=zO c5
 refine rU Z (wT Z c5) (zE Z Z zX Z zC) (ZF Z Z Z (wT Z c5) (ag.ldB (j:=0) Z Z Z zG (v:=jV p0.Lo) Z) Z (zw Z Z Z (wT Z c5) Z Z (rU Z (wT Z c5) (Runs.geq Z Z Z) (oR Z (zN Z (Zi c5.out) Z) (oM Z Z (ifc ai ?_ ?_))))))
 intro c7 aj
 refine rU Z (wT Z c7) (zE Z Z zX Z zC) (ZF Z Z Z (wT Z c7) (ag.ldB (j:=0) Z Z Z zG (v:=jV p0.Hi) Z) Z (zw Z Z Z (wT Z c7) Z Z (rU Z (wT Z c7) (Runs.leq Z Z Z) (oR Z (zN Z (Zi c7.out) Z) (oA Z Z (eN (zR ?_)))))))
 first | (obtain rfl:=hJ aj) | cases aj
 exact ⟨rfl,_,(ZL rfl),U,_,(ag.pick [] _ (by decide) rfl),rfl,rfl⟩
 intro c7 an
 refine oF Z c7 (oF Z c7 (oF Z c7 (oF Z c7 (oR Z (zg Z (ZD c7.out) Z) (oA Z Z (eN (zR ?_)))))))
 have hE:=hJ an;first | subst r | cases hE
 exact ⟨rfl,_,(ZL rfl),U,_,(ag.pick [] _ (by decide) rfl),rfl,rfl⟩
 have ah:=hm;rw [if_neg c5] at ah;replace c5:=zO c5
 refine oF Z c5 (oF Z c5 (oF Z c5 (oF Z c5 (oR Z (zg Z (ZD c5.out) Z) (oM Z Z (oN Z (oN Z (oN Z (oN Z (oR Z (zg Z Z Z) (oA Z Z (eN (zR ?_)))))))))))))
 have hE:=hJ ah;first | subst r | cases hE
 exact ⟨rfl,_,(ZL rfl),U,_,(ag.pick [] _ (by decide) rfl),rfl,rfl⟩
theorem wGK (p0:wAF) (w:World) (U:PHeap) (hS:St0 w U [])  {r:Bool} (hm:wCW p0=some r):Gv Try.prog 94 [.agg #[jV p0.Lo,jV p0.Hi]] w (wBw w [] U (fun U_ L_ v=>v=.bool r/\L_=[])):=by
 unfold wCW at hm
 refine Gv.of Try.func94 Z Try.ntmps94 Try.results94 Z (sR gAx Z ?_)
 let B0:List Value:=[jV p0.Lo,jV p0.Hi]
 refine zy (cs:=B0) rfl rfl rfl rfl rfl rfl (by rfl) hS ?_
 intro W1 b2 ag
 refine oA Z Z (eN (sR gBc Z (oL Z (ag.ldBA (j:=0) Z Z Z Zn zZ (vs:=B0) Z Z) (bnK hm fun x5 h6 ao=>zF 0 Z Z Z Z (zD Z Z Try.call95 (zB Z (zB Z (zB Z zJ))) Z) ag (fun hs=>wEm p0 0 360000 W1 U hs h6) (.inr Z) ?_))))
 rintro U8 L9 au ai aq am ⟨rfl,rfl⟩
 have an:sW w U U8 [.blk b2 41 B0] ai:=am
 refine oA Z Z (eN (zR ?_))
 have hE:=hJ ao;first | subst r | cases hE
 exact ⟨rfl,_,(ZL rfl),U8,_,(an.pick [] _ (by decide) rfl),rfl,rfl⟩
theorem wED (p0:List wAG) (ap:Option Addr) (aq:Nat) (p1:(wAG->Option Bool)) (au:Value) (w:World) (U:PHeap) (hS:St0 w U []) (bw:Sl U 3 ap aq p0.length (hD wAA p0)) (bx:FnOK Try.prog U au wMI wMJ p1) {r:Bool} (hm:wBF p0 p1=some r):Gv Try.prog 96 [.slice ap p0.length aq,au] w (wBw w [] U (fun U_ L_ v=>v=.bool r/\L_=[])):=by
 unfold wBF at hm
 refine Gv.of Try.func96 Z Try.ntmps96 Try.results96 Z (sR fL1 Z (oA Z Z (eN (zM (sR fL3 Z (oM Z Z (oR Z (zx Z Z ZS) (oM Z Z (eN (zd ?_))))))))))
 have q:=wBy hm
 obtain ⟨r3,ak⟩:=q
 have q:=wBx ak
 obtain ⟨an,bB⟩:=q
 replace an:=zO an
 refine yX (fun k2 _ σ_ w_=>∃ (U_:PHeap),σ_ 9=jV (↑k2:Int)/\σ_ 1=au/\σ_ 7=.slice ap p0.length aq/\σ_ 8=jV (↑p0.length:Int)/\PHeap.Le U U_/\sW w U U_ [] w_) bB ?_ ?_ ?_
 exact ⟨U,Z,Z,Z,Z,(zP _),hS⟩
 rintro k2 ⟨⟩ bY ca W8 am ⟨be,aj,ax,ay,az,ao,a8⟩ bc bz
 try dsimp only at bc
 have aw:Hid ((↑k2:Int) < (↑p0.length:Int)):=zO (wAs am)
 replace am:=zO am
 have bC:Hid (w64 ((↑k2:Int) + 1)=(↑(k2 + 1):Int)):=zO (by have h1:=an.out;have h2:=aw.out;rw [wAU] <;> omega)
 refine sR fL1 Z (oR Z (ze Z aj az) (eN (zM (cT Z aw (kN (zM (zd (sR gBl Z (bnK bc fun ae a7 bD=>?_)))))))))
 have bn:=bw.le ao
 have q:=bn.el (fun _=>rfl) (wAb a7)
 obtain ⟨bQ,bU,bq,br⟩:=q
 refine oR Z (Zk Z ay bq aj ZS yA (wCl a7)) (oL Z (a8.ldCA (f:=0) br Z Z Try.isAgg43 yA (us:=[jV ae.Offset.Lo,jV ae.Offset.Hi,jV ae.Error]) Z Z) (zQ (cs:=[jV 0,jV 0,jV 0]) Z Z Z Z Z yZ Z a8 ?_))
 intro bM av bs
 let B0:List Value:=[jV ae.Offset.Lo,jV ae.Offset.Hi,jV ae.Error]
 refine zU (j:=0) (vs:=B0) Z Z Z Z bs Z Z Z Z yA (zA Z) Z Z Z ?_
 intro bg bt
 have a9:sW w U be [.blk av 43 B0] bg:=bt
 refine eN (sR gBk Z (oM Z ax (oL Z (a9.ldBA (j:=0) Z Z Z Try.isAgg43 yA (vs:=B0) Z Z) (bnK bD fun bX bo bE=>?_))))
 have bp:=bx.le ao
 refine OKS.callV (a:=ae) Z Z Z Z Z Z (zB Z zJ) a9 bp Z bo ?_
 rintro ah bL bW bh bI bu ⟨rfl,rfl⟩
 have ba:sW w U ah [.blk av 43 B0] bh:=bu
 refine oR Z (Zg Z Z) (eN (ifc bE ?_ ?_))
 intro ai bF
 refine ZE (nC ai.out) (Zo (ZA (zL (rR fL2 Z (oR Z (ZH (za Z aj Z) (congrArg (jV) bC.out)) (oM Z Z (zh ?_)))))))
 have q:=hJ bF
 obtain rfl:=q
 exact zL ⟨rfl,_,rfl,⟨ah,rfl,ax,ay,az,(ao.trans bI),(ba.pick [] _ (by decide) rfl)⟩⟩
 intro ai bG
 refine ZI (nF (ai.out)) (sR fL1 Z (oA Z Z (eN (zR (zq (zW ?_))))))
 have q:=wAY bG
 obtain ⟨bJ,bH,bj⟩:=q
 have q:=wBY hm ak (bz bJ bj)
 obtain rfl:=q
 refine zW (zq (zW ?_))
 have hE:=hJ bH;first | subst r | cases hE
 exact ⟨rfl,_,(ZL rfl),ah,_,(ba.pick [] _ (by decide) rfl),rfl,rfl⟩
 rintro ⟨⟩ bZ bN ⟨bf,bm,bR,bS,bk,bT,bv⟩ bA
 have bb:=wCm hm ak bA
 try dsimp only at bb
 have bi:Hid (¬ ((↑(((↑p0.length:Int):Int) - 0).toNat:Int) < (↑p0.length:Int))):=zO (wAc)
 refine sR fL1 Z (oR Z (ze Z bm bk) (eN (zM (cF Z bi (Zb (zo (zo (ZV (zL (sR fL1 Z (oA Z Z (eN (zR ?_)))))))))))))
 have hE:=hJ bb;first | subst r | cases hE
 exact ⟨Z,_,(ZL Z),bf,_,bv,Z,Z⟩
theorem wGL (p0:wAG) (w:World) (U:PHeap) (hS:St0 w U [])  {r:Bool} (hm:wCX p0=some r):Gv Try.prog 97 [.agg #[jV p0.Offset.Lo,jV p0.Offset.Hi,jV p0.Error]] w (wBw w [] U (fun U_ L_ v=>v=.bool r/\L_=[])):=by
 unfold wCX at hm
 refine Gv.of Try.func97 Z Try.ntmps97 Try.results97 Z (sR gAx Z ?_)
 let B0:List Value:=[jV p0.Offset.Lo,jV p0.Offset.Hi,jV p0.Error]
 refine zy (cs:=B0) rfl rfl rfl rfl rfl rfl (by rfl) hS ?_
 intro W1 b2 am
 refine oA Z Z (eN (sR (.fl 0 (.fl 1 (.fx 2 (wFd gBa) .stop))) Z (oR Z (zE Z Z Zc Z zZ) (oL Z (am.ldBA (j:=0) Z Z Z Zn zZ (vs:=[jV p0.Offset.Lo,jV p0.Offset.Hi]) Z Z) (bnK hm fun x5 h6 a7=>zF 0 Z Z Z Z (zD Z Z Try.call95 (zB Z (zB Z (zB Z zJ))) Z) am (fun hs=>wEm p0.Offset (-36000) 36000 W1 U hs h6) (.inr Z) ?_)))))
 rintro U8 L9 bc aj ba au ⟨rfl,rfl⟩
 have ah:sW w U U8 [.blk b2 43 B0] aj:=au
 refine oM Z Z (ifc a7 ?_ ?_)
 intro ae ax
 refine zc Z Z Z (zS Z Z (congrArg hH ae.out)) (fun _=>zE Z Z Zc Z zC) (ZF Z Z Z (zS Z Z (congrArg hH ae.out)) (ah.ldB (j:=0) Z Z Z zG (v:=jV p0.Error) Z) Z (bnK ax fun be ap ay=>zF 0 Z Z Z (zS Z Z (congrArg hH ae.out)) (zD Z Z yR (zB Z (zB Z (zB Z zJ))) Z) ah (fun hs=>wBb p0.Error 0 600 aj U8 hs ap) (.inr Z) ?_))
 rintro ai a8 bd ao bb av ⟨rfl,rfl⟩
 have aw:sW w U ai [.blk b2 43 B0] ao:=av
 refine oR Z (zN Z (congrArg hH ae.out) Z) (oA Z Z (eN (zR ?_)))
 have hE:=hJ ay;first | subst r | cases hE
 exact ⟨rfl,_,(ZL rfl),ai,_,(aw.pick [] _ (by decide) rfl),rfl,rfl⟩
 intro ae az
 refine Zf Z Z Z (zV Z Z (congrArg hH (nA.2 ae.out)) Z) (Zf Z Z Z (zV Z Z (congrArg hH (nA.2 ae.out)) Z) (ZC Z Z Z (zV Z Z (congrArg hH (nA.2 ae.out)) Z) (oR Z (zg Z (congrArg hH (nA.2 ae.out)) Z) (oA Z Z (eN (zR ?_))))))
 have hE:=hJ az;first | subst r | cases hE
 exact ⟨rfl,_,(ZL rfl),U8,_,(ah.pick [] _ (by decide) rfl),rfl,rfl⟩
theorem wCn (p0:List wAJ) (ap:Option Addr) (aq:Nat) (p1:(wAJ->Option Bool)) (au:Value) (w:World) (U:PHeap) (hS:St0 w U []) (bw:Sl U 4 ap aq p0.length (hD wAB p0)) (bx:FnOK Try.prog U au wIx wIy p1) {r:Bool} (hm:wAn p0 p1=some r):Gv Try.prog 98 [.slice ap p0.length aq,au] w (wBw w [] U (fun U_ L_ v=>v=.bool r/\L_=[])):=by
 unfold wAn at hm
 refine Gv.of Try.func98 Z Try.ntmps98 Try.results98 Z (sR fL1 Z (oA Z Z (eN (zM (sR fL3 Z (oM Z Z (oR Z (zx Z Z ZN) (oM Z Z (eN (zd ?_))))))))))
 have q:=wBy hm
 obtain ⟨r3,ak⟩:=q
 have q:=wBx ak
 obtain ⟨an,bB⟩:=q
 replace an:=zO an
 refine yX (fun k2 _ σ_ w_=>∃ (U_:PHeap),σ_ 9=jV (↑k2:Int)/\σ_ 1=au/\σ_ 7=.slice ap p0.length aq/\σ_ 8=jV (↑p0.length:Int)/\PHeap.Le U U_/\sW w U U_ [] w_) bB ?_ ?_ ?_
 exact ⟨U,Z,Z,Z,Z,(zP _),hS⟩
 rintro k2 ⟨⟩ bY ca W8 am ⟨be,aj,ax,ay,az,ao,a8⟩ bc bz
 try dsimp only at bc
 have aw:Hid ((↑k2:Int) < (↑p0.length:Int)):=zO (wAs am)
 replace am:=zO am
 have bC:Hid (w64 ((↑k2:Int) + 1)=(↑(k2 + 1):Int)):=zO (by have h1:=an.out;have h2:=aw.out;rw [wAU] <;> omega)
 refine sR fL1 Z (oR Z (ze Z aj az) (eN (zM (cT Z aw (kN (zM (zd (sR gBl Z (bnK bc fun ae a7 bD=>?_)))))))))
 have bn:=bw.le ao
 have q:=bn.el (fun _=>rfl) (wAb a7)
 obtain ⟨bQ,bU,bq,br⟩:=q
 refine oR Z (Zk Z ay bq aj ZN ZW (wCl a7)) (oL Z (a8.ldCA (f:=0) br Z Z yj ZW (us:=[jV ae.Skier,jV ae.Mat,jV ae.Clock,jV ae.Time]) Z Z) (zQ (cs:=[jV 0,jV 0,jV 0,jV 0]) Z Z Z Z Z ZX Z a8 ?_))
 intro bM av bs
 let B0:List Value:=[jV ae.Skier,jV ae.Mat,jV ae.Clock,jV ae.Time]
 refine zU (j:=0) (vs:=B0) Z Z Z Z bs Z Z Z Z ZW (zA Z) Z Z Z ?_
 intro bg bt
 have a9:sW w U be [.blk av 39 B0] bg:=bt
 refine eN (sR gBk Z (oM Z ax (oL Z (a9.ldBA (j:=0) Z Z Z yj ZW (vs:=B0) Z Z) (bnK bD fun bX bo bE=>?_))))
 have bp:=bx.le ao
 refine OKS.callV (a:=ae) Z Z Z Z Z Z (zB Z zJ) a9 bp Z bo ?_
 rintro ah bL bW bh bI bu ⟨rfl,rfl⟩
 have ba:sW w U ah [.blk av 39 B0] bh:=bu
 refine oR Z (Zg Z Z) (eN (ifc bE ?_ ?_))
 intro ai bF
 refine ZE (nC ai.out) (Zo (ZA (zL (rR fL2 Z (oR Z (ZH (za Z aj Z) (congrArg (jV) bC.out)) (oM Z Z (zh ?_)))))))
 have q:=hJ bF
 obtain rfl:=q
 exact zL ⟨rfl,_,rfl,⟨ah,rfl,ax,ay,az,(ao.trans bI),(ba.pick [] _ (by decide) rfl)⟩⟩
 intro ai bG
 refine ZI (nF (ai.out)) (sR fL1 Z (oA Z Z (eN (zR (zq (zW ?_))))))
 have q:=wAY bG
 obtain ⟨bJ,bH,bj⟩:=q
 have q:=wBY hm ak (bz bJ bj)
 obtain rfl:=q
 refine zW (zq (zW ?_))
 have hE:=hJ bH;first | subst r | cases hE
 exact ⟨rfl,_,(ZL rfl),ah,_,(ba.pick [] _ (by decide) rfl),rfl,rfl⟩
 rintro ⟨⟩ bZ bN ⟨bf,bm,bR,bS,bk,bT,bv⟩ bA
 have bb:=wCm hm ak bA
 try dsimp only at bb
 have bi:Hid (¬ ((↑(((↑p0.length:Int):Int) - 0).toNat:Int) < (↑p0.length:Int))):=zO (wAc)
 refine sR fL1 Z (oR Z (ze Z bm bk) (eN (zM (cF Z bi (Zb (zo (zo (ZV (zL (sR fL1 Z (oA Z Z (eN (zR ?_)))))))))))))
 have hE:=hJ bb;first | subst r | cases hE
 exact ⟨Z,_,(ZL Z),bf,_,bv,Z,Z⟩
end Go.Proofs.Ytlnfbjphfoipaaa
namespace Go.Proofs.Ytlnfbjphfoipaaa
open Go.KL
set_option maxHeartbeats 4000000
theorem wGM (p0:wAJ) (w:World) (U:PHeap) (hS:St0 w U [])  {r:Bool} (hm:wCY p0=some r):Gv Try.prog 99 [.agg #[jV p0.Skier,jV p0.Mat,jV p0.Clock,jV p0.Time]] w (wBw w [] U (fun U_ L_ v=>v=.bool r/\L_=[])):=by
 unfold wCY at hm
 refine Gv.of Try.func99 Z Try.ntmps99 Try.results99 Z (sR gAx Z ?_)
 let B0:List Value:=[jV p0.Skier,jV p0.Mat,jV p0.Clock,jV p0.Time]
 refine zy (cs:=B0) rfl rfl rfl rfl rfl rfl (by rfl) hS ?_
 intro W1 b2 ag
 refine oA Z Z (eN (sR gBk Z (oR Z (zE Z Z ZJ Z zC) (oL Z (ag.ldB (j:=0) Z Z Z zG (v:=jV p0.Time) Z) (bnK hm fun x5 h6 ao=>zF 0 Z Z Z Z (zD Z Z yR (zB Z (zB Z (zB Z zJ))) Z) ag (fun hs=>wBb p0.Time 0 360000 W1 U hs h6) (.inr Z) ?_)))))
 rintro U8 L9 au ai aq am ⟨rfl,rfl⟩
 have an:sW w U U8 [.blk b2 39 B0] ai:=am
 refine oA Z Z (eN (zR ?_))
 have hE:=hJ ao;first | subst r | cases hE
 exact ⟨rfl,_,(ZL rfl),U8,_,(an.pick [] _ (by decide) rfl),rfl,rfl⟩
theorem wCT (p0:wAE) (ah:Option Addr) (aj:Nat) (ai:Option Addr) (ak:Nat) (aq:Option Addr) (av:Nat) (au:Option Addr) (aw:Nat) (p1:wAP) (w:World) (U:PHeap) (hS:St0 w U []) (bo:Sl U 1 ah aj p0.Starts.length (hD KL.encI p0.Starts)) (bp:Sl U 2 ai ak p0.Splits.length (hD wAC p0.Splits)) (bq:Sl U 3 aq av p0.Clocks.length (hD wAA p0.Clocks)) (br:Sl U 4 au aw p0.Readings.length (hD wAB p0.Readings)) {r:Bool} (hm:wAf p0 p1=some r):Gv Try.prog 84 [.agg #[.slice ah p0.Starts.length aj,.slice ai p0.Splits.length ak,.slice aq p0.Clocks.length av,.slice au p0.Readings.length aw],.agg #[jV p1.Skier,jV p1.Mat]] w (wBw w [] U (fun U_ L_ v=>v=.bool r/\L_=[])):=by
 unfold wAf at hm
 refine Gv.of Try.func84 Z Try.ntmps84 Try.results84 Z (sR gBg Z ?_)
 let B0:List Value:=[.slice ah p0.Starts.length aj,.slice ai p0.Splits.length ak,.slice aq p0.Clocks.length av,.slice au p0.Readings.length aw]
 refine zy (cs:=B0) rfl rfl rfl rfl rfl rfl (by rfl) hS ?_
 intro W1 b2 be
 let B1:List Value:=[jV p1.Skier,jV p1.Mat]
 refine zy (cs:=B1) rfl rfl rfl rfl rfl rfl (by rfl) be ?_
 intro W5 b6 ap
 refine oA Z Z (eN (sR (wHG (.fx 6 (wLC gBh) .stop)) Z (oR Z (zE Z Z yK Z zC) (oL Z (ap.ldB (j:=0) Z Z Z zG (v:=jV p1.Skier) Z) (oR Z (zE Z Z zI Z ZB) (oL Z (ap.ldB (j:=1) Z Z Z ZK (v:=.slice ah p0.Starts.length aj) Z) (oR Z (zx Z Z zK) (oR Z (yP Z Z Z) (bnK hm fun x9 ba bg=>zF 0 Z Z Z Z (zD Z Z yR (zB Z (zB Z (zB Z zJ))) Z) ap (fun hs=>wBb p1.Skier 0 (w64 ((↑p0.Starts.length:Int) - 1)) W5 U hs ba) (.inr Z) ?_)))))))))
 rintro ao bk bu ay bs bc ⟨rfl,rfl⟩
 have ag:sW w U ao [.blk b6 45 B1,.blk b2 28 B0] ay:=bc
 refine oM Z Z (ifc bg ?_ ?_)
 intro ae bh
 refine zc Z Z Z (zS Z Z (congrArg hH ae.out)) (fun _=>zE Z Z yK Z zC) (ZF Z Z Z (zS Z Z (congrArg hH ae.out)) (ag.ldB (j:=0) Z Z Z zG (v:=jV p1.Mat) Z) Z (zc Z Z Z (zS Z Z (congrArg hH ae.out)) (fun _=>zE Z Z zI Z Zj) (ZF Z Z Z (zS Z Z (congrArg hH ae.out)) (ag.ldB (j:=1) Z Z Z Zr (v:=.slice ai p0.Splits.length ak) Z) Z (zc Z Z Z (zS Z Z (congrArg hH ae.out)) (fun _=>zx Z Z zn) (bnK bh fun bw bb bi=>zF 0 Z Z Z (zS Z Z (congrArg hH ae.out)) (zD Z Z yR (zB Z (zB Z (zB Z zJ))) Z) ag (fun hs=>wBb p1.Mat 0 (↑p0.Splits.length:Int) ay ao hs bb) (.inr Z) ?_)))))
 rintro ax bm bv a8 bt bd ⟨rfl,rfl⟩
 have bf:sW w U ax [.blk b6 45 B1,.blk b2 28 B0] a8:=bd
 refine oR Z (zN Z (congrArg hH ae.out) Z) (oA Z Z (eN (zR ?_)))
 have hE:=hJ bi;first | subst r | cases hE
 exact ⟨rfl,_,(ZL rfl),ax,_,(bf.pick [] _ (by decide) rfl),rfl,rfl⟩
 intro ae bj
 refine Zf Z Z Z (zV Z Z (congrArg hH (nA.2 ae.out)) Z) (Zf Z Z Z (zV Z Z (congrArg hH (nA.2 ae.out)) Z) (Zf Z Z Z (zV Z Z (congrArg hH (nA.2 ae.out)) Z) (Zf Z Z Z (zV Z Z (congrArg hH (nA.2 ae.out)) Z) (Zf Z Z Z (zV Z Z (congrArg hH (nA.2 ae.out)) Z) (ZC Z Z Z (zV Z Z (congrArg hH (nA.2 ae.out)) Z) (oR Z (zg Z (congrArg hH (nA.2 ae.out)) Z) (oA Z Z (eN (zR ?_)))))))))
 have hE:=hJ bj;first | subst r | cases hE
 exact ⟨rfl,_,(ZL rfl),ao,_,(ag.pick [] _ (by decide) rfl),rfl,rfl⟩
theorem wGN (p0:wAJ) (p1:wAE) (a7:Nat) (ak:Option Addr) (ao:Nat) (am:Option Addr) (ap:Nat) (ag:Option Addr) (ah:Nat) (an:Option Addr) (aq:Nat) (w:World) (U:PHeap) (hS:St0 w U []) (az:Cl U a7 0 [.slice ak p1.Starts.length ao,.slice am p1.Splits.length ap,.slice ag p1.Clocks.length ah,.slice an p1.Readings.length aq]) (bg:Sl U 1 ak ao p1.Starts.length (hD KL.encI p1.Starts)) (bh:Sl U 2 am ap p1.Splits.length (hD wAC p1.Splits)) (bi:Sl U 3 ag ah p1.Clocks.length (hD wAA p1.Clocks)) (bj:Sl U 4 an aq p1.Readings.length (hD wAB p1.Readings)) {r:Bool} (hm:wCZ p0 p1=some r):Gv Try.prog 100 [.agg #[jV p0.Skier,jV p0.Mat,jV p0.Clock,jV p0.Time],.pointer (some ⟨a7,0,none⟩)] w (wBw w [] U (fun U_ L_ v=>v=.bool r/\L_=[])):=by
 unfold wCZ at hm
 refine Gv.of Try.func100 Z Try.ntmps100 Try.results100 Z (sR gAx Z ?_)
 let B0:List Value:=[jV p0.Skier,jV p0.Mat,jV p0.Clock,jV p0.Time]
 refine zy (cs:=B0) rfl rfl rfl rfl rfl rfl (by rfl) hS ?_
 intro W1 b2 aj
 refine oA Z Z (eN (sR (wHG (.fx 6 (wLD gBi) .stop)) Z (oL Z (aj.ldCA (f:=0) az Z Z zf zY (us:=[.slice ak p1.Starts.length ao,.slice am p1.Splits.length ap,.slice ag p1.Clocks.length ah,.slice an p1.Readings.length aq]) Z Z) (oR Z (zE Z Z ZJ Z zC) (oL Z (aj.ldB (j:=0) Z Z Z zG (v:=jV p0.Skier) Z) (oR Z (zE Z Z ZJ Z zC) (oL Z (aj.ldB (j:=0) Z Z Z zG (v:=jV p0.Mat) Z) (oR Z (zk (pv:=[(0,jV p0.Skier),(1,jV p0.Mat)]) (z:=[jV 0,jV 0]) (cs:=[jV p0.Skier,jV p0.Mat]) Z (wAH Z (wAH Z wAO)) Zu wEg Z Z) (bnK hm fun x5 h6 bo=>zF 0 Z Z Z Z (zD Z Z Try.call84 (zB Z (zB Z zJ)) Z) aj (fun hs=>wCT p1 ak ao am ap ag ah an aq (⟨p0.Skier,p0.Mat⟩:wAP) W1 U hs bg bh bi bj h6) (.inr Z) ?_)))))))))
 rintro U8 L9 bt ax bp bd ⟨rfl,rfl⟩
 have ai:sW w U U8 [.blk b2 39 B0] ax:=bd
 refine oM Z Z (ifc bo ?_ ?_)
 intro af bk
 refine zc Z Z Z (zS Z Z (congrArg hH af.out)) (fun _=>zE Z Z ZJ Z zC) (ZF Z Z Z (zS Z Z (congrArg hH af.out)) (ai.ldB (j:=0) Z Z Z zG (v:=jV p0.Clock) Z) Z (zc Z Z Z (zS Z Z (congrArg hH af.out)) (fun _=>zE Z Z zI Z Zl) ?_))
 have ba:=az.le bp
 refine ZF Z Z Z (zS Z Z (congrArg hH af.out)) (ai.ldC (f:=2) ba (v:=.slice ag p1.Clocks.length ah) Z Z yD Z) Z (zc Z Z Z (zS Z Z (congrArg hH af.out)) (fun _=>zx Z Z ZS) (zc Z Z Z (zS Z Z (congrArg hH af.out)) (fun _=>yP Z Z Z) (bnK bk fun bv bb bm=>zF 0 Z Z Z (zS Z Z (congrArg hH af.out)) (zD Z Z yR (zB Z (zB Z (zB Z zJ))) Z) ai (fun hs=>wBb p0.Clock 0 (w64 ((↑p1.Clocks.length:Int) - 1)) ax U8 hs bb) (.inr Z) ?_)))
 rintro aw bq bu a9 bs be ⟨rfl,rfl⟩
 have bf:sW w U aw [.blk b2 39 B0] a9:=be
 refine oR Z (zN Z (congrArg hH af.out) Z) (oA Z Z (eN (zR ?_)))
 have hE:=hJ bm;first | subst r | cases hE
 exact ⟨rfl,_,(ZL rfl),aw,_,(bf.pick [] _ (by decide) rfl),rfl,rfl⟩
 intro af bn
 refine Zf Z Z Z (zV Z Z (congrArg hH (nA.2 af.out)) Z) (Zf Z Z Z (zV Z Z (congrArg hH (nA.2 af.out)) Z) (Zf Z Z Z (zV Z Z (congrArg hH (nA.2 af.out)) Z) (Zf Z Z Z (zV Z Z (congrArg hH (nA.2 af.out)) Z) (Zf Z Z Z (zV Z Z (congrArg hH (nA.2 af.out)) Z) (Zf Z Z Z (zV Z Z (congrArg hH (nA.2 af.out)) Z) (ZC Z Z Z (zV Z Z (congrArg hH (nA.2 af.out)) Z) (oR Z (zg Z (congrArg hH (nA.2 af.out)) Z) (oA Z Z (eN (zR ?_))))))))))
 have hE:=hJ bn;first | subst r | cases hE
 exact ⟨rfl,_,(ZL rfl),U8,_,(ai.pick [] _ (by decide) rfl),rfl,rfl⟩
theorem wDq (p0:wAE) (ap:Option Addr) (av:Nat) (aq:Option Addr) (aw:Nat) (au:Option Addr) (ax:Nat) (ak:Option Addr) (am:Nat) (w:World) (U:PHeap) (hS:St0 w U []) (cN:Sl U 1 ap av p0.Starts.length (hD KL.encI p0.Starts)) (cO:Sl U 2 aq aw p0.Splits.length (hD wAC p0.Splits)) (cP:Sl U 3 au ax p0.Clocks.length (hD wAA p0.Clocks)) (cQ:Sl U 4 ak am p0.Readings.length (hD wAB p0.Readings)) {r:Int} (hm:wCO p0=some r):Gv Try.prog 68 [.agg #[.slice ap p0.Starts.length av,.slice aq p0.Splits.length aw,.slice au p0.Clocks.length ax,.slice ak p0.Readings.length am]] w (wBw w [] U (fun U_ L_ v=>v=jV r/\L_=[])):=by
 unfold wCO at hm
 refine Gv.of Try.func68 Z Try.ntmps68 Try.results68 Z (sR gAx Z ?_)
 let B0:List Value:=[.slice ap p0.Starts.length av,.slice aq p0.Splits.length aw,.slice au p0.Clocks.length ax,.slice ak p0.Readings.length am]
 refine zy (cs:=B0) rfl rfl rfl rfl rfl rfl (by rfl) hS ?_
 intro W1 b2 cI
 have q:=cI.freeze (k:=0) rfl
 obtain ⟨U5,bh,az,cM⟩:=q
 replace az:=Cl.of az
 have bO:sW w U U5 [] W1:=cM
 replace az:Cl U5 b2 0 B0:=az
 refine oA Z Z (eN (zM (zd (sR (wDF (.fx 3 (wMf (.nil)) .stop)) Z (oR Z (zE Z Z zI Z ZB) (oL Z (bO.ldC (f:=0) az (v:=.slice ap p0.Starts.length av) Z Z ZK Z) (oR Z (zx Z Z zK) (bnK hm fun dK bW cU=>zF 0 Z Z Z Z (zD Z Z yR (zB Z (zB Z (zB Z zJ))) Z) bO (fun hs=>wBb (↑p0.Starts.length:Int) 1 8 W1 U5 hs bW) (.inr Z) ?_))))))))
 rintro ao dw dD bx a8 cH ⟨rfl,rfl⟩
 have aj:sW w U ao [] bx:=cH
 refine oR Z (Zg Z Z) (oM Z Z (ifc cU ?_ ?_))
 intro ae db
 refine zc Z Z Z (zS Z Z (nC ae.out)) (fun _=>zE Z Z zI Z Zj) ?_
 have a7:=az.le a8
 refine ZF Z Z Z (zS Z Z (nC ae.out)) (aj.ldC (f:=1) a7 (v:=.slice aq p0.Splits.length aw) Z Z Zr Z) Z (zc Z Z Z (zS Z Z (nC ae.out)) (fun _=>zx Z Z zn) (zc Z Z Z (zS Z Z (nC ae.out)) (fun _=>ye Z Z Z) (oR Z (zg Z (nC ae.out) Z) (oM Z Z (ifc db ?_ ?_)))))
 intro af dd
 refine oT Z af (oT Z af (oT Z af (oT Z af (oR Z (zN Z (Zi af.out) Z) (oM Z Z (oN Z (oN Z (oN Z (oN Z (oR Z (zN Z Z Z) (oA Z Z (eN (ZI Z (sR fL1 Z (oA Z Z (eN (zR (zq (zW ?_)))))))))))))))))))
 cases dd
 exact ⟨Z,_,(ZL Z),ao,_,aj,Z,Z⟩
 intro af de
 refine rU Z (wF Z af) (zE Z Z zI Z Zl) (ZF Z Z Z (wF Z af) (aj.ldC (f:=2) a7 (v:=.slice au p0.Clocks.length ax) Z Z yD Z) Z (rU Z (wF Z af) (zx Z Z ZS) (rU Z (wF Z af) (ye Z Z Z) (oR Z (zg Z (ZD af.out) Z) (oM Z Z (ifc de ?_ ?_))))))
 intro ag df
 refine oT Z ag (oT Z ag (oT Z ag (oT Z ag (oR Z (zN Z (Zi ag.out) Z) (oA Z Z (eN (ZI Z (sR fL1 Z (oA Z Z (eN (zR (zq (zW ?_)))))))))))))
 cases df
 exact ⟨Z,_,(ZL Z),ao,_,aj,Z,Z⟩
 intro ag dg
 refine rU Z (wF Z ag) (zE Z Z zI Z ZO) (ZF Z Z Z (wF Z ag) (aj.ldC (f:=3) a7 (v:=.slice ak p0.Readings.length am) Z Z Zs Z) Z (rU Z (wF Z ag) (zx Z Z ZN) (rU Z (wF Z ag) (ye Z Z Z) (oR Z (zg Z (ZD ag.out) Z) (oA Z Z (eN (ifc dg ?_ ?_)))))))
 intro bn dh
 refine cT Z bn (sR fL1 Z (oA Z Z (eN (zR (zq (zW ?_))))))
 cases dh
 exact ⟨Z,_,(ZL Z),ao,_,aj,Z,Z⟩
 intro bn di
 refine cF Z bn (sR (.fl 0 (.fl 1 (.fx 2 (wJy (.fx 7 (wGm (.nil)) .stop)) .stop))) Z (oR Z (zE Z Z zI Z ZB) (oL Z (aj.ldC (f:=0) a7 (v:=.slice ap p0.Starts.length av) Z Z ZK Z) ?_)))
 have cd:=cN.le bh
 have bF:=cd.le a8
 have cA:FnOK Try.prog ao (.func (.func 92) #[] #[]) ar76 rr76 wCU:=⟨92,[],[],rfl,Try.call92,fun U1 w1 x y vs le hs ha hm=>by obtain rfl:=ha;exact wGJ x w1 U1 hs  hm⟩
 refine bnK di fun dM cf dk=>zF 0 Z Z Z Z (zD Z Z Try.call79 (zB Z (zB Z zJ)) Z) aj (fun hs=>wFY p0.Starts ap av wCU (.func (.func 92) #[] #[]) bx ao hs bF cA cf) (.inr Z) ?_
 rintro bd dx dE bz a9 cJ ⟨rfl,rfl⟩
 have bs:sW w U bd [] bz:=cJ
 refine oR Z (Zg Z Z) (oM Z Z (ifc dk ?_ ?_))
 intro ah dl
 refine zc Z Z Z (zS Z Z (nC ah.out)) (fun _=>zE Z Z zI Z Zj) ?_
 have bG:=a7.le a9
 refine ZF Z Z Z (zS Z Z (nC ah.out)) (bs.ldC (f:=1) bG (v:=.slice aq p0.Splits.length aw) Z Z Zr Z) Z ?_
 have cg:=cO.le bh
 have ci:=cg.le a8
 have bH:=ci.le a9
 have cB:FnOK Try.prog bd (.func (.func 94) #[] #[]) wMG wMH wCW:=⟨94,[],[],rfl,Try.call94,fun U1 w1 x y vs le hs ha hm=>by obtain rfl:=ha;exact wGK x w1 U1 hs  hm⟩
 refine bnK dl fun dN cm dm=>zF 0 Z Z Z (zS Z Z (nC ah.out)) (zD Z Z Try.call93 (zB Z (zB Z zJ)) Z) bs (fun hs=>wER p0.Splits aq aw wCW (.func (.func 94) #[] #[]) bz bd hs bH cB cm) (.inr Z) ?_
 rintro be dy dH bA ba cK ⟨rfl,rfl⟩
 have bt:sW w U be [] bA:=cK
 refine zc Z Z Z (zS Z Z (nC ah.out)) (fun _=>Zg Z Z) (oR Z (zg Z (nC ah.out) Z) (oA Z Z (eN (ifc dm ?_ ?_))))
 intro bo dp
 refine ZE (nC bo.out) (sR gBt Z (oR Z (zE Z Z zI Z Zl) ?_))
 have bI:=bG.le ba
 refine oL Z (bt.ldC (f:=2) bI (v:=.slice au p0.Clocks.length ax) Z Z yD Z) ?_
 have cn:=cP.le bh
 have co:=cn.le a8
 have cp:=co.le a9
 have bJ:=cp.le ba
 have cC:FnOK Try.prog be (.func (.func 97) #[] #[]) wMI wMJ wCX:=⟨97,[],[],rfl,Try.call97,fun U1 w1 x y vs le hs ha hm=>by obtain rfl:=ha;exact wGL x w1 U1 hs  hm⟩
 refine bnK dp fun dO cr dq=>zF 0 Z Z Z Z (zD Z Z Try.call96 (zB Z (zB Z zJ)) Z) bt (fun hs=>wED p0.Clocks au ax wCX (.func (.func 97) #[] #[]) bA be hs bJ cC cr) (.inr Z) ?_
 rintro bf dz dI bB bb cL ⟨rfl,rfl⟩
 have bu:sW w U bf [] bB:=cL
 refine oR Z (Zg Z Z) (oA Z Z (eN (ifc dq ?_ ?_)))
 intro bp dr
 refine ZE (nC bp.out) (zM (yh fun du bQ=>?_))
 have bq:du 1=.pointer (some ⟨b2,0,none⟩):=(bQ 1).trans rfl
 clear bQ
 refine rR gBt Z (oR Z (zE Z bq zI Z ZO) ?_)
 have bL:=bI.le bb
 refine oL Z (bu.ldC (f:=3) bL (v:=.slice ak p0.Readings.length am) Z Z Zs Z) ?_
 have ct:=cQ.le bh
 have cu:=ct.le a8
 have cw:=cu.le a9
 have cx:=cw.le ba
 have bM:=cx.le bb
 have cD:FnOK Try.prog bf (.func (.func 99) #[] #[]) wIx wIy wCY:=⟨99,[],[],rfl,Try.call99,fun U1 w1 x y vs le hs ha hm=>by obtain rfl:=ha;exact wGM x w1 U1 hs  hm⟩
 refine bnK dr fun dP cy dt=>zF 0 Z Z Z Z (zD Z Z Try.call98 (zB Z (zB Z zJ)) Z) bu (fun hs=>wCn p0.Readings ak am wCY (.func (.func 99) #[] #[]) bB bf hs bM cD cy) (.inr Z) ?_
 rintro bg dA dJ bC bc cE ⟨rfl,rfl⟩
 have br:sW w U bg [] bC:=cE
 refine oR Z (Zg Z Z) (oA Z Z (eN (ifc dt ?_ ?_)))
 intro bk cR
 refine ZE (nC bk.out) (sR (wDF gBf) Z (oR Z (zE Z bq zI Z ZO) ?_))
 have bD:=bL.le bc
 refine oL Z (br.ldC (f:=3) bD (v:=.slice ak p0.Readings.length am) Z Z Zs Z) (oR Z (Runs.mkf Z zJ (zB bq zJ)) ?_)
 have bE:=bM.le bc
 have bS:=bF.le a9
 have bT:=bS.le ba
 have bU:=bT.le bb
 have bV:=bU.le bc
 have bX:=bH.le ba
 have bY:=bX.le bb
 have bZ:=bY.le bc
 have ca:=bJ.le bb
 have cb:=ca.le bc
 have cz:FnOK Try.prog bg (.func (.func 100) #[] #[.pointer (some ⟨b2,0,none⟩)]) wIx wIy (fun x=>wCZ x p0):=⟨100,[],[.pointer (some ⟨b2,0,none⟩)],rfl,Try.call100,fun U1 w1 x y vs le hs ha hm=>by obtain rfl:=ha;exact wGN x p0 b2 ap av aq aw au ax ak am w1 U1 hs (bD.le le) (bV.le le) (bZ.le le) (cb.le le) (bE.le le) hm⟩
 refine bnK cR fun dL cc cS=>zF 0 Z Z Z Z (zD Z Z Try.call98 (zB Z (zB Z zJ)) Z) br (fun hs=>wCn p0.Readings ak am (fun x=>wCZ x p0) (.func (.func 100) #[] #[.pointer (some ⟨b2,0,none⟩)]) bC bg hs bE cz cc) (.inr Z) ?_
 rintro bi dv dC bR dB cG ⟨rfl,rfl⟩
 have bN:sW w U bi [] bR:=cG
 refine oR Z (Zg Z Z) (oA Z Z (eN (ifc cS ?_ ?_)))
 intro bm cV
 refine ZE (nC bm.out) (Zo (ZA (zL (sR fL1 Z (oA Z Z (eN (zR ?_)))))))
 cases cV
 exact ⟨Z,_,(ZL Z),bi,_,bN,Z,Z⟩
 intro bm cW
 refine ZI (nF (bm.out)) (sR fL1 Z (oA Z Z (eN (zR (zq (zW ?_))))))
 cases cW
 exact ⟨Z,_,(ZL Z),bi,_,bN,Z,Z⟩
 intro bk cX
 refine ZI (nF (bk.out)) (sR fL1 Z (oA Z Z (eN (zR (zq (zW ?_))))))
 cases cX
 exact ⟨Z,_,(ZL Z),bg,_,br,Z,Z⟩
 intro bp cY
 refine ZI (nF (bp.out)) (sR fL1 Z (oA Z Z (eN (zR (zq (zW ?_))))))
 cases cY
 exact ⟨Z,_,(ZL Z),bf,_,bu,Z,Z⟩
 intro bo cZ
 refine ZI (nF (bo.out)) (sR fL1 Z (oA Z Z (eN (zR (zq (zW ?_))))))
 cases cZ
 exact ⟨Z,_,(ZL Z),be,_,bt,Z,Z⟩
 intro ah c6
 refine Zf Z Z Z (zV Z Z (nF (ah.out)) Z) (Zf Z Z Z (zV Z Z (nF (ah.out)) Z) (ZC Z Z Z (zV Z Z (nF (ah.out)) Z) (Zf Z Z Z (zV Z Z (nF (ah.out)) Z) (oR Z (zN Z (nF (ah.out)) Z) (oA Z Z (eN (ZI Z (sR fL1 Z (oA Z Z (eN (zR (zq (zW ?_)))))))))))))
 cases c6
 exact ⟨Z,_,(ZL Z),bd,_,bs,Z,Z⟩
 intro ae da
 refine Zf Z Z Z (zV Z Z (nF (ae.out)) Z) (Zf Z Z Z (zV Z Z (nF (ae.out)) Z) (Zf Z Z Z (zV Z Z (nF (ae.out)) Z) (Zf Z Z Z (zV Z Z (nF (ae.out)) Z) (oR Z (zN Z (nF (ae.out)) Z) (oM Z Z (oN Z (oN Z (oN Z (oN Z (oR Z (zN Z Z Z) (oM Z Z (oN Z (oN Z (oN Z (oN Z (oR Z (zN Z Z Z) (oA Z Z (eN (ZI Z (sR fL1 Z (oA Z Z (eN (zR (zq (zW ?_)))))))))))))))))))))))))
 cases da
 exact ⟨Z,_,(ZL Z),ao,_,aj,Z,Z⟩
theorem wAl  (w:World) (U:PHeap) (hS:St0 w U [])  {r:wAL} (hm:wBN =some r):Gv Try.prog 48 [] w (wBw w [] U (fun U_ L_ v=>v=.agg #[jV r.skier,jV r.mat]/\L_=[])):=by
 unfold wBN at hm
 refine Gv.of Try.func48 Z Try.ntmps48 Try.results48 Z (sR (.fx 0 .nil .stop) Z (zQ (cs:=[jV 0,jV 0]) Z Z Z Z Z zb Z hS ?_))
 intro W1 b2 ah
 refine eN (sR (.fl 0 (.fx 1 .nil .stop)) Z ?_)
 let B0:List Value:=[jV (-1),jV 0]
 refine oR Z (zk (pv:=[(0,jV (-1)),(1,jV 0)]) (z:=[jV 0,jV 0]) (cs:=B0) Z (wAH Z (wAH Z wAO)) zb wBO Z Z) (zU (j:=0) (vs:=B0) Z Z Z Z ah Z Z Z Z zH (zA Z) Z Z Z ?_)
 intro W5 ai
 have ae:sW w U U [.blk b2 104 B0] W5:=ai
 refine eN (zR ?_)
 cases hm
 exact ⟨rfl,_,(wFv (v:=.agg B0.toArray) ⟨⟨_,rfl,(wAw zj zH (ae.blkAt (k:=0) rfl) (vs:=B0) rfl rfl)⟩,trivial⟩),U,_,(ae.pick [] _ (by decide) rfl),rfl,rfl⟩
theorem wEt {S E:Type} (PY:S->PHeap->List Res->Prop) (PE:E->PHeap->List Res->Prop) (f:S->wAK->Option (S ⊕ E)) (y:Nat) (s0:S) (p1:wAE) (am:Nat) (cg:Option Addr) (co:Nat) (ci:Option Addr) (cp:Nat) (cm:Option Addr) (cr:Nat) (cn:Option Addr) (ct:Nat) (w:World) (L:List Res) (U:PHeap) (hS:St ⟨w,L,U⟩ U L w) (hP:PY s0 U L) (hY:YOK Try.prog y wKI PY PE f U) (bh:Cl U am 0 [.slice cg p1.Starts.length co,.slice ci p1.Splits.length cp,.slice cm p1.Clocks.length cr,.slice cn p1.Readings.length ct]) (jz:Sl U 1 cg co p1.Starts.length (hD KL.encI p1.Starts)) (jA:Sl U 2 ci cp p1.Splits.length (hD wAC p1.Splits)) (jB:Sl U 3 cm cr p1.Clocks.length (hD wAA p1.Clocks)) (jC:Sl U 4 cn ct p1.Readings.length (hD wAB p1.Readings)) {r:S ⊕ E} (hm:wBm f s0 p1=some r):Gv Try.prog 105 [.func (.yield y) #[] #[],.pointer (some ⟨am,0,none⟩)] w (ItS w L U PY PE r):=by
 unfold wBm at hm
 refine Gv.of Try.func105 Z Try.ntmps105 Try.results105 Z (sR wMX Z (oR Z (zE Z Z zI Z Zj) (oL Z (hS.ldC (f:=1) bh (v:=.slice ci p1.Splits.length cp) Z Z Zr Z) (oR Z (zx Z Z zn) (oR Z (zE Z Z zI Z Zl) (oL Z (hS.ldC (f:=2) bh (v:=.slice cm p1.Clocks.length cr) Z Z yD Z) (oR Z (zx Z Z ZS) (oR Z (zE Z Z zI Z ZO) (oL Z (hS.ldC (f:=3) bh (v:=.slice cn p1.Readings.length ct) Z Z Zs Z) (oR Z (zx Z Z ZN) ?_))))))))))
 let B0:List Value:=[jV 1,jV (↑p1.Splits.length:Int),jV (↑p1.Clocks.length:Int),jV (↑p1.Readings.length:Int)]
 refine oR Z (Runs.buildA (pv:=[(0,jV 1),(1,jV (↑p1.Splits.length:Int)),(2,jV (↑p1.Clocks.length:Int)),(3,jV (↑p1.Readings.length:Int))]) (z:=[jV 0,jV 0,jV 0,jV 0]) (cs:=B0) Z (wAH Z (wAH Z (wAH Z (wAH Z wAO)))) Try.zeroValue175 Try.runUnderlying175 zC Z Z) (oM Z Z (eN (zd ?_)))
 have q:=wBy hm
 obtain ⟨jG,ap⟩:=q
 have q:=wBx ap
 obtain ⟨bX,gN⟩:=q
 replace bX:=zO bX
 refine yX (fun ae dx σ_ w_=>∃ (U_:PHeap) (au:List Res),σ_ 18=jV (↑ae:Int)/\σ_ 0=.func (.yield y) #[] #[]/\σ_ 1=.pointer (some ⟨am,0,none⟩)/\σ_ 17=.agg B0.toArray/\PHeap.Le U U_/\St ⟨w,L,U⟩ U_ au w_/\PY dx U_ au) gN ?_ ?_ ?_
 exact ⟨U,L,Z,Z,Z,Z,(zP _),hS,hP⟩
 rintro ae dx jM jY ja bS ⟨bx,au,aw,cO,bE,bF,ao,bQ,c6⟩ iB bi
 have cK:Hid ((↑ae:Int) < 4):=zO (wAs bS)
 replace bS:=zO bS
 have dm:Hid (w64 ((↑ae:Int) + 1)=(↑(ae + 1):Int)):=zO (by have h1:=bX.out;have h2:=cK.out;rw [wAU] <;> omega)
 refine sR fL1 Z (oR Z (ze Z aw Z) (eN (zM (cT Z cK (kN (zM (zd (sR fL4 Z (oM Z aw (bnK iB fun ah bO ii=>oR Z (yi (cs:=hD KL.encI ([1,(↑p1.Splits.length:Int),(↑p1.Clocks.length:Int),(↑p1.Readings.length:Int)]:List Int)) Z bF aw Try.runUnderlying175 zC (wCG bO) (wCM bO) (wEV zG (wEC (sz:=1) (fun _=>Z) _ _ 0 _ _ (wAb bO) Z))) (oA Z Z (oA Z Z (eN (sR fL4 Z (oR Z (zE Z bE zI Z ZB) ?_)))))))))))))))
 have gb:=bh.le ao
 refine oL Z (bQ.ldC (f:=0) gb (v:=.slice cg p1.Starts.length co) Z Z ZK Z) (oR Z (zx Z Z zK) (oA Z Z (eN (zM ?_))))
 have q:=bnd ii
 obtain ⟨⟨dN,iN⟩,dt,dp⟩:=q
 try dsimp only at dp
 refine yS (fun σ_ w_=>∃ (U_:PHeap) (av:List Res),σ_ 0=.func (.yield y) #[] #[]/\σ_ 1=.pointer (some ⟨am,0,none⟩)/\σ_ 3=jV (↑ae:Int)/\σ_ 4=jV ah/\σ_ 5=jV (↑p1.Starts.length:Int)/\σ_ 17=.agg B0.toArray/\σ_ 18=jV (↑ae:Int)/\σ_ 30=.bool dN/\PHeap.Le bx U_/\St ⟨w,L,U⟩ U_ av w_/\PY iN U_ av) ?_ ?_
 refine rR fL6 Z (oM Z Z (oR Z (yO Z Z Z) (oM Z Z ?_)))
 by_cases ai:(↑ae:Int)=2
 have dq:=dt;rw [if_pos ai] at dq;replace ai:=zO ai
 refine oT Z ai (oT Z ai (oR Z (zN Z (Zi ai.out) Z) (zh ?_)))
 cases dq
 exact zL ⟨Z,⟨bx,au,cO,bE,Z,Z,Z,bF,aw,Z,(zP _),bQ,c6⟩⟩
 have dr:=dt;rw [if_neg ai] at dr;replace ai:=zO ai
 refine zw Z Z Z (wF Z ai) Z Z (rU Z (wF Z ai) (yO Z Z Z) (oR Z (zg Z (ZD ai.out) Z) (zh ?_)))
 cases dr
 exact zL ⟨Z,⟨bx,au,cO,bE,Z,Z,Z,bF,aw,Z,(zP _),bQ,c6⟩⟩
 rintro j6 ji ⟨a8,av,cQ,cR,cS,cU,fI,cV,cW,cX,aq,dg,da⟩
 refine ifc dp ?_ ?_
 intro bA bp
 refine ZI (cX.trans (congrArg hH bA.out)) (rR fL1 Z (oA Z Z (eN (sR fL2 Z (oM Z Z (oM Z Z (eN (zd ?_))))))))
 have q:=wBy bp
 obtain ⟨jK,bg⟩:=q
 have q:=wBx bg
 obtain ⟨ca,gQ⟩:=q
 replace ca:=zO ca
 refine yX (fun ag dB σ_ w_=>∃ (U_:PHeap) (ay:List Res),σ_ 32=jV (↑ag:Int)/\σ_ 0=.func (.yield y) #[] #[]/\σ_ 1=.pointer (some ⟨am,0,none⟩)/\σ_ 3=jV (↑ae:Int)/\σ_ 4=jV ah/\σ_ 17=.agg B0.toArray/\σ_ 18=jV (↑ae:Int)/\σ_ 31=jV 1/\PHeap.Le a8 U_/\St ⟨w,L,U⟩ U_ ay w_/\PY dB U_ ay) gQ ?_ ?_ ?_
 exact ⟨a8,av,Z,cQ,cR,cS,cU,cV,cW,Z,(zP _),dg,da⟩
 rintro ag dB jP j7 jj bV ⟨cA,ay,bN,fJ,fK,fM,cY,fN,fO,cZ,cf,gF,fU⟩ br dl
 have cG:Hid ((↑ag:Int) < 1):=zO (wAs bV)
 replace bV:=zO bV
 have gR:Hid (w64 ((↑ag:Int) + 1)=(↑(ag + 1):Int)):=zO (by have h1:=ca.out;have h2:=cG.out;rw [wAU] <;> omega)
 refine sR fL1 Z (oR Z (ze Z bN cZ) (eN (zM (cT Z cG (kN (zM (zd (sR fL2 Z (oM Z bN (oA Z Z (eN (sR fL2 Z (oM Z cY (oM Z Z (eN (zd ?_))))))))))))))))
 have q:=wBy br
 obtain ⟨jE,bd⟩:=q
 have q:=wBx bd
 obtain ⟨bW,gM⟩:=q
 replace bW:=zO bW
 refine yX (fun aj dy σ_ w_=>∃ (U_:PHeap) (bs:List Res),σ_ 36=jV (↑aj:Int)/\σ_ 0=.func (.yield y) #[] #[]/\σ_ 1=.pointer (some ⟨am,0,none⟩)/\σ_ 3=jV (↑ae:Int)/\σ_ 4=jV ah/\σ_ 6=jV (↑ag:Int)/\σ_ 17=.agg B0.toArray/\σ_ 18=jV (↑ae:Int)/\σ_ 31=jV 1/\σ_ 32=jV (↑ag:Int)/\σ_ 35=jV ah/\PHeap.Le cA U_/\St ⟨w,L,U⟩ U_ bs w_/\PY dy U_ bs) gM ?_ ?_ ?_
 exact ⟨cA,ay,Z,fJ,fK,fM,cY,Z,fN,fO,cZ,bN,Z,(zP _),gF,fU⟩
 rintro aj dy jL jX i9 bR ⟨i7,bs,bJ,bB,ej,bC,ek,bD,en,eo,ep,er,cL,cb,gh,fV⟩ iA dh
 have cH:Hid ((↑aj:Int) < ah):=zO (wAs bR)
 replace bR:=zO bR
 have gS:Hid (w64 ((↑aj:Int) + 1)=(↑(aj + 1):Int)):=zO (by have h1:=bW.out;have h2:=cH.out;rw [wAU] <;> omega)
 refine sR fL1 Z (oR Z (ze Z bJ cL) (eN (zM (cT Z cH (kN (zM (zd (sR fL2 Z (oM Z bJ (oA Z Z (eN (sR (wFk (.fx 5 (wLA gBh) .stop)) Z (oM Z bB (oM Z bC (oM Z bD (oM Z Z ?_))))))))))))))))
 let B1:List Value:=[jV 0,jV 0,jV 0,.bool false]
 refine oR Z (zk (pv:=[(0,jV (↑ae:Int)),(1,jV (↑ag:Int)),(2,jV (↑aj:Int)),(3,.bool true)]) (z:=B1) (cs:=[jV (↑ae:Int),jV (↑ag:Int),jV (↑aj:Int),.bool true]) Z (wAH Z (wAH Z (wAH Z (wAH Z wAO)))) Zy wDS Z Z) (bnK iA fun i2 fY bj=>OKS.yieldT 0 (a:=(⟨(↑ae:Int),(↑ag:Int),(↑aj:Int),true⟩:wAK)) Z Z Z Z Z Z (zB Z zJ) gh hY (((ao.trans aq).trans cf).trans cb) fV Z fY Z ?_)
 rintro bw cx jk cB du db a9
 rcases i2 with iJ | iJ
 try dsimp only at bj a9
 obtain ⟨rfl,iq⟩:=a9
 have gi:St ⟨w,L,U⟩ bw cx cB:=db
 refine oR Z (Zg Z Z) (oM Z Z (zw Z Z Z (zS Z Z Z) Z bB (zw Z Z Z (zS Z Z Z) Z bC (zw Z Z Z (zS Z Z Z) Z bD (zw Z Z Z (zS Z Z Z) Z Z (zc Z Z Z (zS Z Z Z) (fun _=>zk (pv:=[(0,jV (↑ae:Int)),(1,jV (↑ag:Int)),(2,jV (↑aj:Int)),(3,.bool false)]) (z:=B1) (cs:=[jV (↑ae:Int),jV (↑ag:Int),jV (↑aj:Int),.bool false]) Z (wAH Z (wAH Z (wAH Z (wAH Z wAO)))) Zy wDS Z Z) (bnK bj fun i3 fZ bk=>OKS.yieldT 0 (a:=(⟨(↑ae:Int),(↑ag:Int),(↑aj:Int),false⟩:wAK)) Z Z Z (zS Z Z Z) Z Z (zB Z zJ) gi hY ((((ao.trans aq).trans cf).trans cb).trans du) iq Z fZ Z ?_)))))))
 rintro az bt jl cC iD dd ba
 rcases i3 with iK | iK
 try dsimp only at bk ba
 obtain ⟨rfl,ir⟩:=ba
 have gj:St ⟨w,L,U⟩ az bt cC:=dd
 refine zc Z Z Z (zS Z Z Z) (fun _=>Zg Z Z) (oR Z (zg Z Z Z) (eN (ZE Z (Zo (ZA (zL (rR fL2 Z (oR Z (ZH (za Z bJ Z) (congrArg (jV) gS.out)) (oM Z Z (zh ?_))))))))))
 have q:=hJ bk
 obtain rfl:=q
 exact zL ⟨Z,_,Z,⟨az,bt,Z,bB,ej,bC,ek,bD,en,eo,ep,er,cL,((cb.trans du).trans iD),gj,ir⟩⟩
 try dsimp only at bk ba
 obtain ⟨rfl,it⟩:=ba
 have gm:St ⟨w,L,U⟩ az bt cC:=dd
 refine zc Z Z Z (zS Z Z Z) (fun _=>Zg Z Z) (oR Z (zg Z Z Z) (eN (ZI Z (zR (zq (zW ?_))))))
 have q:=wAY bk
 obtain ⟨iO,gX,dT⟩:=q
 have q:=wBY br bd (dh iO dT)
 obtain rfl:=q
 refine zW (zq (zq (zW ?_)))
 have q:=wAY gX
 obtain ⟨iP,gY,dU⟩:=q
 have q:=wBY bp bg (dl iP dU)
 obtain rfl:=q
 refine zW (zq (zq (zW ?_)))
 have q:=wAY gY
 obtain ⟨iQ,gZ,dV⟩:=q
 have q:=wBY hm ap (bi iQ dV)
 obtain rfl:=q
 refine zW (zq ?_)
 cases gZ
 exact ⟨Z,_,(wLo),az,_,gm,it⟩
 try dsimp only at bj a9
 obtain ⟨rfl,iu⟩:=a9
 have gp:St ⟨w,L,U⟩ bw cx cB:=db
 refine oR Z (Zg Z Z) (oM Z Z (oN Z (oN Z (oN Z (oN Z (oN Z (ZC Z Z Z (zV Z Z Z Z) (oN Z (oR Z (zN Z Z Z) (eN (ZI Z (zR (zq (zW ?_))))))))))))))
 have q:=wAY bj
 obtain ⟨iR,g6,dW⟩:=q
 have q:=wBY br bd (dh iR dW)
 obtain rfl:=q
 refine zW (zq (zq (zW ?_)))
 have q:=wAY g6
 obtain ⟨iS,g7,dX⟩:=q
 have q:=wBY bp bg (dl iS dX)
 obtain rfl:=q
 refine zW (zq (zq (zW ?_)))
 have q:=wAY g7
 obtain ⟨iT,g8,dY⟩:=q
 have q:=wBY hm ap (bi iT dY)
 obtain rfl:=q
 refine zW (zq ?_)
 cases g8
 exact ⟨Z,_,(wLo),bw,_,gp,iu⟩
 rintro jQ jZ jb ⟨dI,dC,fP,eu,ew,ey,eA,jp,eD,eE,eF,eG,eH,iE,gq,f4⟩ gG
 have g9:=wCm br bd gG
 have dO:Hid (¬ ((↑((ah:Int) - 0).toNat:Int) < ah)):=zO (wAc)
 refine sR fL1 Z (oR Z (ze Z fP eH) (eN (zM (cF Z dO (Zb (zo (zo (ZV (ZA (zL (rR fL2 Z (oR Z (ZH (za Z eG Z) (congrArg (jV) gR.out)) (oM Z Z (zh ?_))))))))))))))
 have q:=hJ g9
 obtain rfl:=q
 exact zL ⟨Z,_,Z,⟨dI,dC,Z,eu,ew,ey,eA,eD,eE,eF,(cf.trans iE),gq,f4⟩⟩
 rintro jR j0 jc ⟨dJ,dD,fQ,eI,eJ,jq,jr,eO,eU,eV,iF,gu,f5⟩ gH
 have ib:=wCm bp bg gH
 have dP:Hid (¬ ((↑((1:Int) - 0).toNat:Int) < 1)):=zO (wAc)
 refine sR fL1 Z (oR Z (ze Z fQ eV) (eN (zM (cF Z dP (Zb (zo (zo (ZV (ZA (zL (rR fL2 Z (oR Z (ZH (za Z eU Z) (congrArg (jV) dm.out)) (oM Z Z (zh ?_))))))))))))))
 have q:=hJ ib
 obtain rfl:=q
 exact zL ⟨Z,_,Z,⟨dJ,dD,Z,eI,eJ,eO,((ao.trans aq).trans iF),gu,f5⟩⟩
 intro bA bm
 refine ZE (cX.trans (congrArg hH (nA.2 bA.out))) (kN (sR fL2 Z (oM Z fI (oM Z Z (eN (zd ?_))))))
 have q:=wBy bm
 obtain ⟨jH,be⟩:=q
 have q:=wBx be
 obtain ⟨bY,gO⟩:=q
 replace bY:=zO bY
 refine yX (fun af dz σ_ w_=>∃ (U_:PHeap) (ax:List Res),σ_ 32=jV (↑af:Int)/\σ_ 0=.func (.yield y) #[] #[]/\σ_ 1=.pointer (some ⟨am,0,none⟩)/\σ_ 3=jV (↑ae:Int)/\σ_ 4=jV ah/\σ_ 17=.agg B0.toArray/\σ_ 18=jV (↑ae:Int)/\σ_ 31=jV (↑p1.Starts.length:Int)/\PHeap.Le a8 U_/\St ⟨w,L,U⟩ U_ ax w_/\PY dz U_ ax) gO ?_ ?_ ?_
 exact ⟨a8,av,Z,cQ,cR,cS,cU,cV,cW,Z,(zP _),dg,da⟩
 rintro af dz jN j1 jd bT ⟨cz,ax,bL,eX,eY,eZ,cM,e0,fb,cN,cc,gv,f7⟩ bq di
 have cI:Hid ((↑af:Int) < (↑p1.Starts.length:Int)):=zO (wAs bT)
 replace bT:=zO bT
 have gT:Hid (w64 ((↑af:Int) + 1)=(↑(af + 1):Int)):=zO (by have h1:=bY.out;have h2:=cI.out;rw [wAU] <;> omega)
 refine sR fL1 Z (oR Z (ze Z bL cN) (eN (zM (cT Z cI (kN (zM (zd (sR fL2 Z (oM Z bL (oA Z Z (eN (sR fL2 Z (oM Z cM (oM Z Z (eN (zd ?_))))))))))))))))
 have q:=wBy bq
 obtain ⟨jJ,bf⟩:=q
 have q:=wBx bf
 obtain ⟨bZ,gP⟩:=q
 replace bZ:=zO bZ
 refine yX (fun ak dA σ_ w_=>∃ (U_:PHeap) (bu:List Res),σ_ 36=jV (↑ak:Int)/\σ_ 0=.func (.yield y) #[] #[]/\σ_ 1=.pointer (some ⟨am,0,none⟩)/\σ_ 3=jV (↑ae:Int)/\σ_ 4=jV ah/\σ_ 6=jV (↑af:Int)/\σ_ 17=.agg B0.toArray/\σ_ 18=jV (↑ae:Int)/\σ_ 31=jV (↑p1.Starts.length:Int)/\σ_ 32=jV (↑af:Int)/\σ_ 35=jV ah/\PHeap.Le cz U_/\St ⟨w,L,U⟩ U_ bu w_/\PY dA U_ bu) gP ?_ ?_ ?_
 exact ⟨cz,ax,Z,eX,eY,eZ,cM,Z,e0,fb,cN,bL,Z,(zP _),gv,f7⟩
 rintro ak dA jO j2 je bU ⟨i8,bu,bM,bG,fc,bH,fd,bI,ff,fg,fh,fj,cP,cd,gw,f8⟩ iC dk
 have cJ:Hid ((↑ak:Int) < ah):=zO (wAs bU)
 replace bU:=zO bU
 have gU:Hid (w64 ((↑ak:Int) + 1)=(↑(ak + 1):Int)):=zO (by have h1:=bZ.out;have h2:=cJ.out;rw [wAU] <;> omega)
 refine sR fL1 Z (oR Z (ze Z bM cP) (eN (zM (cT Z cJ (kN (zM (zd (sR fL2 Z (oM Z bM (oA Z Z (eN (sR (wFk (.fx 5 (wLA gBh) .stop)) Z (oM Z bG (oM Z bH (oM Z bI (oM Z Z ?_))))))))))))))))
 let B2:List Value:=[jV 0,jV 0,jV 0,.bool false]
 refine oR Z (zk (pv:=[(0,jV (↑ae:Int)),(1,jV (↑af:Int)),(2,jV (↑ak:Int)),(3,.bool true)]) (z:=B2) (cs:=[jV (↑ae:Int),jV (↑af:Int),jV (↑ak:Int),.bool true]) Z (wAH Z (wAH Z (wAH Z (wAH Z wAO)))) Zy wDS Z Z) (bnK iC fun i4 f9 bn=>OKS.yieldT 0 (a:=(⟨(↑ae:Int),(↑af:Int),(↑ak:Int),true⟩:wAK)) Z Z Z Z Z Z (zB Z zJ) gw hY (((ao.trans aq).trans cc).trans cd) f8 Z f9 Z ?_)
 rintro bz cy jm cD dv de bb
 rcases i4 with iL | iL
 try dsimp only at bn bb
 obtain ⟨rfl,iv⟩:=bb
 have gx:St ⟨w,L,U⟩ bz cy cD:=de
 refine oR Z (Zg Z Z) (oM Z Z (zw Z Z Z (zS Z Z Z) Z bG (zw Z Z Z (zS Z Z Z) Z bH (zw Z Z Z (zS Z Z Z) Z bI (zw Z Z Z (zS Z Z Z) Z Z (zc Z Z Z (zS Z Z Z) (fun _=>zk (pv:=[(0,jV (↑ae:Int)),(1,jV (↑af:Int)),(2,jV (↑ak:Int)),(3,.bool false)]) (z:=B2) (cs:=[jV (↑ae:Int),jV (↑af:Int),jV (↑ak:Int),.bool false]) Z (wAH Z (wAH Z (wAH Z (wAH Z wAO)))) Zy wDS Z Z) (bnK bn fun i5 ga bo=>OKS.yieldT 0 (a:=(⟨(↑ae:Int),(↑af:Int),(↑ak:Int),false⟩:wAK)) Z Z Z (zS Z Z Z) Z Z (zB Z zJ) gx hY ((((ao.trans aq).trans cc).trans cd).trans dv) iv Z ga Z ?_)))))))
 rintro a7 bv jo cE iG df bc
 rcases i5 with iM | iM
 try dsimp only at bo bc
 obtain ⟨rfl,iw⟩:=bc
 have gy:St ⟨w,L,U⟩ a7 bv cE:=df
 refine zc Z Z Z (zS Z Z Z) (fun _=>Zg Z Z) (oR Z (zg Z Z Z) (eN (ZE Z (Zo (ZA (zL (rR fL2 Z (oR Z (ZH (za Z bM Z) (congrArg (jV) gU.out)) (oM Z Z (zh ?_))))))))))
 have q:=hJ bo
 obtain rfl:=q
 exact zL ⟨Z,_,Z,⟨a7,bv,Z,bG,fc,bH,fd,bI,ff,fg,fh,fj,cP,((cd.trans dv).trans iG),gy,iw⟩⟩
 try dsimp only at bo bc
 obtain ⟨rfl,iy⟩:=bc
 have gz:St ⟨w,L,U⟩ a7 bv cE:=df
 refine zc Z Z Z (zS Z Z Z) (fun _=>Zg Z Z) (oR Z (zg Z Z Z) (eN (ZI Z (zR (zq (zW ?_))))))
 have q:=wAY bo
 obtain ⟨iU,ic,dZ⟩:=q
 have q:=wBY bq bf (dk iU dZ)
 obtain rfl:=q
 refine zW (zq (zq (zW ?_)))
 have q:=wAY ic
 obtain ⟨iV,ie,d7⟩:=q
 have q:=wBY bm be (di iV d7)
 obtain rfl:=q
 refine zW (zq (zq (zW ?_)))
 have q:=wAY ie
 obtain ⟨iW,ig,d9⟩:=q
 have q:=wBY hm ap (bi iW d9)
 obtain rfl:=q
 refine zW (zq ?_)
 cases ig
 exact ⟨Z,_,(wLo),a7,_,gz,iy⟩
 try dsimp only at bn bb
 obtain ⟨rfl,iz⟩:=bb
 have gA:St ⟨w,L,U⟩ bz cy cD:=de
 refine oR Z (Zg Z Z) (oM Z Z (oN Z (oN Z (oN Z (oN Z (oN Z (ZC Z Z Z (zV Z Z Z Z) (oN Z (oR Z (zN Z Z Z) (eN (ZI Z (zR (zq (zW ?_))))))))))))))
 have q:=wAY bn
 obtain ⟨iX,ij,ef⟩:=q
 have q:=wBY bq bf (dk iX ef)
 obtain rfl:=q
 refine zW (zq (zq (zW ?_)))
 have q:=wAY ij
 obtain ⟨iY,ik,eg⟩:=q
 have q:=wBY bm be (di iY eg)
 obtain rfl:=q
 refine zW (zq (zq (zW ?_)))
 have q:=wAY ik
 obtain ⟨iZ,il,eh⟩:=q
 have q:=wBY hm ap (bi iZ eh)
 obtain rfl:=q
 refine zW (zq ?_)
 cases il
 exact ⟨Z,_,(wLo),bz,_,gA,iz⟩
 rintro jS j3 jf ⟨dK,dE,fR,fk,fm,fq,ft,jt,fu,fw,fy,fz,fA,iH,gC,ge⟩ gI
 have im:=wCm bq bf gI
 have dQ:Hid (¬ ((↑((ah:Int) - 0).toNat:Int) < ah)):=zO (wAc)
 refine sR fL1 Z (oR Z (ze Z fR fA) (eN (zM (cF Z dQ (Zb (zo (zo (ZV (ZA (zL (rR fL2 Z (oR Z (ZH (za Z fz Z) (congrArg (jV) gT.out)) (oM Z Z (zh ?_))))))))))))))
 have q:=hJ im
 obtain rfl:=q
 exact zL ⟨Z,_,Z,⟨dK,dE,Z,fk,fm,fq,ft,fu,fw,fy,(cc.trans iH),gC,ge⟩⟩
 rintro jU j4 jg ⟨dL,dH,fS,fC,fD,ju,jv,fE,fG,fH,iI,gD,gf⟩ gJ
 have io:=wCm bm be gJ
 have dR:Hid (¬ ((↑(((↑p1.Starts.length:Int):Int) - 0).toNat:Int) < (↑p1.Starts.length:Int))):=zO (wAc)
 refine sR fL1 Z (oR Z (ze Z fS fH) (eN (zM (cF Z dR (Zb (zo (zo (ZV (ZA (zL (rR fL2 Z (oR Z (ZH (za Z fG Z) (congrArg (jV) dm.out)) (oM Z Z (zh ?_))))))))))))))
 have q:=hJ io
 obtain rfl:=q
 exact zL ⟨Z,_,Z,⟨dL,dH,Z,fC,fD,fE,((ao.trans aq).trans iI),gD,gf⟩⟩
 rintro jW j5 jh ⟨dM,i6,fT,jw,jx,jy,jD,gE,gg⟩ gK
 have ip:=wCm hm ap gK
 have dS:Hid (¬ ((↑((4:Int) - 0).toNat:Int) < 4)):=zO (wAc)
 refine sR fL1 Z (oR Z (ze Z fT Z) (eN (zM (cF Z dS (Zb (zo (zo (ZV ?_))))))))
 cases ip
 exact ⟨Z,_,(wLo),dM,_,gE,gg⟩
end Go.Proofs.Ytlnfbjphfoipaaa
namespace Go.Proofs.Ytlnfbjphfoipaaa
open Go.KL
set_option maxHeartbeats 4000000
theorem wFZ (p0:wAE) (af:Option Addr) (aj:Nat) (ag:Option Addr) (ak:Nat) (ah:Option Addr) (am:Nat) (ai:Option Addr) (an:Nat) (w:World) (U:PHeap) (hS:St0 w U []) (az:Sl U 1 af aj p0.Starts.length (hD KL.encI p0.Starts)) (a7:Sl U 2 ag ak p0.Splits.length (hD wAC p0.Splits)) (a8:Sl U 3 ah am p0.Clocks.length (hD wAA p0.Clocks)) (a9:Sl U 4 ai an p0.Readings.length (hD wAB p0.Readings)) {r:Unit} (hm:wCi p0=some r):Gv Try.prog 81 [.agg #[.slice af p0.Starts.length aj,.slice ag p0.Splits.length ak,.slice ah p0.Clocks.length am,.slice ai p0.Readings.length an]] w (wBw w [] U (fun U_ L_ v=>∃ (b0:Nat),v=.func (.func 105) #[] #[.pointer (some ⟨b0,0,none⟩)]/\L_=[]/\Cl U_ b0 0 [.slice af p0.Starts.length aj,.slice ag p0.Splits.length ak,.slice ah p0.Clocks.length am,.slice ai p0.Readings.length an])):=by
 unfold wCi at hm
 refine Gv.of Try.func81 Z Try.ntmps81 Try.results81 Z (sR gAx Z ?_)
 let B0:List Value:=[.slice af p0.Starts.length aj,.slice ag p0.Splits.length ak,.slice ah p0.Clocks.length am,.slice ai p0.Readings.length an]
 refine zy (cs:=B0) rfl rfl rfl rfl rfl rfl (by rfl) hS ?_
 intro W1 b2 aw
 have q:=aw.freeze (k:=0) rfl
 obtain ⟨U5,ba,ae,ax⟩:=q
 replace ae:=Cl.of ae
 have ay:sW w U U5 [] W1:=ax
 replace ae:Cl U5 b2 0 B0:=ae
 refine oA Z Z (eN (sR fL2 Z (oR Z (Runs.mkf Z zJ (zB Z zJ)) (oA Z Z (eN (zR ?_))))))
 cases hm
 exact ⟨Z,_,(ZL Z),U5,_,ay,b2,Z,Z,ae⟩
theorem wGO (p0:wAE) (ag:Option Addr) (ah:Nat) (am:Option Addr) (ap:Nat) (an:Option Addr) (aq:Nat) (ao:Option Addr) (au:Nat) (p1:wAK) (w:World) (U:PHeap) (hS:St0 w U []) (bg:Sl U 1 ag ah p0.Starts.length (hD KL.encI p0.Starts)) (bh:Sl U 2 am ap p0.Splits.length (hD wAC p0.Splits)) (bi:Sl U 3 an aq p0.Clocks.length (hD wAA p0.Clocks)) (bj:Sl U 4 ao au p0.Readings.length (hD wAB p0.Readings)) {r:Bool} (hm:wDv p0 p1=some r):Gv Try.prog 108 [.agg #[.slice ag p0.Starts.length ah,.slice am p0.Splits.length ap,.slice an p0.Clocks.length aq,.slice ao p0.Readings.length au],.agg #[jV p1.Kind,jV p1.Skier,jV p1.Index,.bool p1.Up]] w (wBw w [] U (fun U_ L_ v=>v=.bool r/\L_=[])):=by
 unfold wDv at hm
 refine Gv.of Try.func108 Z Try.ntmps108 Try.results108 Z (sR gBg Z ?_)
 let B0:List Value:=[.slice ag p0.Starts.length ah,.slice am p0.Splits.length ap,.slice an p0.Clocks.length aq,.slice ao p0.Readings.length au]
 refine zy (cs:=B0) rfl rfl rfl rfl rfl rfl (by rfl) hS ?_
 intro W1 b2 bb
 let B1:List Value:=[jV p1.Kind,jV p1.Skier,jV p1.Index,.bool p1.Up]
 refine zy (cs:=B1) rfl rfl rfl rfl rfl rfl (by rfl) bb ?_
 intro W5 b6 ak
 refine oA Z Z (eN (sR (wHG (.fx 6 (wLC (.nil)) .stop)) Z (oR Z (zE Z Z zl Z zC) (oL Z (ak.ldB (j:=0) Z Z Z zG (v:=jV p1.Skier) Z) (oR Z (zE Z Z zI Z ZB) (oL Z (ak.ldB (j:=1) Z Z Z ZK (v:=.slice ag p0.Starts.length ah) Z) (oR Z (zx Z Z zK) (oR Z (yP Z Z Z) (bnK hm fun x9 a9 bc=>zF 0 Z Z Z Z (zD Z Z yR (zB Z (zB Z (zB Z zJ))) Z) ak (fun hs=>wBb p1.Skier 0 (w64 ((↑p0.Starts.length:Int) - 1)) W5 U hs a9) (.inr Z) ?_)))))))))
 rintro ai be bm ay bk ba ⟨rfl,rfl⟩
 have aj:sW w U ai [.blk b6 78 B1,.blk b2 28 B0] ay:=ba
 refine oM Z Z (ifc bc ?_ ?_)
 intro af ax
 refine zc Z Z Z (zS Z Z (congrArg hH af.out)) (fun _=>zE Z Z zl Z zC) (ZF Z Z Z (zS Z Z (congrArg hH af.out)) (aj.ldB (j:=0) Z Z Z zG (v:=jV p1.Index) Z) Z (zc Z Z Z (zS Z Z (congrArg hH af.out)) (fun _=>yO Z Z Z) (oR Z (zN Z (congrArg hH af.out) Z) (oA Z Z (eN (zR ?_))))))
 first | (obtain rfl:=hJ ax) | cases ax
 exact ⟨rfl,_,(ZL rfl),ai,_,(aj.pick [] _ (by decide) rfl),rfl,rfl⟩
 intro af bd
 refine Zf Z Z Z (zV Z Z (congrArg hH (nA.2 af.out)) Z) (Zf Z Z Z (zV Z Z (congrArg hH (nA.2 af.out)) Z) (Zf Z Z Z (zV Z Z (congrArg hH (nA.2 af.out)) Z) (oR Z (zg Z (congrArg hH (nA.2 af.out)) Z) (oA Z Z (eN (zR ?_))))))
 have hE:=hJ bd;first | subst r | cases hE
 exact ⟨rfl,_,(ZL rfl),ai,_,(aj.pick [] _ (by decide) rfl),rfl,rfl⟩
theorem wGP (p0:wAE) (a9:Option Addr) (bd:Nat) (ba:Option Addr) (be:Nat) (bb:Option Addr) (bf:Nat) (bc:Option Addr) (bg:Nat) (p1:wAK) (w:World) (U:PHeap) (hS:St0 w U []) (cf:Sl U 1 a9 bd p0.Starts.length (hD KL.encI p0.Starts)) (cg:Sl U 2 ba be p0.Splits.length (hD wAC p0.Splits)) (ci:Sl U 3 bb bf p0.Clocks.length (hD wAA p0.Clocks)) (cm:Sl U 4 bc bg p0.Readings.length (hD wAB p0.Readings)) {r:wAL × wAL} (hm:wDM p0 p1=some r):Gv Try.prog 109 [.agg #[.slice a9 p0.Starts.length bd,.slice ba p0.Splits.length be,.slice bb p0.Clocks.length bf,.slice bc p0.Readings.length bg],.agg #[jV p1.Kind,jV p1.Skier,jV p1.Index,.bool p1.Up]] w (wBw w [] U (fun U_ L_ v=>v=.tuple #[.agg #[jV r.1.skier,jV r.1.mat],.agg #[jV r.2.skier,jV r.2.mat]]/\L_=[])):=by
 unfold wDM at hm
 refine Gv.of Try.func109 Z Try.ntmps109 Try.results109 Z (sR gBo Z ?_)
 let B0:List Value:=[.slice a9 p0.Starts.length bd,.slice ba p0.Splits.length be,.slice bb p0.Clocks.length bf,.slice bc p0.Readings.length bg]
 refine zy (cs:=B0) rfl rfl rfl rfl rfl rfl (by rfl) hS ?_
 intro W1 b2 bC
 let B1:List Value:=[jV p1.Kind,jV p1.Skier,jV p1.Index,.bool p1.Up]
 refine zy (cs:=B1) rfl rfl rfl rfl rfl rfl (by rfl) bC ?_
 intro W5 b6 bM
 let B2:List Value:=[jV 0,jV 0]
 refine zQ (cs:=B2) Z Z Z Z Z zb Z bM ?_
 intro W9 aj bA
 refine zQ (cs:=B2) Z Z Z Z Z zb Z bA ?_
 intro bh ak bB
 refine eN ?_
 have q:=bnd hm
 obtain ⟨⟨bW,bX⟩,bU,bm⟩:=q
 try dsimp only at bm
 let B3:List Value:=[jV p1.Skier,jV 0]
 let B4:List Value:=[jV bW,jV bX]
 refine yS (fun σ_ w_=>∃ (U_:PHeap),σ_ 4=.pointer (some ⟨aj,0,none⟩)/\σ_ 5=.pointer (some ⟨ak,0,none⟩)/\PHeap.Le U U_/\sW w U U_ [.blk ak 104 B3,.blk aj 104 B4,.blk b6 78 B1,.blk b2 28 B0] w_) ?_ ?_
 refine bnK bU fun ap bj a8=>zt zu [2,3,2,3,0,0] (.fl 1 (.fx 0 (.fx 2 (.fl 3 gAy) (.fx 4 (.fx 2 (.fl 3 (.fx 5 .nil .stop)) .stop) .stop)) (.fx 2 (.fl 3 (.fx 0 gAy .stop)) .stop))) (by kernel_rfl) ?_
 have au:=bB.drew
 generalize hw_W40:({ bh with drawn:=bh.drawn + 1 }:World)=bi at au ⊢
 refine oR Z (zE Z Z zl Z zC) (zm ?_ ?_)
 refine zF 0 Z Z Z Z (zD Z Z yG zJ Z) au (fun hs=>wAl bi U hs bj) (.inr Z) ?_
 rintro ao bY co bp bn bD ⟨rfl,rfl⟩
 have az:sW w U ao [.blk ak 104 B2,.blk aj 104 B2,.blk b6 78 B1,.blk b2 28 B0] bp:=bD
 refine zm ?_ ?_
 refine ZQ Z Z Z Z (az.ldB (j:=2) Z Z Z zG (v:=jV p1.Skier) Z) (oR Z (zk (pv:=[(0,jV p1.Skier),(1,jV 0)]) (z:=B2) (cs:=B3) Z (wAH Z (wAH Z wAO)) zb wBO Z Z) ?_)
 let B5:List Value:=[jV ap.skier,jV ap.mat]
 refine zU (j:=1) (vs:=B5) Z Z Z Z az Z Z Z Z zH (zA Z) Z Z Z ?_
 intro bq bE
 have bF:sW w U ao [.blk ak 104 B2,.blk aj 104 B5,.blk b6 78 B1,.blk b2 28 B0] bq:=bE
 refine zU (j:=0) (vs:=B3) Z Z Z Z bF Z Z Z Z zH (zA Z) Z Z Z ?_
 intro br bG
 have bH:sW w U ao [.blk ak 104 B3,.blk aj 104 B5,.blk b6 78 B1,.blk b2 28 B0] br:=bG
 refine zh ?_
 cases a8
 exact zL ⟨Z,⟨ao,Z,Z,bn,bH⟩⟩
 let B6:List Value:=[jV ap.skier,jV ap.mat]
 refine zU (j:=1) (vs:=B6) Z Z Z Z az Z Z Z Z zH (zA Z) Z Z Z ?_
 intro bs bI
 have bk:sW w U ao [.blk ak 104 B2,.blk aj 104 B6,.blk b6 78 B1,.blk b2 28 B0] bs:=bI
 refine ZQ Z Z Z Z (bk.ldB (j:=2) Z Z Z zG (v:=jV p1.Skier) Z) (oR Z (zk (pv:=[(0,jV p1.Skier),(1,jV 0)]) (z:=B2) (cs:=B3) Z (wAH Z (wAH Z wAO)) zb wBO Z Z) (zU (j:=0) (vs:=B3) Z Z Z Z bk Z Z Z Z zH (zA Z) Z Z Z ?_))
 intro bt bJ
 have bL:sW w U ao [.blk ak 104 B3,.blk aj 104 B6,.blk b6 78 B1,.blk b2 28 B0] bt:=bJ
 refine zh ?_
 cases a8
 exact zL ⟨Z,⟨ao,Z,Z,bn,bL⟩⟩
 refine ZQ Z Z Z Z (au.ldB (j:=2) Z Z Z zG (v:=jV p1.Skier) Z) (oR Z (zk (pv:=[(0,jV p1.Skier),(1,jV 0)]) (z:=B2) (cs:=B3) Z (wAH Z (wAH Z wAO)) zb wBO Z Z) (zF 0 Z Z Z Z (zD Z Z yG zJ Z) au (fun hs=>wAl bi U hs bj) (.inr Z) ?_))
 rintro aq bZ cp bu bV bN ⟨rfl,rfl⟩
 have bO:sW w U aq [.blk ak 104 B2,.blk aj 104 B2,.blk b6 78 B1,.blk b2 28 B0] bu:=bN
 let B7:List Value:=[jV ap.skier,jV ap.mat]
 refine zU (j:=1) (vs:=B7) Z Z Z Z bO Z Z Z Z zH (zA Z) Z Z Z ?_
 intro bv bQ
 have bR:sW w U aq [.blk ak 104 B2,.blk aj 104 B7,.blk b6 78 B1,.blk b2 28 B0] bv:=bQ
 refine zU (j:=0) (vs:=B3) Z Z Z Z bR Z Z Z Z zH (zA Z) Z Z Z ?_
 intro bw bS
 have bT:sW w U aq [.blk ak 104 B3,.blk aj 104 B7,.blk b6 78 B1,.blk b2 28 B0] bw:=bS
 refine zh ?_
 cases a8
 exact zL ⟨Z,⟨aq,Z,Z,bV,bT⟩⟩
 rintro cr cc ⟨bo,bx,bz,cn,a7⟩
 refine zR ?_
 cases bm
 exact ⟨rfl,_,(wDg (rs:=[.cell 4 104,.cell 5 104]) (vs:=[.agg B4.toArray,.agg B3.toArray]) ⟨⟨_,bx,(wAw zj zH (a7.blkAt (k:=1) rfl) (vs:=B4) rfl rfl)⟩,⟨⟨_,bz,(wAw zj zH (a7.blkAt (k:=0) rfl) (vs:=B3) rfl rfl)⟩,trivial⟩⟩ rfl),bo,_,(a7.pick [] _ (by decide) rfl),rfl,rfl⟩
theorem wGQ (p0:wAE) (ah:Option Addr) (ai:Nat) (aj:Option Addr) (an:Nat) (ak:Option Addr) (ao:Nat) (am:Option Addr) (ap:Nat) (p1:wAK) (w:World) (U:PHeap) (hS:St0 w U []) (au:Sl U 1 ah ai p0.Starts.length (hD KL.encI p0.Starts)) (bg:Sl U 2 aj an p0.Splits.length (hD wAC p0.Splits)) (bh:Sl U 3 ak ao p0.Clocks.length (hD wAA p0.Clocks)) (bi:Sl U 4 am ap p0.Readings.length (hD wAB p0.Readings)) {r:Int × Int} (hm:wDN p0 p1=some r):Gv Try.prog 110 [.agg #[.slice ah p0.Starts.length ai,.slice aj p0.Splits.length an,.slice ak p0.Clocks.length ao,.slice am p0.Readings.length ap],.agg #[jV p1.Kind,jV p1.Skier,jV p1.Index,.bool p1.Up]] w (wBw w [] U (fun U_ L_ v=>v=.tuple #[jV r.1,jV r.2]/\L_=[])):=by
 unfold wDN at hm
 refine Gv.of Try.func110 rfl Try.ntmps110 Try.results110 rfl (sR gBp rfl (zy (cs:=[.slice ah p0.Starts.length ai,.slice aj p0.Splits.length an,.slice ak p0.Clocks.length ao,.slice am p0.Readings.length ap]) rfl rfl rfl rfl rfl rfl (by rfl) hS ?_))
 intro W1 b2 a7
 refine zy (cs:=[jV p1.Kind,jV p1.Skier,jV p1.Index,.bool p1.Up]) rfl rfl rfl rfl rfl rfl (by rfl) a7 ?_
 intro W5 b6 a8
 refine yI rfl rfl rfl rfl rfl rfl (yI rfl rfl rfl rfl rfl rfl (eN (zM (zt zu [3,1,3,1,3,1,3,1,3,1,3,1,3,3,3] fL15 (by kernel_rfl) ?_))))
 have af:=a8.drew
 generalize hw_W10:({ W5 with drawn:=W5.drawn + 1 }:World)=bb at af ⊢
 refine oR Z (zE Z Z zI Z ZB) (oL Z (af.ldB (j:=1) Z Z Z ZK (v:=.slice ah p0.Starts.length ai) Z) (oR Z (zE Z Z zl Z zC) (oL Z (af.ldB (j:=0) Z Z Z zG (v:=jV p1.Skier) Z) (bnK hm fun av ag a9=>?_))))
 have q:=au.el (fun _=>rfl) (wAb ag)
 obtain ⟨bc,bj,aw,ay⟩:=q
 refine oR Z (Zd Z Z aw Z zK zC (wCG ag) (wCM ag)) (oL Z (af.ldC (f:=0) ay (v:=jV av) Z Z zG Z) (oR Z (zE Z Z zI Z ZB) (oL Z (af.ldB (j:=1) Z Z Z ZK (v:=.slice ah p0.Starts.length ai) Z) (oR Z (zE Z Z zl Z zC) (oL Z (af.ldB (j:=0) Z Z Z zG (v:=jV p1.Skier) Z) ?_)))))
 have q:=au.el (fun _=>rfl) (wAb ag)
 obtain ⟨bd,bk,ax,az⟩:=q
 refine oR Z (Zd Z Z ax Z zK zC (wCG ag) (wCM ag)) (oL Z (af.ldC (f:=0) az (v:=jV av) Z Z zG Z) (oR Z (Runs.negw Z Z) (oA Z Z (oA Z Z (eN (zR ?_))))))
 cases a9
 exact ⟨rfl,_,(wDf rfl rfl),U,_,(af.pick [] _ (by decide) rfl),rfl,rfl⟩
theorem wGR (p0:wAE) (ah:Option Addr) (aj:Nat) (ai:Option Addr) (ak:Nat) (aq:Option Addr) (av:Nat) (au:Option Addr) (aw:Nat) (p1:wAK) (w:World) (U:PHeap) (hS:St0 w U []) (bo:Sl U 1 ah aj p0.Starts.length (hD KL.encI p0.Starts)) (bp:Sl U 2 ai ak p0.Splits.length (hD wAC p0.Splits)) (bq:Sl U 3 aq av p0.Clocks.length (hD wAA p0.Clocks)) (br:Sl U 4 au aw p0.Readings.length (hD wAB p0.Readings)) {r:Bool} (hm:wDw p0 p1=some r):Gv Try.prog 111 [.agg #[.slice ah p0.Starts.length aj,.slice ai p0.Splits.length ak,.slice aq p0.Clocks.length av,.slice au p0.Readings.length aw],.agg #[jV p1.Kind,jV p1.Skier,jV p1.Index,.bool p1.Up]] w (wBw w [] U (fun U_ L_ v=>v=.bool r/\L_=[])):=by
 unfold wDw at hm
 refine Gv.of Try.func111 Z Try.ntmps111 Try.results111 Z (sR gBg Z ?_)
 let B0:List Value:=[.slice ah p0.Starts.length aj,.slice ai p0.Splits.length ak,.slice aq p0.Clocks.length av,.slice au p0.Readings.length aw]
 refine zy (cs:=B0) rfl rfl rfl rfl rfl rfl (by rfl) hS ?_
 intro W1 b2 be
 let B1:List Value:=[jV p1.Kind,jV p1.Skier,jV p1.Index,.bool p1.Up]
 refine zy (cs:=B1) rfl rfl rfl rfl rfl rfl (by rfl) be ?_
 intro W5 b6 ap
 refine oA Z Z (eN (sR (wHG (.fx 6 (wLD gBi) .stop)) Z (oR Z (zE Z Z zl Z zC) (oL Z (ap.ldB (j:=0) Z Z Z zG (v:=jV p1.Skier) Z) (oR Z (zE Z Z zI Z ZB) (oL Z (ap.ldB (j:=1) Z Z Z ZK (v:=.slice ah p0.Starts.length aj) Z) (oR Z (zx Z Z zK) (oR Z (yP Z Z Z) (bnK hm fun x9 ba bg=>zF 0 Z Z Z Z (zD Z Z yR (zB Z (zB Z (zB Z zJ))) Z) ap (fun hs=>wBb p1.Skier 0 (w64 ((↑p0.Starts.length:Int) - 1)) W5 U hs ba) (.inr Z) ?_)))))))))
 rintro ao bk bu ay bs bc ⟨rfl,rfl⟩
 have ag:sW w U ao [.blk b6 78 B1,.blk b2 28 B0] ay:=bc
 refine oM Z Z (ifc bg ?_ ?_)
 intro ae bh
 refine zc Z Z Z (zS Z Z (congrArg hH ae.out)) (fun _=>zE Z Z zl Z zC) (ZF Z Z Z (zS Z Z (congrArg hH ae.out)) (ag.ldB (j:=0) Z Z Z zG (v:=jV p1.Index) Z) Z (zc Z Z Z (zS Z Z (congrArg hH ae.out)) (fun _=>zE Z Z zI Z Zj) (ZF Z Z Z (zS Z Z (congrArg hH ae.out)) (ag.ldB (j:=1) Z Z Z Zr (v:=.slice ai p0.Splits.length ak) Z) Z (zc Z Z Z (zS Z Z (congrArg hH ae.out)) (fun _=>zx Z Z zn) (zc Z Z Z (zS Z Z (congrArg hH ae.out)) (fun _=>yP Z Z Z) (bnK bh fun bw bb bi=>zF 0 Z Z Z (zS Z Z (congrArg hH ae.out)) (zD Z Z yR (zB Z (zB Z (zB Z zJ))) Z) ag (fun hs=>wBb p1.Index 0 (w64 ((↑p0.Splits.length:Int) - 1)) ay ao hs bb) (.inr Z) ?_))))))
 rintro ax bm bv a8 bt bd ⟨rfl,rfl⟩
 have bf:sW w U ax [.blk b6 78 B1,.blk b2 28 B0] a8:=bd
 refine oR Z (zN Z (congrArg hH ae.out) Z) (oA Z Z (eN (zR ?_)))
 have hE:=hJ bi;first | subst r | cases hE
 exact ⟨rfl,_,(ZL rfl),ax,_,(bf.pick [] _ (by decide) rfl),rfl,rfl⟩
 intro ae bj
 refine Zf Z Z Z (zV Z Z (congrArg hH (nA.2 ae.out)) Z) (Zf Z Z Z (zV Z Z (congrArg hH (nA.2 ae.out)) Z) (Zf Z Z Z (zV Z Z (congrArg hH (nA.2 ae.out)) Z) (Zf Z Z Z (zV Z Z (congrArg hH (nA.2 ae.out)) Z) (Zf Z Z Z (zV Z Z (congrArg hH (nA.2 ae.out)) Z) (Zf Z Z Z (zV Z Z (congrArg hH (nA.2 ae.out)) Z) (ZC Z Z Z (zV Z Z (congrArg hH (nA.2 ae.out)) Z) (oR Z (zg Z (congrArg hH (nA.2 ae.out)) Z) (oA Z Z (eN (zR ?_))))))))))
 have hE:=hJ bj;first | subst r | cases hE
 exact ⟨rfl,_,(ZL rfl),ao,_,(ag.pick [] _ (by decide) rfl),rfl,rfl⟩
theorem wGS (p0:wAE) (aw:Option Addr) (a7:Nat) (ax:Option Addr) (a8:Nat) (ay:Option Addr) (a9:Nat) (az:Option Addr) (ba:Nat) (p1:wAK) (w:World) (U:PHeap) (hS:St0 w U []) (bZ:Sl U 1 aw a7 p0.Starts.length (hD KL.encI p0.Starts)) (ca:Sl U 2 ax a8 p0.Splits.length (hD wAC p0.Splits)) (cb:Sl U 3 ay a9 p0.Clocks.length (hD wAA p0.Clocks)) (cc:Sl U 4 az ba p0.Readings.length (hD wAB p0.Readings)) {r:wAL × wAL} (hm:wDO p0 p1=some r):Gv Try.prog 112 [.agg #[.slice aw p0.Starts.length a7,.slice ax p0.Splits.length a8,.slice ay p0.Clocks.length a9,.slice az p0.Readings.length ba],.agg #[jV p1.Kind,jV p1.Skier,jV p1.Index,.bool p1.Up]] w (wBw w [] U (fun U_ L_ v=>v=.tuple #[.agg #[jV r.1.skier,jV r.1.mat],.agg #[jV r.2.skier,jV r.2.mat]]/\L_=[])):=by
 unfold wDO at hm
 refine Gv.of Try.func112 Z Try.ntmps112 Try.results112 Z (sR gBo Z ?_)
 let B0:List Value:=[.slice aw p0.Starts.length a7,.slice ax p0.Splits.length a8,.slice ay p0.Clocks.length a9,.slice az p0.Readings.length ba]
 refine zy (cs:=B0) rfl rfl rfl rfl rfl rfl (by rfl) hS ?_
 intro W1 b2 bx
 let B1:List Value:=[jV p1.Kind,jV p1.Skier,jV p1.Index,.bool p1.Up]
 refine zy (cs:=B1) rfl rfl rfl rfl rfl rfl (by rfl) bx ?_
 intro W5 b6 bT
 let B2:List Value:=[jV 0,jV 0]
 refine zQ (cs:=B2) Z Z Z Z Z zb Z bT ?_
 intro W9 ak bu
 refine zQ (cs:=B2) Z Z Z Z Z zb Z bu ?_
 intro bb am bv
 refine eN ?_
 have q:=bnd hm
 obtain ⟨⟨⟩,au,be⟩:=q
 try dsimp only at be
 let B3:List Value:=[jV p1.Skier,jV (w64 (p1.Index + 1))]
 let B4:List Value:=[jV p1.Skier,jV p1.Index]
 refine yS (fun σ_ w_=>∃ (U_:PHeap),σ_ 4=.pointer (some ⟨ak,0,none⟩)/\σ_ 5=.pointer (some ⟨am,0,none⟩)/\PHeap.Le U U_/\sW w U U_ [.blk am 104 B3,.blk ak 104 B4,.blk b6 78 B1,.blk b2 28 B0] w_) ?_ ?_
 refine zt zu [3,1,3,1,3,3,2,3,2,3,3,0,0] (wHG (.fl 7 (.fx 6 (.fx 8 (.fl 9 (.fl 10 gAw)) (.fx 11 gBq .stop)) (.fx 8 (.fl 9 (.fx 6 (.fl 10 gAw) (.fx 11 gBj .stop))) (.fx 11 (.fx 6 gBq (.fx 8 (.fl 9 gBj) .stop)) .stop))))) (by kernel_rfl) ?_
 have ap:=bv.drew
 generalize hw_W27:({ bb with drawn:=bb.drawn + 1 }:World)=bV at ap ⊢
 refine oR Z (zE Z Z zl Z zC) (oL Z (ap.ldB (j:=2) Z Z Z zG (v:=jV p1.Skier) Z) (oR Z (zE Z Z zl Z zC) (oL Z (ap.ldB (j:=2) Z Z Z zG (v:=jV p1.Index) Z) (oR Z (zk (pv:=[(0,jV p1.Skier),(1,jV p1.Index)]) (z:=B2) (cs:=B4) Z (wAH Z (wAH Z wAO)) zb wBO Z Z) (oR Z (zE Z Z zl Z zC) (oR Z (zE Z Z zl Z zC) (zm ?_ ?_)))))))
 refine ZQ Z Z Z Z (ap.ldB (j:=2) Z Z Z zG (v:=jV p1.Skier) Z) (zm ?_ ?_)
 refine ZQ Z Z Z Z (ap.ldB (j:=2) Z Z Z zG (v:=jV p1.Index) Z) (oR Z (za Z Z Z) (oR Z (zk (pv:=[(0,jV p1.Skier),(1,jV (w64 (p1.Index + 1)))]) (z:=B2) (cs:=B3) Z (wAH Z (wAH Z wAO)) zb wBO Z Z) (zU (j:=1) (vs:=B4) Z Z Z Z ap Z Z Z Z zH (zA Z) Z Z Z ?_)))
 intro bg bw
 have bz:sW w U U [.blk am 104 B2,.blk ak 104 B4,.blk b6 78 B1,.blk b2 28 B0] bg:=bw
 refine zU (j:=0) (vs:=B3) Z Z Z Z bz Z Z Z Z zH (zA Z) Z Z Z ?_
 intro bh bA
 have bB:sW w U U [.blk am 104 B3,.blk ak 104 B4,.blk b6 78 B1,.blk b2 28 B0] bh:=bA
 refine zh ?_
 cases au
 exact zL ⟨Z,⟨U,Z,Z,(zP _),bB⟩⟩
 refine zU (j:=1) (vs:=B4) Z Z Z Z ap Z Z Z Z zH (zA Z) Z Z Z ?_
 intro bi bC
 have bc:sW w U U [.blk am 104 B2,.blk ak 104 B4,.blk b6 78 B1,.blk b2 28 B0] bi:=bC
 refine ZQ Z Z Z Z (bc.ldB (j:=2) Z Z Z zG (v:=jV p1.Index) Z) (oR Z (za Z Z Z) (oR Z (zk (pv:=[(0,jV p1.Skier),(1,jV (w64 (p1.Index + 1)))]) (z:=B2) (cs:=B3) Z (wAH Z (wAH Z wAO)) zb wBO Z Z) (zU (j:=0) (vs:=B3) Z Z Z Z bc Z Z Z Z zH (zA Z) Z Z Z ?_)))
 intro bj bD
 have bE:sW w U U [.blk am 104 B3,.blk ak 104 B4,.blk b6 78 B1,.blk b2 28 B0] bj:=bD
 refine zh ?_
 cases au
 exact zL ⟨Z,⟨U,Z,Z,(zP _),bE⟩⟩
 refine zm ?_ ?_
 refine ZQ Z Z Z Z (ap.ldB (j:=2) Z Z Z zG (v:=jV p1.Index) Z) (oR Z (za Z Z Z) (zm ?_ ?_))
 refine ZQ Z Z Z Z (ap.ldB (j:=2) Z Z Z zG (v:=jV p1.Skier) Z) (oR Z (zk (pv:=[(0,jV p1.Skier),(1,jV (w64 (p1.Index + 1)))]) (z:=B2) (cs:=B3) Z (wAH Z (wAH Z wAO)) zb wBO Z Z) (zU (j:=1) (vs:=B4) Z Z Z Z ap Z Z Z Z zH (zA Z) Z Z Z ?_))
 intro bk bF
 have bG:sW w U U [.blk am 104 B2,.blk ak 104 B4,.blk b6 78 B1,.blk b2 28 B0] bk:=bF
 refine zU (j:=0) (vs:=B3) Z Z Z Z bG Z Z Z Z zH (zA Z) Z Z Z ?_
 intro bm bH
 have bI:sW w U U [.blk am 104 B3,.blk ak 104 B4,.blk b6 78 B1,.blk b2 28 B0] bm:=bH
 refine zh ?_
 cases au
 exact zL ⟨Z,⟨U,Z,Z,(zP _),bI⟩⟩
 refine zU (j:=1) (vs:=B4) Z Z Z Z ap Z Z Z Z zH (zA Z) Z Z Z ?_
 intro bn bJ
 have bd:sW w U U [.blk am 104 B2,.blk ak 104 B4,.blk b6 78 B1,.blk b2 28 B0] bn:=bJ
 refine ZQ Z Z Z Z (bd.ldB (j:=2) Z Z Z zG (v:=jV p1.Skier) Z) (oR Z (zk (pv:=[(0,jV p1.Skier),(1,jV (w64 (p1.Index + 1)))]) (z:=B2) (cs:=B3) Z (wAH Z (wAH Z wAO)) zb wBO Z Z) (zU (j:=0) (vs:=B3) Z Z Z Z bd Z Z Z Z zH (zA Z) Z Z Z ?_))
 intro bo bL
 have bM:sW w U U [.blk am 104 B3,.blk ak 104 B4,.blk b6 78 B1,.blk b2 28 B0] bo:=bL
 refine zh ?_
 cases au
 exact zL ⟨Z,⟨U,Z,Z,(zP _),bM⟩⟩
 refine zU (j:=1) (vs:=B4) Z Z Z Z ap Z Z Z Z zH (zA Z) Z Z Z ?_
 intro bp bN
 have aq:sW w U U [.blk am 104 B2,.blk ak 104 B4,.blk b6 78 B1,.blk b2 28 B0] bp:=bN
 refine zm ?_ ?_
 refine ZQ Z Z Z Z (aq.ldB (j:=2) Z Z Z zG (v:=jV p1.Skier) Z) (ZQ Z Z Z Z (aq.ldB (j:=2) Z Z Z zG (v:=jV p1.Index) Z) (oR Z (za Z Z Z) (oR Z (zk (pv:=[(0,jV p1.Skier),(1,jV (w64 (p1.Index + 1)))]) (z:=B2) (cs:=B3) Z (wAH Z (wAH Z wAO)) zb wBO Z Z) (zU (j:=0) (vs:=B3) Z Z Z Z aq Z Z Z Z zH (zA Z) Z Z Z ?_))))
 intro bq bO
 have bQ:sW w U U [.blk am 104 B3,.blk ak 104 B4,.blk b6 78 B1,.blk b2 28 B0] bq:=bO
 refine zh ?_
 cases au
 exact zL ⟨Z,⟨U,Z,Z,(zP _),bQ⟩⟩
 refine ZQ Z Z Z Z (aq.ldB (j:=2) Z Z Z zG (v:=jV p1.Index) Z) (oR Z (za Z Z Z) (ZQ Z Z Z Z (aq.ldB (j:=2) Z Z Z zG (v:=jV p1.Skier) Z) (oR Z (zk (pv:=[(0,jV p1.Skier),(1,jV (w64 (p1.Index + 1)))]) (z:=B2) (cs:=B3) Z (wAH Z (wAH Z wAO)) zb wBO Z Z) (zU (j:=0) (vs:=B3) Z Z Z Z aq Z Z Z Z zH (zA Z) Z Z Z ?_))))
 intro br bR
 have bS:sW w U U [.blk am 104 B3,.blk ak 104 B4,.blk b6 78 B1,.blk b2 28 B0] br:=bR
 refine zh ?_
 cases au
 exact zL ⟨Z,⟨U,Z,Z,(zP _),bS⟩⟩
 rintro cf bX ⟨bf,bs,bt,cd,av⟩
 refine zR ?_
 cases be
 exact ⟨rfl,_,(wDg (rs:=[.cell 4 104,.cell 5 104]) (vs:=[.agg B4.toArray,.agg B3.toArray]) ⟨⟨_,bs,(wAw zj zH (av.blkAt (k:=1) rfl) (vs:=B4) rfl rfl)⟩,⟨⟨_,bt,(wAw zj zH (av.blkAt (k:=0) rfl) (vs:=B3) rfl rfl)⟩,trivial⟩⟩ rfl),bf,_,(av.pick [] _ (by decide) rfl),rfl,rfl⟩
theorem wGT (p0:wAE) (aj:Option Addr) (an:Nat) (ah:Option Addr) (ai:Nat) (ak:Option Addr) (ao:Nat) (am:Option Addr) (ap:Nat) (p1:wAK) (w:World) (U:PHeap) (hS:St0 w U []) (bg:Sl U 1 aj an p0.Starts.length (hD KL.encI p0.Starts)) (au:Sl U 2 ah ai p0.Splits.length (hD wAC p0.Splits)) (bh:Sl U 3 ak ao p0.Clocks.length (hD wAA p0.Clocks)) (bi:Sl U 4 am ap p0.Readings.length (hD wAB p0.Readings)) {r:Int × Int} (hm:wDP p0 p1=some r):Gv Try.prog 113 [.agg #[.slice aj p0.Starts.length an,.slice ah p0.Splits.length ai,.slice ak p0.Clocks.length ao,.slice am p0.Readings.length ap],.agg #[jV p1.Kind,jV p1.Skier,jV p1.Index,.bool p1.Up]] w (wBw w [] U (fun U_ L_ v=>v=.tuple #[jV r.1,jV r.2]/\L_=[])):=by
 unfold wDP at hm
 refine Gv.of Try.func113 rfl Try.ntmps113 Try.results113 rfl (sR gBp rfl (zy (cs:=[.slice aj p0.Starts.length an,.slice ah p0.Splits.length ai,.slice ak p0.Clocks.length ao,.slice am p0.Readings.length ap]) rfl rfl rfl rfl rfl rfl (by rfl) hS ?_))
 intro W1 b2 a7
 refine zy (cs:=[jV p1.Kind,jV p1.Skier,jV p1.Index,.bool p1.Up]) rfl rfl rfl rfl rfl rfl (by rfl) a7 ?_
 intro W5 b6 a8
 refine yI rfl rfl rfl rfl rfl rfl (yI rfl rfl rfl rfl rfl rfl (eN (zM (zt zu [3,1,3,1,3,3,1,3,1,3,1,3,3,1,3,3,3] fL17 (by kernel_rfl) ?_))))
 have af:=a8.drew
 generalize hw_W10:({ W5 with drawn:=W5.drawn + 1 }:World)=bb at af ⊢
 refine oR Z (zE Z Z zI Z Zj) (oL Z (af.ldB (j:=1) Z Z Z Zr (v:=.slice ah p0.Splits.length ai) Z) (oR Z (zE Z Z zl Z zC) (oL Z (af.ldB (j:=0) Z Z Z zG (v:=jV p1.Index) Z) (bnK hm fun av ag a9=>?_))))
 have q:=au.el (fun _=>rfl) (wAb ag)
 obtain ⟨bc,bj,aw,ay⟩:=q
 refine oR Z (Zd Z Z aw Z zn zZ (wCG ag) (wCM ag)) (oR Z (zE Z Z zX Z zC) (oL Z (af.ldC (f:=1) ay (v:=jV av.Hi) Z Z zG Z) (oR Z (zE Z Z zI Z Zj) (oL Z (af.ldB (j:=1) Z Z Z Zr (v:=.slice ah p0.Splits.length ai) Z) (oR Z (zE Z Z zl Z zC) (oL Z (af.ldB (j:=0) Z Z Z zG (v:=jV p1.Index) Z) ?_))))))
 have q:=au.el (fun _=>rfl) (wAb ag)
 obtain ⟨bd,bk,ax,az⟩:=q
 refine oR Z (Zd Z Z ax Z zn zZ (wCG ag) (wCM ag)) (oR Z (zE Z Z zX Z zC) (oL Z (af.ldC (f:=0) az (v:=jV av.Lo) Z Z zG Z) (oR Z (Runs.negw Z Z) (oA Z Z (oA Z Z (eN (zR ?_)))))))
 cases a9
 exact ⟨rfl,_,(wDf rfl rfl),U,_,(af.pick [] _ (by decide) rfl),rfl,rfl⟩
theorem wGU (p0:wAE) (aj:Option Addr) (an:Nat) (ak:Option Addr) (ao:Nat) (ah:Option Addr) (ai:Nat) (am:Option Addr) (ap:Nat) (p1:wAK) (w:World) (U:PHeap) (hS:St0 w U []) (bg:Sl U 1 aj an p0.Starts.length (hD KL.encI p0.Starts)) (bh:Sl U 2 ak ao p0.Splits.length (hD wAC p0.Splits)) (bi:Sl U 3 ah ai p0.Clocks.length (hD wAA p0.Clocks)) (bj:Sl U 4 am ap p0.Readings.length (hD wAB p0.Readings)) {r:Bool} (hm:wDx p0 p1=some r):Gv Try.prog 114 [.agg #[.slice aj p0.Starts.length an,.slice ak p0.Splits.length ao,.slice ah p0.Clocks.length ai,.slice am p0.Readings.length ap],.agg #[jV p1.Kind,jV p1.Skier,jV p1.Index,.bool p1.Up]] w (wBw w [] U (fun U_ L_ v=>v=.bool r/\L_=[])):=by
 unfold wDx at hm
 refine Gv.of Try.func114 Z Try.ntmps114 Try.results114 Z (sR gBg Z ?_)
 let B0:List Value:=[.slice aj p0.Starts.length an,.slice ak p0.Splits.length ao,.slice ah p0.Clocks.length ai,.slice am p0.Readings.length ap]
 refine zy (cs:=B0) rfl rfl rfl rfl rfl rfl (by rfl) hS ?_
 intro W1 b2 bc
 let B1:List Value:=[jV p1.Kind,jV p1.Skier,jV p1.Index,.bool p1.Up]
 refine zy (cs:=B1) rfl rfl rfl rfl rfl rfl (by rfl) bc ?_
 intro W5 b6 ag
 refine oA Z Z (eN (sR (wKg (.fx 10 (.fl 11 (.fl 12 .nil)) .stop)) Z (oR Z (zE Z Z zl Z zC) (oL Z (ag.ldB (j:=0) Z Z Z zG (v:=jV p1.Skier) Z) (oR Z (yO Z Z Z) (oM Z Z ?_))))))
 by_cases c9:p1.Skier=0
 have aw:=hm;rw [if_pos c9] at aw;replace c9:=zO c9
 refine rU Z (wT Z c9) (zE Z Z zl Z zC) (ZF Z Z Z (wT Z c9) (ag.ldB (j:=0) Z Z Z zG (v:=jV p1.Index) Z) Z (rU Z (wT Z c9) (zE Z Z zI Z Zl) (ZF Z Z Z (wT Z c9) (ag.ldB (j:=1) Z Z Z yD (v:=.slice ah p0.Clocks.length ai) Z) Z (rU Z (wT Z c9) (zx Z Z ZS) (rU Z (wT Z c9) (yP Z Z Z) (bnK aw fun bn a9 bd=>zF 0 Z Z Z (wT Z c9) (zD Z Z yR (zB Z (zB Z (zB Z zJ))) Z) ag (fun hs=>wBb p1.Index 0 (w64 ((↑p0.Clocks.length:Int) - 1)) W5 U hs a9) (.inr Z) ?_))))))
 rintro av be bm ay bk ba ⟨rfl,rfl⟩
 have bb:sW w U av [.blk b6 78 B1,.blk b2 28 B0] ay:=ba
 refine oR Z (zN Z (Zi c9.out) Z) (oA Z Z (eN (zR ?_)))
 have hE:=hJ bd;first | subst r | cases hE
 exact ⟨rfl,_,(ZL rfl),av,_,(bb.pick [] _ (by decide) rfl),rfl,rfl⟩
 have ax:=hm;rw [if_neg c9] at ax;replace c9:=zO c9
 refine oF Z c9 (oF Z c9 (oF Z c9 (oF Z c9 (oF Z c9 (oF Z c9 (ZC Z Z Z (zV Z Z (ZD c9.out) Z) (oR Z (zg Z (ZD c9.out) Z) (oA Z Z (eN (zR ?_))))))))))
 have hE:=hJ ax;first | subst r | cases hE
 exact ⟨rfl,_,(ZL rfl),U,_,(ag.pick [] _ (by decide) rfl),rfl,rfl⟩
theorem wCb (p0:Int) (w:World) (U:PHeap) (hS:St0 w U [])  {r:wAL} (hm:wCa p0=some r):Gv Try.prog 82 [jV p0] w (wBw w [] U (fun U_ L_ v=>v=.agg #[jV r.skier,jV r.mat]/\L_=[])):=by
 unfold wCa at hm
 refine Gv.of Try.func82 Z Try.ntmps82 Try.results82 Z (sR (.fx 0 .nil .stop) Z (zQ (cs:=[jV 0,jV 0]) Z Z Z Z Z zb Z hS ?_))
 intro W1 b2 ai
 refine eN (sR (wDF (.fx 3 .nil .stop)) Z (oM Z Z (oR Z (za Z Z Z) ?_)))
 let B0:List Value:=[jV (-1),jV (w64 (1 + p0))]
 refine oR Z (zk (pv:=[(0,jV (-1)),(1,jV (w64 (1 + p0)))]) (z:=[jV 0,jV 0]) (cs:=B0) Z (wAH Z (wAH Z wAO)) zb wBO Z Z) (zU (j:=0) (vs:=B0) Z Z Z Z ai Z Z Z Z zH (zA Z) Z Z Z ?_)
 intro W5 aj
 have af:sW w U U [.blk b2 104 B0] W5:=aj
 refine eN (zR ?_)
 cases hm
 exact ⟨rfl,_,(wFv (v:=.agg B0.toArray) ⟨⟨_,rfl,(wAw zj zH (af.blkAt (k:=0) rfl) (vs:=B0) rfl rfl)⟩,trivial⟩),U,_,(af.pick [] _ (by decide) rfl),rfl,rfl⟩
theorem wGV (p0:wAE) (av:Option Addr) (az:Nat) (aw:Option Addr) (a7:Nat) (ax:Option Addr) (a8:Nat) (ay:Option Addr) (a9:Nat) (p1:wAK) (w:World) (U:PHeap) (hS:St0 w U []) (bF:Sl U 1 av az p0.Starts.length (hD KL.encI p0.Starts)) (bG:Sl U 2 aw a7 p0.Splits.length (hD wAC p0.Splits)) (bH:Sl U 3 ax a8 p0.Clocks.length (hD wAA p0.Clocks)) (bI:Sl U 4 ay a9 p0.Readings.length (hD wAB p0.Readings)) {r:wAL × wAL} (hm:wDQ p0 p1=some r):Gv Try.prog 115 [.agg #[.slice av p0.Starts.length az,.slice aw p0.Splits.length a7,.slice ax p0.Clocks.length a8,.slice ay p0.Readings.length a9],.agg #[jV p1.Kind,jV p1.Skier,jV p1.Index,.bool p1.Up]] w (wBw w [] U (fun U_ L_ v=>v=.tuple #[.agg #[jV r.1.skier,jV r.1.mat],.agg #[jV r.2.skier,jV r.2.mat]]/\L_=[])):=by
 unfold wDQ at hm
 refine Gv.of Try.func115 Z Try.ntmps115 Try.results115 Z (sR gBo Z ?_)
 let B0:List Value:=[.slice av p0.Starts.length az,.slice aw p0.Splits.length a7,.slice ax p0.Clocks.length a8,.slice ay p0.Readings.length a9]
 refine zy (cs:=B0) rfl rfl rfl rfl rfl rfl (by rfl) hS ?_
 intro W1 b2 bq
 let B1:List Value:=[jV p1.Kind,jV p1.Skier,jV p1.Index,.bool p1.Up]
 refine zy (cs:=B1) rfl rfl rfl rfl rfl rfl (by rfl) bq ?_
 intro W5 b6 bw
 let B2:List Value:=[jV 0,jV 0]
 refine zQ (cs:=B2) Z Z Z Z Z zb Z bw ?_
 intro W9 am bm
 refine zQ (cs:=B2) Z Z Z Z Z zb Z bm ?_
 intro bb an bn
 refine eN (zM (zt zu [2,3,1,2,0,0] (.fl 1 (.fl 2 (.fx 0 (.fx 3 gAy .stop) .stop))) (by kernel_rfl) ?_))
 have aq:=bn.drew
 generalize hw_W18:({ bb with drawn:=bb.drawn + 1 }:World)=bf at aq ⊢
 refine oR Z (zE Z Z zl Z zC) (oL Z (aq.ldB (j:=2) Z Z Z zG (v:=jV p1.Index) Z) (bnK hm fun bd bj bx=>zF 0 Z Z Z Z (zD Z Z yG zJ Z) aq (fun hs=>wAl bf U hs bj) (.inr Z) ?_))
 rintro ba bA bM bc bJ bo ⟨rfl,rfl⟩
 have bp:sW w U ba [.blk an 104 B2,.blk am 104 B2,.blk b6 78 B1,.blk b2 28 B0] bc:=bo
 refine bnK bx fun be bk bz=>zF 0 Z Z Z Z (zD Z Z Try.call82 (zB Z zJ) Z) bp (fun hs=>wCb p1.Index bc ba hs bk) (.inr Z) ?_
 rintro ak bB bN bg bL br ⟨rfl,rfl⟩
 have bs:sW w U ak [.blk an 104 B2,.blk am 104 B2,.blk b6 78 B1,.blk b2 28 B0] bg:=br
 let B3:List Value:=[jV bd.skier,jV bd.mat]
 refine zU (j:=1) (vs:=B3) Z Z Z Z bs Z Z Z Z zH (zA Z) Z Z Z ?_
 intro bh bt
 have bu:sW w U ak [.blk an 104 B2,.blk am 104 B3,.blk b6 78 B1,.blk b2 28 B0] bh:=bt
 let B4:List Value:=[jV be.skier,jV be.mat]
 refine zU (j:=0) (vs:=B4) Z Z Z Z bu Z Z Z Z zH (zA Z) Z Z Z ?_
 intro bi bv
 have au:sW w U ak [.blk an 104 B4,.blk am 104 B3,.blk b6 78 B1,.blk b2 28 B0] bi:=bv
 refine eN (zR ?_)
 cases bz
 exact ⟨rfl,_,(wDg (rs:=[.cell 4 104,.cell 5 104]) (vs:=[.agg B3.toArray,.agg B4.toArray]) ⟨⟨_,rfl,(wAw zj zH (au.blkAt (k:=1) rfl) (vs:=B3) rfl rfl)⟩,⟨⟨_,rfl,(wAw zj zH (au.blkAt (k:=0) rfl) (vs:=B4) rfl rfl)⟩,trivial⟩⟩ rfl),ak,_,(au.pick [] _ (by decide) rfl),rfl,rfl⟩
theorem wGW (p0:wAE) (aj:Option Addr) (an:Nat) (ak:Option Addr) (ao:Nat) (ah:Option Addr) (ai:Nat) (am:Option Addr) (ap:Nat) (p1:wAK) (w:World) (U:PHeap) (hS:St0 w U []) (bg:Sl U 1 aj an p0.Starts.length (hD KL.encI p0.Starts)) (bh:Sl U 2 ak ao p0.Splits.length (hD wAC p0.Splits)) (au:Sl U 3 ah ai p0.Clocks.length (hD wAA p0.Clocks)) (bi:Sl U 4 am ap p0.Readings.length (hD wAB p0.Readings)) {r:Int × Int} (hm:wDR p0 p1=some r):Gv Try.prog 116 [.agg #[.slice aj p0.Starts.length an,.slice ak p0.Splits.length ao,.slice ah p0.Clocks.length ai,.slice am p0.Readings.length ap],.agg #[jV p1.Kind,jV p1.Skier,jV p1.Index,.bool p1.Up]] w (wBw w [] U (fun U_ L_ v=>v=.tuple #[jV r.1,jV r.2]/\L_=[])):=by
 unfold wDR at hm
 refine Gv.of Try.func116 rfl Try.ntmps116 Try.results116 rfl (sR gBp rfl (zy (cs:=[.slice aj p0.Starts.length an,.slice ak p0.Splits.length ao,.slice ah p0.Clocks.length ai,.slice am p0.Readings.length ap]) rfl rfl rfl rfl rfl rfl (by rfl) hS ?_))
 intro W1 b2 a7
 refine zy (cs:=[jV p1.Kind,jV p1.Skier,jV p1.Index,.bool p1.Up]) rfl rfl rfl rfl rfl rfl (by rfl) a7 ?_
 intro W5 b6 a8
 refine yI rfl rfl rfl rfl rfl rfl (yI rfl rfl rfl rfl rfl rfl (eN (zM (zt zu [3,1,3,1,3,3,3,1,3,3,1,3,1,3,3,3,1,3,3] fL19 (by kernel_rfl) ?_))))
 have af:=a8.drew
 generalize hw_W10:({ W5 with drawn:=W5.drawn + 1 }:World)=bb at af ⊢
 refine oR Z (zE Z Z zI Z Zl) (oL Z (af.ldB (j:=1) Z Z Z yD (v:=.slice ah p0.Clocks.length ai) Z) (oR Z (zE Z Z zl Z zC) (oL Z (af.ldB (j:=0) Z Z Z zG (v:=jV p1.Index) Z) (bnK hm fun av ag a9=>?_))))
 have q:=au.el (fun _=>rfl) (wAb ag)
 obtain ⟨bc,bj,aw,ay⟩:=q
 refine oR Z (Zd Z Z aw Z ZS yA (wCG ag) (wCM ag)) (oR Z (zE Z Z Zc Z zZ) (oR Z (zE Z Z zX Z zC) (oL Z (af.ldC (f:=0) ay (v:=jV av.Offset.Lo) Z Z zG Z) (oR Z (Runs.negw Z Z) (oR Z (zE Z Z zI Z Zl) (oL Z (af.ldB (j:=1) Z Z Z yD (v:=.slice ah p0.Clocks.length ai) Z) (oR Z (zE Z Z zl Z zC) (oL Z (af.ldB (j:=0) Z Z Z zG (v:=jV p1.Index) Z) ?_))))))))
 have q:=au.el (fun _=>rfl) (wAb ag)
 obtain ⟨bd,bk,ax,az⟩:=q
 refine oR Z (Zd Z Z ax Z ZS yA (wCG ag) (wCM ag)) (oR Z (zE Z Z Zc Z zZ) (oR Z (zE Z Z zX Z zC) (oL Z (af.ldC (f:=1) az (v:=jV av.Offset.Hi) Z Z zG Z) (oA Z Z (oA Z Z (eN (zR ?_)))))))
 cases a9
 exact ⟨rfl,_,(wDf rfl rfl),U,_,(af.pick [] _ (by decide) rfl),rfl,rfl⟩
end Go.Proofs.Ytlnfbjphfoipaaa
