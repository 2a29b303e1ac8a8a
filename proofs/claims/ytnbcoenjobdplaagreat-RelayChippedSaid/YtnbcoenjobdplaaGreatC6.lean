import Derived.Test.YtnbcoenjobdplaaGreatC5
set_option linter.all false
open List renaming flatMap->hD
open Option.some renaming inj->nA
open Go.Value renaming bool->nB
open Bool renaming eq_false_iff->nD
open Prod.mk renaming injEq->nE
open Nat renaming blt->nG,le_of_ble_eq_true->nH
namespace Go.Proofs.YtnbcoenjobdplaaGreat
open Go.KL
def gAi:Sch:=.fl 1 (.fl 2 .nil)
def gAj:Sch:=.fl 2 (.fl 3 .nil)
def gAk:Sch:=.fl 3 (.fl 4 .nil)
def gAl:Sch:=.fl 4 (.fl 5 .nil)
def gAm:Sch:=.fl 7 (.fl 8 .nil)
def gAn:Sch:=.fl 0 (.fx 1 .nil .stop)
def gAo:Sch:=.fx 3 (.fl 4 .nil) .stop
def gAp:Sch:=.fx 1 (.fl 2 .nil) .stop
def gAq:Sch:=.fx 0 (.fl 1 .nil) .stop
def gAr:Sch:=.fx 0 (.fx 1 .nil .stop) .stop
def gAs:Sch:=.fx 6 (.fl 7 .nil) .stop
def gAt:Sch:=.fl 1 (.fx 2 (.fl 3 .nil) .stop)
def gAu:Sch:=.fx 6 gAm .stop
def gAv:Sch:=.fl 5 (.fx 6 (.fx 7 .nil .stop) .stop)
def gAw:Sch:=.fl 0 gAp
def gAx:Sch:=.fx 3 (.fl 4 (.fx 5 .nil .stop)) .stop
def gAy:Sch:=.fl 0 gAt
def gAz:Sch:=.fx 4 (.fx 5 (.fl 6 (.fx 7 .nil .stop)) .stop) .stop
def gBa:Sch:=.fl 0 (.fx 1 gAj .stop)
def gBb:Sch:=.fx 4 gAv .stop
def gBc:Sch:=.fx 3 (.fx 4 (.fl 5 (.fx 6 .nil .stop)) .stop) .stop
def gBd:Sch:=.fl 0 (.fl 1 (.fx 2 (.fx 3 .nil .stop) .stop))
def gBe:Sch:=.fx 3 gAz .stop
def gBf:Sch:=.fl 0 (.fl 1 (.fx 2 gAk .stop))
def gBg:Sch:=.fl 0 (.fl 1 (.fx 2 gAo .stop))
def gBh:Sch:=.fx 4 (.fl 5 (.fx 6 (.fx 7 (.fl 8 (.fx 9 .nil .stop)) .stop) .stop)) .stop
set_option maxHeartbeats 4000000
theorem Z {α:Type} {a:α}:a=a:=rfl
section
variable {r:Option Nat} {N:Nat} {P:Program} {l:List Oper} {Q:wEn} {D:List Deferred} {ks:List Nat} {σ:Env} {w:World} {i d j e:Nat} {s:Sch} {o:Oper} {b:Bool} {x:Operand} {v:Value} {p:Prop} {inst:Decidable p} {K:List Deferred->Env->World->Prop} {c1 c2:Code}
abbrev jV (n:Int):Value:=.int .i64 n
abbrev SW (w:World) (X:List Res) (U U':PHeap) (L:List Res) (w':World):Prop:=St ⟨w,X,U⟩ U' L w'
abbrev sW (w:World) (U U':PHeap) (L:List Res) (w':World):Prop:=St ⟨w,[],U⟩ U' L w'
abbrev St0 (w:World) (U:PHeap) (L:List Res):Prop:=St ⟨w,L,U⟩ U L w
theorem ifc {α:Type} {G p:Prop} {inst:Decidable p} {a b r:α} (h:@ite α p inst a b=r) (O:Hid p->a=r->G) (h2:Hid (¬ p)->b=r->G):G:=by
 by_cases c:p
 rw [if_pos c] at h;exact O ⟨c⟩ h
 rw [if_neg c] at h;exact h2 ⟨c⟩ h
theorem bnK {α β:Type} {G:Prop} {o:Option α} {f:α->Option β} {r:β} (h:o.bind f=some r) (k:∀ x,o=some x->f x=some r->G):G:=by
 obtain ⟨x,O,h2⟩:=bnd h
 exact k x O h2
theorem oR (h:(l[i]?,o.dst,nG d N,wanted l σ o)=(some o,some d,true,true)) (hr:∀ {w'},Runs P σ w' o v w') (k:OKS N P l Q D ks s (upd σ d v) w):OKS N P l Q D ks (.fl i s) σ w:=by
 simp only [nE] at h;exact OKS.r h.1 h.2.1 h.2.2.1 h.2.2.2 (fun _=>hr) k
theorem oL (h:(l[i]?,o.dst,nG d N,wanted l σ o,wRR (kOf ks i))=(some o,some d,true,true,false)) (hr:RunsK P σ w o v) (k:OKS N P l Q D ks s (upd σ d v) w):OKS N P l Q D ks (.fl i s) σ w:=by
 simp only [nE] at h;exact OKS.m h.1 h.2.1 h.2.2.1 h.2.2.2.1 hr h.2.2.2.2 k
theorem oM (h:(l[i]?,o.dst,nG d N,wanted l σ o,o.op)=(some o,some d,true,true,.move x)) (hx:ev σ x=v) (k:OKS N P l Q D ks s (upd σ d v) w):OKS N P l Q D ks (.fl i s) σ w:=by
 simp only [nE] at h;exact OKS.rm h.1 h.2.1 h.2.2.1 h.2.2.2.1 h.2.2.2.2 hx k
theorem oA (h:(l[i]?,o.dst,nG d N,wanted l σ o,o.op)=(some o,some d,true,true,.assign x)) (hx:ev σ x=v) (k:OKS N P l Q D ks s (upd σ d v) w):OKS N P l Q D ks (.fl i s) σ w:=by
 simp only [nE] at h;exact OKS.ra h.1 h.2.1 h.2.2.1 h.2.2.2.1 h.2.2.2.2 hx k
theorem oF (h:(l[i]?,o.dst,nG d N,o.guard,(l[j]?).bind (·.dst),σ e,false == b)=(some o,some d,true,some (j,b),some e,.bool (decide p),false)) (c:Hid (¬ p)) (k:OKS N P l Q D ks s (upd σ d undef) w):OKS N P l Q D ks (.fl i s) σ w:=by
 simp only [nE] at h;exact OKS.p h.1 h.2.1 h.2.2.1 (wJD h.2.2.2.1 h.2.2.2.2.1 (h.2.2.2.2.2.1.trans (wRP c.out)) h.2.2.2.2.2.2) k
theorem oT (h:(l[i]?,o.dst,nG d N,o.guard,(l[j]?).bind (·.dst),σ e,true == b)=(some o,some d,true,some (j,b),some e,.bool (decide p),false)) (c:Hid p) (k:OKS N P l Q D ks s (upd σ d undef) w):OKS N P l Q D ks (.fl i s) σ w:=by
 simp only [nE] at h;exact OKS.p h.1 h.2.1 h.2.2.1 (wJD h.2.2.2.1 h.2.2.2.2.1 (h.2.2.2.2.2.1.trans (wRO c.out)) h.2.2.2.2.2.2) k
theorem oN {O:Bool} (h:(l[i]?,o.dst,nG d N,o.guard,(l[j]?).bind (·.dst),σ e,O == b)=(some o,some d,true,some (j,b),some e,.bool O,false)) (k:OKS N P l Q D ks s (upd σ d undef) w):OKS N P l Q D ks (.fl i s) σ w:=by
 simp only [nE] at h;exact OKS.p h.1 h.2.1 h.2.2.1 (wJD h.2.2.2.1 h.2.2.2.2.1 h.2.2.2.2.2.1 h.2.2.2.2.2.2) k
theorem nC {a b:Bool} (h:a=b):nB (!a)=nB (!b):=h ▸ rfl
theorem nF {a:Bool} (h:¬ a=true):nB (!a)=nB (!false):=nC (nD.2 h)
theorem wT (h:(o.guard,(l[j]?).bind (·.dst),σ e)=(some (j,true),some e,.bool (decide p))) (c:Hid p):wanted l σ o=true:=by
 simp only [nE] at h;exact wKQ h.1 h.2.1 (h.2.2.trans (wRO c.out))
theorem wF (h:(o.guard,(l[j]?).bind (·.dst),σ e)=(some (j,false),some e,.bool (decide p))) (c:Hid (¬ p)):wanted l σ o=true:=by
 simp only [nE] at h;exact wKQ h.1 h.2.1 (h.2.2.trans (wRP c.out))
theorem rU (h:(l[i]?,o.dst,nG d N)=(some o,some d,true)) (hw:wanted l σ o=true) (hr:∀ {w'},Runs P σ w' o v w') (k:OKS N P l Q D ks s (upd σ d v) w):OKS N P l Q D ks (.fl i s) σ w:=by
 simp only [nE] at h;exact OKS.r h.1 h.2.1 h.2.2 hw (fun _=>hr) k
theorem sR {id:Nat} (s:Sch) (hs:inOrder 0 s l.length=true) (h:OKS N P l (wHh (fun D σ w=>CK r N P c2 Q D σ w) Q) D [] s σ w):CK r N P (.seq (.region id l.toArray false) c2) Q D σ w:=CK.seq (CK.reg s hs h)
theorem rR {id:Nat} (s:Sch) (hs:inOrder 0 s l.length=true) (h:OKS N P l Q D [] s σ w):CK r N P (.region id l.toArray false) Q D σ w:=CK.reg s hs h
theorem eN (h:K D σ w):OKS N P l (wHh K Q) D ks .nil σ w:=OKS.e (wKN h)
theorem cT (hz:ev σ x=.bool (decide p)) (c:Hid p) (h:CK r N P c1 Q D σ w):CK r N P (.cond x c1 c2) Q D σ w:=CK.condT (hz.trans (wRO c.out)) h
theorem cF (hz:ev σ x=.bool (decide p)) (c:Hid (¬ p)) (h:CK r N P c2 Q D σ w):CK r N P (.cond x c1 c2) Q D σ w:=CK.condF (hz.trans (wRP c.out)) h
theorem kN (h:K D σ w):CK r N P .skip (wHh K Q) D σ w:=CK.skip (wKN h)
end
def fL1:Sch:=.fl 0 .nil
def fL2:Sch:=.fl 0 (.fl 1 .nil)
def fL3:Sch:=.fl 0 gAi
def fL4:Sch:=.fl 0 (.fl 1 gAj)
def fL5:Sch:=.fl 0 (.fl 1 (.fl 2 gAk))
def fL6:Sch:=.fl 0 (.fl 1 (.fl 2 (.fl 3 gAl)))
def fL7:Sch:=.fl 0 (.fl 1 (.fl 2 (.fl 3 (.fl 4 (.fl 5 (.fl 6 .nil))))))
def fL8:Sch:=.fl 0 (.fl 1 (.fl 2 (.fl 3 (.fl 4 (.fl 5 (.fl 6 (.fl 7 .nil)))))))
def fL9:Sch:=.fl 0 (.fl 1 (.fl 2 (.fl 3 (.fl 4 (.fl 5 (.fl 6 gAm))))))
def wQB:Sch:=.fl 0 (.fl 1 (.fl 2 (.fl 3 (.fl 4 (.fl 5 (.fl 6 (.fl 7 (.fl 8 (.fl 9 .nil)))))))))
def wRx:Sch:=.fl 0 (.fl 1 (.fl 2 (.fl 3 (.fl 4 (.fl 5 (.fl 6 (.fl 7 (.fl 8 (.fl 9 (.fl 10 .nil))))))))))
def fL14:Sch:=.fl 0 (.fl 1 (.fl 2 (.fl 3 (.fl 4 (.fl 5 (.fl 6 (.fl 7 (.fl 8 (.fl 9 (.fl 10 (.fl 11 (.fl 12 (.fl 13 .nil)))))))))))))
def fL15:Sch:=.fl 0 (.fl 1 (.fl 2 (.fl 3 (.fl 4 (.fl 5 (.fl 6 (.fl 7 (.fl 8 (.fl 9 (.fl 10 (.fl 11 (.fl 12 (.fl 13 (.fl 14 .nil))))))))))))))
def fL16:Sch:=.fl 0 (.fl 1 (.fl 2 (.fl 3 (.fl 4 (.fl 5 (.fl 6 (.fl 7 (.fl 8 (.fl 9 (.fl 10 (.fl 11 (.fl 12 (.fl 13 (.fl 14 (.fl 15 .nil)))))))))))))))
def fL17:Sch:=.fl 0 (.fl 1 (.fl 2 (.fl 3 (.fl 4 (.fl 5 (.fl 6 (.fl 7 (.fl 8 (.fl 9 (.fl 10 (.fl 11 (.fl 12 (.fl 13 (.fl 14 (.fl 15 (.fl 16 .nil))))))))))))))))
def fL18:Sch:=.fl 0 (.fl 1 (.fl 2 (.fl 3 (.fl 4 (.fl 5 (.fl 6 (.fl 7 (.fl 8 (.fl 9 (.fl 10 (.fl 11 (.fl 12 (.fl 13 (.fl 14 (.fl 15 (.fl 16 (.fl 17 .nil)))))))))))))))))
def fL19:Sch:=.fl 0 (.fl 1 (.fl 2 (.fl 3 (.fl 4 (.fl 5 (.fl 6 (.fl 7 (.fl 8 (.fl 9 (.fl 10 (.fl 11 (.fl 12 (.fl 13 (.fl 14 (.fl 15 (.fl 16 (.fl 17 (.fl 18 .nil))))))))))))))))))
def fL20:Sch:=.fl 0 (.fl 1 (.fl 2 (.fl 3 (.fl 4 (.fl 5 (.fl 6 (.fl 7 (.fl 8 (.fl 9 (.fl 10 (.fl 11 (.fl 12 (.fl 13 (.fl 14 (.fl 15 (.fl 16 (.fl 17 (.fl 18 (.fl 19 .nil)))))))))))))))))))
def wRy:Sch:=.fl 0 (.fl 1 (.fl 2 (.fl 3 (.fl 4 (.fl 5 (.fl 6 (.fl 7 (.fl 8 (.fl 9 (.fl 10 (.fl 11 (.fl 12 (.fl 13 (.fl 14 (.fl 15 (.fl 16 (.fl 17 (.fl 18 (.fl 19 (.fl 20 (.fl 21 .nil)))))))))))))))))))))
def fL23:Sch:=.fl 0 (.fl 1 (.fl 2 (.fl 3 (.fl 4 (.fl 5 (.fl 6 (.fl 7 (.fl 8 (.fl 9 (.fl 10 (.fl 11 (.fl 12 (.fl 13 (.fl 14 (.fl 15 (.fl 16 (.fl 17 (.fl 18 (.fl 19 (.fl 20 (.fl 21 (.fl 22 .nil))))))))))))))))))))))
def fL30:Sch:=.fl 0 (.fl 1 (.fl 2 (.fl 3 (.fl 4 (.fl 5 (.fl 6 (.fl 7 (.fl 8 (.fl 9 (.fl 10 (.fl 11 (.fl 12 (.fl 13 (.fl 14 (.fl 15 (.fl 16 (.fl 17 (.fl 18 (.fl 19 (.fl 20 (.fl 21 (.fl 22 (.fl 23 (.fl 24 (.fl 25 (.fl 26 (.fl 27 (.fl 28 (.fl 29 .nil)))))))))))))))))))))))))))))
def fL33:Sch:=.fl 0 (.fl 1 (.fl 2 (.fl 3 (.fl 4 (.fl 5 (.fl 6 (.fl 7 (.fl 8 (.fl 9 (.fl 10 (.fl 11 (.fl 12 (.fl 13 (.fl 14 (.fl 15 (.fl 16 (.fl 17 (.fl 18 (.fl 19 (.fl 20 (.fl 21 (.fl 22 (.fl 23 (.fl 24 (.fl 25 (.fl 26 (.fl 27 (.fl 28 (.fl 29 (.fl 30 (.fl 31 (.fl 32 .nil))))))))))))))))))))))))))))))))
def fL53:Sch:=.fl 0 (.fl 1 (.fl 2 (.fl 3 (.fl 4 (.fl 5 (.fl 6 (.fl 7 (.fl 8 (.fl 9 (.fl 10 (.fl 11 (.fl 12 (.fl 13 (.fl 14 (.fl 15 (.fl 16 (.fl 17 (.fl 18 (.fl 19 (.fl 20 (.fl 21 (.fl 22 (.fl 23 (.fl 24 (.fl 25 (.fl 26 (.fl 27 (.fl 28 (.fl 29 (.fl 30 (.fl 31 (.fl 32 (.fl 33 (.fl 34 (.fl 35 (.fl 36 (.fl 37 (.fl 38 (.fl 39 (.fl 40 (.fl 41 (.fl 42 (.fl 43 (.fl 44 (.fl 45 (.fl 46 (.fl 47 (.fl 48 (.fl 49 (.fl 50 (.fl 51 (.fl 52 .nil))))))))))))))))))))))))))))))))))))))))))))))))))))
def wCK (s:Sch):Sch:=.fl 0 (.fl 1 (.fl 2 (s)))
def wEL (s:Sch):Sch:=.fl 0 (.fl 1 (.fl 2 (.fl 3 (s))))
def wHg (s:Sch):Sch:=.fl 0 (.fl 1 (.fl 2 (.fl 3 (.fl 4 (s)))))
def wGx (s:Sch):Sch:=.fl 0 (.fl 1 (.fl 2 (.fl 3 (.fl 4 (.fl 5 (s))))))
def wNd (s:Sch):Sch:=.fl 0 (.fl 1 (.fl 2 (.fl 3 (.fl 4 (.fl 5 (.fl 6 (s)))))))
def wQv (s:Sch):Sch:=.fl 0 (.fl 1 (.fl 2 (.fl 3 (.fl 4 (.fl 5 (.fl 6 (.fl 7 (s))))))))
def wQw (s:Sch):Sch:=.fl 0 (.fl 1 (.fl 2 (.fl 3 (.fl 4 (.fl 5 (.fl 6 (.fl 7 (.fl 8 (s)))))))))
def wQx (s:Sch):Sch:=.fl 0 (.fl 1 (.fl 2 (.fl 3 (.fl 4 (.fl 5 (.fl 6 (.fl 7 (.fl 8 (.fl 9 (s))))))))))
def wRz (s:Sch):Sch:=.fl 0 (.fl 1 (.fl 2 (.fl 3 (.fl 4 (.fl 5 (.fl 6 (.fl 7 (.fl 8 (.fl 9 (.fl 10 (.fl 11 (s))))))))))))
def wSA (s:Sch):Sch:=.fl 0 (.fl 1 (.fl 2 (.fl 3 (.fl 4 (.fl 5 (.fl 6 (.fl 7 (.fl 8 (.fl 9 (.fl 10 (.fl 11 (.fl 12 (s)))))))))))))
def wQC (s:Sch):Sch:=.fl 0 (.fl 1 (.fl 2 (.fl 3 (.fl 4 (.fl 5 (.fl 6 (.fl 7 (.fl 8 (.fl 9 (.fl 10 (.fl 11 (.fl 12 (.fl 13 (.fl 14 (s)))))))))))))))
def wOo (s:Sch):Sch:=.fl 0 (.fl 1 (.fl 2 (.fl 3 (.fl 4 (.fl 5 (.fl 6 (.fl 7 (.fl 8 (.fl 9 (.fl 10 (.fl 11 (.fl 12 (.fl 13 (.fl 14 (.fl 15 (s))))))))))))))))
def wSB (s:Sch):Sch:=.fl 0 (.fl 1 (.fl 2 (.fl 3 (.fl 4 (.fl 5 (.fl 6 (.fl 7 (.fl 8 (.fl 9 (.fl 10 (.fl 11 (.fl 12 (.fl 13 (.fl 14 (.fl 15 (.fl 16 (.fl 17 (.fl 18 (.fl 19 (.fl 20 (.fl 21 (s))))))))))))))))))))))
def wSC (s:Sch):Sch:=.fl 0 (.fl 1 (.fl 2 (.fl 3 (.fl 4 (.fl 5 (.fl 6 (.fl 7 (.fl 8 (.fl 9 (.fl 10 (.fl 11 (.fl 12 (.fl 13 (.fl 14 (.fl 15 (.fl 16 (.fl 17 (.fl 18 (.fl 19 (.fl 20 (.fl 21 (.fl 22 (.fl 23 (.fl 24 (s)))))))))))))))))))))))))
def wSD (s:Sch):Sch:=.fl 0 (.fl 1 (.fl 2 (.fl 3 (.fl 4 (.fl 5 (.fl 6 (.fl 7 (.fl 8 (.fl 9 (.fl 10 (.fl 11 (.fl 12 (.fl 13 (.fl 14 (.fl 15 (.fl 16 (.fl 17 (.fl 18 (.fl 19 (.fl 20 (.fl 21 (.fl 22 (.fl 23 (.fl 24 (.fl 25 (.fl 26 (.fl 27 (.fl 28 (.fl 29 (s))))))))))))))))))))))))))))))
def wSE (s:Sch):Sch:=.fl 0 (.fl 1 (.fl 2 (.fl 3 (.fl 4 (.fl 5 (.fl 6 (.fl 7 (.fl 8 (.fl 9 (.fl 10 (.fl 11 (.fl 12 (.fl 13 (.fl 14 (.fl 15 (.fl 16 (.fl 17 (.fl 18 (.fl 19 (.fl 20 (.fl 21 (.fl 22 (.fl 23 (.fl 24 (.fl 25 (.fl 26 (.fl 27 (.fl 28 (.fl 29 (.fl 30 (.fl 31 (s))))))))))))))))))))))))))))))))
def wOp (s:Sch):Sch:=.fl 2 (.fl 3 (.fl 4 (s)))
def fC2_5 (s:Sch):Sch:=.fl 2 (.fl 3 (.fl 4 (.fl 5 (s))))
def wIK (s:Sch):Sch:=.fl 2 (.fl 3 (.fl 4 (.fl 5 (.fl 6 (s)))))
def fC2_9 (s:Sch):Sch:=.fl 2 (.fl 3 (.fl 4 (.fl 5 (.fl 6 (.fl 7 (.fl 8 (.fl 9 (s))))))))
def wSF (s:Sch):Sch:=.fl 3 (.fl 4 (.fl 5 (s)))
def wNe (s:Sch):Sch:=.fl 3 (.fl 4 (.fl 5 (.fl 6 (s))))
def wPY (s:Sch):Sch:=.fl 3 (.fl 4 (.fl 5 (.fl 6 (.fl 7 (s)))))
def fC3_9 (s:Sch):Sch:=.fl 3 (.fl 4 (.fl 5 (.fl 6 (.fl 7 (.fl 8 (.fl 9 (s)))))))
def wSG (s:Sch):Sch:=.fl 3 (.fl 4 (.fl 5 (.fl 6 (.fl 7 (.fl 8 (.fl 9 (.fl 10 (.fl 11 (.fl 12 (.fl 13 (.fl 14 (.fl 15 (.fl 16 (.fl 17 (.fl 18 (.fl 19 (.fl 20 (.fl 21 (.fl 22 (s))))))))))))))))))))
def wSH (s:Sch):Sch:=.fl 4 (.fl 5 (.fl 6 (s)))
def fC4_7 (s:Sch):Sch:=.fl 4 (.fl 5 (.fl 6 (.fl 7 (s))))
def wSI (s:Sch):Sch:=.fl 4 (.fl 5 (.fl 6 (.fl 7 (.fl 8 (s)))))
def wSJ (s:Sch):Sch:=.fl 4 (.fl 5 (.fl 6 (.fl 7 (.fl 8 (.fl 9 (.fl 10 (s)))))))
def wQD (s:Sch):Sch:=.fl 4 (.fl 5 (.fl 6 (.fl 7 (.fl 8 (.fl 9 (.fl 10 (.fl 11 (.fl 12 (.fl 13 (s))))))))))
def wQE (s:Sch):Sch:=.fl 4 (.fl 5 (.fl 6 (.fl 7 (.fl 8 (.fl 9 (.fl 10 (.fl 11 (.fl 12 (.fl 13 (.fl 14 (.fl 15 (.fl 16 (.fl 17 (s))))))))))))))
def wSK (s:Sch):Sch:=.fl 4 (.fl 5 (.fl 6 (.fl 7 (.fl 8 (.fl 9 (.fl 10 (.fl 11 (.fl 12 (.fl 13 (.fl 14 (.fl 15 (.fl 16 (.fl 17 (.fl 18 (.fl 19 (.fl 20 (.fl 21 (.fl 22 (.fl 23 (s))))))))))))))))))))
def wPZ (s:Sch):Sch:=.fl 5 (.fl 6 (.fl 7 (s)))
def wQy (s:Sch):Sch:=.fl 5 (.fl 6 (.fl 7 (.fl 8 (s))))
def wIh (s:Sch):Sch:=.fl 5 (.fl 6 (.fl 7 (.fl 8 (.fl 9 (s)))))
def wQF (s:Sch):Sch:=.fl 5 (.fl 6 (.fl 7 (.fl 8 (.fl 9 (.fl 10 (.fl 11 (.fl 12 (.fl 13 (.fl 14 (.fl 15 (s)))))))))))
def wSL (s:Sch):Sch:=.fl 6 (.fl 7 (.fl 8 (.fl 9 (s))))
def wSM (s:Sch):Sch:=.fl 6 (.fl 7 (.fl 8 (.fl 9 (.fl 10 (s)))))
def wQG (s:Sch):Sch:=.fl 6 (.fl 7 (.fl 8 (.fl 9 (.fl 10 (.fl 11 (.fl 12 (s)))))))
def wQz (s:Sch):Sch:=.fl 7 (.fl 8 (.fl 9 (s)))
def wSN (s:Sch):Sch:=.fl 7 (.fl 8 (.fl 9 (.fl 10 (.fl 11 (.fl 12 (s))))))
def wSO (s:Sch):Sch:=.fl 7 (.fl 8 (.fl 9 (.fl 10 (.fl 11 (.fl 12 (.fl 13 (s)))))))
def wKM (s:Sch):Sch:=.fl 8 (.fl 9 (.fl 10 (s)))
def wNJ (s:Sch):Sch:=.fl 8 (.fl 9 (.fl 10 (.fl 11 (s))))
def wSP (s:Sch):Sch:=.fl 9 (.fl 10 (.fl 11 (.fl 12 (s))))
def wRA (s:Sch):Sch:=.fl 10 (.fl 11 (.fl 12 (.fl 13 (s))))
def wRB (s:Sch):Sch:=.fl 12 (.fl 13 (.fl 14 (s)))
def wRC (s:Sch):Sch:=.fl 13 (.fl 14 (.fl 15 (.fl 16 (s))))
def wRD (s:Sch):Sch:=.fl 17 (.fl 18 (.fl 19 (s)))
def wRE (s:Sch):Sch:=.fl 18 (.fl 19 (.fl 20 (.fl 21 (.fl 22 (.fl 23 (.fl 24 (.fl 25 (.fl 26 (.fl 27 (.fl 28 (.fl 29 (.fl 30 (.fl 31 (.fl 32 (.fl 33 (.fl 34 (.fl 35 (s))))))))))))))))))
def wRF (s:Sch):Sch:=.fl 19 (.fl 20 (.fl 21 (s)))
def wRG (s:Sch):Sch:=.fl 20 (.fl 21 (.fl 22 (s)))
def wRH (s:Sch):Sch:=.fl 24 (.fl 25 (.fl 26 (s)))
def wRI (s:Sch):Sch:=.fl 26 (.fl 27 (.fl 28 (.fl 29 (.fl 30 (.fl 31 (.fl 32 (.fl 33 (.fl 34 (.fl 35 (.fl 36 (.fl 37 (.fl 38 (.fl 39 (.fl 40 (.fl 41 (.fl 42 (.fl 43 (.fl 44 (.fl 45 (.fl 46 (.fl 47 (.fl 48 (.fl 49 (.fl 50 (.fl 51 (.fl 52 (s)))))))))))))))))))))))))))
def wRJ (s:Sch):Sch:=.fl 33 (.fl 34 (.fl 35 (s)))
def wRK (s:Sch):Sch:=.fl 34 (.fl 35 (.fl 36 (.fl 37 (.fl 38 (.fl 39 (s))))))
def wRL (s:Sch):Sch:=.fl 42 (.fl 43 (.fl 44 (.fl 45 (s))))
theorem zA:type_of% @nH:=@nH
theorem zB:type_of% @Tryz.runUnderlying23:=@Tryz.runUnderlying23
theorem zC:type_of% @Tryz.sizeOf3:=@Tryz.sizeOf3
theorem zD:type_of% @wNi:=@wNi
theorem zF:type_of% @Runs.fa:=@Runs.fa
theorem zG:type_of% @wKN:=@wKN
theorem zH:type_of% @Hid.mk:=@Hid.mk
theorem zI:type_of% @CK.seq:=@CK.seq
theorem zJ:type_of% @Tryz.isAgg3:=@Tryz.isAgg3
theorem zK:type_of% @Enters.mk:=@Enters.mk
theorem zL:type_of% @PHeap.Le.refl:=@PHeap.Le.refl
theorem zM:type_of% @OKS.callH:=@OKS.callH
theorem zN:type_of% @wKQ:=@wKQ
theorem zO:type_of% @wPa:=@wPa
theorem zP:type_of% @CK.ret:=@CK.ret
theorem zQ:type_of% @wJD:=@wJD
theorem zR:type_of% @wNh:=@wNh
theorem zS:type_of% @Tryz.sizeOf23:=@Tryz.sizeOf23
theorem zT:type_of% @Runs.pickT:=@Runs.pickT
theorem zU:type_of% @CK.block:=@CK.block
theorem zV:type_of% @Tryz.sizeOf149:=@Tryz.sizeOf149
theorem zW:type_of% @Runs.lss:=@Runs.lss
theorem zX:type_of% @Runs.addw:=@Runs.addw
theorem zY:type_of% @OKS.r:=@OKS.r
theorem zZ:type_of% @Tryz.isAgg23:=@Tryz.isAgg23
theorem za:type_of% @Runs.pickF:=@Runs.pickF
theorem zb:type_of% @OKS.buildSlice:=@OKS.buildSlice
theorem zc:type_of% @wMa:=@wMa
theorem zd:type_of% @wNg:=@wNg
theorem ze:type_of% @Runs.len:=@Runs.len
theorem zf:type_of% @wMY:=@wMY
theorem zg:type_of% @OKS.e:=@OKS.e
theorem zh:type_of% @OKS.st:=@OKS.st
theorem zi:type_of% @Runs.ext:=@Runs.ext
theorem zj:type_of% @OKS.rm:=@OKS.rm
theorem zk:type_of% @OKS.p:=@OKS.p
theorem zm:type_of% @OKS.alloc:=@OKS.alloc
theorem zn:type_of% @CK.condF:=@CK.condF
theorem zo:type_of% @Tryz.runUnderlying28:=@Tryz.runUnderlying28
theorem zq:type_of% @Tryz.runUnderlying83:=@Tryz.runUnderlying83
theorem zr:type_of% @Runs.to:=@Runs.to
theorem zt:type_of% @wRP:=@wRP
theorem zu:type_of% @Tryz.runUnderlying32:=@Tryz.runUnderlying32
theorem zw:type_of% @Tryz.zeroValue3:=@Tryz.zeroValue3
theorem zx:type_of% @Runs.build:=@Runs.build
theorem zy:type_of% @CK.condT:=@CK.condT
theorem zz:type_of% @res1:=@res1
theorem ZA:type_of% @Tryz.runUnderlying25:=@Tryz.runUnderlying25
theorem ZB:type_of% @OKS.m:=@OKS.m
theorem ZC:type_of% @Tryz.isAgg149:=@Tryz.isAgg149
theorem ZD:type_of% @Tryz.mixed:=@Tryz.mixed
theorem ZE:type_of% @Runs.iaN:=@Runs.iaN
theorem ZF:type_of% @Runs.notT:=@Runs.notT
theorem ZG:type_of% @wMZ:=@wMZ
theorem ZH:type_of% @OKS.box:=@OKS.box
theorem ZI:type_of% @OKS.px:=@OKS.px
theorem ZJ:type_of% @CK.exit:=@CK.exit
theorem ZK:type_of% @Tryz.sizeOf76:=@Tryz.sizeOf76
theorem ZL:type_of% @Tryz.runUnderlying43:=@Tryz.runUnderlying43
theorem ZM:type_of% @Tryz.runUnderlying76:=@Tryz.runUnderlying76
theorem ZN:type_of% @CK.anyOrd:=@CK.anyOrd
theorem ZO:type_of% @Tryz.sizeOf25:=@Tryz.sizeOf25
theorem ZP:type_of% @Tryz.zeroValue149:=@Tryz.zeroValue149
theorem ZQ:type_of% @Tryz.runUnderlying80:=@Tryz.runUnderlying80
theorem ZR:type_of% @Runs.nilp:=@Runs.nilp
theorem ZS:type_of% @Tryz.runUnderlying34:=@Tryz.runUnderlying34
theorem ZT:type_of% @CK.skip:=@CK.skip
theorem ZU:type_of% @Tryz.runUnderlying46:=@Tryz.runUnderlying46
theorem ZV:type_of% @Tryz.runUnderlying214:=@Tryz.runUnderlying214
theorem ZW:type_of% @Tryz.runUnderlying26:=@Tryz.runUnderlying26
theorem ZX:type_of% @Runs.neq:=@Runs.neq
theorem ZY:type_of% @Tryz.zeroValue76:=@Tryz.zeroValue76
theorem ZZ:type_of% @wRO:=@wRO
theorem Za:type_of% @Runs.iaI:=@Runs.iaI
theorem Zb:type_of% @Tryz.sizeOf46:=@Tryz.sizeOf46
theorem Zc:type_of% @Tryz.runUnderlying180:=@Tryz.runUnderlying180
theorem Zd:type_of% @Tryz.sizeOf43:=@Tryz.sizeOf43
theorem Ze:type_of% @Tryz.runUnderlying47:=@Tryz.runUnderlying47
theorem Zf:type_of% @Tryz.runUnderlying182:=@Tryz.runUnderlying182
theorem Zg:type_of% @Tryz.sizeOf83:=@Tryz.sizeOf83
theorem Zh:type_of% @Tryz.runUnderlying41:=@Tryz.runUnderlying41
theorem Zi:type_of% @Tryz.runUnderlying165:=@Tryz.runUnderlying165
theorem Zj:type_of% @Tryz.zeroValue46:=@Tryz.zeroValue46
theorem Zk:type_of% @Tryz.sizeOf28:=@Tryz.sizeOf28
theorem Zl:type_of% @Tryz.sizeOf277:=@Tryz.sizeOf277
theorem Zm:type_of% @Tryz.sizeOf34:=@Tryz.sizeOf34
theorem Zn:type_of% @Tryz.underlying23:=@Tryz.underlying23
theorem Zo:type_of% @Tryz.runUnderlying44:=@Tryz.runUnderlying44
theorem Zp:type_of% @Tryz.runUnderlying177:=@Tryz.runUnderlying177
theorem Zq:type_of% @Tryz.sizeOf32:=@Tryz.sizeOf32
theorem Zr:type_of% @OKS.append:=@OKS.append
theorem Zs:type_of% @Tryz.runUnderlying59:=@Tryz.runUnderlying59
theorem Zt:type_of% @Tryz.runUnderlying85:=@Tryz.runUnderlying85
theorem Zu:type_of% @Tryz.runUnderlying130:=@Tryz.runUnderlying130
theorem Zv:type_of% @Tryz.isAgg83:=@Tryz.isAgg83
theorem Zw:type_of% @Tryz.sizeOf26:=@Tryz.sizeOf26
theorem Zx:type_of% @Tryz.sizeOf49:=@Tryz.sizeOf49
theorem Zy:type_of% @Runs.subw:=@Runs.subw
theorem Zz:type_of% @Tryz.runUnderlying70:=@Tryz.runUnderlying70
theorem yA:type_of% @Tryz.runUnderlying100:=@Tryz.runUnderlying100
theorem yB:type_of% @CK.forN:=@CK.forN
theorem yC:type_of% @Tryz.runUnderlying118:=@Tryz.runUnderlying118
theorem yD:type_of% @Tryz.sizeOf41:=@Tryz.sizeOf41
theorem yE:type_of% @Tryz.isAgg32:=@Tryz.isAgg32
theorem yF:type_of% @Tryz.isAgg76:=@Tryz.isAgg76
theorem yG:type_of% @Tryz.zeroValue43:=@Tryz.zeroValue43
theorem yH:type_of% @Tryz.zeroValue49:=@Tryz.zeroValue49
theorem yI:type_of% @Tryz.sizeOf85:=@Tryz.sizeOf85
theorem yJ:type_of% @Tryz.zeroValue277:=@Tryz.zeroValue277
theorem yK:type_of% @Tryz.runUnderlying79:=@Tryz.runUnderlying79
theorem yL:type_of% @CK.fresh:=@CK.fresh
theorem yM:type_of% @Tryz.sizeOf47:=@Tryz.sizeOf47
theorem yN:type_of% @Tryz.sizeOf4:=@Tryz.sizeOf4
theorem yO:type_of% @Tryz.isAgg26:=@Tryz.isAgg26
theorem yP:type_of% @Tryz.sizeOf177:=@Tryz.sizeOf177
theorem yQ:type_of% @Tryz.sizeOf81:=@Tryz.sizeOf81
theorem yS:type_of% @Tryz.isAgg25:=@Tryz.isAgg25
theorem yT:type_of% @Runs.gtr:=@Runs.gtr
theorem yU:type_of% @OKS.ra:=@OKS.ra
theorem yV:type_of% @Tryz.runUnderlying143:=@Tryz.runUnderlying143
theorem yW:type_of% @Tryz.runUnderlying278:=@Tryz.runUnderlying278
theorem yX:type_of% @Tryz.sizeOf70:=@Tryz.sizeOf70
theorem yY:type_of% @Tryz.isAgg177:=@Tryz.isAgg177
theorem yZ:type_of% @Tryz.sizeOf182:=@Tryz.sizeOf182
theorem ya:type_of% @Tryz.isAgg28:=@Tryz.isAgg28
theorem yb:type_of% @Tryz.runUnderlying81:=@Tryz.runUnderlying81
theorem yc:type_of% @Runs.eql:=@Runs.eql
theorem yd:type_of% @CK.cut:=@CK.cut
theorem ye:type_of% @Tryz.runUnderlying277:=@Tryz.runUnderlying277
theorem yf:type_of% @Tryz.call35:=@Tryz.call35
theorem yg:type_of% @OKS.callV:=@OKS.callV
theorem yh:type_of% @Tryz.isAgg34:=@Tryz.isAgg34
theorem yi:type_of% @Tryz.sizeOf118:=@Tryz.sizeOf118
theorem yj:type_of% @OKS.mx2:=@OKS.mx2
theorem yk:type_of% @Tryz.sizeOf214:=@Tryz.sizeOf214
theorem yl:type_of% @Tryz.zeroValue182:=@Tryz.zeroValue182
theorem ym:type_of% @Tryz.isAgg43:=@Tryz.isAgg43
theorem yn:type_of% @Runs.mkf:=@Runs.mkf
theorem yo:type_of% @Tryz.zeroValue70:=@Tryz.zeroValue70
theorem yp:type_of% @OKS.both:=@OKS.both
theorem yq:type_of% @Tryz.call27:=@Tryz.call27
theorem yr:type_of% @Tryz.sizeOf44:=@Tryz.sizeOf44
theorem yt:type_of% @Tryz.zeroValue4:=@Tryz.zeroValue4
theorem yu:type_of% @Tryz.runUnderlying3:=@Tryz.runUnderlying3
theorem yv:type_of% @Tryz.isAgg41:=@Tryz.isAgg41
theorem yw:type_of% @Tryz.sizeOf35:=@Tryz.sizeOf35
theorem yy:type_of% @Tryz.sizeOf78:=@Tryz.sizeOf78
theorem yz:type_of% @Tryz.sizeOf80:=@Tryz.sizeOf80
theorem YA:type_of% @Tryz.isAgg214:=@Tryz.isAgg214
theorem YB:type_of% @Tryz.zeroValue34:=@Tryz.zeroValue34
theorem YC:type_of% @Runs.iaA:=@Runs.iaA
theorem YD:type_of% @Tryz.zeroValue85:=@Tryz.zeroValue85
theorem YE:type_of% @Tryz.runUnderlying127:=@Tryz.runUnderlying127
theorem YF:type_of% @Tryz.runUnderlying158:=@Tryz.runUnderlying158
theorem YG:type_of% @Tryz.runUnderlying216:=@Tryz.runUnderlying216
theorem YH:type_of% @OKS.appendR:=@OKS.appendR
theorem YI:type_of% @Tryz.isAgg46:=@Tryz.isAgg46
theorem YJ:type_of% @Runs.geq:=@Runs.geq
theorem YK:type_of% @Tryz.isAgg49:=@Tryz.isAgg49
theorem YL:type_of% @Tryz.isAgg35:=@Tryz.isAgg35
theorem YM:type_of% @Tryz.runUnderlying78:=@Tryz.runUnderlying78
theorem YN:type_of% @Tryz.call200:=@Tryz.call200
theorem YO:type_of% @OKS.stR:=@OKS.stR
theorem YP:type_of% @Tryz.sizeOf92:=@Tryz.sizeOf92
theorem YQ:type_of% @Tryz.zeroValue23:=@Tryz.zeroValue23
theorem YR:type_of% @Tryz.sizeOf158:=@Tryz.sizeOf158
theorem YS:type_of% @Tryz.zeroValue92:=@Tryz.zeroValue92
theorem YT:type_of% @Tryz.isAgg47:=@Tryz.isAgg47
theorem YU:type_of% @Tryz.isAgg81:=@Tryz.isAgg81
theorem YV:type_of% @Tryz.isAgg136:=@Tryz.isAgg136
theorem YW:type_of% @Tryz.sizeOf79:=@Tryz.sizeOf79
theorem YX:type_of% @Tryz.isAgg277:=@Tryz.isAgg277
theorem YY:type_of% @Tryz.isAgg140:=@Tryz.isAgg140
theorem YZ:type_of% @Tryz.zeroValue222:=@Tryz.zeroValue222
theorem Ya:type_of% @Tryz.zeroValue28:=@Tryz.zeroValue28
theorem Yb:type_of% @Tryz.isAgg80:=@Tryz.isAgg80
theorem Yc:type_of% @Tryz.isAgg79:=@Tryz.isAgg79
theorem Ye:type_of% @Tryz.isAgg118:=@Tryz.isAgg118
set_option maxHeartbeats 4000000
theorem wGi (O:List Int) (aa:Option Addr) (ab:Nat) (w:World) (U:PHeap) (hS:St0 w U []) (ah:Sl U 1 aa ab O.length (hD KL.encB8 O)) {r:wAC} (hm:wCM O=some r):Gv Tryz.prog 7 [.slice aa O.length ab] w (wBD w [] U (fun U_ L_ v=>∃ (b0:Nat) (A0p0:Option Addr) (c0p0:Nat),v=.pointer (some ⟨b0,0,none⟩)/\L_=[.blk b0 100 [.slice A0p0 r.bytes.length c0p0,jV r.next,.int .u32 r.state]]/\Sl U_ 1 A0p0 c0p0 r.bytes.length (hD KL.encB8 r.bytes))):=by
 unfold wCM at hm
 refine Gv.of Tryz.func7 Z Tryz.ntmps7 Tryz.results7 Z (sR fL1 Z (oA Z Z (eN (sR gAy Z (oM Z Z ?_)))))
 let B0:List Value:=[.slice aa O.length ab,jV 0,.int .u32 17]
 refine zY rfl rfl rfl rfl (fun _=>zx (pv:=[(0,.slice aa O.length ab),(2,.int .u32 17)]) (z:=[.slice none 0 0,jV 0,.int .u32 0]) (cs:=B0) rfl (wAA rfl (wAA rfl wAI)) Tryz.zeroValue100 wOH rfl rfl) (ZH (cs:=B0) rfl rfl rfl rfl rfl rfl (by rfl) hS ?_)
 intro W1 b2 ag
 refine oA Z Z (eN (zP ?_))
 cases hm
 exact ⟨Z,_,(zz Z),U,_,ag,b2,aa,ab,Z,Z,ah⟩
theorem wAg (O:wAC) (af:Nat) (ab:Option Addr) (ac:Nat) (p1:Int) (w:World) (U:PHeap) (hS:St0 w U [.blk af 100 [.slice ab O.bytes.length ac,jV O.next,.int .u32 O.state]]) (ah:Sl U 1 ab ac O.bytes.length (hD KL.encB8 O.bytes)) {r:Int × wAC} (hm:wAQ O p1=some r):Gv Tryz.prog 27 [.pointer (some ⟨af,0,none⟩),jV p1] w (wBD w [.blk af 100 [.slice ab O.bytes.length ac,jV O.next,.int .u32 O.state]] U (fun U_ L_ v=>∃ (ax:Option Addr) (az:Nat),v=jV r.1/\L_=[.blk af 100 [.slice ax r.2.bytes.length az,jV r.2.next,.int .u32 r.2.state]]/\Sl U_ 1 ax az r.2.bytes.length (hD KL.encB8 r.2.bytes))):=by
 unfold wAQ at hm
 refine Gv.of Tryz.func27 Z Tryz.ntmps27 Tryz.results27 Z (sR fL1 Z (oA Z Z (eN (zI (sR wQB Z (oM Z Z (oR Z (Runs.leq Z Z Z) (oM Z Z ?_))))))))
 by_cases c2:p1 <= 1
 have a7:=hm;rw [if_pos c2] at a7;replace c2:=zH c2
 refine oT Z c2 (oT Z c2 (oT Z c2 (oT Z c2 (oT Z c2 (oT Z c2 (oR Z (zT Z (ZZ c2.out) Z) (eN (zy Z (sR fL1 Z (oA Z Z (eN (zP (zR ?_)))))))))))))
 cases a7
 exact ⟨Z,_,(zz Z),U,_,hS,ab,ac,Z,Z,ah⟩
 have a8:=hm;rw [if_neg c2] at a8;replace c2:=zH c2
 refine zj Z Z Z (wF Z c2) Z Z (rU Z (wF Z c2) (ZR Z Z) (rU Z (wF Z c2) (zF Z Z yA Z Tryz.sizeOf22) (ZB Z Z Z (wF Z c2) (hS.ldB (j:=0) Z Z Z Tryz.isAgg22 (v:=.slice ab O.bytes.length ac) Z) Z (rU Z (wF Z c2) (ze Z Z Tryz.runUnderlying22) (rU Z (wF Z c2) (yc Z Z Z) (oR Z (za Z (zt c2.out) Z) (eN (ifc a8 ?_ ?_))))))))
 intro c5 bD
 refine cT Z c5 (sR fL1 Z (oA Z Z (eN (zP (zR ?_)))))
 cases bD
 exact ⟨Z,_,(zz Z),U,_,hS,ab,ac,Z,Z,ah⟩
 intro c5 bE
 refine cF Z c5 (kN (zI (ZN ZD [3,3,3,1,3,3,3,1,3,3,3,1,3,3,3,1,3,3,3,3,1,3,3,3,1,3,3,3,3,3] fL30 (by kernel_rfl) ?_)))
 have ae:=hS.drew
 generalize hw_W9:({ w with drawn:=w.drawn + 1 }:World)=W9 at ae ⊢
 refine oM Z Z (oR Z (ZR Z Z) (oR Z (zF Z Z yA Z Tryz.sizeOf22) (oL Z (ae.ldB (j:=0) Z Z Z Tryz.isAgg22 (v:=.slice ab O.bytes.length ac) Z) (oM Z Z (oR Z (ZR Z Z) (oR Z (zF Z Z yA Z zC) (oL Z (ae.ldB (j:=0) Z Z Z zJ (v:=jV O.next) Z) (oM Z Z (oR Z (ZR Z Z) (oR Z (zF Z Z yA Z Tryz.sizeOf22) (oL Z (ae.ldB (j:=0) Z Z Z Tryz.isAgg22 (v:=.slice ab O.bytes.length ac) Z) (oR Z (ze Z Z Tryz.runUnderlying22) (bnK bE fun bJ be br=>oR Z (Runs.rem Z Z Z be) (bnK br fun ba aw bs=>?_))))))))))))))
 have q:=ah.el (fun _=>rfl) (wAV aw)
 obtain ⟨bH,bI,bm,bn⟩:=q
 refine oR Z (Za Z Z bm Z Tryz.runUnderlying22 Tryz.sizeOf5 (wCh aw) (wCs aw)) (oL Z (ae.ldC (f:=0) bn (v:=.int .u8 ba) Z Z Tryz.isAgg5 Z) (oR Z (Runs.cvu Z Z Tryz.runUnderlying5 Tryz.runUnderlying98 Z Z) (oM Z Z (oR Z (ZR Z Z) (oR Z (zF Z Z yA Z zC) (oL Z (ae.ldB (j:=0) Z Z Z zJ (v:=jV O.next) Z) (oM Z Z (oR Z (ZR Z Z) (oR Z (zF Z Z yA Z Tryz.sizeOf22) (oL Z (ae.ldB (j:=0) Z Z Z Tryz.isAgg22 (v:=.slice ab O.bytes.length ac) Z) (oR Z (ze Z Z Tryz.runUnderlying22) (bnK bs fun bF bf bt=>oR Z (Runs.quo Z Z Z bf) (oR Z (Runs.cvu Z Z yu Tryz.runUnderlying98 Z Z) (oA Z Z (oA Z Z (eN (zI (yL fun aq ak=>?_))))))))))))))))))
 have ai:aq 0=.pointer (some ⟨af,0,none⟩):=(ak 0).trans rfl
 have am:aq 1=jV p1:=(ak 1).trans rfl
 have an:aq 5=.int .u32 (wGc ba):=(ak 5).trans rfl
 have aY:aq 6=.int .u32 (wGc bF):=(ak 6).trans rfl
 clear ak
 refine rR (wNd (.fx 7 .nil .stop)) Z (oM Z ai (oR Z (ZR Z Z) (oR Z (zF Z Z yA Z zC) (oL Z (ae.ldB (j:=0) Z Z Z zJ (v:=jV O.next) Z) (oR Z (zX Z Z Z) (oR Z (ZR Z Z) (oR Z (zF Z Z yA Z zC) (zh (j:=0) (vs:=[jV (w64 (O.next + 1))]) Z Z Z Z ae Z Z Z Z zC (zA Z) Z Z Z ?_))))))))
 intro bb bp
 let B0:Res:=.blk af 100 [.slice ab O.bytes.length ac,jV O.next,.int .u32 O.state]
 have aZ:SW w [B0] U U [.blk af 100 [.slice ab O.bytes.length ac,jV (w64 (O.next + 1)),.int .u32 O.state]] bb:=bp
 refine eN (sR (wQC (.fx 15 .nil .stop)) Z (oM Z ai (oM Z ai (oR Z (ZR Z Z) (oR Z (zF Z Z yA Z Tryz.sizeOf98) (oL Z (aZ.ldB (j:=0) Z Z Z Tryz.isAgg98 (v:=.int .u32 O.state) Z) (oR Z (Runs.mulu Z Z Z) (oM Z an (oR Z (Runs.addu Z Z Z) (oM Z aY (oR Z (Runs.mulu Z Z Z) (oR Z (Runs.addu Z Z Z) (oR Z (Runs.addu Z Z Z) (bnK bt fun ap bg bu=>oR Z (Runs.rem Z Z Z bg) (oR Z (ZR Z Z) (oR Z (zF Z Z yA Z Tryz.sizeOf98) (zh (j:=0) (vs:=[.int .u32 ap]) Z Z Z Z aZ Z Z Z Z Tryz.sizeOf98 (zA Z) Z Z Z ?_)))))))))))))))))
 intro bd bq
 have aj:SW w [B0] U U [.blk af 100 [.slice ab O.bytes.length ac,jV (w64 (O.next + 1)),.int .u32 ap]] bd:=bq
 refine eN (zI (sR fL6 Z (oM Z aY (oR Z (yc Z Z Z) (oM Z Z (ifc bu ?_ ?_))))))
 intro ag bv
 refine zj Z Z Z (wT Z ag) Z am (rU Z (wT Z ag) (Runs.leq Z Z Z) (oR Z (zT Z (ZZ ag.out) Z) (eN (ifc bv ?_ ?_))))
 intro au bw
 refine cT Z au (sR fL5 Z (oM Z an (oR Z (Runs.cvw Z Z Tryz.runUnderlying98 yu Z Z) (oM Z am (bnK bw fun bK bh bx=>oR Z (Runs.rem Z Z Z bh) (oA Z Z (eN (zP (zR ?_)))))))))
 cases bx
 exact ⟨Z,_,(zz Z),U,_,aj,ab,ac,Z,Z,ah⟩
 intro au bz
 refine cF Z au (kN (sR wRx Z (oM Z ai (oR Z (ZR Z Z) (oR Z (zF Z Z yA Z Tryz.sizeOf98) (oL Z (aj.ldB (j:=0) Z Z Z Tryz.isAgg98 (v:=.int .u32 ap) Z) (oR Z (Runs.mulu Z Z Z) (oM Z an (oR Z (Runs.addu Z Z Z) (oR Z (Runs.cvw Z Z Tryz.runUnderlying98 yu Z Z) (oM Z am (bnK bz fun bL bi bA=>oR Z (Runs.rem Z Z Z bi) (oA Z Z (eN (zP ?_)))))))))))))))
 cases bA
 exact ⟨Z,_,(zz Z),U,_,aj,ab,ac,Z,Z,ah⟩
 intro ag bB
 refine oF Z ag (oF Z ag (oR Z (za Z (zt ag.out) Z) (eN (zn Z (kN (sR wRx Z (oM Z ai (oR Z (ZR Z Z) (oR Z (zF Z Z yA Z Tryz.sizeOf98) (oL Z (aj.ldB (j:=0) Z Z Z Tryz.isAgg98 (v:=.int .u32 ap) Z) (oR Z (Runs.mulu Z Z Z) (oM Z an (oR Z (Runs.addu Z Z Z) (oR Z (Runs.cvw Z Z Tryz.runUnderlying98 yu Z Z) (oM Z am (bnK bB fun bM bj bC=>oR Z (Runs.rem Z Z Z bj) (oA Z Z (eN (zP ?_)))))))))))))))))))
 cases bC
 exact ⟨Z,_,(zz Z),U,_,aj,ab,ac,Z,Z,ah⟩
theorem wAx (O:wAC) (aa:Nat) (ab:Option Addr) (ac:Nat) (p1:Int) (p2:Int) (w:World) (U:PHeap) (hS:St0 w U [.blk aa 100 [.slice ab O.bytes.length ac,jV O.next,.int .u32 O.state]]) (aw:Sl U 1 ab ac O.bytes.length (hD KL.encB8 O.bytes)) {r:Int × wAC} (hm:wAY O p1 p2=some r):Gv Tryz.prog 28 [.pointer (some ⟨aa,0,none⟩),jV p1,jV p2] w (wBD w [.blk aa 100 [.slice ab O.bytes.length ac,jV O.next,.int .u32 O.state]] U (fun U_ L_ v=>∃ (ai:Option Addr) (am:Nat),v=jV r.1/\L_=[.blk aa 100 [.slice ai r.2.bytes.length am,jV r.2.next,.int .u32 r.2.state]]/\Sl U_ 1 ai am r.2.bytes.length (hD KL.encB8 r.2.bytes))):=by
 unfold wAY at hm
 refine Gv.of Tryz.func28 Z Tryz.ntmps28 Tryz.results28 Z (sR fL1 Z (oA Z Z (eN (sR (wGx gAu) Z (oM Z Z (oM Z Z (oM Z Z (oM Z Z (oR Z (Zy Z Z Z) (oR Z (zX Z Z Z) ?_))))))))))
 have q:=bnd hm
 obtain ⟨⟨x2,x3⟩,h4,an⟩:=q
 try dsimp only at an
 refine zM 1 Z Z Z Z (zK Z Z yq (zD Z (zD Z zO)) Z) hS (fun hs=>wAg O aa ab ac (w64 ((w64 (p2 - p1)) + 1)) w U hs aw h4) (.inl Z) ?_
 rintro U6 L7 v8 W9 ay au ⟨ah,ak,rfl,rfl,ap⟩
 have av:SW w [.blk aa 100 [.slice ab O.bytes.length ac,jV O.next,.int .u32 O.state]] U U6 [.blk aa 100 [.slice ah x3.bytes.length ak,jV x3.next,.int .u32 x3.state]] W9:=au
 refine oR Z (zX Z Z Z) (oA Z Z (eN (zP ?_)))
 cases an
 exact ⟨Z,_,(zz Z),U6,_,av,ah,ak,Z,Z,ap⟩
theorem wHE (p0:wAC) (O:Nat) (ax:Option Addr) (ay:Nat) (p1:Int) (w:World) (U:PHeap) (hS:St0 w U [.blk O 100 [.slice ax p0.bytes.length ay,jV p0.next,.int .u32 p0.state]]) (d7:Sl U 1 ax ay p0.bytes.length (hD KL.encB8 p0.bytes)) {r:wAL × wAC} (hm:wBp p0 p1=some r):Gv Tryz.prog 26 [.pointer (some ⟨O,0,none⟩),jV p1] w (wBD w [.blk O 100 [.slice ax p0.bytes.length ay,jV p0.next,.int .u32 p0.state]] U (fun U_ L_ v=>∃ (bF:Option Addr) (cc:Nat) (bO:Option Addr) (cr:Nat),v=.agg #[.slice bF r.1.Classes.length cc,jV r.1.Each,jV r.1.Laps,jV r.1.Spare,jV r.1.Loop,jV r.1.Unused]/\L_=[.row bF cc 3 1 (hD KL.encI r.1.Classes),.blk O 100 [.slice bO r.2.bytes.length cr,jV r.2.next,.int .u32 r.2.state]]/\Sl U_ 1 bO cr r.2.bytes.length (hD KL.encB8 r.2.bytes))):=by
 unfold wBp at hm
 refine Gv.of Tryz.func26 Z Tryz.ntmps26 Tryz.results26 Z (sR (.fx 0 .nil .stop) Z ?_)
 let B0:List Value:=[.slice none 0 0,jV 0,jV 0,jV 0,jV 0,jV 0]
 refine zm (cs:=B0) Z Z Z Z Z Tryz.zeroValue25 Z hS ?_
 intro W2 b3 dM
 refine eN (sR (.fl 0 (.fx 1 (.fl 2 (.fx 3 (.fl 4 (.fx 5 (.fl 6 (.fx 7 (.fl 8 (.fl 9 (.fx 10 (.fl 11 (.fl 12 (.fx 13 (.fx 14 .nil .stop) .stop))) .stop))) .stop)) .stop)) .stop)) .stop)) Z (oM Z Z ?_))
 have q:=bnd hm
 obtain ⟨⟨x6,x7⟩,h8,cL⟩:=q
 try dsimp only at cL
 let B1:Res:=.blk O 100 [.slice ax p0.bytes.length ay,jV p0.next,.int .u32 p0.state]
 have dx:SW w [B1] U U [B1,.blk b3 25 B0] W2:=dM.pick [1,0] _ (by decide) rfl
 refine zM 1 Z Z Z Z (zK Z Z Tryz.call28 (zD Z (zD Z (zD Z zO))) Z) dx (fun hs=>wAx p0 O ax ay 1 2 W2 U hs d7 h8) (.inl Z) ?_
 rintro bQ ey eS bV eI dA ⟨bG,cg,rfl,rfl,dd⟩
 have dB:SW w [B1] U bQ [.blk O 100 [.slice bG x7.bytes.length cg,jV x7.next,.int .u32 x7.state],.blk b3 25 B0] bV:=dA
 refine oM Z Z ?_
 have q:=bnd cL
 obtain ⟨⟨ak,bf⟩,dh,cG⟩:=q
 try dsimp only at cG
 refine zM 1 Z Z Z Z (zK Z Z Tryz.call28 (zD Z (zD Z (zD Z zO))) Z) dB (fun hs=>wAx x7 O bG cg 1 3 bV bQ hs dd dh) (.inl Z) ?_
 rintro bR eA eU bY eK dK ⟨bJ,cm,rfl,rfl,dl⟩
 have dL:SW w [B1] U bR [.blk O 100 [.slice bJ bf.bytes.length cm,jV bf.next,.int .u32 bf.state],.blk b3 25 B0] bY:=dK
 refine oM Z Z ?_
 have q:=bnd cG
 obtain ⟨⟨am,bg⟩,dm,cH⟩:=q
 try dsimp only at cH
 refine zM 1 Z Z Z Z (zK Z Z yq (zD Z (zD Z zO)) Z) dL (fun hs=>wAg bf O bJ cm 100 bY bR hs dl dm) (.inl Z) ?_
 rintro bT eB eV bZ eM dN ⟨bK,cn,rfl,rfl,dn⟩
 have dO:SW w [B1] U bT [.blk O 100 [.slice bK bg.bytes.length cn,jV bg.next,.int .u32 bg.state],.blk b3 25 B0] bZ:=dN
 refine oM Z Z ?_
 have q:=bnd cH
 obtain ⟨⟨an,bh⟩,dp,cI⟩:=q
 try dsimp only at cI
 refine zM 1 Z Z Z Z (zK Z Z yq (zD Z (zD Z zO)) Z) dO (fun hs=>wAg bg O bK cn 100 bZ bT hs dn dp) (.inl Z) ?_
 rintro bU eC eW ca eO dP ⟨bL,co,rfl,rfl,dq⟩
 have dQ:SW w [B1] U bU [.blk O 100 [.slice bL bh.bytes.length co,jV bh.next,.int .u32 bh.state],.blk b3 25 B0] ca:=dP
 refine oR Z (zX Z Z Z) (oM Z Z ?_)
 have q:=bnd cI
 obtain ⟨⟨ap,bi⟩,dr,cJ⟩:=q
 try dsimp only at cJ
 refine zM 1 Z Z Z Z (zK Z Z yq (zD Z (zD Z zO)) Z) dQ (fun hs=>wAg bh O bL co 13 ca bU hs dq dr) (.inl Z) ?_
 rintro ba eD eX cW eQ dR ⟨bM,cp,rfl,rfl,dt⟩
 let B2:Res:=.blk O 100 [.slice bM bi.bytes.length cp,jV bi.next,.int .u32 bi.state]
 have dS:SW w [B1] U ba [B2,.blk b3 25 B0] cW:=dR
 refine oR Z (Runs.mulw Z Z Z) ?_
 let B3:List Value:=[.slice none 0 0,jV x6,jV ak,jV am,jV (w64 (200 + an)),jV (w64 (100 * ap))]
 refine oR Z (zx (pv:=[(1,jV x6),(2,jV ak),(3,jV am),(4,jV (w64 (200 + an))),(5,jV (w64 (100 * ap)))]) (z:=B0) (cs:=B3) Z (wAA Z (wAA Z (wAA Z (wAA Z (wAA Z wAI))))) Tryz.zeroValue25 wMi Z Z) (zm (cs:=B0) Z Z Z Z Z Tryz.zeroValue25 Z dS ?_)
 intro eG af dT
 refine zh (j:=0) (vs:=B3) Z Z Z Z dT Z Z Z Z ZO (zA Z) Z Z Z ?_
 intro bt dU
 have dV:SW w [B1] U ba [.blk af 25 B3,B2,.blk b3 25 B0] bt:=dU
 refine eN (zI (sR gAy Z (oM Z Z (oM Z Z ?_))))
 have q:=bnd cJ
 obtain ⟨⟨bm,bE⟩,dv,cK⟩:=q
 try dsimp only at cK
 have dW:SW w [B1] U ba [B2,.blk af 25 B3,.blk b3 25 B0] bt:=dV.pick [1,0,2] _ (by decide) rfl
 refine zM 1 Z Z Z Z (zK Z Z Tryz.call28 (zD Z (zD Z (zD Z zO))) Z) dW (fun hs=>wAx bi O bM cp 1 p1 bt ba hs dt dv) (.inl Z) ?_
 rintro bs eE eY cX eR dX ⟨bN,cq,rfl,rfl,dw⟩
 have dY:SW w [B1] U bs [.blk O 100 [.slice bN bE.bytes.length cq,jV bE.next,.int .u32 bE.state],.blk af 25 B3,.blk b3 25 B0] cX:=dX
 refine oM Z Z (eN (zU ?_))
 have q:=bnd cK
 obtain ⟨⟨er,eu,ew,cN⟩,d8,cD⟩:=q
 try dsimp only at cD
 have q:=wAn d8
 obtain ⟨bz,d9⟩:=q
 replace bz:=zH bz
 refine CK.forN' (fun av (aw,bB,bC,ag) σ_ w_=>∃ (U_:PHeap) (aY:Option Addr) (bb:Nat) (ah:Option Addr) (aj:Nat),σ_ 22=jV (↑av:Int)/\σ_ 0=.pointer (some ⟨O,0,none⟩)/\σ_ 4=.pointer (some ⟨b3,0,none⟩)/\σ_ 5=.pointer (some ⟨af,0,none⟩)/\σ_ 21=jV bm/\PHeap.Le bs U_/\SW w [B1] U U_ [.blk O 100 [.slice aY aw.length bb,jV bB,.int .u32 bC],.row ah aj 3 1 (hD KL.encI ag),.blk af 25 [.slice ah ag.length aj,jV x6,jV ak,jV am,jV (w64 (200 + an)),jV (w64 (100 * ap))],.blk b3 25 B0] w_/\Sl U_ 1 aY bb aw.length (hD KL.encB8 aw)) d9 ?_ ?_ ?_
 have dy:=dY.nilrow 3 1
 exact ⟨bs,bN,cq,none,0,rfl,rfl,rfl,rfl,rfl,(zL _),(dy.pick [1,0,2,3] _ (by decide) rfl),dw⟩
 rintro av ⟨aw,bB,bC,ag⟩ eZ e8 bW bx ⟨cO,aY,bb,ah,aj,cy,ct,c6,bv,cu,eo,dz,db⟩ cM
 try dsimp only at cM
 have cd:Hid ((↑av:Int) < bm):=zH (wAj bx)
 replace bx:=zH bx
 have eh:Hid (w64 ((↑av:Int) + 1)=(↑(av + 1):Int)):=zH (by have h1:=bz.out;have h2:=cd.out;rw [wAX] <;> omega)
 refine sR fL1 rfl (zY rfl rfl rfl rfl (fun _=>zW rfl cy cu) (eN (zI (cT Z cd (kN (zI (zU (ZN ZD [3,1004,3,1005,2,0,3,0,O] (wCK gBe) (by kernel_rfl) ?_))))))))
 have bw:=dz.drew
 generalize hw_W196:({ bW with drawn:=bW.drawn + 1 }:World)=cP at bw ⊢
 refine oR Z (zF Z bv ZA Z zS) ?_
 let B4:Res:=.blk af 25 [.slice ah ag.length aj,jV x6,jV ak,jV am,jV (w64 (200 + an)),jV (w64 (100 * ap))]
 let B5:Res:=.row ah aj 3 1 (hD KL.encI ag)
 refine OKS.mt (T:=[O]) [0] [1,2,3] [B5,B4,.blk b3 25 B0] rfl rfl rfl rfl bw rfl ⟨⟨0,by decide,_,rfl,rfl⟩,trivial⟩ (by decide) rfl (by decide) (fun _ dZ=>(dZ.ldB (j:=1) rfl rfl rfl zZ (v:=.slice ah ag.length aj) rfl)) rfl (zj rfl rfl rfl rfl rfl ct ?_)
 have q:=bnd cM
 obtain ⟨⟨az,bD⟩,de,cE⟩:=q
 try dsimp only at cE
 refine OKS.callHT 1 rfl rfl rfl rfl (zK rfl rfl yq (zD rfl (zD rfl zO)) rfl) bw (fun hs=>wAg (⟨aw,bB,bC⟩:wAC) O aY bb 2 cP cO hs db de) rfl (T:=[O]) rfl ⟨fun b h=>(by cases h;exact .head _),trivial⟩ ?_
 rintro au ez eT cQ ep dC ⟨bH,ci,rfl,rfl,df⟩
 let B6:Res:=.blk O 100 [.slice bH bD.bytes.length ci,jV bD.next,.int .u32 bD.state]
 have dD:SW w [B1] U au [B6,B5,B4,.blk b3 25 B0] cQ:=dC
 refine zb (pv:=[(0,jV az)]) (zs:=[jV 0]) (cs:=[jV az]) Z Z Z Z Z (wAA Z wAI) zB zC zw Z Z Z Z Z dD ?_
 intro cR cY dE
 let B7:Res:=.row (some ⟨cY,0,none⟩) 1 3 1 (hD KL.encI [az])
 have cz:SW w [B1] U au [B7,B6,B5,B4,.blk b3 25 B0] cR:=dE
 refine bnK cE fun be dg ej=>Zr (j:=2) (enc:=KL.encI) (xs:=ag) (ys:=[az]) (zs:=be) rfl rfl rfl rfl rfl Zn wFr rfl rfl rfl rfl rfl rfl cz rfl rfl rfl (cz.srcR (j:=0) rfl (by decide) (wAB (f:=KL.encI) (sz:=1) (fun _=>rfl) [az])) (fun _=>rfl) (fun _=>rfl) dg rfl ?_
 intro aZ bd cS dF
 let B8:Res:=.row aZ bd 3 1 (hD KL.encI be)
 have dG:SW w [B1] U au [B7,B6,B8,B4,.blk b3 25 B0] cS:=dF
 refine oR Z (zF Z bv ZA Z zS) (zh (j:=3) (vs:=[.slice aZ be.length bd]) Z Z Z Z dG Z Z Z Z zS (zA Z) Z Z Z ?_)
 intro cU dH
 have dI:SW w [B1] U au [B7,B6,B8,.blk af 25 [.slice aZ be.length bd,jV x6,jV ak,jV am,jV (w64 (200 + an)),jV (w64 (100 * ap))],.blk b3 25 B0] cU:=dH
 refine zg (zf (zG (rR fL2 Z (oR Z (zr (zX Z cy Z) (congrArg (jV) eh.out)) (oM Z Z (zg ?_))))))
 cases ej
 exact zG ⟨rfl,⟨au,bH,ci,aZ,bd,rfl,ct,c6,bv,cu,(eo.trans ep),(dI.pick [1,2,3,4] _ (by decide) rfl),df⟩⟩
 rintro e9 eF ⟨bS,bI,cj,bn,bu,da,eH,cw,c8,c9,eJ,cA,di⟩
 have cZ:Hid (¬ ((↑((bm:Int) - 0).toNat:Int) < bm)):=zH (wAc)
 refine sR fL1 Z (oR Z (zW Z da c9) (eN (zI (cF Z cZ (ZJ (zd (zd (ZG (zG (sR gAn Z ?_))))))))))
 let B9:List Value:=[.slice bn cN.length bu,jV x6,jV ak,jV am,jV (w64 (200 + an)),jV (w64 (100 * ap))]
 refine oL Z (cA.ldBA (j:=2) Z Z c8 yS ZO (vs:=B9) Z Z) (zh (j:=3) (vs:=B9) Z Z Z Z cA Z cw Z Z ZO (zA Z) Z Z Z ?_)
 intro cV dJ
 have cC:SW w [B1] U bS [.blk O 100 [.slice bI er.length cj,jV eu,.int .u32 ew],.row bn bu 3 1 (hD KL.encI cN),.blk af 25 B9,.blk b3 25 B9] cV:=dJ
 refine eN (zP ?_)
 cases cD
 exact ⟨rfl,_,(wFz (v:=.agg B9.toArray) ⟨⟨_,cw,(wBL yS ZO (cC.blkAt (k:=3) rfl) (vs:=B9) rfl rfl)⟩,trivial⟩),bS,_,(cC.pick [1,0] _ (by decide) rfl),bn,bu,bI,cj,rfl,rfl,di⟩
theorem wCD (O:wAC) (aa:Nat) (ab:Option Addr) (ac:Nat) (p1:Int) (w:World) (U:PHeap) (hS:St0 w U [.blk aa 100 [.slice ab O.bytes.length ac,jV O.next,.int .u32 O.state]]) (av:Sl U 1 ab ac O.bytes.length (hD KL.encB8 O.bytes)) {r:Bool × wAC} (hm:wAe O p1=some r):Gv Tryz.prog 22 [.pointer (some ⟨aa,0,none⟩),jV p1] w (wBD w [.blk aa 100 [.slice ab O.bytes.length ac,jV O.next,.int .u32 O.state]] U (fun U_ L_ v=>∃ (ah:Option Addr) (ak:Nat),v=.bool r.1/\L_=[.blk aa 100 [.slice ah r.2.bytes.length ak,jV r.2.next,.int .u32 r.2.state]]/\Sl U_ 1 ah ak r.2.bytes.length (hD KL.encB8 r.2.bytes))):=by
 unfold wAe at hm
 refine Gv.of Tryz.func22 Z Tryz.ntmps22 Tryz.results22 Z (sR fL1 Z (oA Z Z (eN (sR gBf Z (oM Z Z (oM Z Z ?_))))))
 have q:=bnd hm
 obtain ⟨⟨x2,x3⟩,h4,am⟩:=q
 try dsimp only at am
 refine zM 1 Z Z Z Z (zK Z Z yq (zD Z (zD Z zO)) Z) hS (fun hs=>wAg O aa ab ac p1 w U hs av h4) (.inl Z) ?_
 rintro U6 L7 v8 W9 ax aq ⟨ag,aj,rfl,rfl,ao⟩
 have au:SW w [.blk aa 100 [.slice ab O.bytes.length ac,jV O.next,.int .u32 O.state]] U U6 [.blk aa 100 [.slice ag x3.bytes.length aj,jV x3.next,.int .u32 x3.state]] W9:=aq
 refine oR Z (yc Z Z Z) (oA Z Z (eN (zP ?_)))
 cases am
 exact ⟨Z,_,(zz Z),U6,_,au,ag,aj,Z,Z,ao⟩
theorem wFT (p0:wAC) (ab:Nat) (av:Option Addr) (aw:Nat) (w:World) (U:PHeap) (hS:St0 w U [.blk ab 100 [.slice av p0.bytes.length aw,jV p0.next,.int .u32 p0.state]]) (cP:Sl U 1 av aw p0.bytes.length (hD KL.encB8 p0.bytes)) {r:(List Bool) × wAC} (hm:wBT p0=some r):Gv Tryz.prog 29 [.pointer (some ⟨ab,0,none⟩)] w (wBD w [.blk ab 100 [.slice av p0.bytes.length aw,jV p0.next,.int .u32 p0.state]] U (fun U_ L_ v=>∃ (A0:Option Addr) (c0:Nat) (bE:Option Addr) (bL:Nat),v=.slice A0 r.1.length c0/\L_=[.row A0 c0 4 1 (hD KL.encT r.1),.blk ab 100 [.slice bE r.2.bytes.length bL,jV r.2.next,.int .u32 r.2.state]]/\Sl U_ 1 bE bL r.2.bytes.length (hD KL.encB8 r.2.bytes))):=by
 unfold wBT at hm
 refine Gv.of Tryz.func29 Z Tryz.ntmps29 Tryz.results29 Z (sR fL1 Z (oA Z Z (eN (sR fL1 Z (oA Z Z (eN (zI (sR fL1 Z (oA Z Z (eN (zU ?_)))))))))))
 let B0:Res:=.blk ab 100 [.slice av p0.bytes.length aw,jV p0.next,.int .u32 p0.state]
 refine CK.iter (fun (ao,ba,bb,an,bB) σ_ w_=>∃ (U_:PHeap) (ai:Option Addr) (aj:Nat) (af:Option Addr) (ah:Nat),σ_ 0=.pointer (some ⟨ab,0,none⟩)/\σ_ 3=.slice af an.length ah/\σ_ 4=jV bB/\PHeap.Le U U_/\SW w [B0] U U_ [.blk ab 100 [.slice ai ao.length aj,jV ba,.int .u32 bb],.row af ah 4 1 (hD KL.encT an)] w_/\Sl U_ 1 ai aj ao.length (hD KL.encB8 ao)) hm ?_ ?_
 have cK:=hS.nilrow 4 1
 exact ⟨U,av,aw,none,0,rfl,rfl,rfl,(zL _),(cK.pick [1,0] _ (by decide) rfl),cP⟩
 rintro ⟨ao,ba,bb,an,bB⟩ dr dt bJ ⟨az,ai,aj,af,ah,ak,am,au,a7,aZ,aY⟩ bz bx
 try dsimp only at bz
 refine zI (sR (wRz (.fx 12 (wRC (.nil)) .stop)) Z (oM Z au (oR Z (zW Z Z Z) (oM Z Z ?_))))
 by_cases O:bB < 5
 have bX:=bz;rw [if_pos O] at bX;replace O:=zH O
 refine zj Z Z Z (wT Z O) Z am (rU Z (wT Z O) (ze Z Z Ze) (rU Z (wT Z O) (zW Z Z Z) (zj Z Z Z (wT Z O) Z Z (ifc bX ?_ ?_))))
 intro aa c9
 refine oT Z aa (oT Z aa (oT Z aa (oT Z aa (zk Z Z Z (wAd Z Z Z) (ZI Z Z Z (wAd Z Z Z) (zk Z Z Z (wAd Z Z Z) (oT Z aa (rU Z (wT Z O) (zT Z (ZZ aa.out) Z) (oR Z (zT Z (ZZ O.out) Z) (eN (zy Z (kN (zU (sR gBa Z (oM Z ak ?_)))))))))))))))
 have q:=bnd c9
 obtain ⟨⟨ay,bC⟩,cC,bY⟩:=q
 try dsimp only at bY
 refine zM 1 Z Z Z Z (zK Z Z Tryz.call22 (zD Z (zD Z zO)) Z) aZ (fun hs=>wCD (⟨ao,ba,bb⟩:wAC) ab ai aj 4 bJ az hs aY cC) (.inl Z) ?_
 rintro aq dl dp cn cc cL ⟨bg,bu,rfl,rfl,bO⟩
 let B1:Res:=.blk ab 100 [.slice bg bC.bytes.length bu,jV bC.next,.int .u32 bC.state]
 let B2:Res:=.row af ah 4 1 (hD KL.encT an)
 have cM:SW w [B0] U aq [B1,B2] cn:=cL
 refine oR Z (ZF Z Z) (oA Z Z (eN (sR gBg Z (oM Z am (oM Z Z (zb (pv:=[(0,.bool (!ay))]) (zs:=[.bool false]) (cs:=[.bool (!ay)]) Z Z Z Z Z (wAA Z wAI) Ze yN yt Z Z Z Z Z cM ?_))))))
 intro co cr cN
 let B3:Res:=.row (some ⟨cr,0,none⟩) 1 4 1 (hD KL.encT [!ay])
 have bS:SW w [B0] U aq [B3,B1,B2] co:=cN
 refine bnK bY fun cg cD da=>Zr (j:=2) (enc:=KL.encT) (xs:=an) (ys:=[!ay]) (zs:=cg) rfl rfl rfl rfl rfl Tryz.underlying47 wQW rfl rfl rfl rfl rfl rfl bS rfl rfl rfl (bS.srcR (j:=0) rfl (by decide) (wAB (f:=KL.encT) (sz:=1) (fun _=>rfl) [!ay])) (fun _=>rfl) (fun _=>rfl) cD rfl ?_
 intro bh bv cp cO
 have bT:SW w [B0] U aq [B3,B1,.row bh bv 4 1 (hD KL.encT cg)] cp:=cO
 refine oA Z Z (eN (sR fL1 Z (oM Z Z (eN (ifc da ?_ ?_)))))
 intro bw db
 refine zn (nC bw.out) (ZT (zf ?_))
 have q:=nA db
 obtain rfl:=q
 exact zG ⟨rfl,_,rfl,⟨aq,bg,bu,bh,bv,ak,rfl,au,(a7.trans cc),(bT.pick [1,2] _ (by decide) rfl),bO⟩⟩
 intro bw dd
 refine zy (nF (bw.out)) (rR fL3 Z (oM Z au (oR Z (zX Z Z Z) (oA Z Z (zg (zf ?_))))))
 have q:=nA dd
 obtain rfl:=q
 exact zG ⟨rfl,_,rfl,⟨aq,bg,bu,bh,bv,ak,rfl,rfl,(a7.trans cc),(bT.pick [1,2] _ (by decide) rfl),bO⟩⟩
 intro aa cQ
 refine zj Z Z Z (wF Z aa) Z am (rU Z (wF Z aa) (ze Z Z Ze) (rU Z (wF Z aa) (zW Z Z Z) (zj Z Z Z (wF Z aa) Z Z (ifc cQ ?_ ?_))))
 intro ae cR
 refine zj Z Z Z (wT Z ae) Z ak ?_
 have q:=bnd cR
 obtain ⟨⟨dq,a8⟩,cy,bU⟩:=q
 try dsimp only at bU
 refine zM 1 Z Z Z (wT Z ae) (zK Z Z Tryz.call22 (zD Z (zD Z zO)) Z) aZ (fun hs=>wCD (⟨ao,ba,bb⟩:wAC) ab ai aj 6 bJ az hs aY cy) (.inl Z) ?_
 rintro bn dh dm bI bZ cE ⟨bd,bp,rfl,rfl,bM⟩
 let B4:Res:=.row af ah 4 1 (hD KL.encT an)
 have bP:SW w [B0] U bn [.blk ab 100 [.slice bd a8.bytes.length bp,jV a8.next,.int .u32 a8.state],B4] bI:=cE
 refine rU Z (wT Z ae) (ZF Z Z) (rU Z (wF Z aa) (zT Z (ZZ ae.out) Z) (rU Z (wT Z O) (za Z (zt aa.out) Z) (oR Z (zT Z (ZZ O.out) Z) (eN (ifc bU ?_ ?_)))))
 intro bq cS
 refine zn (nC bq.out) (ZJ (zd ?_))
 have q:=wAb cS
 obtain ⟨de,cU,ct⟩:=q
 have q:=bx de ct
 obtain rfl:=q
 refine zd (ZG (zG (sR fL2 Z (oM Z am (oA Z Z (eN (zP ?_)))))))
 cases cU
 exact ⟨rfl,_,(zz rfl),bn,_,(bP.pick [1,0] _ (by decide) rfl),af,ah,bd,bp,rfl,rfl,bM⟩
 intro bq cV
 refine zy (nF (bq.out)) (kN (zU (sR gBa Z (oM Z ak ?_))))
 have q:=bnd cV
 obtain ⟨⟨ax,bA⟩,cz,bV⟩:=q
 try dsimp only at bV
 refine zM 1 Z Z Z Z (zK Z Z Tryz.call22 (zD Z (zD Z zO)) Z) bP (fun hs=>wCD a8 ab bd bp 4 bI bn hs bM cz) (.inl Z) ?_
 rintro ap di dn ci ca cG ⟨be,br,rfl,rfl,bN⟩
 let B5:Res:=.blk ab 100 [.slice be bA.bytes.length br,jV bA.next,.int .u32 bA.state]
 have cH:SW w [B0] U ap [B5,B4] ci:=cG
 refine oR Z (ZF Z Z) (oA Z Z (eN (sR gBg Z (oM Z am (oM Z Z (zb (pv:=[(0,.bool (!ax))]) (zs:=[.bool false]) (cs:=[.bool (!ax)]) Z Z Z Z Z (wAA Z wAI) Ze yN yt Z Z Z Z Z cH ?_))))))
 intro cj cq cI
 let B6:Res:=.row (some ⟨cq,0,none⟩) 1 4 1 (hD KL.encT [!ax])
 have bQ:SW w [B0] U ap [B6,B5,B4] cj:=cI
 refine bnK bV fun cd cA cW=>Zr (j:=2) (enc:=KL.encT) (xs:=an) (ys:=[!ax]) (zs:=cd) rfl rfl rfl rfl rfl Tryz.underlying47 wQW rfl rfl rfl rfl rfl rfl bQ rfl rfl rfl (bQ.srcR (j:=0) rfl (by decide) (wAB (f:=KL.encT) (sz:=1) (fun _=>rfl) [!ax])) (fun _=>rfl) (fun _=>rfl) cA rfl ?_
 intro bf bs cm cJ
 have bR:SW w [B0] U ap [B6,B5,.row bf bs 4 1 (hD KL.encT cd)] cm:=cJ
 refine oA Z Z (eN (sR fL1 Z (oM Z Z (eN (ifc cW ?_ ?_)))))
 intro bt cX
 refine zn (nC bt.out) (ZT (zf ?_))
 have q:=nA cX
 obtain rfl:=q
 exact zG ⟨rfl,_,rfl,⟨ap,be,br,bf,bs,ak,rfl,au,((a7.trans bZ).trans ca),(bR.pick [1,2] _ (by decide) rfl),bN⟩⟩
 intro bt cY
 refine zy (nF (bt.out)) (rR fL3 Z (oM Z au (oR Z (zX Z Z Z) (oA Z Z (zg (zf ?_))))))
 have q:=nA cY
 obtain rfl:=q
 exact zG ⟨rfl,_,rfl,⟨ap,be,br,bf,bs,ak,rfl,rfl,((a7.trans bZ).trans ca),(bR.pick [1,2] _ (by decide) rfl),bN⟩⟩
 intro ae cZ
 refine oF Z ae (ZI Z Z Z (zQ Z Z (zt ae.out) Z) (oF Z ae (rU Z (wF Z aa) (za Z (zt ae.out) Z) (rU Z (wT Z O) (za Z (zt aa.out) Z) (oR Z (zT Z (ZZ O.out) Z) (eN (zn Z (ZJ (zd ?_)))))))))
 have q:=wAb cZ
 obtain ⟨df,c6,cu⟩:=q
 have q:=bx df cu
 obtain rfl:=q
 refine zd (ZG (zG (sR fL2 Z (oM Z am (oA Z Z (eN (zP ?_)))))))
 cases c6
 exact ⟨rfl,_,(zz rfl),az,_,(aZ.pick [1,0] _ (by decide) rfl),af,ah,ai,aj,rfl,rfl,aY⟩
 have bW:=bz;rw [if_neg O] at bW;replace O:=zH O
 refine oF Z O (oF Z O (oF Z O (oF Z O (zk Z Z Z (wAd Z Z Z) (zk Z Z Z (wAd Z Z Z) (zk Z Z Z (wAd Z Z Z) (zk Z Z Z (wAd Z Z Z) (zk Z Z Z (wAd Z Z Z) (ZI Z Z Z (wAd Z Z Z) (zk Z Z Z (wAd Z Z Z) (zk Z Z Z (wAd Z Z Z) (oF Z O (oR Z (za Z (zt O.out) Z) (eN (zn Z (ZJ (zd ?_)))))))))))))))))
 have q:=wAb bW
 obtain ⟨dg,c8,cw⟩:=q
 have q:=bx dg cw
 obtain rfl:=q
 refine zd (ZG (zG (sR fL2 Z (oM Z am (oA Z Z (eN (zP ?_)))))))
 cases c8
 exact ⟨rfl,_,(zz rfl),az,_,(aZ.pick [1,0] _ (by decide) rfl),af,ah,ai,aj,rfl,rfl,aY⟩
theorem wHV (p0:wAC) (af:Nat) (ey:Option Addr) (ez:Nat) (p1:Int) (p2:Int) (w:World) (U:PHeap) (hS:St0 w U [.blk af 100 [.slice ey p0.bytes.length ez,jV p0.next,.int .u32 p0.state]]) (wo:Sl U 1 ey ez p0.bytes.length (hD KL.encB8 p0.bytes)) {r:wAZ × wAC} (hm:wCE p0 p1 p2=some r):Gv Tryz.prog 6 [.pointer (some ⟨af,0,none⟩),jV p1,jV p2] w (wBD w [.blk af 100 [.slice ey p0.bytes.length ez,jV p0.next,.int .u32 p0.state]] U (fun U_ L_ v=>∃ (jG:Option Addr) (lw:Nat) (jH:Option Addr) (lx:Nat) (lR:List Value) (jW:Option Addr) (lQ:Nat),v=.agg #[.slice jG r.1.Rules.Classes.length lw,jV r.1.Rules.Each,jV r.1.Rules.Laps,jV r.1.Rules.Spare,jV r.1.Rules.Loop,jV r.1.Rules.Unused,jV r.1.Start,.slice jH r.1.Teams.length lx]/\L_=[.row jG lw 3 1 (hD KL.encI r.1.Rules.Classes),.row jH lx 43 3 lR,.blk af 100 [.slice jW r.2.bytes.length lQ,jV r.2.next,.int .u32 r.2.state]]/\RlL U_ wHM r.1.Teams lR/\Sl U_ 1 jW lQ r.2.bytes.length (hD KL.encB8 r.2.bytes))):=by
 unfold wCE at hm
 refine Gv.of Tryz.func6 Z Tryz.ntmps6 Tryz.results6 Z (sR (.fx 0 .nil .stop) Z ?_)
 let B0:List Value:=[.slice none 0 0,jV 0,jV 0,jV 0,jV 0,jV 0,jV 0,.slice none 0 0]
 refine zm (cs:=B0) Z Z Z Z Z Ya Z hS ?_
 intro W2 O u7
 refine eN (sR (.fl 0 (.fl 1 (.fx 2 (.fl 3 gBb) .stop))) Z (oM Z Z (oM Z Z ?_)))
 have q:=bnd hm
 obtain ⟨⟨x6,x7⟩,h8,n5⟩:=q
 try dsimp only at n5
 let B1:Res:=.blk af 100 [.slice ey p0.bytes.length ez,jV p0.next,.int .u32 p0.state]
 have tv:SW w [B1] U U [B1,.blk O 28 B0] W2:=u7.pick [1,0] _ (by decide) rfl
 refine zM 1 Z Z Z Z (zK Z Z Tryz.call26 (zD Z (zD Z zO)) Z) tv (fun hs=>wHE p0 af ey ez p2 W2 U hs wo h8) (.inl Z) ?_
 rintro gO xN Al gS Af uF ⟨az,aY,jN,lG,rfl,rfl,r6⟩
 let B2:Res:=.row az aY 3 1 (hD KL.encI x6.Classes)
 let B3:Res:=.blk af 100 [.slice jN x7.bytes.length lG,jV x7.next,.int .u32 x7.state]
 have uK:SW w [B1] U gO [B2,B3,.blk O 28 B0] gS:=uF
 refine oM Z Z ?_
 have q:=bnd n5
 obtain ⟨⟨cy,gi⟩,r8,mV⟩:=q
 try dsimp only at mV
 have uM:SW w [B1] U gO [B3,B2,.blk O 28 B0] gS:=uK.pick [1,0,2] _ (by decide) rfl
 refine zM 1 Z Z Z Z (zK Z Z yq (zD Z (zD Z zO)) Z) uM (fun hs=>wAg x7 af jN lG 50 gS gO hs r6 r8) (.inl Z) ?_
 rintro eW xT Aq pD Ah uU ⟨jP,lJ,rfl,rfl,sf⟩
 let B4:Res:=.blk af 100 [.slice jP gi.bytes.length lJ,jV gi.next,.int .u32 gi.state]
 have uY:SW w [B1] U eW [B4,B2,.blk O 28 B0] pD:=uU
 let B5:List Value:=[.slice az x6.Classes.length aY,jV x6.Each,jV x6.Laps,jV x6.Spare,jV x6.Loop,jV x6.Unused,jV cy,.slice none 0 0]
 refine oR Z (zx (pv:=[(0,.agg #[.slice az x6.Classes.length aY,jV x6.Each,jV x6.Laps,jV x6.Spare,jV x6.Loop,jV x6.Unused]),(1,jV cy)]) (z:=B0) (cs:=B5) Z (wAA Z (wAA Z wAI)) Ya wMj Z Z) (zm (cs:=B0) Z Z Z Z Z Ya Z uY ?_)
 intro Ac a7 u9
 refine zh (j:=0) (vs:=B5) Z Z Z Z u9 Z Z Z Z Zk (zA Z) Z Z Z ?_
 intro gU va
 have vb:SW w [B1] U eW [.blk a7 28 B5,B4,B2,.blk O 28 B0] gU:=va
 refine eN (zI (sR gAy Z (oM Z Z (oM Z Z ?_))))
 have q:=bnd mV
 obtain ⟨⟨bA,jw⟩,sm,m7⟩:=q
 try dsimp only at m7
 have vi:SW w [B1] U eW [B4,.blk a7 28 B5,B2,.blk O 28 B0] gU:=vb.pick [1,0,2,3] _ (by decide) rfl
 refine zM 1 Z Z Z Z (zK Z Z Tryz.call28 (zD Z (zD Z (zD Z zO))) Z) vi (fun hs=>wAx gi af jP lJ 1 p1 gU eW hs sf sm) (.inl Z) ?_
 rintro gQ xY Aw pJ Ai vj ⟨jT,lN,rfl,rfl,sq⟩
 have vm:SW w [B1] U gQ [.blk af 100 [.slice jT jw.bytes.length lN,jV jw.next,.int .u32 jw.state],.blk a7 28 B5,B2,.blk O 28 B0] pJ:=vj
 refine oM Z Z (eN (zU ?_))
 have q:=bnd m7
 obtain ⟨⟨xE,xF,xG,xH⟩,wr,mK⟩:=q
 try dsimp only at mK
 have q:=wAn wr
 obtain ⟨iQ,wt⟩:=q
 replace iQ:=zH iQ
 refine CK.forN' (fun aj (ew,jD,jF,cg) σ_ w_=>∃ (U_:PHeap) (eK:Option Addr) (fd:Nat) (cm:Option Addr) (cr:Nat) (ff:List Value),σ_ 23=jV (↑aj:Int)/\σ_ 0=.pointer (some ⟨af,0,none⟩)/\σ_ 6=.pointer (some ⟨O,0,none⟩)/\σ_ 7=.pointer (some ⟨a7,0,none⟩)/\σ_ 22=jV bA/\PHeap.Le gQ U_/\SW w [B1] U U_ [.blk af 100 [.slice eK ew.length fd,jV jD,.int .u32 jF],.row az aY 3 1 (hD KL.encI x6.Classes),.row cm cr 43 3 ff,.blk a7 28 [.slice az x6.Classes.length aY,jV x6.Each,jV x6.Laps,jV x6.Spare,jV x6.Loop,jV x6.Unused,jV cy,.slice cm cg.length cr],.blk O 28 B0] w_/\Sl U_ 1 eK fd ew.length (hD KL.encB8 ew)/\RlL U_ wHM cg ff) wt ?_ ?_ ?_
 have tD:=vm.nilrow 43 3
 exact ⟨gQ,jT,lN,none,0,[],rfl,rfl,rfl,rfl,rfl,(zL _),(tD.pick [1,3,0,2,4] _ (by decide) rfl),sq,RlL.nil⟩
 rintro aj ⟨ew,jD,jF,cg⟩ AC AI oY iO ⟨oE,eK,fd,cm,cr,ff,iA,it,qu,qv,l3,om,tG,qU,ml⟩ oj
 try dsimp only at oj
 have lz:Hid ((↑aj:Int) < bA):=zH (wAj iO)
 replace iO:=zH iO
 have mJ:Hid (w64 ((↑aj:Int) + 1)=(↑(aj + 1):Int)):=zH (by have h1:=iQ.out;have h2:=lz.out;rw [wAX] <;> omega)
 refine sR fL1 Z (oR Z (zW Z iA l3) (eN (zI (cT Z lz (kN (zI (zU (sR fL2 Z (oM Z iA (oA Z Z (eN (sR (wCK (.fx 3 (.fl 4 gAv) .stop)) Z (oM Z Z (oR Z (Runs.mulw Z Z Z) (oM Z it ?_)))))))))))))))
 have q:=bnd oj
 obtain ⟨⟨au,gg⟩,qW,mQ⟩:=q
 try dsimp only at mQ
 refine zM 1 Z Z Z Z (zK Z Z Tryz.call28 (zD Z (zD Z (zD Z zO))) Z) tG (fun hs=>wAx (⟨ew,jD,jF⟩:wAC) af eK fd 1 9 oY oE hs qU qW) (.inl Z) ?_
 rintro eV xQ An o8 fI tZ ⟨jK,lC,rfl,rfl,ro⟩
 let B6:Res:=.blk a7 28 [.slice az x6.Classes.length aY,jV x6.Each,jV x6.Laps,jV x6.Spare,jV x6.Loop,jV x6.Unused,jV cy,.slice cm cg.length cr]
 let B7:Res:=.row cm cr 43 3 ff
 let B8:Res:=.blk af 100 [.slice jK gg.bytes.length lC,jV gg.next,.int .u32 gg.state]
 have uf:SW w [B1] U eV [B8,B2,B7,B6,.blk O 28 B0] o8:=tZ
 refine oR Z (zX Z Z Z) ?_
 let B9:List Value:=[jV 0,.slice none 0 0,.slice none 0 0]
 let du:List Value:=[jV (w64 ((w64 (9 * (↑aj:Int))) + au)),.slice none 0 0,.slice none 0 0]
 refine oR Z (zx (pv:=[(0,jV (w64 ((w64 (9 * (↑aj:Int))) + au)))]) (z:=B9) (cs:=du) Z (wAA Z wAI) yG wKY Z Z) (zm (cs:=B9) Z Z Z Z Z yG Z uf ?_)
 intro Aa ak ul
 refine zh (j:=0) (vs:=du) Z Z Z Z ul Z Z Z Z Zd (zA Z) Z Z Z ?_
 intro gT ur
 have ut:SW w [B1] U eV [.blk ak 43 du,B8,B2,B7,B6,.blk O 28 B0] gT:=ur
 refine eN (zI (sR gAw Z (oM Z it ?_)))
 have q:=bnd mQ
 obtain ⟨⟨gh,jl⟩,rK,mT⟩:=q
 try dsimp only at mT
 have uD:SW w [B1] U eV [B8,.blk ak 43 du,B2,B7,B6,.blk O 28 B0] gT:=ut.pick [1,0,2,3,4,5] _ (by decide) rfl
 refine zM 1 Z Z Z Z (zK Z Z Tryz.call28 (zD Z (zD Z (zD Z zO))) Z) uD (fun hs=>wAx gg af jK lC 1 5 gT eV hs ro rK) (.inl Z) ?_
 rintro gP xR Ao pq fP uG ⟨jM,lF,rfl,rfl,rZ⟩
 have uH:SW w [B1] U gP [.blk af 100 [.slice jM jl.bytes.length lF,jV jl.next,.int .u32 jl.state],.blk ak 43 du,B2,B7,B6,.blk O 28 B0] pq:=uG
 refine oM Z Z (eN (zU ?_))
 have q:=bnd mT
 obtain ⟨⟨xI,xJ,xK,am⟩,wu,mU⟩:=q
 try dsimp only at mU
 have q:=wAn wu
 obtain ⟨iR,wv⟩:=q
 replace iR:=zH iR
 refine CK.forN' (fun eo (er,jo,jp,cw) σ_ w_=>∃ (U_:PHeap) (eH:Option Addr) (e9:Nat) (cA:Option Addr) (cS:Nat),σ_ 34=jV (↑eo:Int)/\σ_ 0=.pointer (some ⟨af,0,none⟩)/\σ_ 6=.pointer (some ⟨O,0,none⟩)/\σ_ 7=.pointer (some ⟨a7,0,none⟩)/\σ_ 9=.pointer (some ⟨ak,0,none⟩)/\σ_ 22=jV bA/\σ_ 23=jV (↑aj:Int)/\σ_ 33=jV gh/\PHeap.Le gP U_/\SW w [B1] U U_ [.blk af 100 [.slice eH er.length e9,jV jo,.int .u32 jp],.row cA cS 3 1 (hD KL.encI cw),.blk ak 43 [jV (w64 ((w64 (9 * (↑aj:Int))) + au)),.slice cA cw.length cS,.slice none 0 0],B2,B7,B6,.blk O 28 B0] w_/\Sl U_ 1 eH e9 er.length (hD KL.encB8 er)) wv ?_ ?_ ?_
 have uI:=uH.nilrow 3 1
 exact ⟨gP,jM,lF,none,0,rfl,it,qu,qv,rfl,l3,iA,rfl,(zL _),(uI.pick [1,0,2,3,4,5,6] _ (by decide) rfl),rZ⟩
 rintro eo ⟨er,jo,jp,cw⟩ AE AM lh iP ⟨oK,eH,e9,cA,cS,mh,l5,qD,qE,iv,qF,qG,l6,xv,uJ,r7⟩ ol
 try dsimp only at ol
 have lH:Hid ((↑eo:Int) < gh):=zH (wAj iP)
 replace iP:=zH iP
 have ww:Hid (w64 ((↑eo:Int) + 1)=(↑(eo + 1):Int)):=zH (by have h1:=iR.out;have h2:=lH.out;rw [wAX] <;> omega)
 refine sR fL1 rfl (zY rfl rfl rfl rfl (fun _=>zW rfl mh l6) (eN (zI (cT Z lH (kN (zI (zU (ZN ZD [3,1004,3,1005,2,0,3,0,af] (wCK gBe) (by kernel_rfl) ?_))))))))
 have iJ:=uJ.drew
 generalize hw_W267:({ lh with drawn:=lh.drawn + 1 }:World)=pu at iJ ⊢
 refine oR Z (zF Z iv ZL Z zS) ?_
 let eM:Res:=.blk ak 43 [jV (w64 ((w64 (9 * (↑aj:Int))) + au)),.slice cA cw.length cS,.slice none 0 0]
 let gA:Res:=.row cA cS 3 1 (hD KL.encI cw)
 refine OKS.mt (T:=[af]) [0] [1,2,3,4,5,6] [gA,eM,B2,B7,B6,.blk O 28 B0] rfl rfl rfl rfl iJ rfl ⟨⟨0,by decide,_,rfl,rfl⟩,trivial⟩ (by decide) rfl (by decide) (fun _ wj=>(wj.ldB (j:=1) rfl rfl rfl zZ (v:=.slice cA cw.length cS) rfl)) rfl (zj rfl rfl rfl rfl rfl l5 ?_)
 have q:=bnd ol
 obtain ⟨⟨eC,jq⟩,r9,mW⟩:=q
 try dsimp only at mW
 refine OKS.callHT 1 rfl rfl rfl rfl (zK rfl rfl yq (zD rfl (zD rfl zO)) rfl) iJ (fun hs=>wAg (⟨er,jo,jp⟩:wAC) af eH e9 2 pu oK hs r7 r9) rfl (T:=[af]) rfl ⟨fun b h=>(by cases h;exact .head _),trivial⟩ ?_
 rintro dJ xS Ap py xw uL ⟨jO,lI,rfl,rfl,sa⟩
 let eO:Res:=.blk af 100 [.slice jO jq.bytes.length lI,jV jq.next,.int .u32 jq.state]
 have uN:SW w [B1] U dJ [eO,gA,eM,B2,B7,B6,.blk O 28 B0] py:=uL
 refine zb (pv:=[(0,jV eC)]) (zs:=[jV 0]) (cs:=[jV eC]) Z Z Z Z Z (wAA Z wAI) zB zC zw Z Z Z Z Z uN ?_
 intro pz qc uO
 let gB:Res:=.row (some ⟨qc,0,none⟩) 1 3 1 (hD KL.encI [eC])
 have mz:SW w [B1] U dJ [gB,eO,gA,eM,B2,B7,B6,.blk O 28 B0] pz:=uO
 refine bnK mW fun gj sb wM=>Zr (j:=2) (enc:=KL.encI) (xs:=cw) (ys:=[eC]) (zs:=gj) rfl rfl rfl rfl rfl Zn wFr rfl rfl rfl rfl rfl rfl mz rfl rfl rfl (mz.srcR (j:=0) rfl (by decide) (wAB (f:=KL.encI) (sz:=1) (fun _=>rfl) [eC])) (fun _=>rfl) (fun _=>rfl) sb rfl ?_
 intro eI fb pB uP
 let jX:Res:=.row eI fb 3 1 (hD KL.encI gj)
 have uQ:SW w [B1] U dJ [gB,eO,jX,eM,B2,B7,B6,.blk O 28 B0] pB:=uP
 refine oR Z (zF Z iv ZL Z zS) (zh (j:=3) (vs:=[.slice eI gj.length fb]) Z Z Z Z uQ Z Z Z Z zS (zA Z) Z Z Z ?_)
 intro pC uR
 have uS:SW w [B1] U dJ [gB,eO,jX,.blk ak 43 [jV (w64 ((w64 (9 * (↑aj:Int))) + au)),.slice eI gj.length fb,.slice none 0 0],B2,B7,B6,.blk O 28 B0] pC:=uR
 refine zg (zf (zG (rR fL2 Z (oR Z (zr (zX Z mh Z) (congrArg (jV) ww.out)) (oM Z Z (zg ?_))))))
 cases wM
 exact zG ⟨rfl,⟨dJ,jO,lI,eI,fb,rfl,l5,qD,qE,iv,qF,qG,l6,(xv.trans xw),(uS.pick [1,2,3,4,5,6,7] _ (by decide) rfl),sa⟩⟩
 rintro AN li ⟨oO,oD,qk,an,aq,qP,d8,l7,ft,l8,ma,mb,qH,fQ,uT,sc⟩
 have qm:Hid (¬ ((↑((gh:Int) - 0).toNat:Int) < gh)):=zH (wAc)
 refine sR fL1 rfl (zY rfl rfl rfl rfl (fun _=>zW rfl qP qH) (eN (zI (cF Z qm (ZJ (zd (zd (ZG (zG (zI (ZN ZD [3,1005,3,3,1004,3,3,3,1004,3,3,3,af] (.fl 0 (fC2_9 (.fx 1 (.fl 10 (.fl 11 .nil)) .stop))) (by kernel_rfl) ?_)))))))))))
 have fC:=uT.drew
 generalize hw_W352:({ li with drawn:=li.drawn + 1 }:World)=pE at fC ⊢
 refine oM Z d8 (oR Z (zF Z ft zo Z ZO) (oR Z (zF Z Z ZA Z zS) ?_))
 let ai:Res:=.row an aq 3 1 (hD KL.encI am)
 let dv:Res:=.blk ak 43 [jV (w64 ((w64 (9 * (↑aj:Int))) + au)),.slice an am.length aq,.slice none 0 0]
 refine OKS.mt (T:=[af]) [0] [1,2,3,4,5,6] [ai,dv,B2,B7,B6,.blk O 28 B0] rfl rfl rfl rfl fC rfl ⟨⟨0,by decide,_,rfl,rfl⟩,trivial⟩ (by decide) rfl (by decide) (fun _ wk=>(wk.ldB (j:=4) rfl rfl rfl zZ (v:=.slice az x6.Classes.length aY) rfl)) rfl (zY rfl rfl rfl rfl (fun _=>ze rfl rfl zB) (zY rfl rfl rfl rfl (fun _=>zF rfl ft zo rfl ZO) (zY rfl rfl rfl rfl (fun _=>zF rfl rfl ZA rfl zC) (OKS.mt (T:=[af]) [0] [1,2,3,4,5,6] [ai,dv,B2,B7,B6,.blk O 28 B0] rfl rfl rfl rfl fC rfl ⟨⟨0,by decide,_,rfl,rfl⟩,trivial⟩ (by decide) rfl (by decide) (fun _ wl=>(wl.ldB (j:=4) rfl rfl rfl zJ (v:=jV x6.Laps) rfl)) rfl (zY rfl rfl rfl rfl (fun _=>Runs.mulw rfl rfl rfl) ?_)))))
 have q:=bnd mU
 obtain ⟨⟨bi,gm⟩,sd,mX⟩:=q
 try dsimp only at mX
 refine OKS.callHT 1 rfl rfl rfl rfl (zK rfl rfl Tryz.call28 (zD rfl (zD rfl (zD rfl zO))) rfl) fC (fun hs=>wAx (⟨xI,xJ,xK⟩:wAC) af oD qk 300 900 pE oO hs sc sd) rfl (T:=[af]) rfl ⟨fun b h=>(by cases h;exact .head _),trivial⟩ ?_
 rintro j9 xU Ar lj fR uV ⟨jQ,lK,rfl,rfl,se⟩
 have uW:SW w [B1] U j9 [.blk af 100 [.slice jQ gm.bytes.length lK,jV gm.next,.int .u32 gm.state],ai,dv,B2,B7,B6,.blk O 28 B0] lj:=uV
 refine oA Z Z (oA Z Z (eN (zI (sR gAn Z (oM Z d8 ?_)))))
 have q:=bnd mX
 obtain ⟨⟨Az,gq⟩,sg,mY⟩:=q
 try dsimp only at mY
 refine zM 1 Z Z Z Z (zK Z Z Tryz.call22 (zD Z (zD Z zO)) Z) uW (fun hs=>wCD gm af jQ lK 4 lj j9 hs se sg) (.inl Z) ?_
 rintro dK xV As lk fS uX ⟨gy,g8,rfl,rfl,mm⟩
 have mA:SW w [B1] U dK [.blk af 100 [.slice gy gq.bytes.length g8,jV gq.next,.int .u32 gq.state],ai,dv,B2,B7,B6,.blk O 28 B0] lk:=uX
 refine eN (ifc mY ?_ ?_)
 intro g9 wN
 refine zy (congrArg nB g9.out) (rR (wCK gAo) Z (oM Z d8 (oM Z Z (oR Z (zX Z Z Z) ?_))))
 have q:=bnd wN
 obtain ⟨⟨AA,jr⟩,sh,mZ⟩:=q
 try dsimp only at mZ
 refine zM 1 Z Z Z Z (zK Z Z yq (zD Z (zD Z zO)) Z) mA (fun hs=>wAg gq af gy g8 (w64 ((w64 ((↑x6.Classes.length:Int) * x6.Laps)) + 1)) lk dK hs mm sh) (.inl Z) ?_
 rintro eX xW Au pF ot uZ ⟨jR,lL,rfl,rfl,sj⟩
 have u0:SW w [B1] U eX [.blk af 100 [.slice jR jr.bytes.length lL,jV jr.next,.int .u32 jr.state],ai,dv,B2,B7,B6,.blk O 28 B0] pF:=uZ
 refine oA Z Z (eN ?_)
 have q:=bnd mZ
 obtain ⟨⟨fD,ox,oy,cZ⟩,xt,m4⟩:=q
 try dsimp only at m4
 refine yd (fun σ_ w_=>∃ (U_:PHeap) (dl:Option Addr) (dP:Nat) (cC:Option Addr) (cU:Nat) (fg:List Value),σ_ 0=.pointer (some ⟨af,0,none⟩)/\σ_ 6=.pointer (some ⟨O,0,none⟩)/\σ_ 7=.pointer (some ⟨a7,0,none⟩)/\σ_ 9=.pointer (some ⟨ak,0,none⟩)/\σ_ 22=jV bA/\σ_ 23=jV (↑aj:Int)/\PHeap.Le eX U_/\SW w [B1] U U_ [.blk af 100 [.slice dl fD.length dP,jV ox,.int .u32 oy],.row an aq 3 1 (hD KL.encI am),.row cC cU 46 3 fg,.blk ak 43 [jV (w64 ((w64 (9 * (↑aj:Int))) + au)),.slice an am.length aq,.slice cC cZ.length cU],.row az aY 3 1 (hD KL.encI x6.Classes),B7,B6,.blk O 28 B0] w_/\Sl U_ 1 dl dP fD.length (hD KL.encB8 fD)/\RlL U_ wHD cZ fg) ?_ ?_
 refine zU (CK.iter (fun (eu,jt,ju,cc,jv) σ_ w_=>∃ (U_:PHeap) (dm:Option Addr) (dQ:Nat) (bO:Option Addr) (bR:Nat) (dX:List Value),σ_ 0=.pointer (some ⟨af,0,none⟩)/\σ_ 6=.pointer (some ⟨O,0,none⟩)/\σ_ 7=.pointer (some ⟨a7,0,none⟩)/\σ_ 9=.pointer (some ⟨ak,0,none⟩)/\σ_ 10=jV bi/\σ_ 11=jV jv/\σ_ 22=jV bA/\σ_ 23=jV (↑aj:Int)/\PHeap.Le eX U_/\SW w [B1] U U_ [.blk af 100 [.slice dm eu.length dQ,jV jt,.int .u32 ju],.row an aq 3 1 (hD KL.encI am),.row bO bR 46 3 dX,.blk ak 43 [jV (w64 ((w64 (9 * (↑aj:Int))) + au)),.slice an am.length aq,.slice bO cc.length bR],.row az aY 3 1 (hD KL.encI x6.Classes),B7,B6,.blk O 28 B0] w_/\Sl U_ 1 dm dQ eu.length (hD KL.encB8 eu)/\RlL U_ wHD cc dX) xt ?_ ?_)
 have vc:=u0.nilrow 46 3
 exact ⟨eX,jR,lL,none,0,[],d8,l7,ft,l8,rfl,rfl,ma,mb,(zL _),(vc.pick [1,2,0,3,4,5,6,7] _ (by decide) rfl),sj,RlL.nil⟩
 rintro ⟨eu,jt,ju,cc,jv⟩ AF AO pG ⟨k5,dm,dQ,bO,bR,dX,iw,mc,md,iy,qI,me,mf,mg,iY,iK,mn,iD⟩ iU wq
 try dsimp only at iU
 refine zI (sR fL2 Z (oM Z me (oR Z (yT Z Z Z) (eN ?_))))
 by_cases bS:0 < jv
 have m5:=iU;rw [if_pos bS] at m5;replace bS:=zH bS
 refine cT Z bS (kN (zU (sR (wEL gBb) Z (oM Z iw (oR Z (zF Z iy ZL Z zS) (oL Z (iK.ldB (j:=3) Z Z Z zZ (v:=.slice an am.length aq) Z) (oR Z (ze Z Z zB) ?_)))))))
 have q:=bnd m5
 obtain ⟨⟨bj,jx⟩,sn,m6⟩:=q
 try dsimp only at m6
 refine zM 1 Z Z Z Z (zK Z Z yq (zD Z (zD Z zO)) Z) iK (fun hs=>wAg (⟨eu,jt,ju⟩:wAC) af dm dQ (↑am.length:Int) pG k5 hs mn sn) (.inl Z) ?_
 rintro eY xX Av pH fT vd ⟨jS,lM,rfl,rfl,so⟩
 let ao:Res:=.blk ak 43 [jV (w64 ((w64 (9 * (↑aj:Int))) + au)),.slice an am.length aq,.slice bO cc.length bR]
 let av:Res:=.row bO bR 46 3 dX
 let jY:Res:=.blk af 100 [.slice jS jx.bytes.length lM,jV jx.next,.int .u32 jx.state]
 have ve:SW w [B1] U eY [jY,ai,av,ao,B2,B7,B6,.blk O 28 B0] pH:=vd
 let gC:List Value:=[jV bj,.slice none 0 0,.slice none 0 0]
 refine oR Z (zx (pv:=[(0,jV bj)]) (z:=B9) (cs:=gC) Z (wAA Z wAI) Zj wGy Z Z) (zm (cs:=B9) Z Z Z Z Z Zj Z ve ?_)
 intro Ad a8 vf
 refine zh (j:=0) (vs:=gC) Z Z Z Z vf Z Z Z Z Zb (zA Z) Z Z Z ?_
 intro pI vg
 have vh:SW w [B1] U eY [.blk a8 46 gC,jY,ai,av,ao,B2,B7,B6,.blk O 28 B0] pI:=vg
 refine eN (zI (sR fL1 Z (oA Z Z (eN (zU (CK.iter (fun (ay,bb,cd,dd,de,oz,jy) σ_ w_=>∃ (U_:PHeap) (bC:Option Addr) (bG:Nat) (be:Option Addr) (bg:Nat) (cu:List Value) (bI:Option Addr) (bM:Nat),σ_ 0=.pointer (some ⟨af,0,none⟩)/\σ_ 6=.pointer (some ⟨O,0,none⟩)/\σ_ 7=.pointer (some ⟨a7,0,none⟩)/\σ_ 9=.pointer (some ⟨ak,0,none⟩)/\σ_ 10=jV bi/\σ_ 11=jV oz/\σ_ 12=.pointer (some ⟨a8,0,none⟩)/\σ_ 13=jV jy/\σ_ 22=jV bA/\σ_ 23=jV (↑aj:Int)/\PHeap.Le eY U_/\SW w [B1] U U_ [.row bC bG 3 1 (hD KL.encI ay),.row be bg 47 1 cu,.blk a8 46 [jV bj,.slice bC ay.length bG,.slice be bb.length bg],.blk af 100 [.slice bI cd.length bM,jV dd,.int .u32 de],.row an aq 3 1 (hD KL.encI am),av,ao,.row az aY 3 1 (hD KL.encI x6.Classes),B7,B6,.blk O 28 B0] w_/\RlL U_ wHL bb cu/\Sl U_ 1 bI bM cd.length (hD KL.encB8 cd)) m6 ?_ ?_))))))
 have vk:=vh.nilrow 3 1
 have vl:=vk.nilrow 47 1
 exact ⟨eY,none,0,none,0,[],jS,lM,iw,mc,md,iy,qI,me,rfl,rfl,mf,mg,(zL _),(vl.pick [1,0,2,3,4,5,6,7,8,9,10] _ (by decide) rfl),RlL.nil,so⟩
 rintro ⟨ay,bb,cd,dd,de,oz,jy⟩ AG AP cQ ⟨k6,bC,bG,be,bg,cu,bI,bM,cY,fu,d9,bV,eh,ej,bW,fw,fy,fz,c9,bY,fB,iE⟩ iV mI
 try dsimp only at iV
 refine zI (sR fL9 Z (oM Z fw (oR Z (zF Z d9 zo Z ZO) (oR Z (zF Z Z ZA Z zC) (oL Z (bY.ldB (j:=9) Z Z Z zJ (v:=jV x6.Laps) Z) (oR Z (zW Z Z Z) (oM Z Z ?_)))))))
 by_cases bq:jy < x6.Laps
 have m8:=iV;rw [if_pos bq] at m8;replace bq:=zH bq
 refine zj Z Z Z (wT Z bq) Z ej (rU Z (wT Z bq) (yT Z Z Z) (oR Z (zT Z (ZZ bq.out) Z) (eN (ifc m8 ?_ ?_))))
 intro ib wO
 refine cT Z ib (kN (zI (zU (zI (ZN ZD [3,1004,3,3,1005,3,2,0,3,0,af] (wEL gBh) (by kernel_rfl) ?_)))))
 have iL:=bY.drew
 generalize hw_W645:({ cQ with drawn:=cQ.drawn + 1 }:World)=ll at iL ⊢
 refine oR Z (zF Z bW ZU Z zS) ?_
 let dw:Res:=.blk a8 46 [jV bj,.slice bC ay.length bG,.slice be bb.length bg]
 let br:Res:=.row be bg 47 1 cu
 let eQ:Res:=.row bC bG 3 1 (hD KL.encI ay)
 refine OKS.mt (T:=[af]) [3] [0,1,2,4,5,6,7,8,9,10] [eQ,br,dw,ai,av,ao,B2,B7,B6,.blk O 28 B0] rfl rfl rfl rfl iL rfl ⟨⟨3,by decide,_,rfl,rfl⟩,trivial⟩ (by decide) rfl (by decide) (fun _ wm=>(wm.ldB (j:=2) rfl rfl rfl zZ (v:=.slice bC ay.length bG) rfl)) rfl (zj rfl rfl rfl rfl rfl eh (zj rfl rfl rfl rfl rfl cY ?_))
 have q:=bnd wO
 obtain ⟨⟨eD,gu⟩,su,m9⟩:=q
 try dsimp only at m9
 have vn:SW w [B1] U k6 [.blk af 100 [.slice bI cd.length bM,jV dd,.int .u32 de],eQ,br,dw,ai,av,ao,B2,B7,B6,.blk O 28 B0] ll:=iL.pick [3,0,1,2,4,5,6,7,8,9,10] _ (by decide) rfl
 refine OKS.callHT 1 rfl rfl rfl rfl (zK rfl rfl yq (zD rfl (zD rfl zO)) rfl) vn (fun hs=>wAg (⟨cd,dd,de⟩:wAC) af bI bM 200 ll k6 hs iE su) rfl (T:=[af]) rfl ⟨fun b h=>(by cases h;exact .head _),trivial⟩ ?_
 rintro cq xZ Ax pK fU vo ⟨gz,ic,rfl,rfl,mo⟩
 let dx:Res:=.blk af 100 [.slice gz gu.bytes.length ic,jV gu.next,.int .u32 gu.state]
 have vp:SW w [B1] U cq [dx,eQ,br,dw,ai,av,ao,B2,B7,B6,.blk O 28 B0] pK:=vo
 refine oR Z (zX Z Z Z) (zb (pv:=[(0,jV (w64 (bi + eD)))]) (zs:=[jV 0]) (cs:=[jV (w64 (bi + eD))]) Z Z Z Z Z (wAA Z wAI) zB zC zw Z Z Z Z Z vp ?_)
 intro pL qd vq
 let bD:Res:=.row (some ⟨qd,0,none⟩) 1 3 1 (hD KL.encI [w64 (bi + eD)])
 have mB:SW w [B1] U cq [bD,dx,eQ,br,dw,ai,av,ao,B2,B7,B6,.blk O 28 B0] pL:=vq
 refine bnK m9 fun eE sv wP=>Zr (j:=2) (enc:=KL.encI) (xs:=ay) (ys:=[w64 (bi + eD)]) (zs:=eE) rfl rfl rfl rfl rfl Zn wFr rfl rfl rfl rfl rfl rfl mB rfl rfl rfl (mB.srcR (j:=0) rfl (by decide) (wAB (f:=KL.encI) (sz:=1) (fun _=>rfl) [w64 (bi + eD)])) (fun _=>rfl) (fun _=>rfl) sv rfl ?_
 intro cD cV pM vr
 let bJ:Res:=.row cD cV 3 1 (hD KL.encI eE)
 have vt:SW w [B1] U cq [bD,dx,bJ,br,dw,ai,av,ao,B2,B7,B6,.blk O 28 B0] pM:=vr
 refine oR Z (zF Z bW ZU Z zS) (zh (j:=4) (vs:=[.slice cD eE.length cV]) Z Z Z Z vt Z Z Z Z zS (zA Z) Z Z Z ?_)
 intro gV vu
 let cn:Res:=.blk a8 46 [jV bj,.slice cD eE.length cV,.slice be bb.length bg]
 have mC:SW w [B1] U cq [bD,dx,bJ,br,cn,ai,av,ao,B2,B7,B6,.blk O 28 B0] gV:=vu
 refine eN (zI (sR fL2 Z (oM Z fw (oR Z (yT Z Z Z) (eN (ifc wP ?_ ?_))))))
 intro ie wQ
 refine cT Z ie (ZN ZD [3,1004,3,1005,2,0,3,0,af] (wCK gBe) (by kernel_rfl) ?_)
 have iM:=mC.drew
 generalize hw_W727:({ gV with drawn:=gV.drawn + 1 }:World)=lm at iM ⊢
 refine zY rfl rfl rfl rfl (fun _=>zF rfl bW ZU rfl yr) (OKS.mt (T:=[af]) [1] [0,2,3,4,5,6,7,8,9,10,11] [bD,bJ,br,cn,ai,av,ao,B2,B7,B6,.blk O 28 B0] rfl rfl rfl rfl iM rfl ⟨⟨1,by decide,_,rfl,rfl⟩,trivial⟩ (by decide) rfl (by decide) (fun _ wn=>(wn.ldB (j:=3) rfl rfl rfl Tryz.isAgg44 (v:=.slice be bb.length bg) rfl)) rfl (zj rfl rfl rfl rfl rfl cY ?_))
 have q:=bnd wQ
 obtain ⟨⟨cj,jz⟩,sw,n3⟩:=q
 try dsimp only at n3
 have vv:SW w [B1] U cq [dx,bD,bJ,br,cn,ai,av,ao,B2,B7,B6,.blk O 28 B0] lm:=iM.pick [1,0,2,3,4,5,6,7,8,9,10,11] _ (by decide) rfl
 refine OKS.callHT 1 rfl rfl rfl rfl (zK rfl rfl Tryz.call29 (zD rfl zO) rfl) vv (fun hs=>wFT gu af gz ic lm cq hs mo sw) rfl (T:=[af]) rfl ⟨fun b h=>(by cases h;exact .head _),trivial⟩ ?_
 rintro oP x8 Ay lq ou vw ⟨eJ,fc,jU,lO,rfl,rfl,sA⟩
 let dy:Res:=.blk af 100 [.slice jU jz.bytes.length lO,jV jz.next,.int .u32 jz.state]
 have vx:SW w [B1] U oP [.row eJ fc 4 1 (hD KL.encT cj),dy,bD,bJ,br,cn,ai,av,ao,B2,B7,B6,.blk O 28 B0] lq:=vw
 have q:=vx.freezeR (k:=0) (n:=cj.length) rfl (wAB (f:=KL.encT) (sz:=1) (fun _=>rfl) cj) (by decide)
 obtain ⟨cL,iZ,xl,vz⟩:=q
 have vA:SW w [B1] U cL [dy,bD,bJ,br,cn,ai,av,ao,B2,B7,B6,.blk O 28 B0] lq:=vz
 let eR:List Value:=[.slice eJ cj.length fc]
 refine zb (pv:=[(0,.slice eJ cj.length fc)]) (zs:=[.slice none 0 0]) (cs:=eR) Z Z Z Z Z (wAA Z wAI) Zo yM Tryz.zeroValue47 Z Z Z Z Z vA ?_
 intro pN qe vy
 have oe:RlL cL wHL [cj] eR:=(RlL.cons (R:=wHL) (x:=cj) (vs:=eR) ⟨eJ,fc,rfl,xl⟩ RlL.nil)
 let gD:Res:=.row (some ⟨qe,0,none⟩) 1 47 1 eR
 have mD:SW w [B1] U cL [gD,dy,bD,bJ,br,cn,ai,av,ao,B2,B7,B6,.blk O 28 B0] pN:=vy
 refine bnK n3 fun jA sC wR=>?_
 have sD:=fB.le fU
 have sE:=sD.le ou
 have sF:=sE.le iZ
 refine YH (R:=wHL) (j:=4) (xs:=bb) (ys:=[cj]) (zs:=jA) rfl rfl rfl rfl rfl Tryz.underlying44 wPs rfl rfl rfl rfl rfl rfl rfl mD rfl rfl rfl sF oe (mD.srcR (j:=0) rfl (by decide) (RlL.len oe)) sC rfl ?_
 intro dn dR il pO vB xa
 have vC:SW w [B1] U cL [gD,dy,bD,bJ,.row dn dR 47 1 il,cn,ai,av,ao,B2,B7,B6,.blk O 28 B0] pO:=vB
 refine oR Z (zF Z bW ZU Z yr) (zh (j:=5) (vs:=[.slice dn jA.length dR]) Z Z Z Z vC Z Z Z Z yr (zA Z) Z Z Z ?_)
 intro pP vD
 have vE:SW w [B1] U cL [gD,dy,bD,bJ,.row dn dR 47 1 il,.blk a8 46 [jV bj,.slice cD eE.length cV,.slice dn jA.length dR],ai,av,ao,B2,B7,B6,.blk O 28 B0] pP:=vD
 refine eN (rR fL3 Z (oM Z ej (oR Z (Zy Z Z Z) (oA Z Z (zg (zf (zG (rR fL3 Z (oM Z fw (oR Z (zX Z Z Z) (oA Z Z (zg ?_))))))))))))
 have q:=nA wR
 obtain rfl:=q
 have sG:=sA.le iZ
 exact zG ⟨rfl,_,rfl,⟨cL,cD,cV,dn,dR,il,jU,lO,cY,fu,d9,bV,eh,rfl,bW,rfl,fy,fz,(((c9.trans fU).trans ou).trans iZ),(vE.pick [3,4,5,1,6,7,8,9,10,11,12] _ (by decide) rfl),xa,sG⟩⟩
 intro ie wS
 refine cF Z ie (kN (rR fL3 Z (oM Z ej (oR Z (Zy Z Z Z) (oA Z Z (zg (zf (zG (rR fL3 Z (oM Z fw (oR Z (zX Z Z Z) (oA Z Z (zg ?_)))))))))))))
 have q:=nA wS
 obtain rfl:=q
 have sI:=fB.le fU
 exact zG ⟨rfl,_,rfl,⟨cq,cD,cV,be,bg,cu,gz,ic,cY,fu,d9,bV,eh,rfl,bW,rfl,fy,fz,(c9.trans fU),(mC.pick [2,3,4,1,5,6,7,8,9,10,11] _ (by decide) rfl),sI,mo⟩⟩
 intro ib wU
 refine cF Z ib (ZJ (zd ?_))
 have q:=wAb wU
 obtain ⟨xB,wV,qq⟩:=q
 have q:=mI xB qq
 obtain rfl:=q
 refine zd (ZG (zG (rR (wCK gBc) Z (oR Z (zF Z bV ZL Z yD) (oL Z (bY.ldB (j:=6) Z Z Z yv (v:=.slice bO cc.length bR) Z) ?_)))))
 let bs:List Value:=[jV bj,.slice bC ay.length bG,.slice be bb.length bg]
 refine oL Z (bY.ldBA (j:=2) Z Z bW YI Zb (vs:=bs) Z Z) ?_
 have q:=bY.freezeR (k:=0) (n:=ay.length) rfl (wAB (f:=KL.encI) (sz:=1) (fun _=>rfl) ay) (by decide)
 obtain ⟨oQ,fV,xm,vG⟩:=q
 let dz:Res:=.blk af 100 [.slice bI cd.length bM,jV dd,.int .u32 de]
 have vH:SW w [B1] U oQ [.row be bg 47 1 cu,.blk a8 46 bs,dz,ai,av,ao,B2,B7,B6,.blk O 28 B0] cQ:=vG
 have sJ:=fB.le fV
 have q:=vH.freezeRR (R:=wHL) (k:=0) rfl sJ rfl (by decide)
 obtain ⟨cM,fW,xn,vI⟩:=q
 have vJ:SW w [B1] U cM [.blk a8 46 bs,dz,ai,av,ao,B2,B7,B6,.blk O 28 B0] cQ:=vI
 refine zb (pv:=[(0,.agg bs.toArray)]) (zs:=B9) (cs:=bs) Z Z Z Z Z (wAA Z wAI) Zh Zb Zj Z Z Z Z Z vJ ?_
 intro pQ qf vF
 have sK:=xm.le fW
 have og:RlL cM wHD [(⟨bj,ay,bb⟩:wAM)] bs:=(RlL.cons (R:=wHD) (x:=(⟨bj,ay,bb⟩:wAM)) (vs:=bs) ⟨bC,bG,be,bg,rfl,sK,xn⟩ RlL.nil)
 let gE:Res:=.row (some ⟨qf,0,none⟩) 1 46 3 bs
 have mE:SW w [B1] U cM [gE,.blk a8 46 bs,dz,ai,av,ao,B2,B7,B6,.blk O 28 B0] pQ:=vF
 refine bnK wV fun jB sL wW=>?_
 have sM:=iD.le fT
 have sN:=sM.le c9
 have sO:=sN.le fV
 have sP:=sO.le fW
 refine YH (R:=wHD) (j:=4) (xs:=cc) (ys:=[(⟨bj,ay,bb⟩:wAM)]) (zs:=jB) rfl rfl rfl rfl rfl Tryz.underlying41 wMn rfl rfl rfl rfl rfl rfl rfl mE rfl rfl rfl sP og (mE.srcR (j:=0) rfl (by decide) (RlL.len og)) sL rfl ?_
 intro dp dS im pR vK xb
 have vL:SW w [B1] U cM [gE,.blk a8 46 bs,dz,ai,.row dp dS 46 3 im,ao,B2,B7,B6,.blk O 28 B0] pR:=vK
 refine oR Z (zF Z bV ZL Z yD) (zh (j:=5) (vs:=[.slice dp jB.length dS]) Z Z Z Z vL Z Z Z Z yD (zA Z) Z Z Z ?_)
 intro pS vM
 have vN:SW w [B1] U cM [gE,.blk a8 46 bs,dz,ai,.row dp dS 46 3 im,.blk ak 43 [jV (w64 ((w64 (9 * (↑aj:Int))) + au)),.slice an am.length aq,.slice dp jB.length dS],B2,B7,B6,.blk O 28 B0] pS:=vM
 refine zg (zf ?_)
 have q:=nA wW
 obtain rfl:=q
 have sQ:=iE.le fV
 have sS:=sQ.le fW
 exact zG ⟨rfl,_,rfl,⟨cM,bI,bM,dp,dS,im,cY,fu,d9,bV,eh,ej,fy,fz,((((iY.trans fT).trans c9).trans fV).trans fW),(vN.pick [2,3,4,5,6,7,8,9] _ (by decide) rfl),sS,xb⟩⟩
 have n4:=iV;rw [if_neg bq] at n4;replace bq:=zH bq
 refine oF Z bq (oF Z bq (oR Z (za Z (zt bq.out) Z) (eN (zn Z (ZJ (zd ?_))))))
 have q:=wAb n4
 obtain ⟨xC,wX,qr⟩:=q
 have q:=mI xC qr
 obtain rfl:=q
 refine zd (ZG (zG (rR (wCK gBc) Z (oR Z (zF Z bV ZL Z yD) (oL Z (bY.ldB (j:=6) Z Z Z yv (v:=.slice bO cc.length bR) Z) ?_)))))
 let bt:List Value:=[jV bj,.slice bC ay.length bG,.slice be bb.length bg]
 refine oL Z (bY.ldBA (j:=2) Z Z bW YI Zb (vs:=bt) Z Z) ?_
 have q:=bY.freezeR (k:=0) (n:=ay.length) rfl (wAB (f:=KL.encI) (sz:=1) (fun _=>rfl) ay) (by decide)
 obtain ⟨oS,fY,xo,vP⟩:=q
 let dA:Res:=.blk af 100 [.slice bI cd.length bM,jV dd,.int .u32 de]
 have vQ:SW w [B1] U oS [.row be bg 47 1 cu,.blk a8 46 bt,dA,ai,av,ao,B2,B7,B6,.blk O 28 B0] cQ:=vP
 have sT:=fB.le fY
 have q:=vQ.freezeRR (R:=wHL) (k:=0) rfl sT rfl (by decide)
 obtain ⟨cN,fZ,xp,vR⟩:=q
 have vS:SW w [B1] U cN [.blk a8 46 bt,dA,ai,av,ao,B2,B7,B6,.blk O 28 B0] cQ:=vR
 refine zb (pv:=[(0,.agg bt.toArray)]) (zs:=B9) (cs:=bt) Z Z Z Z Z (wAA Z wAI) Zh Zb Zj Z Z Z Z Z vS ?_
 intro pT qh vO
 have sU:=xo.le fZ
 have oh:RlL cN wHD [(⟨bj,ay,bb⟩:wAM)] bt:=(RlL.cons (R:=wHD) (x:=(⟨bj,ay,bb⟩:wAM)) (vs:=bt) ⟨bC,bG,be,bg,rfl,sU,xp⟩ RlL.nil)
 let gF:Res:=.row (some ⟨qh,0,none⟩) 1 46 3 bt
 have mF:SW w [B1] U cN [gF,.blk a8 46 bt,dA,ai,av,ao,B2,B7,B6,.blk O 28 B0] pT:=vO
 refine bnK wX fun jC sV wY=>?_
 have sX:=iD.le fT
 have sY:=sX.le c9
 have sZ:=sY.le fY
 have s3:=sZ.le fZ
 refine YH (R:=wHD) (j:=4) (xs:=cc) (ys:=[(⟨bj,ay,bb⟩:wAM)]) (zs:=jC) rfl rfl rfl rfl rfl Tryz.underlying41 wMn rfl rfl rfl rfl rfl rfl rfl mF rfl rfl rfl s3 oh (mF.srcR (j:=0) rfl (by decide) (RlL.len oh)) sV rfl ?_
 intro dq dT io pU vT xc
 have vU:SW w [B1] U cN [gF,.blk a8 46 bt,dA,ai,.row dq dT 46 3 io,ao,B2,B7,B6,.blk O 28 B0] pU:=vT
 refine oR Z (zF Z bV ZL Z yD) (zh (j:=5) (vs:=[.slice dq jC.length dT]) Z Z Z Z vU Z Z Z Z yD (zA Z) Z Z Z ?_)
 intro pV vV
 have vW:SW w [B1] U cN [gF,.blk a8 46 bt,dA,ai,.row dq dT 46 3 io,.blk ak 43 [jV (w64 ((w64 (9 * (↑aj:Int))) + au)),.slice an am.length aq,.slice dq jC.length dT],B2,B7,B6,.blk O 28 B0] pV:=vV
 refine zg (zf ?_)
 have q:=nA wY
 obtain rfl:=q
 have s4:=iE.le fY
 have s5:=s4.le fZ
 exact zG ⟨rfl,_,rfl,⟨cN,bI,bM,dq,dT,io,cY,fu,d9,bV,eh,ej,fy,fz,((((iY.trans fT).trans c9).trans fY).trans fZ),(vW.pick [2,3,4,5,6,7,8,9] _ (by decide) rfl),s5,xc⟩⟩
 have n7:=iU;rw [if_neg bS] at n7;replace bS:=zH bS
 refine cF Z bS (ZJ (zd ?_))
 have q:=wAb n7
 obtain ⟨xD,wZ,qs⟩:=q
 have q:=wq xD qs
 obtain rfl:=q
 refine zd (ZG ?_)
 cases wZ
 exact zG ⟨Z,⟨k5,dm,dQ,bO,bR,dX,iw,mc,md,iy,mf,mg,iY,iK,mn,iD⟩⟩
 rintro AQ lu ⟨z7,dl,dP,cC,cU,fg,qJ,qK,iz,qL,qM,qN,ov,iN,s6,s7⟩
 refine rR (wCK gBc) Z (oR Z (zF Z iz zo Z Zw) (oL Z (iN.ldB (j:=6) Z Z Z yO (v:=.slice cm cg.length cr) Z) ?_))
 let bu:List Value:=[jV (w64 ((w64 (9 * (↑aj:Int))) + au)),.slice an am.length aq,.slice cC cZ.length cU]
 refine oL Z (iN.ldBA (j:=3) Z Z qL ym Zd (vs:=bu) Z Z) ?_
 have q:=iN.freezeR (k:=1) (n:=am.length) rfl (wAB (f:=KL.encI) (sz:=1) (fun _=>rfl) am) (by decide)
 obtain ⟨oU,gb,xq,vY⟩:=q
 let dB:Res:=.blk af 100 [.slice dl fD.length dP,jV ox,.int .u32 oy]
 have vZ:SW w [B1] U oU [dB,.row cC cU 46 3 fg,.blk ak 43 bu,B2,B7,B6,.blk O 28 B0] lu:=vY
 have s8:=s7.le gb
 have q:=vZ.freezeRR (R:=wHD) (k:=1) rfl s8 rfl (by decide)
 obtain ⟨cO,ge,xr,wa⟩:=q
 have wb:SW w [B1] U cO [dB,.blk ak 43 bu,B2,B7,B6,.blk O 28 B0] lu:=wa
 refine zb (pv:=[(0,.agg bu.toArray)]) (zs:=B9) (cs:=bu) Z Z Z Z Z (wAA Z wAI) ZW Zd yG Z Z Z Z Z wb ?_
 intro pY qi vX
 have s9:=xq.le ge
 have oi:RlL cO wHM [(⟨w64 ((w64 (9 * (↑aj:Int))) + au),am,cZ⟩:wAN)] bu:=(RlL.cons (R:=wHM) (x:=(⟨w64 ((w64 (9 * (↑aj:Int))) + au),am,cZ⟩:wAN)) (vs:=bu) ⟨an,aq,cC,cU,rfl,s9,xr⟩ RlL.nil)
 let gH:Res:=.row (some ⟨qi,0,none⟩) 1 43 3 bu
 have mG:SW w [B1] U cO [gH,dB,.blk ak 43 bu,B2,B7,B6,.blk O 28 B0] pY:=vX
 refine bnK m4 fun jE ta w0=>?_
 have tb:=ml.le fI
 have tc:=tb.le fP
 have te:=tc.le fQ
 have tf:=te.le fR
 have tg:=tf.le fS
 have th:=tg.le ot
 have tj:=th.le ov
 have tp:=tj.le gb
 have tq:=tp.le ge
 refine YH (R:=wHM) (j:=4) (xs:=cg) (ys:=[(⟨w64 ((w64 (9 * (↑aj:Int))) + au),am,cZ⟩:wAN)]) (zs:=jE) rfl rfl rfl rfl rfl Tryz.underlying26 wPr rfl rfl rfl rfl rfl rfl rfl mG rfl rfl rfl tq oi (mG.srcR (j:=0) rfl (by decide) (RlL.len oi)) ta rfl ?_
 intro dr dU ip pZ wc xd
 have wd:SW w [B1] U cO [gH,dB,.blk ak 43 bu,B2,.row dr dU 43 3 ip,B6,.blk O 28 B0] pZ:=wc
 refine oR Z (zF Z iz zo Z Zw) (zh (j:=5) (vs:=[.slice dr jE.length dU]) Z Z Z Z wd Z Z Z Z Zw (zA Z) Z Z Z ?_)
 intro p6 we
 have wg:SW w [B1] U cO [gH,dB,.blk ak 43 bu,B2,.row dr dU 43 3 ip,.blk a7 28 [.slice az x6.Classes.length aY,jV x6.Each,jV x6.Laps,jV x6.Spare,jV x6.Loop,jV x6.Unused,jV cy,.slice dr jE.length dU],.blk O 28 B0] p6:=we
 refine zg (zf (zG (rR fL2 Z (oR Z (zr (zX Z qN Z) (congrArg (jV) mJ.out)) (oM Z Z (zg ?_))))))
 cases w0
 have tt:=s6.le gb
 have tu:=tt.le ge
 exact zG ⟨rfl,⟨cO,dl,dP,dr,dU,ip,rfl,qJ,qK,iz,qM,(((((((((om.trans fI).trans fP).trans fQ).trans fR).trans fS).trans ot).trans ov).trans gb).trans ge),(wg.pick [1,3,4,5,6] _ (by decide) rfl),tu,xd⟩⟩
 intro g9 w5
 refine zn (congrArg nB (nD.2 g9.out)) (kN ?_)
 have q:=bnd w5
 obtain ⟨⟨fE,oB,oC,c6⟩,xu,n8⟩:=q
 try dsimp only at n8
 refine yd (fun σ_ w_=>∃ (U_:PHeap) (dt:Option Addr) (dV:Nat) (cE:Option Addr) (cW:Nat) (fh:List Value),σ_ 0=.pointer (some ⟨af,0,none⟩)/\σ_ 6=.pointer (some ⟨O,0,none⟩)/\σ_ 7=.pointer (some ⟨a7,0,none⟩)/\σ_ 9=.pointer (some ⟨ak,0,none⟩)/\σ_ 22=jV bA/\σ_ 23=jV (↑aj:Int)/\PHeap.Le dK U_/\SW w [B1] U U_ [.blk af 100 [.slice dt fE.length dV,jV oB,.int .u32 oC],.row an aq 3 1 (hD KL.encI am),.row cE cW 46 3 fh,.blk ak 43 [jV (w64 ((w64 (9 * (↑aj:Int))) + au)),.slice an am.length aq,.slice cE c6.length cW],.row az aY 3 1 (hD KL.encI x6.Classes),B7,B6,.blk O 28 B0] w_/\Sl U_ 1 dt dV fE.length (hD KL.encB8 fE)/\RlL U_ wHD c6 fh) ?_ ?_
 refine zU (CK.iter (fun (ep,jc,jd,bZ,je) σ_ w_=>∃ (U_:PHeap) (df:Option Addr) (dL:Nat) (bN:Option Addr) (bP:Nat) (dW:List Value),σ_ 0=.pointer (some ⟨af,0,none⟩)/\σ_ 6=.pointer (some ⟨O,0,none⟩)/\σ_ 7=.pointer (some ⟨a7,0,none⟩)/\σ_ 9=.pointer (some ⟨ak,0,none⟩)/\σ_ 10=jV bi/\σ_ 11=jV je/\σ_ 22=jV bA/\σ_ 23=jV (↑aj:Int)/\PHeap.Le dK U_/\SW w [B1] U U_ [.blk af 100 [.slice df ep.length dL,jV jc,.int .u32 jd],.row an aq 3 1 (hD KL.encI am),.row bN bP 46 3 dW,.blk ak 43 [jV (w64 ((w64 (9 * (↑aj:Int))) + au)),.slice an am.length aq,.slice bN bZ.length bP],.row az aY 3 1 (hD KL.encI x6.Classes),B7,B6,.blk O 28 B0] w_/\Sl U_ 1 df dL ep.length (hD KL.encB8 ep)/\RlL U_ wHD bZ dW) xu ?_ ?_)
 have tw:=mA.nilrow 46 3
 exact ⟨dK,gy,g8,none,0,[],d8,l7,ft,l8,rfl,rfl,ma,mb,(zL _),(tw.pick [1,2,0,3,4,5,6,7] _ (by decide) rfl),mm,RlL.nil⟩
 rintro ⟨ep,jc,jd,bZ,je⟩ AB AH oV ⟨j6,df,dL,bN,bP,dW,iq,lV,lW,ir,qt,lY,lZ,l0,iW,iF,mi,iB⟩ iS wp
 try dsimp only at iS
 refine zI (sR fL2 Z (oM Z lY (oR Z (yT Z Z Z) (eN ?_))))
 by_cases bQ:0 < je
 have mL:=iS;rw [if_pos bQ] at mL;replace bQ:=zH bQ
 refine cT Z bQ (kN (zU (sR (wEL gBb) Z (oM Z iq (oR Z (zF Z ir ZL Z zS) (oL Z (iF.ldB (j:=3) Z Z Z zZ (v:=.slice an am.length aq) Z) (oR Z (ze Z Z zB) ?_)))))))
 have q:=bnd mL
 obtain ⟨⟨bh,jf⟩,qQ,mM⟩:=q
 try dsimp only at mM
 refine zM 1 Z Z Z Z (zK Z Z yq (zD Z (zD Z zO)) Z) iF (fun hs=>wAg (⟨ep,jc,jd⟩:wAC) af df dL (↑am.length:Int) oV j6 hs mi qQ) (.inl Z) ?_
 rintro eU xM Aj oW fG tx ⟨jI,ly,rfl,rfl,qR⟩
 let ap:Res:=.blk ak 43 [jV (w64 ((w64 (9 * (↑aj:Int))) + au)),.slice an am.length aq,.slice bN bZ.length bP]
 let aw:Res:=.row bN bP 46 3 dW
 let j0:Res:=.blk af 100 [.slice jI jf.bytes.length ly,jV jf.next,.int .u32 jf.state]
 have tz:SW w [B1] U eU [j0,ai,aw,ap,B2,B7,B6,.blk O 28 B0] oW:=tx
 let gI:List Value:=[jV bh,.slice none 0 0,.slice none 0 0]
 refine oR Z (zx (pv:=[(0,jV bh)]) (z:=B9) (cs:=gI) Z (wAA Z wAI) Zj wGy Z Z) (zm (cs:=B9) Z Z Z Z Z Zj Z tz ?_)
 intro z8 aZ tA
 refine zh (j:=0) (vs:=gI) Z Z Z Z tA Z Z Z Z Zb (zA Z) Z Z Z ?_
 intro oX tB
 have tC:SW w [B1] U eU [.blk aZ 46 gI,j0,ai,aw,ap,B2,B7,B6,.blk O 28 B0] oX:=tB
 refine eN (zI (sR fL1 Z (oA Z Z (eN (zU (CK.iter (fun (ax,ba,ca,da,db,ow,jg) σ_ w_=>∃ (U_:PHeap) (bB:Option Addr) (bF:Nat) (bd:Option Addr) (bf:Nat) (ct:List Value) (bH:Option Addr) (bL:Nat),σ_ 0=.pointer (some ⟨af,0,none⟩)/\σ_ 6=.pointer (some ⟨O,0,none⟩)/\σ_ 7=.pointer (some ⟨a7,0,none⟩)/\σ_ 9=.pointer (some ⟨ak,0,none⟩)/\σ_ 10=jV bi/\σ_ 11=jV ow/\σ_ 12=.pointer (some ⟨aZ,0,none⟩)/\σ_ 13=jV jg/\σ_ 22=jV bA/\σ_ 23=jV (↑aj:Int)/\PHeap.Le eU U_/\SW w [B1] U U_ [.row bB bF 3 1 (hD KL.encI ax),.row bd bf 47 1 ct,.blk aZ 46 [jV bh,.slice bB ax.length bF,.slice bd ba.length bf],.blk af 100 [.slice bH ca.length bL,jV da,.int .u32 db],.row an aq 3 1 (hD KL.encI am),aw,ap,.row az aY 3 1 (hD KL.encI x6.Classes),B7,B6,.blk O 28 B0] w_/\RlL U_ wHL ba ct/\Sl U_ 1 bH bL ca.length (hD KL.encB8 ca)) mM ?_ ?_))))))
 have tE:=tC.nilrow 3 1
 have tF:=tE.nilrow 47 1
 exact ⟨eU,none,0,none,0,[],jI,ly,iq,lV,lW,ir,qt,lY,rfl,rfl,lZ,l0,(zL _),(tF.pick [1,0,2,3,4,5,6,7,8,9,10] _ (by decide) rfl),RlL.nil,qR⟩
 rintro ⟨ax,ba,ca,da,db,ow,jg⟩ AD AJ cP ⟨j7,bB,bF,bd,bf,ct,bH,bL,cX,fj,dY,bT,dZ,d7,bU,fk,fm,fq,c8,bX,fA,iC⟩ iT mH
 try dsimp only at iT
 refine zI (sR fL9 Z (oM Z fk (oR Z (zF Z dY zo Z ZO) (oR Z (zF Z Z ZA Z zC) (oL Z (bX.ldB (j:=9) Z Z Z zJ (v:=jV x6.Laps) Z) (oR Z (zW Z Z Z) (oM Z Z ?_)))))))
 by_cases bp:jg < x6.Laps
 have mN:=iT;rw [if_pos bp] at mN;replace bp:=zH bp
 refine zj Z Z Z (wT Z bp) Z d7 (rU Z (wT Z bp) (yT Z Z Z) (oR Z (zT Z (ZZ bp.out) Z) (eN (ifc mN ?_ ?_))))
 intro gW wy
 refine cT Z gW (kN (zI (zU (zI (ZN ZD [3,1004,3,3,1005,3,2,0,3,0,af] (wEL gBh) (by kernel_rfl) ?_)))))
 have iG:=bX.drew
 generalize hw_W1231:({ cP with drawn:=cP.drawn + 1 }:World)=k8 at iG ⊢
 refine oR Z (zF Z bU ZU Z zS) ?_
 let dC:Res:=.blk aZ 46 [jV bh,.slice bB ax.length bF,.slice bd ba.length bf]
 let bv:Res:=.row bd bf 47 1 ct
 let eS:Res:=.row bB bF 3 1 (hD KL.encI ax)
 refine OKS.mt (T:=[af]) [3] [0,1,2,4,5,6,7,8,9,10] [eS,bv,dC,ai,aw,ap,B2,B7,B6,.blk O 28 B0] rfl rfl rfl rfl iG rfl ⟨⟨3,by decide,_,rfl,rfl⟩,trivial⟩ (by decide) rfl (by decide) (fun _ wh=>(wh.ldB (j:=2) rfl rfl rfl zZ (v:=.slice bB ax.length bF) rfl)) rfl (zj rfl rfl rfl rfl rfl dZ (zj rfl rfl rfl rfl rfl cX ?_))
 have q:=bnd wy
 obtain ⟨⟨eA,gf⟩,qS,mO⟩:=q
 try dsimp only at mO
 have tH:SW w [B1] U j7 [.blk af 100 [.slice bH ca.length bL,jV da,.int .u32 db],eS,bv,dC,ai,aw,ap,B2,B7,B6,.blk O 28 B0] k8:=iG.pick [3,0,1,2,4,5,6,7,8,9,10] _ (by decide) rfl
 refine OKS.callHT 1 rfl rfl rfl rfl (zK rfl rfl yq (zD rfl (zD rfl zO)) rfl) tH (fun hs=>wAg (⟨ca,da,db⟩:wAC) af bH bL 200 k8 j7 hs iC qS) rfl (T:=[af]) rfl ⟨fun b h=>(by cases h;exact .head _),trivial⟩ ?_
 rintro cp xO Ak oZ fH tI ⟨gw,gX,rfl,rfl,mj⟩
 let dD:Res:=.blk af 100 [.slice gw gf.bytes.length gX,jV gf.next,.int .u32 gf.state]
 have tJ:SW w [B1] U cp [dD,eS,bv,dC,ai,aw,ap,B2,B7,B6,.blk O 28 B0] oZ:=tI
 refine oR Z (zX Z Z Z) (zb (pv:=[(0,jV (w64 (bi + eA)))]) (zs:=[jV 0]) (cs:=[jV (w64 (bi + eA))]) Z Z Z Z Z (wAA Z wAI) zB zC zw Z Z Z Z Z tJ ?_)
 intro o0 p7 tK
 let bE:Res:=.row (some ⟨p7,0,none⟩) 1 3 1 (hD KL.encI [w64 (bi + eA)])
 have mp:SW w [B1] U cp [bE,dD,eS,bv,dC,ai,aw,ap,B2,B7,B6,.blk O 28 B0] o0:=tK
 refine bnK mO fun eB qT wz=>Zr (j:=2) (enc:=KL.encI) (xs:=ax) (ys:=[w64 (bi + eA)]) (zs:=eB) rfl rfl rfl rfl rfl Zn wFr rfl rfl rfl rfl rfl rfl mp rfl rfl rfl (mp.srcR (j:=0) rfl (by decide) (wAB (f:=KL.encI) (sz:=1) (fun _=>rfl) [w64 (bi + eA)])) (fun _=>rfl) (fun _=>rfl) qT rfl ?_
 intro cz cR o3 tL
 let bK:Res:=.row cz cR 3 1 (hD KL.encI eB)
 have tM:SW w [B1] U cp [bE,dD,bK,bv,dC,ai,aw,ap,B2,B7,B6,.blk O 28 B0] o3:=tL
 refine oR Z (zF Z bU ZU Z zS) (zh (j:=4) (vs:=[.slice cz eB.length cR]) Z Z Z Z tM Z Z Z Z zS (zA Z) Z Z Z ?_)
 intro gR tN
 let co:Res:=.blk aZ 46 [jV bh,.slice cz eB.length cR,.slice bd ba.length bf]
 have mq:SW w [B1] U cp [bE,dD,bK,bv,co,ai,aw,ap,B2,B7,B6,.blk O 28 B0] gR:=tN
 refine eN (zI (sR fL2 Z (oM Z fk (oR Z (yT Z Z Z) (eN (ifc wz ?_ ?_))))))
 intro gY wA
 refine cT Z gY (ZN ZD [3,1004,3,1005,2,0,3,0,af] (wCK gBe) (by kernel_rfl) ?_)
 have iH:=mq.drew
 generalize hw_W1313:({ gR with drawn:=gR.drawn + 1 }:World)=k9 at iH ⊢
 refine zY rfl rfl rfl rfl (fun _=>zF rfl bU ZU rfl yr) (OKS.mt (T:=[af]) [1] [0,2,3,4,5,6,7,8,9,10,11] [bE,bK,bv,co,ai,aw,ap,B2,B7,B6,.blk O 28 B0] rfl rfl rfl rfl iH rfl ⟨⟨1,by decide,_,rfl,rfl⟩,trivial⟩ (by decide) rfl (by decide) (fun _ wi=>(wi.ldB (j:=3) rfl rfl rfl Tryz.isAgg44 (v:=.slice bd ba.length bf) rfl)) rfl (zj rfl rfl rfl rfl rfl cX ?_))
 have q:=bnd wA
 obtain ⟨⟨ci,jh⟩,qV,mP⟩:=q
 try dsimp only at mP
 have tO:SW w [B1] U cp [dD,bE,bK,bv,co,ai,aw,ap,B2,B7,B6,.blk O 28 B0] k9:=iH.pick [1,0,2,3,4,5,6,7,8,9,10,11] _ (by decide) rfl
 refine OKS.callHT 1 rfl rfl rfl rfl (zK rfl rfl Tryz.call29 (zD rfl zO) rfl) tO (fun hs=>wFT gf af gw gX k9 cp hs mj qV) rfl (T:=[af]) rfl ⟨fun b h=>(by cases h;exact .head _),trivial⟩ ?_
 rintro oG xP Am lb oo tP ⟨eF,eZ,jJ,lB,rfl,rfl,qX⟩
 let dF:Res:=.blk af 100 [.slice jJ jh.bytes.length lB,jV jh.next,.int .u32 jh.state]
 have tQ:SW w [B1] U oG [.row eF eZ 4 1 (hD KL.encT ci),dF,bE,bK,bv,co,ai,aw,ap,B2,B7,B6,.blk O 28 B0] lb:=tP
 have q:=tQ.freezeR (k:=0) (n:=ci.length) rfl (wAB (f:=KL.encT) (sz:=1) (fun _=>rfl) ci) (by decide)
 obtain ⟨cH,iX,xe,tS⟩:=q
 have tT:SW w [B1] U cH [dF,bE,bK,bv,co,ai,aw,ap,B2,B7,B6,.blk O 28 B0] lb:=tS
 let eT:List Value:=[.slice eF ci.length eZ]
 refine zb (pv:=[(0,.slice eF ci.length eZ)]) (zs:=[.slice none 0 0]) (cs:=eT) Z Z Z Z Z (wAA Z wAI) Zo yM Tryz.zeroValue47 Z Z Z Z Z tT ?_
 intro o5 p8 tR
 have n9:RlL cH wHL [ci] eT:=(RlL.cons (R:=wHL) (x:=ci) (vs:=eT) ⟨eF,eZ,rfl,xe⟩ RlL.nil)
 let gJ:Res:=.row (some ⟨p8,0,none⟩) 1 47 1 eT
 have mr:SW w [B1] U cH [gJ,dF,bE,bK,bv,co,ai,aw,ap,B2,B7,B6,.blk O 28 B0] o5:=tR
 refine bnK mP fun ji qY wC=>?_
 have qZ:=fA.le fH
 have q0:=qZ.le oo
 have q8:=q0.le iX
 refine YH (R:=wHL) (j:=4) (xs:=ba) (ys:=[ci]) (zs:=ji) rfl rfl rfl rfl rfl Tryz.underlying44 wPs rfl rfl rfl rfl rfl rfl rfl mr rfl rfl rfl q8 n9 (mr.srcR (j:=0) rfl (by decide) (RlL.len n9)) qY rfl ?_
 intro dg dM ig o6 tU w6
 have tV:SW w [B1] U cH [gJ,dF,bE,bK,.row dg dM 47 1 ig,co,ai,aw,ap,B2,B7,B6,.blk O 28 B0] o6:=tU
 refine oR Z (zF Z bU ZU Z yr) (zh (j:=5) (vs:=[.slice dg ji.length dM]) Z Z Z Z tV Z Z Z Z yr (zA Z) Z Z Z ?_)
 intro o7 tW
 have tX:SW w [B1] U cH [gJ,dF,bE,bK,.row dg dM 47 1 ig,.blk aZ 46 [jV bh,.slice cz eB.length cR,.slice dg ji.length dM],ai,aw,ap,B2,B7,B6,.blk O 28 B0] o7:=tW
 refine eN (rR fL3 Z (oM Z d7 (oR Z (Zy Z Z Z) (oA Z Z (zg (zf (zG (rR fL3 Z (oM Z fk (oR Z (zX Z Z Z) (oA Z Z (zg ?_))))))))))))
 have q:=nA wC
 obtain rfl:=q
 have q9:=qX.le iX
 exact zG ⟨rfl,_,rfl,⟨cH,cz,cR,dg,dM,ig,jJ,lB,cX,fj,dY,bT,dZ,rfl,bU,rfl,fm,fq,(((c8.trans fH).trans oo).trans iX),(tX.pick [3,4,5,1,6,7,8,9,10,11,12] _ (by decide) rfl),w6,q9⟩⟩
 intro gY wD
 refine cF Z gY (kN (rR fL3 Z (oM Z d7 (oR Z (Zy Z Z Z) (oA Z Z (zg (zf (zG (rR fL3 Z (oM Z fk (oR Z (zX Z Z Z) (oA Z Z (zg ?_)))))))))))))
 have q:=nA wD
 obtain rfl:=q
 have rc:=fA.le fH
 exact zG ⟨rfl,_,rfl,⟨cp,cz,cR,bd,bf,ct,gw,gX,cX,fj,dY,bT,dZ,rfl,bU,rfl,fm,fq,(c8.trans fH),(mq.pick [2,3,4,1,5,6,7,8,9,10,11] _ (by decide) rfl),rc,mj⟩⟩
 intro gW wE
 refine cF Z gW (ZJ (zd ?_))
 have q:=wAb wE
 obtain ⟨xx,wG,qn⟩:=q
 have q:=mH xx qn
 obtain rfl:=q
 refine zd (ZG (zG (rR (wCK gBc) Z (oR Z (zF Z bT ZL Z yD) (oL Z (bX.ldB (j:=6) Z Z Z yv (v:=.slice bN bZ.length bP) Z) ?_)))))
 let bw:List Value:=[jV bh,.slice bB ax.length bF,.slice bd ba.length bf]
 refine oL Z (bX.ldBA (j:=2) Z Z bU YI Zb (vs:=bw) Z Z) ?_
 have q:=bX.freezeR (k:=0) (n:=ax.length) rfl (wAB (f:=KL.encI) (sz:=1) (fun _=>rfl) ax) (by decide)
 obtain ⟨oH,fJ,xf,t6⟩:=q
 let dG:Res:=.blk af 100 [.slice bH ca.length bL,jV da,.int .u32 db]
 have t7:SW w [B1] U oH [.row bd bf 47 1 ct,.blk aZ 46 bw,dG,ai,aw,ap,B2,B7,B6,.blk O 28 B0] cP:=t6
 have re:=fA.le fJ
 have q:=t7.freezeRR (R:=wHL) (k:=0) rfl re rfl (by decide)
 obtain ⟨cI,fK,xg,t8⟩:=q
 have ua:SW w [B1] U cI [.blk aZ 46 bw,dG,ai,aw,ap,B2,B7,B6,.blk O 28 B0] cP:=t8
 refine zb (pv:=[(0,.agg bw.toArray)]) (zs:=B9) (cs:=bw) Z Z Z Z Z (wAA Z wAI) Zh Zb Zj Z Z Z Z Z ua ?_
 intro o9 p9 tY
 have rf:=xf.le fK
 have oa:RlL cI wHD [(⟨bh,ax,ba⟩:wAM)] bw:=(RlL.cons (R:=wHD) (x:=(⟨bh,ax,ba⟩:wAM)) (vs:=bw) ⟨bB,bF,bd,bf,rfl,rf,xg⟩ RlL.nil)
 let gK:Res:=.row (some ⟨p9,0,none⟩) 1 46 3 bw
 have ms:SW w [B1] U cI [gK,.blk aZ 46 bw,dG,ai,aw,ap,B2,B7,B6,.blk O 28 B0] o9:=tY
 refine bnK wG fun jj rh wH=>?_
 have ri:=iB.le fG
 have rj:=ri.le c8
 have rk:=rj.le fJ
 have rn:=rk.le fK
 refine YH (R:=wHD) (j:=4) (xs:=bZ) (ys:=[(⟨bh,ax,ba⟩:wAM)]) (zs:=jj) rfl rfl rfl rfl rfl Tryz.underlying41 wMn rfl rfl rfl rfl rfl rfl rfl ms rfl rfl rfl rn oa (ms.srcR (j:=0) rfl (by decide) (RlL.len oa)) rh rfl ?_
 intro dh dN ii pd ub w7
 have uc:SW w [B1] U cI [gK,.blk aZ 46 bw,dG,ai,.row dh dN 46 3 ii,ap,B2,B7,B6,.blk O 28 B0] pd:=ub
 refine oR Z (zF Z bT ZL Z yD) (zh (j:=5) (vs:=[.slice dh jj.length dN]) Z Z Z Z uc Z Z Z Z yD (zA Z) Z Z Z ?_)
 intro pe ud
 have ue:SW w [B1] U cI [gK,.blk aZ 46 bw,dG,ai,.row dh dN 46 3 ii,.blk ak 43 [jV (w64 ((w64 (9 * (↑aj:Int))) + au)),.slice an am.length aq,.slice dh jj.length dN],B2,B7,B6,.blk O 28 B0] pe:=ud
 refine zg (zf ?_)
 have q:=nA wH
 obtain rfl:=q
 have rp:=iC.le fJ
 have rq:=rp.le fK
 exact zG ⟨rfl,_,rfl,⟨cI,bH,bL,dh,dN,ii,cX,fj,dY,bT,dZ,d7,fm,fq,((((iW.trans fG).trans c8).trans fJ).trans fK),(ue.pick [2,3,4,5,6,7,8,9] _ (by decide) rfl),rq,w7⟩⟩
 have mR:=iT;rw [if_neg bp] at mR;replace bp:=zH bp
 refine oF Z bp (oF Z bp (oR Z (za Z (zt bp.out) Z) (eN (zn Z (ZJ (zd ?_))))))
 have q:=wAb mR
 obtain ⟨xz,wI,qo⟩:=q
 have q:=mH xz qo
 obtain rfl:=q
 refine zd (ZG (zG (rR (wCK gBc) Z (oR Z (zF Z bT ZL Z yD) (oL Z (bX.ldB (j:=6) Z Z Z yv (v:=.slice bN bZ.length bP) Z) ?_)))))
 let bx:List Value:=[jV bh,.slice bB ax.length bF,.slice bd ba.length bf]
 refine oL Z (bX.ldBA (j:=2) Z Z bU YI Zb (vs:=bx) Z Z) ?_
 have q:=bX.freezeR (k:=0) (n:=ax.length) rfl (wAB (f:=KL.encI) (sz:=1) (fun _=>rfl) ax) (by decide)
 obtain ⟨oI,fL,xh,uh⟩:=q
 let dH:Res:=.blk af 100 [.slice bH ca.length bL,jV da,.int .u32 db]
 have ui:SW w [B1] U oI [.row bd bf 47 1 ct,.blk aZ 46 bx,dH,ai,aw,ap,B2,B7,B6,.blk O 28 B0] cP:=uh
 have rv:=fA.le fL
 have q:=ui.freezeRR (R:=wHL) (k:=0) rfl rv rfl (by decide)
 obtain ⟨cJ,fM,xi,uj⟩:=q
 have uk:SW w [B1] U cJ [.blk aZ 46 bx,dH,ai,aw,ap,B2,B7,B6,.blk O 28 B0] cP:=uj
 refine zb (pv:=[(0,.agg bx.toArray)]) (zs:=B9) (cs:=bx) Z Z Z Z Z (wAA Z wAI) Zh Zb Zj Z Z Z Z Z uk ?_
 intro pf qa ug
 have rx:=xh.le fM
 have oc:RlL cJ wHD [(⟨bh,ax,ba⟩:wAM)] bx:=(RlL.cons (R:=wHD) (x:=(⟨bh,ax,ba⟩:wAM)) (vs:=bx) ⟨bB,bF,bd,bf,rfl,rx,xi⟩ RlL.nil)
 let gL:Res:=.row (some ⟨qa,0,none⟩) 1 46 3 bx
 have mu:SW w [B1] U cJ [gL,.blk aZ 46 bx,dH,ai,aw,ap,B2,B7,B6,.blk O 28 B0] pf:=ug
 refine bnK wI fun jk ry wJ=>?_
 have rz:=iB.le fG
 have rA:=rz.le c8
 have rB:=rA.le fL
 have rC:=rB.le fM
 refine YH (R:=wHD) (j:=4) (xs:=bZ) (ys:=[(⟨bh,ax,ba⟩:wAM)]) (zs:=jk) rfl rfl rfl rfl rfl Tryz.underlying41 wMn rfl rfl rfl rfl rfl rfl rfl mu rfl rfl rfl rC oc (mu.srcR (j:=0) rfl (by decide) (RlL.len oc)) ry rfl ?_
 intro di dO ij pg um w8
 have un:SW w [B1] U cJ [gL,.blk aZ 46 bx,dH,ai,.row di dO 46 3 ij,ap,B2,B7,B6,.blk O 28 B0] pg:=um
 refine oR Z (zF Z bT ZL Z yD) (zh (j:=5) (vs:=[.slice di jk.length dO]) Z Z Z Z un Z Z Z Z yD (zA Z) Z Z Z ?_)
 intro ph uo
 have uq:SW w [B1] U cJ [gL,.blk aZ 46 bx,dH,ai,.row di dO 46 3 ij,.blk ak 43 [jV (w64 ((w64 (9 * (↑aj:Int))) + au)),.slice an am.length aq,.slice di jk.length dO],B2,B7,B6,.blk O 28 B0] ph:=uo
 refine zg (zf ?_)
 have q:=nA wJ
 obtain rfl:=q
 have rD:=iC.le fL
 have rE:=rD.le fM
 exact zG ⟨rfl,_,rfl,⟨cJ,bH,bL,di,dO,ij,cX,fj,dY,bT,dZ,d7,fm,fq,((((iW.trans fG).trans c8).trans fL).trans fM),(uq.pick [2,3,4,5,6,7,8,9] _ (by decide) rfl),rE,w8⟩⟩
 have mS:=iS;rw [if_neg bQ] at mS;replace bQ:=zH bQ
 refine cF Z bQ (ZJ (zd ?_))
 have q:=wAb mS
 obtain ⟨xA,wK,qp⟩:=q
 have q:=wp xA qp
 obtain rfl:=q
 refine zd (ZG ?_)
 cases wK
 exact zG ⟨Z,⟨j6,df,dL,bN,bP,dW,iq,lV,lW,ir,lZ,l0,iW,iF,mi,iB⟩⟩
 rintro AK lc ⟨z6,dt,dV,cE,cW,fh,qw,qx,iu,qy,qz,qA,oq,iI,rF,rG⟩
 refine rR (wCK gBc) Z (oR Z (zF Z iu zo Z Zw) (oL Z (iI.ldB (j:=6) Z Z Z yO (v:=.slice cm cg.length cr) Z) ?_))
 let bz:List Value:=[jV (w64 ((w64 (9 * (↑aj:Int))) + au)),.slice an am.length aq,.slice cE c6.length cW]
 refine oL Z (iI.ldBA (j:=3) Z Z qy ym Zd (vs:=bz) Z Z) ?_
 have q:=iI.freezeR (k:=1) (n:=am.length) rfl (wAB (f:=KL.encI) (sz:=1) (fun _=>rfl) am) (by decide)
 obtain ⟨oJ,fN,xj,uv⟩:=q
 let dI:Res:=.blk af 100 [.slice dt fE.length dV,jV oB,.int .u32 oC]
 have uw:SW w [B1] U oJ [dI,.row cE cW 46 3 fh,.blk ak 43 bz,B2,B7,B6,.blk O 28 B0] lc:=uv
 have rH:=rG.le fN
 have q:=uw.freezeRR (R:=wHD) (k:=1) rfl rH rfl (by decide)
 obtain ⟨cK,fO,xk,ux⟩:=q
 have uy:SW w [B1] U cK [dI,.blk ak 43 bz,B2,B7,B6,.blk O 28 B0] lc:=ux
 refine zb (pv:=[(0,.agg bz.toArray)]) (zs:=B9) (cs:=bz) Z Z Z Z Z (wAA Z wAI) ZW Zd yG Z Z Z Z Z uy ?_
 intro pj qb uu
 have rI:=xj.le fO
 have od:RlL cK wHM [(⟨w64 ((w64 (9 * (↑aj:Int))) + au),am,c6⟩:wAN)] bz:=(RlL.cons (R:=wHM) (x:=(⟨w64 ((w64 (9 * (↑aj:Int))) + au),am,c6⟩:wAN)) (vs:=bz) ⟨an,aq,cE,cW,rfl,rI,xk⟩ RlL.nil)
 let gM:Res:=.row (some ⟨qb,0,none⟩) 1 43 3 bz
 have mw:SW w [B1] U cK [gM,dI,.blk ak 43 bz,B2,B7,B6,.blk O 28 B0] pj:=uu
 refine bnK n8 fun jm rJ wL=>?_
 have rL:=ml.le fI
 have rM:=rL.le fP
 have rN:=rM.le fQ
 have rO:=rN.le fR
 have rP:=rO.le fS
 have rQ:=rP.le oq
 have rS:=rQ.le fN
 have rT:=rS.le fO
 refine YH (R:=wHM) (j:=4) (xs:=cg) (ys:=[(⟨w64 ((w64 (9 * (↑aj:Int))) + au),am,c6⟩:wAN)]) (zs:=jm) rfl rfl rfl rfl rfl Tryz.underlying26 wPr rfl rfl rfl rfl rfl rfl rfl mw rfl rfl rfl rT od (mw.srcR (j:=0) rfl (by decide) (RlL.len od)) rJ rfl ?_
 intro eG e8 lU pn uz w9
 let j5:Res:=.row eG e8 43 3 lU
 have uA:SW w [B1] U cK [gM,dI,.blk ak 43 bz,B2,j5,B6,.blk O 28 B0] pn:=uz
 refine oR Z (zF Z iu zo Z Zw) (zh (j:=5) (vs:=[.slice eG jm.length e8]) Z Z Z Z uA Z Z Z Z Zw (zA Z) Z Z Z ?_)
 intro po uB
 have uC:SW w [B1] U cK [gM,dI,.blk ak 43 bz,B2,j5,.blk a7 28 [.slice az x6.Classes.length aY,jV x6.Each,jV x6.Laps,jV x6.Spare,jV x6.Loop,jV x6.Unused,jV cy,.slice eG jm.length e8],.blk O 28 B0] po:=uB
 refine zg (zf (zG (rR fL2 Z (oR Z (zr (zX Z qA Z) (congrArg (jV) mJ.out)) (oM Z Z (zg ?_))))))
 cases wL
 have rV:=rF.le fN
 have rW:=rV.le fO
 exact zG ⟨rfl,⟨cK,dt,dV,eG,e8,lU,rfl,qw,qx,iu,qz,((((((((om.trans fI).trans fP).trans fQ).trans fR).trans fS).trans oq).trans fN).trans fO),(uC.pick [1,3,4,5,6] _ (by decide) rfl),rW,w9⟩⟩
 rintro AL Ab ⟨j8,jL,lD,gx,gZ,lE,qO,Ae,l4,qB,qC,Ag,mx,rX,rY⟩
 have qj:Hid (¬ ((↑((bA:Int) - 0).toNat:Int) < bA)):=zH (wAc)
 refine sR fL1 Z (oR Z (zW Z qO qC) (eN (zI (cF Z qj (ZJ (zd (zd (ZG (zG (sR gAn Z ?_))))))))))
 let cG:List Value:=[.slice az x6.Classes.length aY,jV x6.Each,jV x6.Laps,jV x6.Spare,jV x6.Loop,jV x6.Unused,jV cy,.slice gx xH.length gZ]
 refine oL Z (mx.ldBA (j:=3) Z Z qB ya Zk (vs:=cG) Z Z) (zh (j:=4) (vs:=cG) Z Z Z Z mx Z l4 Z Z Zk (zA Z) Z Z Z ?_)
 intro pp uE
 have my:SW w [B1] U j8 [.blk af 100 [.slice jL xE.length lD,jV xF,.int .u32 xG],B2,.row gx gZ 43 3 lE,.blk a7 28 cG,.blk O 28 cG] pp:=uE
 refine eN (zP ?_)
 cases mK
 exact ⟨rfl,_,(wFz (v:=.agg cG.toArray) ⟨⟨_,l4,(wBL ya Zk (my.blkAt (k:=4) rfl) (vs:=cG) rfl rfl)⟩,trivial⟩),j8,_,(my.pick [1,2,0] _ (by decide) rfl),az,aY,gx,gZ,lE,jL,lD,rfl,rfl,rY,rX⟩
set_option maxHeartbeats 4000000
theorem wCH (p0:Int) (p1:Int) (p2:Int) (w:World) (U:PHeap) (hS:St0 w U [])  {r:Bool} (hm:wBO p0 p1 p2=some r):Gv Tryz.prog 35 [jV p0,jV p1,jV p2] w (wBD w [] U (fun U_ L_ v=>v=.bool r/\L_=[])):=by
 unfold wBO at hm
 refine Gv.of Tryz.func35 Z Tryz.ntmps35 Tryz.results35 Z (sR fL1 Z (oA Z Z (eN (sR fL9 Z (oM Z Z (oM Z Z (oR Z (YJ Z Z Z) (oM Z Z ?_))))))))
 by_cases O:p1 <= p0
 have aa:=hm;rw [if_pos O] at aa;replace O:=zH O
 refine zj Z Z Z (wT Z O) Z Z (zj Z Z Z (wT Z O) Z Z (rU Z (wT Z O) (Runs.leq Z Z Z) (oR Z (zT Z (ZZ O.out) Z) (oA Z Z (eN (zP ?_))))))
 first | (obtain rfl:=nA aa) | cases aa
 exact ⟨Z,_,(zz Z),U,_,hS,Z,Z⟩
 have ae:=hm;rw [if_neg O] at ae;replace O:=zH O
 refine oF Z O (oF Z O (oF Z O (oR Z (za Z (zt O.out) Z) (oA Z Z (eN (zP ?_))))))
 have hE:=nA ae;first | subst r | cases hE
 exact ⟨Z,_,(zz Z),U,_,hS,Z,Z⟩
theorem wHw (O:Int) (p1:(Int->Option Bool)) (ae:Nat) (aa:Value) (w:World) (U:PHeap) (hS:St0 w U []) (aj:Cl U ae 0 [aa]) (ak:FnOK Tryz.prog U aa wKm wLg p1) {r:Bool} (hm:wCR O p1=some r):Gv Tryz.prog 113 [jV O,.pointer (some ⟨ae,0,none⟩)] w (wBD w [] U (fun U_ L_ v=>v=.bool r/\L_=[])):=by
 unfold wCR at hm
 refine Gv.of Tryz.func113 Z Tryz.ntmps113 Tryz.results113 Z (sR fL1 Z (oA Z Z (eN (sR gBf Z (oL Z (hS.ldC (f:=0) aj (v:=aa) Z Z Tryz.isAgg86 Z) (oM Z Z (bnK hm fun x1 h2 am=>yg (a:=O) Z Z Z Z Z Z (zD Z zO) hS ak Z h2 ?_)))))))
 rintro U4 L5 v6 W7 ao ai ⟨rfl,rfl⟩
 have ah:sW w U U4 [] W7:=ai
 refine oR Z (ZF Z Z) (oA Z Z (eN (zP ?_)))
 cases am
 exact ⟨Z,_,(zz Z),U4,_,ah,Z,Z⟩
theorem wFs (O:List Int) (aj:Option Addr) (ak:Nat) (p1:(Int->Option Bool)) (am:Value) (w:World) (U:PHeap) (hS:St0 w U []) (bn:Sl U 1 aj ak O.length (hD KL.encI O)) (bp:FnOK Tryz.prog U am wKm wLg p1) {r:Int} (hm:wBz O p1=some r):Gv Tryz.prog 144 [.slice aj O.length ak,am] w (wBD w [] U (fun U_ L_ v=>v=jV r/\L_=[])):=by
 unfold wBz at hm
 refine Gv.of Tryz.func144 Z Tryz.ntmps144 Tryz.results144 Z (sR fL1 Z (oA Z Z (eN (zI (sR fL3 Z (oM Z Z (oR Z (ze Z Z zB) (oM Z Z (eN (zU ?_))))))))))
 have q:=wBJ hm
 obtain ⟨r3,af⟩:=q
 have q:=wBI af
 obtain ⟨ah,bs⟩:=q
 replace ah:=zH ah
 refine yB (fun k2 _ σ_ w_=>∃ (U_:PHeap),σ_ 8=jV (↑k2:Int)/\σ_ 0=.slice aj O.length ak/\σ_ 1=am/\σ_ 7=jV (↑O.length:Int)/\PHeap.Le U U_/\sW w U U_ [] w_) bs ?_ ?_ ?_
 exact ⟨U,Z,Z,Z,Z,(zL _),hS⟩
 rintro k2 ⟨⟩ bO bQ W8 ag ⟨bD,ae,ao,ap,aq,ai,av⟩ ay bq
 try dsimp only at ay
 have an:Hid ((↑k2:Int) < (↑O.length:Int)):=zH (wAj ag)
 replace ag:=zH ag
 have bt:Hid (w64 ((↑k2:Int) + 1)=(↑(k2 + 1):Int)):=zH (by have h1:=ah.out;have h2:=an.out;rw [wAX] <;> omega)
 refine sR fL1 Z (oR Z (zW Z ae aq) (eN (zI (cT Z an (kN (zI (zU (sR fL2 Z (oM Z ae (oA Z Z (eN (sR (wHg (.fx 5 .nil .stop)) Z (oM Z ap (oM Z ao (oM Z Z (bnK ay fun aY au bu=>?_))))))))))))))))
 have be:=bn.le ai
 have q:=be.el (fun _=>rfl) (wAV au)
 obtain ⟨bG,bK,bh,bi⟩:=q
 refine oR Z (ZE Z Z bh Z zB zC (wAq au)) (oL Z (av.ldC (f:=0) bi (v:=jV aY) Z Z zJ Z) (bnK bu fun bN bf bv=>?_))
 have bg:=bp.le ai
 refine yg (a:=aY) Z Z Z Z Z Z (zD Z zO) av bg Z bf ?_
 rintro ab bC bM a7 bA bj ⟨rfl,rfl⟩
 have aw:sW w U ab [] a7:=bj
 refine eN (ifc bv ?_ ?_)
 intro ac bw
 refine zy (congrArg nB ac.out) (sR fL2 Z (oM Z Z (oA Z Z (eN (zP (zc (zR ?_)))))))
 have q:=wAb bw
 obtain ⟨bB,bx,ba⟩:=q
 have q:=wBC hm af (bq bB ba)
 obtain rfl:=q
 refine zR (zc (zR ?_))
 cases bx
 exact ⟨Z,_,(zz Z),ab,_,aw,Z,Z⟩
 intro ac bz
 refine zn (congrArg nB (nD.2 ac.out)) (ZT (zf (zG (rR fL2 Z (oR Z (zr (zX Z ae Z) (congrArg (jV) bt.out)) (oM Z Z (zg ?_)))))))
 have q:=nA bz
 obtain rfl:=q
 exact zG ⟨Z,_,Z,⟨ab,Z,ao,ap,aq,(ai.trans bA),aw⟩⟩
 rintro ⟨⟩ bP bE ⟨aZ,bd,bH,bI,bb,bJ,bm⟩ br
 have ax:=wCI hm af br
 try dsimp only at ax
 have a8:Hid (¬ ((↑(((↑O.length:Int):Int) - 0).toNat:Int) < (↑O.length:Int))):=zH (wAc)
 refine sR fL1 Z (oR Z (zW Z bd bb) (eN (zI (cF Z a8 (ZJ (zd (zd (ZG (zG (sR fL1 Z (oA Z Z (eN (zP ?_)))))))))))))
 cases ax
 exact ⟨Z,_,(zz Z),aZ,_,bm,Z,Z⟩
theorem wFR (O:List Int) (ab:Option Addr) (ac:Nat) (p1:(Int->Option Bool)) (ae:Value) (w:World) (U:PHeap) (hS:St0 w U []) (am:Sl U 1 ab ac O.length (hD KL.encI O)) (an:FnOK Tryz.prog U ae wKm wLg p1) {r:Bool} (hm:wBY O p1=some r):Gv Tryz.prog 112 [.slice ab O.length ac,ae] w (wBD w [] U (fun U_ L_ v=>v=.bool r/\L_=[])):=by
 unfold wBY at hm
 refine Gv.of Tryz.func112 Z Tryz.ntmps112 Tryz.results112 Z (sR fL1 Z (oA Z Z (eN (sR gBf Z (oM Z Z (oM Z Z (bnK hm fun x1 h2 ag=>zM 0 Z Z Z Z (zK Z Z Tryz.call144 (zD Z (zD Z zO)) Z) hS (fun hs=>wFs O ab ac p1 ae w U hs am an h2) (.inr Z) ?_)))))))
 rintro U4 L5 v6 W7 ap ak ⟨rfl,rfl⟩
 have aj:sW w U U4 [] W7:=ak
 refine oR Z (YJ Z Z Z) (oA Z Z (eN (zP ?_)))
 first | (obtain rfl:=nA ag) | cases ag
 exact ⟨Z,_,(zz Z),U4,_,aj,Z,Z⟩
theorem wCu (p0:List Int) (ag:Option Addr) (ah:Nat) (p1:(Int->Option Bool)) (ae:Value) (w:World) (U:PHeap) (hS:St0 w U []) (aZ:Sl U 1 ag ah p0.length (hD KL.encI p0)) (ak:FnOK Tryz.prog U ae wKm wLg p1) {r:Bool} (hm:wBN p0 p1=some r):Gv Tryz.prog 72 [.slice ag p0.length ah,ae] w (wBD w [] U (fun U_ L_ v=>v=.bool r/\L_=[])):=by
 unfold wBN at hm
 refine Gv.of Tryz.func72 Z Tryz.ntmps72 Tryz.results72 Z (sR gAq Z (ZH (cs:=[ae]) Z Z Z Z Z Z (FnOK.cells ak) hS ?_))
 intro W1 O ay
 have q:=ay.freeze (k:=0) rfl
 obtain ⟨U5,am,aa,az⟩:=q
 replace aa:=Cl.of aa
 have aY:sW w U U5 [] W1:=az
 replace aa:Cl U5 O 0 [ae]:=aa
 refine oA Z Z (eN (sR gBf Z (oM Z Z (oR Z (yn Z zO (zD Z zO)) ?_))))
 have ap:=aZ.le am
 have aq:=ak.le am
 have av:FnOK Tryz.prog U5 (.func (.func 113) #[] #[.pointer (some ⟨O,0,none⟩)]) wKm wLg (fun x=>wCR x p1):=⟨113,[],[.pointer (some ⟨O,0,none⟩)],rfl,Tryz.call113,fun U1 w1 x y vs le hs ha hm=>by obtain rfl:=ha;exact wHw x p1 O ae w1 U1 hs (aa.le le) (aq.le le) hm⟩
 refine bnK hm fun be au a7=>zM 0 Z Z Z Z (zK Z Z Tryz.call112 (zD Z (zD Z zO)) Z) aY (fun hs=>wFR p0 ag ah (fun x=>wCR x p1) (.func (.func 113) #[] #[.pointer (some ⟨O,0,none⟩)]) W1 U5 hs ap av au) (.inr Z) ?_
 rintro ai ba bd ao bb aw ⟨rfl,rfl⟩
 have ax:sW w U ai [] ao:=aw
 refine oR Z (ZF Z Z) (oA Z Z (eN (zP ?_)))
 cases a7
 exact ⟨Z,_,(zz Z),ai,_,ax,Z,Z⟩
theorem wIT (O:Int) (w:World) (U:PHeap) (hS:St0 w U [])  {r:Bool} (hm:wBP O=some r):Gv Tryz.prog 140 [jV O] w (wBD w [] U (fun U_ L_ v=>v=.bool r/\L_=[])):=by
 unfold wBP at hm
 refine Gv.of Tryz.func140 Z Tryz.ntmps140 Tryz.results140 Z (sR fL1 Z (oA Z Z (eN (sR gAw Z (oM Z Z (bnK hm fun x1 h2 ag=>zM 0 Z Z Z Z (zK Z Z yf (zD Z (zD Z (zD Z zO))) Z) hS (fun hs=>wCH O 0 3 w U hs h2) (.inr Z) ?_))))))
 rintro U4 L5 v6 W7 ai af ⟨rfl,rfl⟩
 have ae:sW w U U4 [] W7:=af
 refine oA Z Z (eN (zP ?_))
 have hE:=nA ag;first | subst r | cases hE
 exact ⟨Z,_,(zz Z),U4,_,ae,Z,Z⟩
theorem wFj (O:List Int) (aa:Option Addr) (ab:Nat) (w:World) (U:PHeap) (hS:St0 w U []) (ak:Sl U 1 aa ab O.length (hD KL.encI O)) {r:Bool} (hm:wCN O=some r):Gv Tryz.prog 103 [.slice aa O.length ab] w (wBD w [] U (fun U_ L_ v=>v=.bool r/\L_=[])):=by
 unfold wCN at hm
 refine Gv.of Tryz.func103 Z Tryz.ntmps103 Tryz.results103 Z (sR fL1 Z (oA Z Z (eN (sR gAw Z (oM Z Z ?_)))))
 have ah:FnOK Tryz.prog U (.func (.func 140) #[] #[]) wKm wLg wBP:=⟨140,[],[],rfl,Tryz.call140,fun U1 w1 x y vs le hs ha hm=>by obtain rfl:=ha;exact wIT x w1 U1 hs  hm⟩
 refine bnK hm fun x2 h3 am=>zM 0 Z Z Z Z (zK Z Z Tryz.call72 (zD Z (zD Z zO)) Z) hS (fun hs=>wCu O aa ab wBP (.func (.func 140) #[] #[]) w U hs ak ah h3) (.inr Z) ?_
 rintro U5 L6 v7 W8 ap ai ⟨rfl,rfl⟩
 have aj:sW w U U5 [] W8:=ai
 refine oA Z Z (eN (zP ?_))
 have hE:=nA am;first | subst r | cases hE
 exact ⟨Z,_,(zz Z),U5,_,aj,Z,Z⟩
theorem wIo (O:wAL) (aa:Option Addr) (ab:Nat) (w:World) (U:PHeap) (hS:St0 w U []) (ag:Sl U 1 aa ab O.Classes.length (hD KL.encI O.Classes)) {r:Int} (hm:wBs O=some r):Gv Tryz.prog 177 [.agg #[.slice aa O.Classes.length ab,jV O.Each,jV O.Laps,jV O.Spare,jV O.Loop,jV O.Unused]] w (wBD w [] U (fun U_ L_ v=>v=jV r/\L_=[])):=by
 unfold wBs at hm
 refine Gv.of Tryz.func177 rfl Tryz.ntmps177 Tryz.results177 rfl (sR gAq rfl (ZH (cs:=[.slice aa O.Classes.length ab,jV O.Each,jV O.Laps,jV O.Spare,jV O.Loop,jV O.Unused]) rfl rfl rfl rfl rfl rfl (by rfl) hS ?_))
 intro W1 b2 ac
 refine oA Z Z (eN (sR fL3 Z (oR Z (zF Z Z ZA Z zC) (oL Z (ac.ldB (j:=0) Z Z Z zJ (v:=jV O.Each) Z) (oA Z Z (eN (zP ?_)))))))
 cases hm
 exact ⟨rfl,_,(zz rfl),U,_,(ac.pick [] _ (by decide) rfl),rfl,rfl⟩
theorem wIp (O:wAL) (aa:Option Addr) (ab:Nat) (w:World) (U:PHeap) (hS:St0 w U []) (ag:Sl U 1 aa ab O.Classes.length (hD KL.encI O.Classes)) {r:Int} (hm:wBt O=some r):Gv Tryz.prog 178 [.agg #[.slice aa O.Classes.length ab,jV O.Each,jV O.Laps,jV O.Spare,jV O.Loop,jV O.Unused]] w (wBD w [] U (fun U_ L_ v=>v=jV r/\L_=[])):=by
 unfold wBt at hm
 refine Gv.of Tryz.func178 rfl Tryz.ntmps178 Tryz.results178 rfl (sR gAq rfl (ZH (cs:=[.slice aa O.Classes.length ab,jV O.Each,jV O.Laps,jV O.Spare,jV O.Loop,jV O.Unused]) rfl rfl rfl rfl rfl rfl (by rfl) hS ?_))
 intro W1 b2 ac
 refine oA Z Z (eN (sR fL3 Z (oR Z (zF Z Z ZA Z zC) (oL Z (ac.ldB (j:=0) Z Z Z zJ (v:=jV O.Laps) Z) (oA Z Z (eN (zP ?_)))))))
 cases hm
 exact ⟨rfl,_,(zz rfl),U,_,(ac.pick [] _ (by decide) rfl),rfl,rfl⟩
theorem wIq (O:wAL) (aa:Option Addr) (ab:Nat) (w:World) (U:PHeap) (hS:St0 w U []) (ag:Sl U 1 aa ab O.Classes.length (hD KL.encI O.Classes)) {r:Int} (hm:wBu O=some r):Gv Tryz.prog 179 [.agg #[.slice aa O.Classes.length ab,jV O.Each,jV O.Laps,jV O.Spare,jV O.Loop,jV O.Unused]] w (wBD w [] U (fun U_ L_ v=>v=jV r/\L_=[])):=by
 unfold wBu at hm
 refine Gv.of Tryz.func179 rfl Tryz.ntmps179 Tryz.results179 rfl (sR gAq rfl (ZH (cs:=[.slice aa O.Classes.length ab,jV O.Each,jV O.Laps,jV O.Spare,jV O.Loop,jV O.Unused]) rfl rfl rfl rfl rfl rfl (by rfl) hS ?_))
 intro W1 b2 ac
 refine oA Z Z (eN (sR fL3 Z (oR Z (zF Z Z ZA Z zC) (oL Z (ac.ldB (j:=0) Z Z Z zJ (v:=jV O.Spare) Z) (oA Z Z (eN (zP ?_)))))))
 cases hm
 exact ⟨rfl,_,(zz rfl),U,_,(ac.pick [] _ (by decide) rfl),rfl,rfl⟩
theorem wIr (O:wAL) (aa:Option Addr) (ab:Nat) (w:World) (U:PHeap) (hS:St0 w U []) (ag:Sl U 1 aa ab O.Classes.length (hD KL.encI O.Classes)) {r:Int} (hm:wBv O=some r):Gv Tryz.prog 180 [.agg #[.slice aa O.Classes.length ab,jV O.Each,jV O.Laps,jV O.Spare,jV O.Loop,jV O.Unused]] w (wBD w [] U (fun U_ L_ v=>v=jV r/\L_=[])):=by
 unfold wBv at hm
 refine Gv.of Tryz.func180 rfl Tryz.ntmps180 Tryz.results180 rfl (sR gAq rfl (ZH (cs:=[.slice aa O.Classes.length ab,jV O.Each,jV O.Laps,jV O.Spare,jV O.Loop,jV O.Unused]) rfl rfl rfl rfl rfl rfl (by rfl) hS ?_))
 intro W1 b2 ac
 refine oA Z Z (eN (sR fL3 Z (oR Z (zF Z Z ZA Z zC) (oL Z (ac.ldB (j:=0) Z Z Z zJ (v:=jV O.Loop) Z) (oA Z Z (eN (zP ?_)))))))
 cases hm
 exact ⟨rfl,_,(zz rfl),U,_,(ac.pick [] _ (by decide) rfl),rfl,rfl⟩
theorem wIs (O:wAL) (aa:Option Addr) (ab:Nat) (w:World) (U:PHeap) (hS:St0 w U []) (ag:Sl U 1 aa ab O.Classes.length (hD KL.encI O.Classes)) {r:Int} (hm:wBw O=some r):Gv Tryz.prog 181 [.agg #[.slice aa O.Classes.length ab,jV O.Each,jV O.Laps,jV O.Spare,jV O.Loop,jV O.Unused]] w (wBD w [] U (fun U_ L_ v=>v=jV r/\L_=[])):=by
 unfold wBw at hm
 refine Gv.of Tryz.func181 rfl Tryz.ntmps181 Tryz.results181 rfl (sR gAq rfl (ZH (cs:=[.slice aa O.Classes.length ab,jV O.Each,jV O.Laps,jV O.Spare,jV O.Loop,jV O.Unused]) rfl rfl rfl rfl rfl rfl (by rfl) hS ?_))
 intro W1 b2 ac
 refine oA Z Z (eN (sR fL3 Z (oR Z (zF Z Z ZA Z zC) (oL Z (ac.ldB (j:=0) Z Z Z zJ (v:=jV O.Unused) Z) (oA Z Z (eN (zP ?_)))))))
 cases hm
 exact ⟨rfl,_,(zz rfl),U,_,(ac.pick [] _ (by decide) rfl),rfl,rfl⟩
theorem wJo  (w:World) (U:PHeap) (hS:St0 w U [])  {r:(List wAT)} (hm:wEx =some r):Gv Tryz.prog 136 [] w (wBD w [] U (fun U_ L_ v=>∃ (A0:Option Addr) (c0:Nat) (an:List Value),v=.slice A0 r.length c0/\L_=[.row A0 c0 222 3 an]/\RlL U_ wJG r an)):=by
 unfold wEx at hm
 refine Gv.of Tryz.func136 Z Tryz.ntmps136 Tryz.results136 Z (sR fL1 Z (oA Z Z (eN (sR (wHg (.fx 5 (.fl 6 .nil) .stop)) Z ?_))))
 let B0:List Value:=[.nilFunc,jV 0,jV 0]
 let B1:List Value:=[.func (.func 177) #[] #[],jV 1,jV 4]
 refine oR Z (zx (pv:=[(0,.func (.func 177) #[] #[]),(1,jV 1),(2,jV 4)]) (z:=B0) (cs:=B1) Z (wAA Z (wAA Z (wAA Z wAI))) YZ wGh Z Z) ?_
 let B2:List Value:=[.func (.func 178) #[] #[],jV 1,jV 5]
 refine oR Z (zx (pv:=[(0,.func (.func 178) #[] #[]),(1,jV 1),(2,jV 5)]) (z:=B0) (cs:=B2) Z (wAA Z (wAA Z (wAA Z wAI))) YZ wGh Z Z) ?_
 let B3:List Value:=[.func (.func 179) #[] #[],jV 0,jV 600]
 refine oR Z (zx (pv:=[(0,.func (.func 179) #[] #[]),(1,jV 0),(2,jV 600)]) (z:=B0) (cs:=B3) Z (wAA Z (wAA Z (wAA Z wAI))) YZ wGh Z Z) ?_
 let B4:List Value:=[.func (.func 180) #[] #[],jV 0,jV 600]
 refine oR Z (zx (pv:=[(0,.func (.func 180) #[] #[]),(1,jV 0),(2,jV 600)]) (z:=B0) (cs:=B4) Z (wAA Z (wAA Z (wAA Z wAI))) YZ wGh Z Z) ?_
 let B5:List Value:=[.func (.func 181) #[] #[],jV 0,jV 6000]
 refine oR Z (zx (pv:=[(0,.func (.func 181) #[] #[]),(1,jV 0),(2,jV 6000)]) (z:=B0) (cs:=B5) Z (wAA Z (wAA Z (wAA Z wAI))) YZ wGh Z Z) ?_
 let B6:List Value:=[.func (.func 177) #[] #[],jV 1,jV 4,.func (.func 178) #[] #[],jV 1,jV 5,.func (.func 179) #[] #[],jV 0,jV 600,.func (.func 180) #[] #[],jV 0,jV 600,.func (.func 181) #[] #[],jV 0,jV 6000]
 refine zb (pv:=[(0,.agg B1.toArray),(1,.agg B2.toArray),(2,.agg B3.toArray),(3,.agg B4.toArray),(4,.agg B5.toArray)]) (zs:=[.nilFunc,jV 0,jV 0,.nilFunc,jV 0,jV 0,.nilFunc,jV 0,jV 0,.nilFunc,jV 0,jV 0,.nilFunc,jV 0,jV 0]) (cs:=B6) Z Z Z Z Z (wAA Z (wAA Z (wAA Z (wAA Z (wAA Z wAI))))) Tryz.runUnderlying223 Tryz.sizeOf222 YZ Z Z Z Z Z hS ?_
 intro W1 b2 ay
 have ap:FnOK Tryz.prog U (.func (.func 181) #[] #[]) wKV wKW wBw:=⟨181,[],[],rfl,Tryz.call181,fun O w1 x y vs le hs ha hm=>by obtain ⟨pA_0_0,pc_0_0,rfl,hq0_0⟩:=ha;exact wIs x pA_0_0 pc_0_0 w1 O hs hq0_0 hm⟩
 have aq:FnOK Tryz.prog U (.func (.func 180) #[] #[]) wKV wKW wBv:=⟨180,[],[],rfl,Tryz.call180,fun O w1 x y vs le hs ha hm=>by obtain ⟨pA_0_0,pc_0_0,rfl,hq0_0⟩:=ha;exact wIr x pA_0_0 pc_0_0 w1 O hs hq0_0 hm⟩
 have au:FnOK Tryz.prog U (.func (.func 179) #[] #[]) wKV wKW wBu:=⟨179,[],[],rfl,Tryz.call179,fun O w1 x y vs le hs ha hm=>by obtain ⟨pA_0_0,pc_0_0,rfl,hq0_0⟩:=ha;exact wIq x pA_0_0 pc_0_0 w1 O hs hq0_0 hm⟩
 have av:FnOK Tryz.prog U (.func (.func 178) #[] #[]) wKV wKW wBt:=⟨178,[],[],rfl,Tryz.call178,fun O w1 x y vs le hs ha hm=>by obtain ⟨pA_0_0,pc_0_0,rfl,hq0_0⟩:=ha;exact wIp x pA_0_0 pc_0_0 w1 O hs hq0_0 hm⟩
 have aw:FnOK Tryz.prog U (.func (.func 177) #[] #[]) wKV wKW wBs:=⟨177,[],[],rfl,Tryz.call177,fun O w1 x y vs le hs ha hm=>by obtain ⟨pA_0_0,pc_0_0,rfl,hq0_0⟩:=ha;exact wIo x pA_0_0 pc_0_0 w1 O hs hq0_0 hm⟩
 have az:RlL U wJG [(⟨wBs,1,4⟩:wAT),(⟨wBt,1,5⟩:wAT),(⟨wBu,0,600⟩:wAT),(⟨wBv,0,600⟩:wAT),(⟨wBw,0,6000⟩:wAT)] B6:=(RlL.cons (R:=wJG) (x:=(⟨wBs,1,4⟩:wAT)) (vs:=B1) ⟨(.func (.func 177) #[] #[]),rfl,aw⟩ (RlL.cons (R:=wJG) (x:=(⟨wBt,1,5⟩:wAT)) (vs:=B2) ⟨(.func (.func 178) #[] #[]),rfl,av⟩ (RlL.cons (R:=wJG) (x:=(⟨wBu,0,600⟩:wAT)) (vs:=B3) ⟨(.func (.func 179) #[] #[]),rfl,au⟩ (RlL.cons (R:=wJG) (x:=(⟨wBv,0,600⟩:wAT)) (vs:=B4) ⟨(.func (.func 180) #[] #[]),rfl,aq⟩ (RlL.cons (R:=wJG) (x:=(⟨wBw,0,6000⟩:wAT)) (vs:=B5) ⟨(.func (.func 181) #[] #[]),rfl,ap⟩ RlL.nil)))))
 have ax:sW w U U [.row (some ⟨b2,0,none⟩) 5 222 3 B6] W1:=ay
 refine oA Z Z (eN (zP ?_))
 cases hm
 exact ⟨Z,_,(zz Z),U,_,ax,(some ⟨b2,0,none⟩),5,B6,Z,Z,az⟩
theorem wHF (p0:wAT) (af:Value) (O:wAL) (an:Nat) (ac:Option Addr) (ae:Nat) (w:World) (U:PHeap) (hS:St0 w U []) (az:FnOK Tryz.prog U af wKV wKW p0.of) (aY:Cl U an 0 [.slice ac O.Classes.length ae,jV O.Each,jV O.Laps,jV O.Spare,jV O.Loop,jV O.Unused]) (aZ:Sl U 1 ac ae O.Classes.length (hD KL.encI O.Classes)) {r:Bool} (hm:wBq p0 O=some r):Gv Tryz.prog 137 [.agg #[af,jV p0.lo,jV p0.hi],.pointer (some ⟨an,0,none⟩)] w (wBD w [] U (fun U_ L_ v=>v=.bool r/\L_=[])):=by
 unfold wBq at hm
 refine Gv.of Tryz.func137 Z Tryz.ntmps137 Tryz.results137 Z (sR gAq Z ?_)
 let B0:List Value:=[af,jV p0.lo,jV p0.hi]
 refine ZH (cs:=B0) rfl rfl rfl rfl rfl rfl (by rfl) hS ?_
 intro W1 b2 ay
 refine yU rfl rfl rfl rfl rfl rfl (eN (zI (ZN ZD [3,1,1,2,3,1,3,1,2,3] (wCK (fC4_7 (.fx 3 (.fx 8 (.fl 9 .nil) .stop) .stop))) (by kernel_rfl) ?_)))
 have ab:=ay.drew
 generalize hw_W6:({ W1 with drawn:=W1.drawn + 1 }:World)=W6 at ab ⊢
 refine oR Z (zF Z Z Tryz.runUnderlying222 Z Tryz.sizeOf220) (oL Z (ab.ldB (j:=0) Z Z Z Tryz.isAgg220 (v:=af) Z) (oL Z (ab.ldCA (f:=0) aY Z Z yS ZO (us:=[.slice ac O.Classes.length ae,jV O.Each,jV O.Laps,jV O.Spare,jV O.Loop,jV O.Unused]) Z Z) (oR Z (zF Z Z Tryz.runUnderlying222 Z zC) (oL Z (ab.ldB (j:=0) Z Z Z zJ (v:=jV p0.lo) Z) (oR Z (zF Z Z Tryz.runUnderlying222 Z zC) (oL Z (ab.ldB (j:=0) Z Z Z zJ (v:=jV p0.hi) Z) (bnK hm fun x7 h8 a8=>yg (a:=O) Z Z Z Z Z Z (zD Z zO) ab az ⟨ac,ae,Z,aZ⟩ h8 ?_)))))))
 rintro ah bb bh ak bf au ⟨rfl,rfl⟩
 have av:sW w U ah [.blk b2 222 B0] ak:=au
 refine bnK a8 fun bj ap a7=>zM 0 Z Z Z Z (zK Z Z yf (zD Z (zD Z (zD Z zO))) Z) av (fun hs=>wCH x7 p0.lo p0.hi ak ah hs ap) (.inr Z) ?_
 rintro ai bd bi ao bg aw ⟨rfl,rfl⟩
 have ax:sW w U ai [.blk b2 222 B0] ao:=aw
 refine oA Z Z (eN (zP ?_))
 have hE:=nA a7;first | subst r | cases hE
 exact ⟨rfl,_,(zz rfl),ai,_,(ax.pick [] _ (by decide) rfl),rfl,rfl⟩
theorem wFt (O:wAT) (aa:Value) (p1:(wAT->Option Bool)) (ah:Nat) (ae:Value) (w:World) (U:PHeap) (hS:St0 w U []) (ao:FnOK Tryz.prog U aa wKV wKW O.of) (ap:Cl U ah 0 [ae]) (aq:FnOK Tryz.prog U ae wNQ wNR p1) {r:Bool} (hm:wAz O p1=some r):Gv Tryz.prog 176 [.agg #[aa,jV O.lo,jV O.hi],.pointer (some ⟨ah,0,none⟩)] w (wBD w [] U (fun U_ L_ v=>v=.bool r/\L_=[])):=by
 unfold wAz at hm
 refine Gv.of Tryz.func176 Z Tryz.ntmps176 Tryz.results176 Z (sR gAq Z ?_)
 let B0:List Value:=[aa,jV O.lo,jV O.hi]
 refine ZH (cs:=B0) rfl rfl rfl rfl rfl rfl (by rfl) hS ?_
 intro W1 b2 ac
 refine oA Z Z (eN (sR gBf Z (oL Z (ac.ldC (f:=0) ap (v:=ae) Z Z Tryz.isAgg225 Z) (oL Z (ac.ldBA (j:=0) Z Z Z Tryz.isAgg222 Tryz.sizeOf222 (vs:=B0) Z Z) (bnK hm fun x5 h6 au=>yg (a:=O) Z Z Z Z Z Z (zD Z zO) ac aq ⟨aa,Z,ao⟩ h6 ?_)))))
 rintro U8 L9 ay ai ax am ⟨rfl,rfl⟩
 have an:sW w U U8 [.blk b2 222 B0] ai:=am
 refine oR Z (ZF Z Z) (oA Z Z (eN (zP ?_)))
 cases au
 exact ⟨rfl,_,(zz rfl),U8,_,(an.pick [] _ (by decide) rfl),rfl,rfl⟩
theorem wDY (O:List wAT) (am:Option Addr) (an:Nat) (p1:(wAT->Option Bool)) (ao:Value) (w:World) (U:PHeap) (hS:St0 w U []) (bs:SlR U wJG am an O) (bt:FnOK Tryz.prog U ao wNQ wNR p1) {r:Int} (hm:wAt O p1=some r):Gv Tryz.prog 201 [.slice am O.length an,ao] w (wBD w [] U (fun U_ L_ v=>v=jV r/\L_=[])):=by
 unfold wAt at hm
 refine Gv.of Tryz.func201 Z Tryz.ntmps201 Tryz.results201 Z (sR fL1 Z (oA Z Z (eN (zI (sR fL3 Z (oM Z Z (oR Z (ze Z Z Tryz.runUnderlying223) (oM Z Z (eN (zU ?_))))))))))
 have q:=wBJ hm
 obtain ⟨r3,ah⟩:=q
 have q:=wBI ah
 obtain ⟨aj,bw⟩:=q
 replace aj:=zH aj
 refine yB (fun k2 _ σ_ w_=>∃ (U_:PHeap),σ_ 8=jV (↑k2:Int)/\σ_ 0=.slice am O.length an/\σ_ 1=ao/\σ_ 7=jV (↑O.length:Int)/\PHeap.Le U U_/\sW w U U_ [] w_) bw ?_ ?_ ?_
 exact ⟨U,Z,Z,Z,Z,(zL _),hS⟩
 rintro k2 ⟨⟩ bS bU W8 ai ⟨a8,af,au,av,aw,ak,ay⟩ aZ bu
 try dsimp only at aZ
 have aq:Hid ((↑k2:Int) < (↑O.length:Int)):=zH (wAj ai)
 replace ai:=zH ai
 have bx:Hid (w64 ((↑k2:Int) + 1)=(↑(k2 + 1):Int)):=zH (by have h1:=aj.out;have h2:=aq.out;rw [wAX] <;> omega)
 refine sR fL1 Z (oR Z (zW Z af aw) (eN (zI (cT Z aq (kN (zI (zU (sR fL2 Z (oM Z af (oA Z Z (eN (sR (wHg (.fx 5 .nil .stop)) Z (oM Z av (oM Z au (oM Z Z (bnK aZ fun ab ax bz=>?_))))))))))))))))
 have bi:=bs.le ak
 have q:=bi.el (wAV ax)
 obtain ⟨bd,bG,bQ,bp,ag,bE⟩:=q
 obtain ⟨ap,rfl,bj⟩:=bE
 replace ag:Cl a8 bd (bG + k2 * 3) [ap,jV ab.lo,jV ab.hi]:=ag
 refine oR Z (ZE Z Z bp Z Tryz.runUnderlying223 Tryz.sizeOf222 (wAq ax)) (oL Z (ay.ldCA (f:=0) ag Z Z Tryz.isAgg222 Tryz.sizeOf222 (us:=[ap,jV ab.lo,jV ab.hi]) Z Z) (bnK bz fun bR bm bA=>?_))
 have bn:=bt.le ak
 refine yg (a:=ab) Z Z Z Z Z Z (zD Z zO) ay bn ⟨ap,Z,bj⟩ bm ?_
 rintro ac bI bP bb bF bq ⟨rfl,rfl⟩
 have az:sW w U ac [] bb:=bq
 refine eN (ifc bA ?_ ?_)
 intro ae bB
 refine zy (congrArg nB ae.out) (sR fL2 Z (oM Z Z (oA Z Z (eN (zP (zc (zR ?_)))))))
 have q:=wAb bB
 obtain ⟨bH,bC,bf⟩:=q
 have q:=wBC hm ah (bu bH bf)
 obtain rfl:=q
 refine zR (zc (zR ?_))
 cases bC
 exact ⟨Z,_,(zz Z),ac,_,az,Z,Z⟩
 intro ae bD
 refine zn (congrArg nB (nD.2 ae.out)) (ZT (zf (zG (rR fL2 Z (oR Z (zr (zX Z af Z) (congrArg (jV) bx.out)) (oM Z Z (zg ?_)))))))
 have q:=nA bD
 obtain rfl:=q
 exact zG ⟨Z,_,Z,⟨ac,Z,au,av,aw,(ak.trans bF),az⟩⟩
 rintro ⟨⟩ bT bJ ⟨ba,bh,bL,bM,bg,bN,br⟩ bv
 have aY:=wCI hm ah bv
 try dsimp only at aY
 have be:Hid (¬ ((↑(((↑O.length:Int):Int) - 0).toNat:Int) < (↑O.length:Int))):=zH (wAc)
 refine sR fL1 Z (oR Z (zW Z bh bg) (eN (zI (cF Z be (ZJ (zd (zd (ZG (zG (sR fL1 Z (oA Z Z (eN (zP ?_)))))))))))))
 cases aY
 exact ⟨Z,_,(zz Z),ba,_,br,Z,Z⟩
theorem wDM (O:List wAT) (ab:Option Addr) (ac:Nat) (p1:(wAT->Option Bool)) (ae:Value) (w:World) (U:PHeap) (hS:St0 w U []) (am:SlR U wJG ab ac O) (an:FnOK Tryz.prog U ae wNQ wNR p1) {r:Bool} (hm:wAo O p1=some r):Gv Tryz.prog 175 [.slice ab O.length ac,ae] w (wBD w [] U (fun U_ L_ v=>v=.bool r/\L_=[])):=by
 unfold wAo at hm
 refine Gv.of Tryz.func175 Z Tryz.ntmps175 Tryz.results175 Z (sR fL1 Z (oA Z Z (eN (sR gBf Z (oM Z Z (oM Z Z (bnK hm fun x1 h2 ag=>zM 0 Z Z Z Z (zK Z Z Tryz.call201 (zD Z (zD Z zO)) Z) hS (fun hs=>wDY O ab ac p1 ae w U hs am an h2) (.inr Z) ?_)))))))
 rintro U4 L5 v6 W7 ap ak ⟨rfl,rfl⟩
 have aj:sW w U U4 [] W7:=ak
 refine oR Z (YJ Z Z Z) (oA Z Z (eN (zP ?_)))
 first | (obtain rfl:=nA ag) | cases ag
 exact ⟨Z,_,(zz Z),U4,_,aj,Z,Z⟩
theorem wGH (p0:List wAT) (ag:Option Addr) (ah:Nat) (p1:(wAT->Option Bool)) (ac:Value) (w:World) (U:PHeap) (hS:St0 w U []) (aZ:SlR U wJG ag ah p0) (ak:FnOK Tryz.prog U ac wNQ wNR p1) {r:Bool} (hm:wBg p0 p1=some r):Gv Tryz.prog 135 [.slice ag p0.length ah,ac] w (wBD w [] U (fun U_ L_ v=>v=.bool r/\L_=[])):=by
 unfold wBg at hm
 refine Gv.of Tryz.func135 Z Tryz.ntmps135 Tryz.results135 Z (sR gAq Z (ZH (cs:=[ac]) Z Z Z Z Z Z (FnOK.cells ak) hS ?_))
 intro W1 O ay
 have q:=ay.freeze (k:=0) rfl
 obtain ⟨U5,am,aa,az⟩:=q
 replace aa:=Cl.of aa
 have aY:sW w U U5 [] W1:=az
 replace aa:Cl U5 O 0 [ac]:=aa
 refine oA Z Z (eN (sR gBf Z (oM Z Z (oR Z (yn Z zO (zD Z zO)) ?_))))
 have ap:=aZ.le am
 have aq:=ak.le am
 have av:FnOK Tryz.prog U5 (.func (.func 176) #[] #[.pointer (some ⟨O,0,none⟩)]) wNQ wNR (fun x=>wAz x p1):=⟨176,[],[.pointer (some ⟨O,0,none⟩)],rfl,Tryz.call176,fun U1 w1 x y vs le hs ha hm=>by obtain ⟨pv_0_0,rfl,hq0_0⟩:=ha;exact wFt x pv_0_0 p1 O ac w1 U1 hs hq0_0 (aa.le le) (aq.le le) hm⟩
 refine bnK hm fun be au a7=>zM 0 Z Z Z Z (zK Z Z Tryz.call175 (zD Z (zD Z zO)) Z) aY (fun hs=>wDM p0 ag ah (fun x=>wAz x p1) (.func (.func 176) #[] #[.pointer (some ⟨O,0,none⟩)]) W1 U5 hs ap av au) (.inr Z) ?_
 rintro ai ba bd ao bb aw ⟨rfl,rfl⟩
 have ax:sW w U ai [] ao:=aw
 refine oR Z (ZF Z Z) (oA Z Z (eN (zP ?_)))
 cases a7
 exact ⟨Z,_,(zz Z),ai,_,ax,Z,Z⟩
theorem wFw (O:wAL) (ab:Option Addr) (ac:Nat) (w:World) (U:PHeap) (hS:St0 w U []) (bJ:Sl U 1 ab ac O.Classes.length (hD KL.encI O.Classes)) {r:Int} (hm:wCS O=some r):Gv Tryz.prog 99 [.agg #[.slice ab O.Classes.length ac,jV O.Each,jV O.Laps,jV O.Spare,jV O.Loop,jV O.Unused]] w (wBD w [] U (fun U_ L_ v=>v=jV r/\L_=[])):=by
 unfold wCS at hm
 refine Gv.of Tryz.func99 Z Tryz.ntmps99 Tryz.results99 Z (sR gAq Z ?_)
 let B0:List Value:=[.slice ab O.Classes.length ac,jV O.Each,jV O.Laps,jV O.Spare,jV O.Loop,jV O.Unused]
 refine ZH (cs:=B0) rfl rfl rfl rfl rfl rfl (by rfl) hS ?_
 intro W1 b2 bB
 have q:=bB.freeze (k:=0) rfl
 obtain ⟨U5,bV,ae,bI⟩:=q
 replace ae:=Cl.of ae
 have a8:sW w U U5 [] W1:=bI
 replace ae:Cl U5 b2 0 B0:=ae
 refine oA Z Z (eN (zI (zU (sR (wCK (.fx 3 gAl .stop)) Z (oR Z (zF Z Z ZA Z zS) (oL Z (a8.ldC (f:=0) ae (v:=.slice ab O.Classes.length ac) Z Z zZ Z) (oR Z (ze Z Z zB) (bnK hm fun cn bj bK=>zM 0 Z Z Z Z (zK Z Z yf (zD Z (zD Z (zD Z zO))) Z) a8 (fun hs=>wCH (↑O.Classes.length:Int) 1 4 W1 U5 hs bj) (.inr Z) ?_))))))))
 rintro ag bY cg aw ba bA ⟨rfl,rfl⟩
 have ap:sW w U ag [] aw:=bA
 refine oR Z (ZF Z Z) (oA Z Z (eN (ifc bK ?_ ?_)))
 intro an bL
 refine zn (nC an.out) (sR (.fl 0 (.fl 1 (.fx 2 (.fl 3 (.fl 4 (.fx 5 (.fl 6 (.fx 7 (wKM (.nil)) .stop)) .stop))) .stop))) Z (oR Z (zF Z Z ZA Z zS) ?_))
 have az:=ae.le ba
 refine oL Z (ap.ldC (f:=0) az (v:=.slice ab O.Classes.length ac) Z Z zZ Z) ?_
 have bm:=bJ.le bV
 have aY:=bm.le ba
 refine bnK bL fun co bn bM=>zM 0 Z Z Z Z (zK Z Z Tryz.call103 (zD Z zO) Z) ap (fun hs=>wFj O.Classes ab ac aw ag hs aY bn) (.inr Z) ?_
 rintro ah bZ ci ax bb bC ⟨rfl,rfl⟩
 have aZ:sW w U ah [] ax:=bC
 refine oR Z (ZF Z Z) (oM Z Z (ifc bM ?_ ?_))
 intro aa bN
 refine bnK bN fun bX bp bO=>zM 0 Z Z Z (zN Z Z (nC aa.out)) (zK Z Z Tryz.call136 zO Z) aZ (fun hs=>wJo ax ah hs bp) (.inr Z) ?_
 rintro bg ca cj am bd bD ⟨aq,ay,bi,rfl,rfl,bq⟩
 have bE:sW w U bg [.row aq ay 222 3 bi] am:=bD
 refine zY Z Z Z (zN Z Z (nC aa.out)) (fun _=>yn Z zO (zD Z zO)) ?_
 have q:=bE.freezeRR (R:=wJG) (k:=0) rfl bq rfl (by decide)
 obtain ⟨aj,be,bU,bF⟩:=q
 have bG:sW w U aj [] am:=bF
 have br:=az.le bb
 have bs:=br.le bd
 have bt:=bs.le be
 have bu:=aY.le bb
 have bv:=bu.le bd
 have bw:=bv.le be
 have bz:FnOK Tryz.prog aj (.func (.func 137) #[] #[.pointer (some ⟨b2,0,none⟩)]) wNQ wNR (fun x=>wBq x O):=⟨137,[],[.pointer (some ⟨b2,0,none⟩)],rfl,Tryz.call137,fun U1 w1 x y vs le hs ha hm=>by obtain ⟨pv_0_0,rfl,hq0_0⟩:=ha;exact wHF x pv_0_0 O b2 ab ac w1 U1 hs hq0_0 (bt.le le) (bw.le le) hm⟩
 refine bnK bO fun cp bx bP=>zM 0 Z Z Z (zN Z Z (nC aa.out)) (zK Z Z Tryz.call135 (zD Z (zD Z zO)) Z) bG (fun hs=>wGH bX aq ay (fun x=>wBq x O) (.func (.func 137) #[] #[.pointer (some ⟨b2,0,none⟩)]) am aj hs bU bz bx) (.inr Z) ?_
 rintro ak cc cm bh cd bH ⟨rfl,rfl⟩
 have a7:sW w U ak [] bh:=bH
 refine zY Z Z Z (zN Z Z (nC aa.out)) (fun _=>ZF Z Z) (oR Z (za Z (nC aa.out) Z) (oA Z Z (eN (ifc bP ?_ ?_))))
 intro ao bQ
 refine zn (nC ao.out) (ZT (zf (zG (sR fL1 Z (oA Z Z (eN (zP ?_)))))))
 cases bQ
 exact ⟨Z,_,(zz Z),ak,_,a7,Z,Z⟩
 intro ao bR
 refine zy (nF (ao.out)) (sR fL1 Z (oA Z Z (eN (zP (zc (zR ?_))))))
 cases bR
 exact ⟨Z,_,(zz Z),ak,_,a7,Z,Z⟩
 intro aa bS
 refine ZI Z Z Z (zQ Z Z (nF (aa.out)) Z) (zk Z Z Z (zQ Z Z (nF (aa.out)) Z) (ZI Z Z Z (zQ Z Z (nF (aa.out)) Z) (zk Z Z Z (zQ Z Z (nF (aa.out)) Z) (oR Z (zT Z (nF (aa.out)) Z) (oA Z Z (eN (zy Z (sR fL1 Z (oA Z Z (eN (zP (zc (zR ?_)))))))))))))
 cases bS
 exact ⟨Z,_,(zz Z),ah,_,aZ,Z,Z⟩
 intro an bT
 refine zy (nF (an.out)) (sR fL1 Z (oA Z Z (eN (zP (zc (zR ?_))))))
 cases bT
 exact ⟨Z,_,(zz Z),ag,_,ap,Z,Z⟩
theorem wHW (p0:wAL) (bb:Option Addr) (be:Nat) (p1:wAN) (bd:Option Addr) (bf:Nat) (aj:Option Addr) (am:Nat) (w:World) (U:PHeap) (hS:St0 w U []) (cX:Sl U 1 bb be p0.Classes.length (hD KL.encI p0.Classes)) (cY:Sl U 1 bd bf p1.Classes.length (hD KL.encI p1.Classes)) (bY:SlR U wHD aj am p1.Legs) {r:Bool} (hm:wBc p0 p1=some r):Gv Tryz.prog 101 [.agg #[.slice bb p0.Classes.length be,jV p0.Each,jV p0.Laps,jV p0.Spare,jV p0.Loop,jV p0.Unused],.agg #[jV p1.Bib,.slice bd p1.Classes.length bf,.slice aj p1.Legs.length am]] w (wBD w [] U (fun U_ L_ v=>v=.bool r/\L_=[])):=by
 unfold wBc at hm
 refine Gv.of Tryz.func101 Z Tryz.ntmps101 Tryz.results101 Z (sR (.fx 0 gAp .stop) Z ?_)
 let B0:List Value:=[.slice bb p0.Classes.length be,jV p0.Each,jV p0.Laps,jV p0.Spare,jV p0.Loop,jV p0.Unused]
 refine ZH (cs:=B0) rfl rfl rfl rfl rfl rfl (by rfl) hS ?_
 intro W1 b2 bV
 let B1:List Value:=[jV p1.Bib,.slice bd p1.Classes.length bf,.slice aj p1.Legs.length am]
 refine ZH (cs:=B1) rfl rfl rfl rfl rfl rfl (by rfl) bV ?_
 intro W5 b6 bx
 refine oA Z Z (eN (zI (sR (wCK (.fx 3 (wQD (.nil)) .stop)) Z (oR Z (zF Z Z ZL Z zS) (oL Z (bx.ldB (j:=0) Z Z Z zZ (v:=.slice bd p1.Classes.length bf) Z) (oR Z (ze Z Z zB) (bnK hm fun x9 bP cc=>zM 0 Z Z Z Z (zK Z Z yf (zD Z (zD Z (zD Z zO))) Z) bx (fun hs=>wCH (↑p1.Classes.length:Int) 1 8 W5 U hs bP) (.inr Z) ?_)))))))
 rintro av cM c8 bD cG bU ⟨rfl,rfl⟩
 have ao:sW w U av [.blk b6 43 B1,.blk b2 25 B0] bD:=bU
 refine oR Z (ZF Z Z) (oM Z Z (ifc cc ?_ ?_))
 intro ae cg
 refine zY Z Z Z (zN Z Z (nC ae.out)) (fun _=>zF Z Z ZL Z yD) (ZB Z Z Z (zN Z Z (nC ae.out)) (ao.ldB (j:=0) Z Z Z yv (v:=.slice aj p1.Legs.length am) Z) Z (zY Z Z Z (zN Z Z (nC ae.out)) (fun _=>ze Z Z Zh) (zY Z Z Z (zN Z Z (nC ae.out)) (fun _=>zF Z Z ZA Z zS) (ZB Z Z Z (zN Z Z (nC ae.out)) (ao.ldB (j:=1) Z Z Z zZ (v:=.slice bb p0.Classes.length be) Z) Z (zY Z Z Z (zN Z Z (nC ae.out)) (fun _=>ze Z Z zB) (zY Z Z Z (zN Z Z (nC ae.out)) (fun _=>yT Z Z Z) (oR Z (za Z (nC ae.out) Z) (eN (ifc cg ?_ ?_)))))))))
 intro bg ci
 refine cT Z bg (sR fL1 Z (oA Z Z (eN (zP (zR ?_)))))
 have hE:=nA ci;first | subst r | cases hE
 exact ⟨rfl,_,(zz rfl),av,_,(ao.pick [] _ (by decide) rfl),rfl,rfl⟩
 intro bg aq
 refine cF Z bg (kN (zI (sR fL4 Z (oR Z (zF Z Z ZL Z yD) (oL Z (ao.ldB (j:=0) Z Z Z yv (v:=.slice aj p1.Legs.length am) Z) (oR Z (ze Z Z Zh) (oM Z Z (eN (zU ?_)))))))))
 have q:=wBJ aq
 obtain ⟨c6,ap⟩:=q
 have q:=wBI ap
 obtain ⟨br,ca⟩:=q
 replace br:=zH br
 refine yB (fun au _ σ_ w_=>∃ (U_:PHeap),σ_ 24=jV (↑au:Int)/\σ_ 2=.pointer (some ⟨b2,0,none⟩)/\σ_ 3=.pointer (some ⟨b6,0,none⟩)/\σ_ 22=.slice aj p1.Legs.length am/\σ_ 23=jV (↑p1.Legs.length:Int)/\PHeap.Le av U_/\sW w U U_ [.blk b6 43 B1,.blk b2 25 B0] w_) ca ?_ ?_ ?_
 exact ⟨av,Z,Z,Z,Z,Z,(zL _),ao⟩
 rintro au ⟨⟩ db dd cO bq ⟨ai,aw,a8,bj,bm,bn,bs,bw⟩ bB ba
 try dsimp only at bB
 have bu:Hid ((↑au:Int) < (↑p1.Legs.length:Int)):=zH (wAj bq)
 replace bq:=zH bq
 have bz:Hid (w64 ((↑au:Int) + 1)=(↑(au + 1):Int)):=zH (by have h1:=br.out;have h2:=bu.out;rw [wAX] <;> omega)
 refine sR fL1 Z (oR Z (zW Z aw bn) (eN (zI (cT Z bu (kN (zI (zU (sR (wCK gAx) Z (oM Z aw (bnK bB fun ah bv cj=>?_))))))))))
 have bQ:=bY.le cG
 have bR:=bQ.le bs
 have q:=bR.el (wAV bv)
 obtain ⟨bG,cH,c9,bS,bp,cE⟩:=q
 obtain ⟨ak,an,ax,ay,rfl,cV,cW⟩:=cE
 replace bp:Cl ai bG (cH + au * 3) [jV ah.Skier,.slice ak ah.Loops.length an,.slice ax ah.Bouts.length ay]:=bp
 refine oR Z (ZE Z bm bS aw Zh Zb (wAq bv)) (oL Z (bw.ldCA (f:=0) bp Z Z YI Zb (us:=[jV ah.Skier,.slice ak ah.Loops.length an,.slice ax ah.Bouts.length ay]) Z Z) (zm (cs:=[jV 0,.slice none 0 0,.slice none 0 0]) Z Z Z Z Z Zj Z bw ?_))
 intro cP bH bW
 refine oA Z Z ?_
 let B2:List Value:=[jV ah.Skier,.slice ak ah.Loops.length an,.slice ax ah.Bouts.length ay]
 refine zh (j:=0) (vs:=B2) Z Z Z Z bW Z Z Z Z Zb (zA Z) Z Z Z ?_
 intro bF bX
 have ag:sW w U ai [.blk bH 46 B2,.blk b6 43 B1,.blk b2 25 B0] bF:=bX
 refine eN (sR fL33 Z (oR Z (zF Z Z ZU Z zS) (oL Z (ag.ldB (j:=0) Z Z Z zZ (v:=.slice ak ah.Loops.length an) Z) (oR Z (ze Z Z zB) (oR Z (zF Z a8 ZA Z zC) (oL Z (ag.ldB (j:=2) Z Z Z zJ (v:=jV p0.Laps) Z) (oR Z (yT Z Z Z) (oM Z Z (ifc cj ?_ ?_)))))))))
 intro O cm
 refine oT Z O (oT Z O (oT Z O (oT Z O (oT Z O (oT Z O (oT Z O (zk Z Z Z (wAd Z Z Z) (zk Z Z Z (wAd Z Z Z) (zk Z Z Z (wAd Z Z Z) (zk Z Z Z (wAd Z Z Z) (zk Z Z Z (wAd Z Z Z) (zk Z Z Z (wAd Z Z Z) (oT Z O (oR Z (zT Z (ZZ O.out) Z) (oM Z Z (oN Z (oN Z (oN Z (oN Z (oN Z (oN Z (oN Z (oN Z (oN Z (oR Z (zT Z Z Z) (eN (zy Z (sR fL1 Z (oA Z Z (eN (zP (zc (zR ?_)))))))))))))))))))))))))))))))))
 have q:=wAb cm
 obtain ⟨cI,cn,bJ⟩:=q
 have q:=wBC aq ap (ba cI bJ)
 obtain rfl:=q
 refine zR (zc (zR ?_))
 have hE:=nA cn;first | subst r | cases hE
 exact ⟨rfl,_,(zz rfl),ai,_,(ag.pick [] _ (by decide) rfl),rfl,rfl⟩
 intro O co
 refine zj Z Z Z (wF Z O) Z Z (rU Z (wF Z O) (zF Z bj ZL Z yD) (ZB Z Z Z (wF Z O) (ag.ldB (j:=1) Z Z Z yv (v:=.slice aj p1.Legs.length am) Z) Z (rU Z (wF Z O) (ze Z Z Zh) (rU Z (wF Z O) (Zy Z Z Z) (rU Z (wF Z O) (zW Z Z Z) (zj Z Z Z (wF Z O) Z Z (ifc co ?_ ?_)))))))
 intro af cp
 refine rU Z (wT Z af) (zF Z Z ZU Z zS) (ZB Z Z Z (wT Z af) (ag.ldB (j:=0) Z Z Z zZ (v:=.slice ak ah.Loops.length an) Z) Z (rU Z (wT Z af) (ze Z Z zB) (rU Z (wT Z af) (zF Z a8 ZA Z zC) (ZB Z Z Z (wT Z af) (ag.ldB (j:=2) Z Z Z zJ (v:=jV p0.Laps) Z) Z (rU Z (wT Z af) (zW Z Z Z) (rU Z (wF Z O) (zT Z (ZZ af.out) Z) (oR Z (za Z (zt O.out) Z) (oM Z Z (ifc cp ?_ ?_)))))))))
 intro aa cq
 refine oT Z aa (oT Z aa (oT Z aa (oT Z aa (oT Z aa (oT Z aa (oT Z aa (oT Z aa (oT Z aa (oR Z (zT Z (ZZ aa.out) Z) (eN (zy Z (sR fL1 Z (oA Z Z (eN (zP (zc (zR ?_)))))))))))))))))
 have q:=wAb cq
 obtain ⟨cJ,cr,bK⟩:=q
 have q:=wBC aq ap (ba cJ bK)
 obtain rfl:=q
 refine zR (zc (zR ?_))
 have hE:=nA cr;first | subst r | cases hE
 exact ⟨rfl,_,(zz rfl),ai,_,(ag.pick [] _ (by decide) rfl),rfl,rfl⟩
 intro aa ct
 refine rU Z (wF Z aa) (zF Z Z ZU Z yr) (ZB Z Z Z (wF Z aa) (ag.ldB (j:=0) Z Z Z Tryz.isAgg44 (v:=.slice ax ah.Bouts.length ay) Z) Z (rU Z (wF Z aa) (ze Z Z Zo) (rU Z (wF Z aa) (zF Z Z ZU Z zS) (ZB Z Z Z (wF Z aa) (ag.ldB (j:=0) Z Z Z zZ (v:=.slice ak ah.Loops.length an) Z) Z (rU Z (wF Z aa) (ze Z Z zB) (rU Z (wF Z aa) (Zy Z Z Z) (rU Z (wF Z aa) (Runs.max Z Z Z) (rU Z (wF Z aa) (ZX Z Z Z) (oR Z (za Z (zt aa.out) Z) (eN (ifc ct ?_ ?_)))))))))))
 intro bh cu
 refine zn (zt (fun h=>h bh.out)) (ZT (zf (zG (rR fL2 Z (oR Z (zr (zX Z aw Z) (congrArg (jV) bz.out)) (oM Z Z (zg ?_)))))))
 have q:=nA cu
 obtain rfl:=q
 exact zG ⟨rfl,_,rfl,⟨ai,rfl,a8,bj,bm,bn,bs,(ag.pick [1,2] _ (by decide) rfl)⟩⟩
 intro bh cw
 refine cT Z bh (sR fL1 Z (oA Z Z (eN (zP (zc (zR ?_))))))
 have q:=wAb cw
 obtain ⟨cK,cy,bL⟩:=q
 have q:=wBC aq ap (ba cK bL)
 obtain rfl:=q
 refine zR (zc (zR ?_))
 have hE:=nA cy;first | subst r | cases hE
 exact ⟨rfl,_,(zz rfl),ai,_,(ag.pick [] _ (by decide) rfl),rfl,rfl⟩
 intro af cz
 refine oF Z af (oF Z af (oF Z af (oF Z af (oF Z af (oF Z af (rU Z (wF Z O) (za Z (zt af.out) Z) (oR Z (za Z (zt O.out) Z) (oM Z Z (zY Z Z Z (zN Z Z Z) (fun _=>zF Z Z ZU Z yr) (ZB Z Z Z (zN Z Z Z) (ag.ldB (j:=0) Z Z Z Tryz.isAgg44 (v:=.slice ax ah.Bouts.length ay) Z) Z (zY Z Z Z (zN Z Z Z) (fun _=>ze Z Z Zo) (zY Z Z Z (zN Z Z Z) (fun _=>zF Z Z ZU Z zS) (ZB Z Z Z (zN Z Z Z) (ag.ldB (j:=0) Z Z Z zZ (v:=.slice ak ah.Loops.length an) Z) Z (zY Z Z Z (zN Z Z Z) (fun _=>ze Z Z zB) (zY Z Z Z (zN Z Z Z) (fun _=>Zy Z Z Z) (zY Z Z Z (zN Z Z Z) (fun _=>Runs.max Z Z Z) (zY Z Z Z (zN Z Z Z) (fun _=>ZX Z Z Z) (oR Z (za Z Z Z) (eN (ifc cz ?_ ?_))))))))))))))))))))
 intro bi cA
 refine zn (zt (fun h=>h bi.out)) (ZT (zf (zG (rR fL2 Z (oR Z (zr (zX Z aw Z) (congrArg (jV) bz.out)) (oM Z Z (zg ?_)))))))
 have q:=nA cA
 obtain rfl:=q
 exact zG ⟨rfl,_,rfl,⟨ai,rfl,a8,bj,bm,bn,bs,(ag.pick [1,2] _ (by decide) rfl)⟩⟩
 intro bi cC
 refine cT Z bi (sR fL1 Z (oA Z Z (eN (zP (zc (zR ?_))))))
 have q:=wAb cC
 obtain ⟨cL,cD,bM⟩:=q
 have q:=wBC aq ap (ba cL bM)
 obtain rfl:=q
 refine zR (zc (zR ?_))
 have hE:=nA cD;first | subst r | cases hE
 exact ⟨rfl,_,(zz rfl),ai,_,(ag.pick [] _ (by decide) rfl),rfl,rfl⟩
 rintro ⟨⟩ de cQ ⟨bC,bO,cR,cS,cU,bN,cZ,bT⟩ bZ
 have bA:=wCI aq ap bZ
 try dsimp only at bA
 have bI:Hid (¬ ((↑(((↑p1.Legs.length:Int):Int) - 0).toNat:Int) < (↑p1.Legs.length:Int))):=zH (wAc)
 refine sR fL1 Z (oR Z (zW Z bO bN) (eN (zI (cF Z bI (ZJ (zd (zd (ZG (zG (sR fL1 Z (oA Z Z (eN (zP ?_)))))))))))))
 have hE:=nA bA;first | subst r | cases hE
 exact ⟨rfl,_,(zz rfl),bC,_,(bT.pick [] _ (by decide) rfl),rfl,rfl⟩
 intro ae cd
 refine zk Z Z Z (zQ Z Z (nF (ae.out)) Z) (zk Z Z Z (zQ Z Z (nF (ae.out)) Z) (zk Z Z Z (zQ Z Z (nF (ae.out)) Z) (zk Z Z Z (zQ Z Z (nF (ae.out)) Z) (zk Z Z Z (zQ Z Z (nF (ae.out)) Z) (zk Z Z Z (zQ Z Z (nF (ae.out)) Z) (zk Z Z Z (zQ Z Z (nF (ae.out)) Z) (oR Z (zT Z (nF (ae.out)) Z) (eN (zy Z (sR fL1 Z (oA Z Z (eN (zP (zR ?_))))))))))))))
 have hE:=nA cd;first | subst r | cases hE
 exact ⟨rfl,_,(zz rfl),av,_,(ao.pick [] _ (by decide) rfl),rfl,rfl⟩
set_option maxHeartbeats 4000000
theorem wGD (O:wAN) (aa:Option Addr) (ac:Nat) (ab:Option Addr) (ae:Nat) (p1:(wAN->Option Bool)) (ak:Nat) (ah:Value) (w:World) (U:PHeap) (hS:St0 w U []) (au:Sl U 1 aa ac O.Classes.length (hD KL.encI O.Classes)) (av:SlR U wHD ab ae O.Legs) (aw:Cl U ak 0 [ah]) (ax:FnOK Tryz.prog U ah wLw wLx p1) {r:Bool} (hm:wBG O p1=some r):Gv Tryz.prog 139 [.agg #[jV O.Bib,.slice aa O.Classes.length ac,.slice ab O.Legs.length ae],.pointer (some ⟨ak,0,none⟩)] w (wBD w [] U (fun U_ L_ v=>v=.bool r/\L_=[])):=by
 unfold wBG at hm
 refine Gv.of Tryz.func139 Z Tryz.ntmps139 Tryz.results139 Z (sR gAq Z ?_)
 let B0:List Value:=[jV O.Bib,.slice aa O.Classes.length ac,.slice ab O.Legs.length ae]
 refine ZH (cs:=B0) rfl rfl rfl rfl rfl rfl (by rfl) hS ?_
 intro W1 b2 ag
 refine oA Z Z (eN (sR gBf Z (oL Z (ag.ldC (f:=0) aw (v:=ah) Z Z Tryz.isAgg191 Z) (oL Z (ag.ldBA (j:=0) Z Z Z ym Zd (vs:=B0) Z Z) (bnK hm fun x5 h6 ay=>yg (a:=O) Z Z Z Z Z Z (zD Z zO) ag ax ⟨aa,ac,ab,ae,Z,au,av⟩ h6 ?_)))))
 rintro U8 L9 a7 am aZ ap ⟨rfl,rfl⟩
 have aq:sW w U U8 [.blk b2 43 B0] am:=ap
 refine oR Z (ZF Z Z) (oA Z Z (eN (zP ?_)))
 cases ay
 exact ⟨rfl,_,(zz rfl),U8,_,(aq.pick [] _ (by decide) rfl),rfl,rfl⟩
theorem wDm (O:List wAN) (am:Option Addr) (ap:Nat) (p1:(wAN->Option Bool)) (av:Value) (w:World) (U:PHeap) (hS:St0 w U []) (bw:SlR U wHM am ap O) (bx:FnOK Tryz.prog U av wLw wLx p1) {r:Int} (hm:wAv O p1=some r):Gv Tryz.prog 182 [.slice am O.length ap,av] w (wBD w [] U (fun U_ L_ v=>v=jV r/\L_=[])):=by
 unfold wAv at hm
 refine Gv.of Tryz.func182 Z Tryz.ntmps182 Tryz.results182 Z (sR fL1 Z (oA Z Z (eN (zI (sR fL3 Z (oM Z Z (oR Z (ze Z Z ZW) (oM Z Z (eN (zU ?_))))))))))
 have q:=wBJ hm
 obtain ⟨r3,ah⟩:=q
 have q:=wBI ah
 obtain ⟨aj,bB⟩:=q
 replace aj:=zH aj
 refine yB (fun k2 _ σ_ w_=>∃ (U_:PHeap),σ_ 8=jV (↑k2:Int)/\σ_ 0=.slice am O.length ap/\σ_ 1=av/\σ_ 7=jV (↑O.length:Int)/\PHeap.Le U U_/\sW w U U_ [] w_) bB ?_ ?_ ?_
 exact ⟨U,Z,Z,Z,Z,(zL _),hS⟩
 rintro k2 ⟨⟩ bW bY W8 ai ⟨bd,af,ax,ay,az,ak,aZ⟩ ba bz
 try dsimp only at ba
 have aw:Hid ((↑k2:Int) < (↑O.length:Int)):=zH (wAj ai)
 replace ai:=zH ai
 have bC:Hid (w64 ((↑k2:Int) + 1)=(↑(k2 + 1):Int)):=zH (by have h1:=aj.out;have h2:=aw.out;rw [wAX] <;> omega)
 refine sR fL1 Z (oR Z (zW Z af az) (eN (zI (cT Z aw (kN (zI (zU (sR fL2 Z (oM Z af (oA Z Z (eN (sR (wHg (.fx 5 .nil .stop)) Z (oM Z ay (oM Z ax (oM Z Z (bnK ba fun aa aY bD=>?_))))))))))))))))
 have bn:=bw.le ak
 have q:=bn.el (wAV aY)
 obtain ⟨bg,bK,bU,bt,ag,bI⟩:=q
 obtain ⟨an,aq,ao,au,rfl,bp,bq⟩:=bI
 replace ag:Cl bd bg (bK + k2 * 3) [jV aa.Bib,.slice an aa.Classes.length aq,.slice ao aa.Legs.length au]:=ag
 refine oR Z (ZE Z Z bt Z ZW Zd (wAq aY)) (oL Z (aZ.ldCA (f:=0) ag Z Z ym Zd (us:=[jV aa.Bib,.slice an aa.Classes.length aq,.slice ao aa.Legs.length au]) Z Z) (bnK bD fun bV br bE=>?_))
 have bs:=bx.le ak
 refine yg (a:=aa) Z Z Z Z Z Z (zD Z zO) aZ bs ⟨an,aq,ao,au,Z,bp,bq⟩ br ?_
 rintro ac bM bT bf bJ bu ⟨rfl,rfl⟩
 have a7:sW w U ac [] bf:=bu
 refine eN (ifc bE ?_ ?_)
 intro ae bF
 refine zy (congrArg nB ae.out) (sR fL2 Z (oM Z Z (oA Z Z (eN (zP (zc (zR ?_)))))))
 have q:=wAb bF
 obtain ⟨bL,bG,bi⟩:=q
 have q:=wBC hm ah (bz bL bi)
 obtain rfl:=q
 refine zR (zc (zR ?_))
 cases bG
 exact ⟨Z,_,(zz Z),ac,_,a7,Z,Z⟩
 intro ae bH
 refine zn (congrArg nB (nD.2 ae.out)) (ZT (zf (zG (rR fL2 Z (oR Z (zr (zX Z af Z) (congrArg (jV) bC.out)) (oM Z Z (zg ?_)))))))
 have q:=nA bH
 obtain rfl:=q
 exact zG ⟨Z,_,Z,⟨ac,Z,ax,ay,az,(ak.trans bJ),a7⟩⟩
 rintro ⟨⟩ bX bN ⟨be,bm,bP,bQ,bj,bR,bv⟩ bA
 have a8:=wCI hm ah bA
 try dsimp only at a8
 have bh:Hid (¬ ((↑(((↑O.length:Int):Int) - 0).toNat:Int) < (↑O.length:Int))):=zH (wAc)
 refine sR fL1 Z (oR Z (zW Z bm bj) (eN (zI (cF Z bh (ZJ (zd (zd (ZG (zG (sR fL1 Z (oA Z Z (eN (zP ?_)))))))))))))
 cases a8
 exact ⟨Z,_,(zz Z),be,_,bv,Z,Z⟩
theorem wDV (O:List wAN) (ab:Option Addr) (ac:Nat) (p1:(wAN->Option Bool)) (ae:Value) (w:World) (U:PHeap) (hS:St0 w U []) (am:SlR U wHM ab ac O) (an:FnOK Tryz.prog U ae wLw wLx p1) {r:Bool} (hm:wAr O p1=some r):Gv Tryz.prog 138 [.slice ab O.length ac,ae] w (wBD w [] U (fun U_ L_ v=>v=.bool r/\L_=[])):=by
 unfold wAr at hm
 refine Gv.of Tryz.func138 Z Tryz.ntmps138 Tryz.results138 Z (sR fL1 Z (oA Z Z (eN (sR gBf Z (oM Z Z (oM Z Z (bnK hm fun x1 h2 ag=>zM 0 Z Z Z Z (zK Z Z Tryz.call182 (zD Z (zD Z zO)) Z) hS (fun hs=>wDm O ab ac p1 ae w U hs am an h2) (.inr Z) ?_)))))))
 rintro U4 L5 v6 W7 ap ak ⟨rfl,rfl⟩
 have aj:sW w U U4 [] W7:=ak
 refine oR Z (YJ Z Z Z) (oA Z Z (eN (zP ?_)))
 first | (obtain rfl:=nA ag) | cases ag
 exact ⟨Z,_,(zz Z),U4,_,aj,Z,Z⟩
theorem wEh (p0:List wAN) (ag:Option Addr) (ah:Nat) (p1:(wAN->Option Bool)) (ac:Value) (w:World) (U:PHeap) (hS:St0 w U []) (aZ:SlR U wHM ag ah p0) (ak:FnOK Tryz.prog U ac wLw wLx p1) {r:Bool} (hm:wBQ p0 p1=some r):Gv Tryz.prog 100 [.slice ag p0.length ah,ac] w (wBD w [] U (fun U_ L_ v=>v=.bool r/\L_=[])):=by
 unfold wBQ at hm
 refine Gv.of Tryz.func100 Z Tryz.ntmps100 Tryz.results100 Z (sR gAq Z (ZH (cs:=[ac]) Z Z Z Z Z Z (FnOK.cells ak) hS ?_))
 intro W1 O ay
 have q:=ay.freeze (k:=0) rfl
 obtain ⟨U5,am,aa,az⟩:=q
 replace aa:=Cl.of aa
 have aY:sW w U U5 [] W1:=az
 replace aa:Cl U5 O 0 [ac]:=aa
 refine oA Z Z (eN (sR gBf Z (oM Z Z (oR Z (yn Z zO (zD Z zO)) ?_))))
 have ap:=aZ.le am
 have aq:=ak.le am
 have av:FnOK Tryz.prog U5 (.func (.func 139) #[] #[.pointer (some ⟨O,0,none⟩)]) wLw wLx (fun x=>wBG x p1):=⟨139,[],[.pointer (some ⟨O,0,none⟩)],rfl,Tryz.call139,fun U1 w1 x y vs le hs ha hm=>by obtain ⟨pA_0_1,pc_0_1,pA_0_2,pc_0_2,rfl,hq0_0,hq0_1⟩:=ha;exact wGD x pA_0_1 pc_0_1 pA_0_2 pc_0_2 p1 O ac w1 U1 hs hq0_0 hq0_1 (aa.le le) (aq.le le) hm⟩
 refine bnK hm fun be au a7=>zM 0 Z Z Z Z (zK Z Z Tryz.call138 (zD Z (zD Z zO)) Z) aY (fun hs=>wDV p0 ag ah (fun x=>wBG x p1) (.func (.func 139) #[] #[.pointer (some ⟨O,0,none⟩)]) W1 U5 hs ap av au) (.inr Z) ?_
 rintro ai ba bd ao bb aw ⟨rfl,rfl⟩
 have ax:sW w U ai [] ao:=aw
 refine oR Z (ZF Z Z) (oA Z Z (eN (zP ?_)))
 cases a7
 exact ⟨Z,_,(zz Z),ai,_,ax,Z,Z⟩
theorem wJK (O:wAN) (ab:Option Addr) (ac:Nat) (ah:Option Addr) (ai:Nat) (w:World) (U:PHeap) (hS:St0 w U []) (az:Sl U 1 ab ac O.Classes.length (hD KL.encI O.Classes)) (be:SlR U wHD ah ai O.Legs) {r:Bool} (hm:wDG O=some r):Gv Tryz.prog 102 [.agg #[jV O.Bib,.slice ab O.Classes.length ac,.slice ah O.Legs.length ai]] w (wBD w [] U (fun U_ L_ v=>v=.bool r/\L_=[])):=by
 unfold wDG at hm
 refine Gv.of Tryz.func102 Z Tryz.ntmps102 Tryz.results102 Z (sR gAq Z ?_)
 let B0:List Value:=[jV O.Bib,.slice ab O.Classes.length ac,.slice ah O.Legs.length ai]
 refine ZH (cs:=B0) rfl rfl rfl rfl rfl rfl (by rfl) hS ?_
 intro W1 b2 an
 refine oA Z Z (eN (sR (.fl 0 (.fl 1 (.fx 2 (wSF gAu) .stop))) Z (oR Z (zF Z Z ZL Z zC) (oL Z (an.ldB (j:=0) Z Z Z zJ (v:=jV O.Bib) Z) (bnK hm fun x5 h6 a8=>zM 0 Z Z Z Z (zK Z Z yf (zD Z (zD Z (zD Z zO))) Z) an (fun hs=>wCH O.Bib 1 999 W1 U hs h6) (.inr Z) ?_)))))
 rintro U8 L9 bg ak ba aw ⟨rfl,rfl⟩
 have ag:sW w U U8 [.blk b2 43 B0] ak:=aw
 refine oM Z Z (ifc a8 ?_ ?_)
 intro aa aY
 refine zY Z Z Z (zN Z Z (congrArg nB aa.out)) (fun _=>zF Z Z ZL Z zS) (ZB Z Z Z (zN Z Z (congrArg nB aa.out)) (ag.ldB (j:=0) Z Z Z zZ (v:=.slice ab O.Classes.length ac) Z) Z ?_)
 have aq:=az.le ba
 refine bnK aY fun bi au aZ=>zM 0 Z Z Z (zN Z Z (congrArg nB aa.out)) (zK Z Z Tryz.call103 (zD Z zO) Z) ag (fun hs=>wFj O.Classes ab ac ak U8 hs aq au) (.inr Z) ?_
 rintro aj bb bh ap bf ax ⟨rfl,rfl⟩
 have ay:sW w U aj [.blk b2 43 B0] ap:=ax
 refine oR Z (zT Z (congrArg nB aa.out) Z) (oA Z Z (eN (zP ?_)))
 have hE:=nA aZ;first | subst r | cases hE
 exact ⟨rfl,_,(zz rfl),aj,_,(ay.pick [] _ (by decide) rfl),rfl,rfl⟩
 intro aa a7
 refine zk Z Z Z (zQ Z Z (congrArg nB (nD.2 aa.out)) Z) (zk Z Z Z (zQ Z Z (congrArg nB (nD.2 aa.out)) Z) (ZI Z Z Z (zQ Z Z (congrArg nB (nD.2 aa.out)) Z) (oR Z (za Z (congrArg nB (nD.2 aa.out)) Z) (oA Z Z (eN (zP ?_))))))
 have hE:=nA a7;first | subst r | cases hE
 exact ⟨rfl,_,(zz rfl),U8,_,(ag.pick [] _ (by decide) rfl),rfl,rfl⟩
theorem wEO {S E:Type} (PY:S->PHeap->List Res->Prop) (PE:E->PHeap->List Res->Prop) (f:S->(wAN × wAM)->Option (S ⊕ E)) (y:Nat) (s0:S) (O:wAZ) (bM:Nat) (bL:Option Addr) (bN:Nat) (am:Option Addr) (an:Nat) (w:World) (L:List Res) (U:PHeap) (hS:St ⟨w,L,U⟩ U L w) (hP:PY s0 U L) (hY:YOK Tryz.prog y wPB PY PE f U) (cV:Cl U bM 0 [.slice bL O.Rules.Classes.length bN,jV O.Rules.Each,jV O.Rules.Laps,jV O.Rules.Spare,jV O.Rules.Loop,jV O.Rules.Unused,jV O.Start,.slice am O.Teams.length an]) (dM:Sl U 1 bL bN O.Rules.Classes.length (hD KL.encI O.Rules.Classes)) (cW:SlR U wHM am an O.Teams) {r:S ⊕ E} (hm:wBd f s0 O=some r):Gv Tryz.prog 141 [.func (.yield y) #[] #[],.pointer (some ⟨bM,0,none⟩)] w (ItS w L U PY PE r):=by
 unfold wBd at hm
 refine Gv.of Tryz.func141 Z Tryz.ntmps141 Tryz.results141 Z (sR fL4 Z (oR Z (zF Z Z zo Z Zw) (oL Z (hS.ldC (f:=7) cV (v:=.slice am O.Teams.length an) Z Z yO Z) (oR Z (ze Z Z ZW) (oM Z Z (eN (zU ?_)))))))
 have q:=wBJ hm
 obtain ⟨dO,bh⟩:=q
 have q:=wBI bh
 obtain ⟨bn,c8⟩:=q
 replace bn:=zH bn
 refine yB (fun ae bP σ_ w_=>∃ (U_:PHeap) (ak:List Res),σ_ 10=jV (↑ae:Int)/\σ_ 0=.func (.yield y) #[] #[]/\σ_ 8=.slice am O.Teams.length an/\σ_ 9=jV (↑O.Teams.length:Int)/\PHeap.Le U U_/\St ⟨w,L,U⟩ U_ ak w_/\PY bP U_ ak) c8 ?_ ?_ ?_
 exact ⟨U,L,Z,Z,Z,Z,(zL _),hS,hP⟩
 rintro ae bP dS dY dE bj ⟨aq,ak,bb,co,bx,bz,br,bI,cE⟩ dp cZ
 have bv:Hid ((↑ae:Int) < (↑O.Teams.length:Int)):=zH (wAj bj)
 replace bj:=zH bj
 have da:Hid (w64 ((↑ae:Int) + 1)=(↑(ae + 1):Int)):=zH (by have h1:=bn.out;have h2:=bv.out;rw [wAX] <;> omega)
 refine sR fL1 Z (oR Z (zW Z bb bz) (eN (zI (cT Z bv (kN (zI (zU (sR gBd Z (bnK dp fun aa bE bq=>?_)))))))))
 have cG:=cW.le br
 have q:=cG.el (wAV bE)
 obtain ⟨bW,du,dQ,cK,be,dn⟩:=q
 obtain ⟨az,a7,ah,ai,rfl,cH,cI⟩:=dn
 replace be:Cl aq bW (du + ae * 3) [jV aa.Bib,.slice az aa.Classes.length a7,.slice ah aa.Legs.length ai]:=be
 refine oR Z (ZE Z bx cK bb ZW Zd (wAq bE)) (oL Z (bI.ldCA (f:=0) be Z Z ym Zd (us:=[jV aa.Bib,.slice az aa.Classes.length a7,.slice ah aa.Legs.length ai]) Z Z) ?_)
 let B0:List Value:=[jV 0,.slice none 0 0,.slice none 0 0]
 refine zm (cs:=B0) Z Z Z Z Z yG Z bI ?_
 intro dF af cS
 let B1:List Value:=[jV aa.Bib,.slice az aa.Classes.length a7,.slice ah aa.Legs.length ai]
 refine zh (j:=0) (vs:=B1) Z Z Z Z cS Z Z Z Z Zd (zA Z) Z Z Z ?_
 intro bV cU
 have bJ:St ⟨w,L,U⟩ aq (.blk af 43 B1 :: ak) bV:=cU
 refine eN (sR fL4 Z (oR Z (zF Z Z ZL Z yD) (oL Z (bJ.ldB (j:=0) Z Z Z yv (v:=.slice ah aa.Legs.length ai) Z) (oR Z (ze Z Z Zh) (oM Z Z (eN (zU ?_)))))))
 have q:=wBJ bq
 obtain ⟨dP,bi⟩:=q
 have q:=wBI bi
 obtain ⟨bp,c9⟩:=q
 replace bp:=zH bp
 refine yB (fun ag bQ σ_ w_=>∃ (U_:PHeap) (ao:List Res),σ_ 17=jV (↑ag:Int)/\σ_ 0=.func (.yield y) #[] #[]/\σ_ 4=.pointer (some ⟨af,0,none⟩)/\σ_ 8=.slice am O.Teams.length an/\σ_ 9=jV (↑O.Teams.length:Int)/\σ_ 10=jV (↑ae:Int)/\σ_ 15=.slice ah aa.Legs.length ai/\σ_ 16=jV (↑aa.Legs.length:Int)/\PHeap.Le aq U_/\St ⟨w,L,U⟩ U_ (.blk af 43 B1 :: ao) w_/\PY bQ U_ ao) c9 ?_ ?_ ?_
 exact ⟨aq,ak,Z,co,Z,bx,bz,bb,Z,Z,(zL _),bJ,cE⟩
 rintro ag bQ dT dZ dG bm ⟨bt,ao,bd,bA,bB,cp,cq,cr,bC,bD,aw,bK,cJ⟩ dq c6
 have bw:Hid ((↑ag:Int) < (↑aa.Legs.length:Int)):=zH (wAj bm)
 replace bm:=zH bm
 have db:Hid (w64 ((↑ag:Int) + 1)=(↑(ag + 1):Int)):=zH (by have h1:=bp.out;have h2:=bw.out;rw [wAX] <;> omega)
 refine sR fL1 Z (oR Z (zW Z bd bD) (eN (zI (cT Z bw (kN (zI (zU (sR gBd Z (bnK dq fun ab bF dh=>?_)))))))))
 have bG:=cI.le aw
 have q:=bG.el (wAV bF)
 obtain ⟨bX,dv,dR,cL,bf,dm⟩:=q
 obtain ⟨ax,aY,ay,aZ,rfl,cw,cy⟩:=dm
 replace bf:Cl bt bX (dv + ag * 3) [jV ab.Skier,.slice ax ab.Loops.length aY,.slice ay ab.Bouts.length aZ]:=bf
 refine oR Z (ZE Z bC cL bd Zh Zb (wAq bF)) (oL Z (bK.ldCA (f:=0) bf Z Z YI Zb (us:=[jV ab.Skier,.slice ax ab.Loops.length aY,.slice ay ab.Bouts.length aZ]) Z Z) (zm (cs:=B0) Z Z Z Z Z Zj Z bK ?_))
 intro dB ba cM
 let B2:List Value:=[jV ab.Skier,.slice ax ab.Loops.length aY,.slice ay ab.Bouts.length aZ]
 refine zh (j:=0) (vs:=B2) Z Z Z Z cM Z Z Z Z Zb (zA Z) Z Z Z ?_
 intro bU cN
 have bg:St ⟨w,L,U⟩ bt (.blk ba 46 B2 :: .blk af 43 B1 :: ao) bU:=cN
 refine eN (sR (wCK gAo) Z (oM Z bA (oL Z (bg.ldBA (j:=1) Z Z bB ym Zd (vs:=B1) Z Z) (oL Z (bg.ldBA (j:=0) Z Z Z YI Zb (vs:=B2) Z Z) ?_))))
 have cz:=cH.le aw
 refine bnK dh fun dz cA av=>OKS.yieldT 2 (a:=(aa,ab)) Z Z Z Z Z Z (zD Z (zD Z zO)) bg hY (br.trans aw) cJ ⟨az,a7,ah,ai,ax,aY,ay,aZ,Z,cz,bG,cw,cy⟩ cA Z ?_
 rintro ap a8 dH bu dr bH au
 rcases dz with dw | dw
 try dsimp only at av au
 obtain ⟨rfl,di⟩:=au
 have cO:St ⟨w,L,U⟩ ap (.blk ba 46 B2 :: .blk af 43 B1 :: a8) bu:=bH
 refine oR Z (ZF Z Z) (eN (zn Z (ZT (zf (zG (rR fL2 Z (oR Z (zr (zX Z bd Z) (congrArg (jV) db.out)) (oM Z Z (zg ?_)))))))))
 have q:=nA av
 obtain rfl:=q
 exact zG ⟨Z,_,Z,⟨ap,a8,Z,bA,bB,cp,cq,cr,bC,bD,(aw.trans dr),(cO.drop 0),di⟩⟩
 try dsimp only at av au
 obtain ⟨rfl,dl⟩:=au
 have cP:St ⟨w,L,U⟩ ap (.blk ba 46 B2 :: .blk af 43 B1 :: a8) bu:=bH
 refine oR Z (ZF Z Z) (eN (zy Z (zP (zc (zR ?_)))))
 have q:=wAb av
 obtain ⟨dx,dd,ca⟩:=q
 have q:=wBC bq bi (c6 dx ca)
 obtain rfl:=q
 refine zR (zc (zc (zR ?_)))
 have q:=wAb dd
 obtain ⟨dy,de,cc⟩:=q
 have q:=wBC hm bh (cZ dy cc)
 obtain rfl:=q
 refine zR (zc ?_)
 cases de
 exact ⟨Z,_,(wMc),ap,_,((cP.drop 1).drop 0),dl⟩
 rintro dU dW dC ⟨bS,bR,ct,cd,dI,cg,ci,cj,dJ,cm,dt,cQ,cC⟩ cX
 have df:=wCI bq bi cX
 have bY:Hid (¬ ((↑(((↑aa.Legs.length:Int):Int) - 0).toNat:Int) < (↑aa.Legs.length:Int))):=zH (wAc)
 refine sR fL1 Z (oR Z (zW Z ct cm) (eN (zI (cF Z bY (ZJ (zd (zd (ZG (zf (zG (rR fL2 Z (oR Z (zr (zX Z cj Z) (congrArg (jV) da.out)) (oM Z Z (zg ?_))))))))))))))
 have q:=nA df
 obtain rfl:=q
 exact zG ⟨Z,_,Z,⟨bS,bR,Z,cd,cg,ci,(br.trans dt),(cQ.drop 0),cC⟩⟩
 rintro dV dX dD ⟨bT,dA,cu,dK,dL,cn,dN,cR,cD⟩ cY
 have dg:=wCI hm bh cY
 have bZ:Hid (¬ ((↑(((↑O.Teams.length:Int):Int) - 0).toNat:Int) < (↑O.Teams.length:Int))):=zH (wAc)
 refine sR fL1 Z (oR Z (zW Z cu cn) (eN (zI (cF Z bZ (ZJ (zd (zd (ZG ?_))))))))
 cases dg
 exact ⟨Z,_,(wMc),bT,_,cR,cD⟩
theorem wEt (O:wAZ) (ab:Option Addr) (ae:Nat) (ac:Option Addr) (af:Nat) (w:World) (U:PHeap) (hS:St0 w U []) (ap:Sl U 1 ab ae O.Rules.Classes.length (hD KL.encI O.Rules.Classes)) (aq:SlR U wHM ac af O.Teams) {r:Unit} (hm:wCd O=some r):Gv Tryz.prog 104 [.agg #[.slice ab O.Rules.Classes.length ae,jV O.Rules.Each,jV O.Rules.Laps,jV O.Rules.Spare,jV O.Rules.Loop,jV O.Rules.Unused,jV O.Start,.slice ac O.Teams.length af]] w (wBD w [] U (fun U_ L_ v=>∃ (b0:Nat),v=.func (.func 141) #[] #[.pointer (some ⟨b0,0,none⟩)]/\L_=[]/\Cl U_ b0 0 [.slice ab O.Rules.Classes.length ae,jV O.Rules.Each,jV O.Rules.Laps,jV O.Rules.Spare,jV O.Rules.Loop,jV O.Rules.Unused,jV O.Start,.slice ac O.Teams.length af])):=by
 unfold wCd at hm
 refine Gv.of Tryz.func104 Z Tryz.ntmps104 Tryz.results104 Z (sR gAq Z ?_)
 let B0:List Value:=[.slice ab O.Rules.Classes.length ae,jV O.Rules.Each,jV O.Rules.Laps,jV O.Rules.Spare,jV O.Rules.Loop,jV O.Rules.Unused,jV O.Start,.slice ac O.Teams.length af]
 refine ZH (cs:=B0) rfl rfl rfl rfl rfl rfl (by rfl) hS ?_
 intro W1 b2 am
 have q:=am.freeze (k:=0) rfl
 obtain ⟨U5,au,aa,an⟩:=q
 replace aa:=Cl.of aa
 have ao:sW w U U5 [] W1:=an
 replace aa:Cl U5 b2 0 B0:=aa
 refine oA Z Z (eN (sR fL2 Z (oR Z (yn Z zO (zD Z zO)) (oA Z Z (eN (zP ?_))))))
 cases hm
 exact ⟨Z,_,(zz Z),U5,_,ao,b2,Z,Z,aa⟩
theorem wJL (O:Int) (w:World) (U:PHeap) (hS:St0 w U [])  {r:Bool} (hm:wCi O=some r):Gv Tryz.prog 105 [jV O] w (wBD w [] U (fun U_ L_ v=>v=.bool r/\L_=[])):=by
 unfold wCi at hm
 refine Gv.of Tryz.func105 Z Tryz.ntmps105 Tryz.results105 Z (sR fL1 Z (oA Z Z (eN (sR gAw Z (oM Z Z (bnK hm fun x1 h2 ag=>zM 0 Z Z Z Z (zK Z Z yf (zD Z (zD Z (zD Z zO))) Z) hS (fun hs=>wCH O 1 9000 w U hs h2) (.inr Z) ?_))))))
 rintro U4 L5 v6 W7 ai af ⟨rfl,rfl⟩
 have ae:sW w U U4 [] W7:=af
 refine oA Z Z (eN (zP ?_))
 have hE:=nA ag;first | subst r | cases hE
 exact ⟨Z,_,(zz Z),U4,_,ae,Z,Z⟩
theorem wFK (p0:List Bool) (ap:Option Addr) (aq:Nat) (w:World) (U:PHeap) (hS:St0 w U []) (bX:Sl U 1 ap aq p0.length (hD KL.encT p0)) {r:wAi × Int} (hm:wCv p0=some r):Gv Tryz.prog 11 [.slice ap p0.length aq] w (wBD w [] U (fun U_ L_ v=>v=.tuple #[.agg #[jV r.1.Spares,jV r.1.Loops,jV r.1.Unused],jV r.2]/\L_=[])):=by
 unfold wCv at hm
 refine Gv.of Tryz.func11 Z Tryz.ntmps11 Tryz.results11 Z (sR gAq Z ?_)
 let O:List Value:=[jV 0,jV 0,jV 0]
 refine zm (cs:=O) Z Z Z Z Z yH Z hS ?_
 intro W1 b2 bQ
 refine oA Z Z (eN (zI (sR gAy Z (oM Z Z (oR Z (ze Z Z Ze) (bnK hm fun x5 h6 co=>zM 0 Z Z Z Z (zK Z Z yf (zD Z (zD Z (zD Z zO))) Z) bQ (fun hs=>wCH (↑p0.length:Int) 5 8 W1 U hs h6) (.inr Z) ?_))))))
 rintro U8 L9 cK bx cu bP ⟨rfl,rfl⟩
 have bp:sW w U U8 [.blk b2 49 O] bx:=bP
 refine oR Z (ZF Z Z) (eN (ifc co ?_ ?_))
 intro au bb
 refine zn (nC au.out) (kN (sR fL1 Z (oA Z Z (eN (zI (sR fL3 Z (oM Z Z (oR Z (ze Z Z Ze) (oM Z Z (eN (zU ?_)))))))))))
 have q:=wBJ bb
 obtain ⟨cJ,a7⟩:=q
 have q:=wBI a7
 obtain ⟨ba,ca⟩:=q
 replace ba:=zH ba
 refine yB (fun ah bu σ_ w_=>∃ (U_:PHeap),σ_ 15=jV (↑ah:Int)/\σ_ 0=.slice ap p0.length aq/\σ_ 2=.pointer (some ⟨b2,0,none⟩)/\σ_ 4=jV bu/\σ_ 13=.slice ap p0.length aq/\σ_ 14=jV (↑p0.length:Int)/\PHeap.Le U8 U_/\sW w U U_ [.blk b2 49 O] w_) ca ?_ ?_ ?_
 exact ⟨U8,Z,Z,Z,Z,Z,Z,(zL _),bp⟩
 rintro ah bu cM cN cA a8 ⟨ai,an,bg,ak,ay,az,aY,bd,ao⟩ ct bY
 have bf:Hid ((↑ah:Int) < (↑p0.length:Int)):=zH (wAj a8)
 replace a8:=zH a8
 have bt:Hid (w64 ((↑ah:Int) + 1)=(↑(ah + 1):Int)):=zH (by have h1:=ba.out;have h2:=bf.out;rw [wAX] <;> omega)
 refine sR fL1 Z (oR Z (zW Z an aY) (eN (zI (cT Z bf (kN (zI (zU (sR fL3 Z (bnK ct fun cy bj cd=>?_)))))))))
 have bI:=bX.le cu
 have bJ:=bI.le bd
 have q:=bJ.el (fun _=>rfl) (wAV bj)
 obtain ⟨cE,cI,bL,bM⟩:=q
 refine oR Z (ZE Z az bL an Ze yN (wAq bj)) (oL Z (ao.ldC (f:=0) bM (v:=.bool cy) Z Z Tryz.isAgg4 Z) (oA Z Z (eN (zI (sR fL2 Z (oM Z ay (oR Z (yc Z Z Z) (eN (ifc cd ?_ ?_)))))))))
 intro av cg
 refine cT Z av (sR gAw Z (oR Z (zx (pv:=[]) (z:=O) (cs:=O) Z wAI yH wGz Z Z) (zh (j:=0) (vs:=O) Z Z Z Z ao Z ak Z Z Zx (zA Z) Z Z Z ?_)))
 intro bz bR
 have bq:sW w U ai [.blk b2 49 O] bz:=bR
 refine oA Z Z (eN (zP (zR (zc (zR ?_)))))
 have q:=wAb cg
 obtain ⟨cw,ci,bF⟩:=q
 have q:=wBC bb a7 (bY cw bF)
 obtain rfl:=q
 refine zR (zc (zR ?_))
 cases ci
 exact ⟨rfl,_,(wFY (rs:=[.cell 2 49,.tmp 3]) (vs:=[.agg O.toArray,jV 8]) ⟨⟨_,ak,(wBL YK Zx (bq.blkAt (k:=0) rfl) (vs:=O) rfl rfl)⟩,⟨rfl,trivial⟩⟩ rfl),ai,_,(bq.pick [] _ (by decide) rfl),rfl,rfl⟩
 intro av cj
 refine cF Z av (kN (sR fL1 Z (oM Z Z (eN (ifc cj ?_ ?_)))))
 intro aw cm
 refine zy (congrArg nB aw.out) (rR fL3 Z (oM Z ay (oR Z (Zy Z Z Z) (oA Z Z (zg (zf (zG (rR fL2 Z (oR Z (zr (zX Z an Z) (congrArg (jV) bt.out)) (oM Z Z (zg ?_)))))))))))
 have q:=nA cm
 obtain rfl:=q
 exact zG ⟨Z,_,Z,⟨ai,Z,bg,ak,Z,az,aY,bd,ao⟩⟩
 intro aw cn
 refine zn (congrArg nB (nD.2 aw.out)) (ZT (zf (zG (rR fL2 Z (oR Z (zr (zX Z an Z) (congrArg (jV) bt.out)) (oM Z Z (zg ?_)))))))
 have q:=nA cn
 obtain rfl:=q
 exact zG ⟨Z,_,Z,⟨ai,Z,bg,ak,ay,az,aY,bd,ao⟩⟩
 rintro be cO cC ⟨af,bH,bh,am,bi,cG,bG,cH,bS⟩ bZ
 have cp:=wCI bb a7 bZ
 have bE:Hid (¬ ((↑(((↑p0.length:Int):Int) - 0).toNat:Int) < (↑p0.length:Int))):=zH (wAc)
 refine sR fL1 Z (oR Z (zW Z bH bG) (eN (zI (cF Z bE (ZJ (zd (zd (ZG (zG (sR (wHg (.fx 5 (.fx 6 .nil .stop) .stop)) Z (oM Z bh (oR Z (ze Z Z Ze) (oR Z (Zy Z Z Z) (oM Z bi ?_))))))))))))))
 let B1:List Value:=[jV (w64 ((↑p0.length:Int) - 5)),jV be,jV 0]
 refine oR Z (zx (pv:=[(0,jV (w64 ((↑p0.length:Int) - 5))),(1,jV be)]) (z:=O) (cs:=B1) Z (wAA Z (wAA Z wAI)) yH wGz Z Z) (zm (cs:=O) Z Z Z Z Z yH Z bS ?_)
 intro cD aj bT
 refine zh (j:=0) (vs:=B1) Z Z Z Z bT Z Z Z Z Zx (zA Z) Z Z Z ?_
 intro bA bU
 have aZ:sW w U af [.blk aj 49 B1,.blk b2 49 O] bA:=bU
 refine eN (zI (sR fL2 Z (oM Z bi (oR Z (yT Z Z Z) (eN (ifc cp ?_ ?_))))))
 intro ax cq
 refine cT Z ax (rR (wEL (.fx 4 .nil .stop)) Z (oM Z bh (oR Z (ze Z Z Ze) (oR Z (Zy Z Z Z) (oR Z (zF Z Z Tryz.runUnderlying49 Z zC) (zh (j:=0) (vs:=[jV (w64 (8 - (↑p0.length:Int)))]) Z Z Z Z aZ Z Z Z Z zC (zA Z) Z Z Z ?_))))))
 intro bB bV
 let B2:List Value:=[jV (w64 ((↑p0.length:Int) - 5)),jV be,jV (w64 (8 - (↑p0.length:Int)))]
 have br:sW w U af [.blk aj 49 B2,.blk b2 49 O] bB:=bV
 refine eN (sR gAw Z (oL Z (br.ldBA (j:=0) Z Z Z YK Zx (vs:=B2) Z Z) (zh (j:=1) (vs:=B2) Z Z Z Z br Z am Z Z Zx (zA Z) Z Z Z ?_)))
 intro bC bW
 have bs:sW w U af [.blk aj 49 B2,.blk b2 49 B2] bC:=bW
 refine oA Z Z (eN (zP ?_))
 cases cq
 exact ⟨rfl,_,(wFY (rs:=[.cell 2 49,.tmp 3]) (vs:=[.agg B2.toArray,jV 0]) ⟨⟨_,am,(wBL YK Zx (bs.blkAt (k:=1) rfl) (vs:=B2) rfl rfl)⟩,⟨rfl,trivial⟩⟩ rfl),af,_,(bs.pick [] _ (by decide) rfl),rfl,rfl⟩
 intro ax cr
 refine cF Z ax (kN (sR gAw Z (oL Z (aZ.ldBA (j:=0) Z Z Z YK Zx (vs:=B1) Z Z) (zh (j:=1) (vs:=B1) Z Z Z Z aZ Z am Z Z Zx (zA Z) Z Z Z ?_))))
 intro bD bN
 have bm:sW w U af [.blk aj 49 B1,.blk b2 49 B1] bD:=bN
 refine oA Z Z (eN (zP ?_))
 cases cr
 exact ⟨rfl,_,(wFY (rs:=[.cell 2 49,.tmp 3]) (vs:=[.agg B1.toArray,jV 0]) ⟨⟨_,am,(wBL YK Zx (bm.blkAt (k:=1) rfl) (vs:=B1) rfl rfl)⟩,⟨rfl,trivial⟩⟩ rfl),af,_,(bm.pick [] _ (by decide) rfl),rfl,rfl⟩
 intro au cc
 refine zy (nF (au.out)) (sR gAw Z (oR Z (zx (pv:=[]) (z:=O) (cs:=O) Z wAI yH wGz Z Z) (zh (j:=0) (vs:=O) Z Z Z Z bp Z Z Z Z Zx (zA Z) Z Z Z ?_)))
 intro bw bO
 have bn:sW w U U8 [.blk b2 49 O] bw:=bO
 refine oA Z Z (eN (zP (zR ?_)))
 cases cc
 exact ⟨rfl,_,(wFY (rs:=[.cell 2 49,.tmp 3]) (vs:=[.agg O.toArray,jV 2]) ⟨⟨_,rfl,(wBL YK Zx (bn.blkAt (k:=0) rfl) (vs:=O) rfl rfl)⟩,⟨rfl,trivial⟩⟩ rfl),U8,_,(bn.pick [] _ (by decide) rfl),rfl,rfl⟩
theorem wHx (p0:wAZ) (ao:Option Addr) (ap:Nat) (ak:Option Addr) (am:Nat) (w:World) (U:PHeap) (hS:St0 w U []) (fI:Sl U 1 ao ap p0.Rules.Classes.length (hD KL.encI p0.Rules.Classes)) (md:SlR U wHM ak am p0.Teams) {r:Int} (hm:wDw p0=some r):Gv Tryz.prog 65 [.agg #[.slice ao p0.Rules.Classes.length ap,jV p0.Rules.Each,jV p0.Rules.Laps,jV p0.Rules.Spare,jV p0.Rules.Loop,jV p0.Rules.Unused,jV p0.Start,.slice ak p0.Teams.length am]] w (wBD w [] U (fun U_ L_ v=>v=jV r/\L_=[])):=by
 unfold wDw at hm
 refine Go.KX.Gv.ofM Tryz.func65 Z Tryz.ntmps65 Tryz.results65 (zA Z) (sR gAr Z ?_)
 let B0:List Value:=[.slice ao p0.Rules.Classes.length ap,jV p0.Rules.Each,jV p0.Rules.Laps,jV p0.Rules.Spare,jV p0.Rules.Loop,jV p0.Rules.Unused,jV p0.Start,.slice ak p0.Teams.length am]
 refine ZH (cs:=B0) rfl rfl rfl rfl rfl rfl (by rfl) hS ?_
 intro W1 O jR
 refine zm (cs:=[jV 0]) Z Z Z Z Z Tryz.zeroValue35 Z jR ?_
 intro W5 b6 fu
 refine eN (sR gAy Z (oR Z (zF Z Z zo Z ZO) ?_))
 let B1:List Value:=[.slice ao p0.Rules.Classes.length ap,jV p0.Rules.Each,jV p0.Rules.Laps,jV p0.Rules.Spare,jV p0.Rules.Loop,jV p0.Rules.Unused]
 refine oL Z (fu.ldBA (j:=1) Z Z Z yS ZO (vs:=B1) Z Z) (bnK hm fun x9 iT ms=>zM 0 Z Z Z Z (zK Z Z Tryz.call99 (zD Z zO) Z) fu (fun hs=>wFw p0.Rules ao ap W5 U hs fI iT) (.inr Z) ?_)
 rintro bA oe pM dV fS jE ⟨rfl,rfl⟩
 let B2:Res:=.blk b6 35 [jV 0]
 have dd:sW w U bA [B2,.blk O 28 B0] dV:=jE
 refine oA Z Z (eN (zI (zU (sR fL3 Z (oM Z Z (oR Z (ZX Z Z Z) (oA Z Z (eN (ifc ms ?_ ?_)))))))))
 intro cM mw
 refine zn (zt (fun h=>h cM.out)) (sR (wCK (.fx 3 (wSJ (.fx 11 (wRB (.nil)) .stop)) .stop)) Z (oR Z (zF Z Z zo Z Zw) (oL Z (dd.ldB (j:=1) Z Z Z yO (v:=.slice ak p0.Teams.length am) Z) (oR Z (ze Z Z ZW) (bnK mw fun qb iW mz=>zM 0 Z Z Z Z (zK Z Z yf (zD Z (zD Z (zD Z zO))) Z) dd (fun hs=>wCH (↑p0.Teams.length:Int) 1 12 dV bA hs iW) (.inr Z) ?_)))))
 rintro bh ol pP dX fV jP ⟨rfl,rfl⟩
 have bZ:sW w U bh [B2,.blk O 28 B0] dX:=jP
 refine oR Z (ZF Z Z) (oM Z Z (ifc mz ?_ ?_))
 intro aj mA
 refine zY Z Z Z (zN Z Z (nC aj.out)) (fun _=>zF Z Z zo Z Zw) (ZB Z Z Z (zN Z Z (nC aj.out)) (bZ.ldB (j:=1) Z Z Z yO (v:=.slice ak p0.Teams.length am) Z) Z (zY Z Z Z (zN Z Z (nC aj.out)) (fun _=>zF Z Z zo Z ZO) (ZB Z Z Z (zN Z Z (nC aj.out)) (bZ.ldBA (j:=1) Z Z Z yS ZO (vs:=B1) Z Z) Z (zY Z Z Z (zN Z Z (nC aj.out)) (fun _=>yn Z (zD Z zO) zO) ?_))))
 have iY:=md.le fS
 have eO:=iY.le fV
 have ja:=fI.le fS
 have eQ:=ja.le fV
 have jy:FnOK Tryz.prog bh (.func (.func 101) #[.agg B1.toArray] #[]) wLw wLx (fun x=>wBc p0.Rules x):=⟨101,[.agg B1.toArray],[],rfl,Tryz.call101,fun U1 w1 x y vs le hs ha hm=>by obtain ⟨pA_0_1,pc_0_1,pA_0_2,pc_0_2,rfl,hq0_0,hq0_1⟩:=ha;exact wHW p0.Rules ao ap x pA_0_1 pc_0_1 pA_0_2 pc_0_2 w1 U1 hs (eQ.le le) hq0_0 hq0_1 hm⟩
 refine bnK mA fun qd jd mE=>zM 0 Z Z Z (zN Z Z (nC aj.out)) (zK Z Z Tryz.call100 (zD Z (zD Z zO)) Z) bZ (fun hs=>wEh p0.Teams ak am (fun x=>wBc p0.Rules x) (.func (.func 101) #[.agg B1.toArray] #[]) dX bh hs eO jy jd) (.inr Z) ?_
 rintro bD ou pS dZ fZ k5 ⟨rfl,rfl⟩
 have df:sW w U bD [B2,.blk O 28 B0] dZ:=k5
 refine zY Z Z Z (zN Z Z (nC aj.out)) (fun _=>ZF Z Z) (oR Z (za Z (nC aj.out) Z) (oA Z Z (eN (ifc mE ?_ ?_))))
 intro cP mF
 refine zn (nC cP.out) (sR (.fl 0 (.fl 1 (.fx 2 (wNe (.fx 7 (wKM (.nil)) .stop)) .stop))) Z (oR Z (zF Z Z zo Z zC) (oL Z (df.ldB (j:=1) Z Z Z zJ (v:=jV p0.Start) Z) (bnK mF fun qe jf mG=>zM 0 Z Z Z Z (zK Z Z yf (zD Z (zD Z (zD Z zO))) Z) df (fun hs=>wCH p0.Start 0 36000 dZ bD hs jf) (.inr Z) ?_))))
 rintro bi ow pT d7 ge lh ⟨rfl,rfl⟩
 have dg:sW w U bi [B2,.blk O 28 B0] d7:=lh
 refine oR Z (ZF Z Z) (oM Z Z (ifc mG ?_ ?_))
 intro aq mL
 refine zY Z Z Z (zN Z Z (nC aq.out)) (fun _=>zF Z Z zo Z Zw) (ZB Z Z Z (zN Z Z (nC aq.out)) (dg.ldB (j:=1) Z Z Z yO (v:=.slice ak p0.Teams.length am) Z) Z ?_)
 have jj:=eO.le fZ
 have eV:=jj.le ge
 have jz:FnOK Tryz.prog bi (.func (.func 102) #[] #[]) wLw wLx wDG:=⟨102,[],[],rfl,Tryz.call102,fun U1 w1 x y vs le hs ha hm=>by obtain ⟨pA_0_1,pc_0_1,pA_0_2,pc_0_2,rfl,hq0_0,hq0_1⟩:=ha;exact wJK x pA_0_1 pc_0_1 pA_0_2 pc_0_2 w1 U1 hs hq0_0 hq0_1 hm⟩
 refine bnK mL fun qf jk mO=>zM 0 Z Z Z (zN Z Z (nC aq.out)) (zK Z Z Tryz.call100 (zD Z (zD Z zO)) Z) dg (fun hs=>wEh p0.Teams ak am wDG (.func (.func 102) #[] #[]) d7 bi hs eV jz jk) (.inr Z) ?_
 rintro bE oz pV d9 gg lI ⟨rfl,rfl⟩
 have dh:sW w U bE [B2,.blk O 28 B0] d9:=lI
 refine zY Z Z Z (zN Z Z (nC aq.out)) (fun _=>ZF Z Z) (oR Z (za Z (nC aq.out) Z) (oA Z Z (eN (ifc mO ?_ ?_))))
 intro cS mT
 refine zn (nC cS.out) (ZT (zf (zG (zI (sR gAn Z (oL Z (dh.ldBA (j:=1) Z Z Z ya Zk (vs:=B0) Z Z) ?_))))))
 have jq:=eQ.le fZ
 have jr:=jq.le ge
 have eX:=jr.le gg
 have eY:=eV.le gg
 have q:=bnd mT
 obtain ⟨⟨⟩,jt,fP⟩:=q
 try dsimp only at fP
 refine zM 0 Z Z Z Z (zK Z Z Tryz.call104 (zD Z zO) Z) dh (fun hs=>wEt p0 ao ap ak am d9 bE hs eX eY jt) (.inr Z) ?_
 rintro dU oB pY ir gh mb ⟨er,rfl,rfl,ju⟩
 have mc:sW w U dU [B2,.blk O 28 B0] ir:=mb
 refine eN (zU (yL fun cu cn=>?_))
 have cZ:cu 1=.pointer (some ⟨O,0,none⟩):=(cn 1).trans rfl
 have c6:cu 2=.pointer (some ⟨b6,0,none⟩):=(cn 2).trans rfl
 have iQ:cu 51=.func (.func 141) #[] #[.pointer (some ⟨er,0,none⟩)]:=(cn 51).trans rfl
 clear cn
 refine bnK fP fun gy mp cd=>?_
 have eG:=eX.le gh
 have eH:=eY.le gh
 refine CK.rangeY (S:=Unit) (E:=Int) (ar:=wPB) (PY:=(fun (_:Unit) (U_:PHeap) (L_:List Res)=>L_=[B2,.blk O 28 B0])) (PE:=(fun (oa:Int) (U_:PHeap) (L_:List Res)=>L_=[.blk b6 35 [jV oa],.blk O 28 B0])) (exO:=(fun _=>.ret)) (s0:=()) (rr:=gy) iQ Tryz.call141 mc (by decide) (fun _ _ _ h=>by obtain ⟨_,_,_,_,_,_,_,_,rfl,_,_,_,_⟩:=h;rfl) (fun _=>.inl rfl) rfl (fun l w1 L1 PY' PE' bI bH bJ=>wEO PY' PE' _ l _ p0 er ao ap ak am w1 L1 dU bI bH bJ ju eG eH mp) ?_ ?_
 rintro bt pJ o5 ⟨⟩ an pZ pF bP og n7 dq bw pu jD jA me fJ bS a8
 obtain rfl:=jA
 obtain ⟨gi,gu,gj,gv,bL,bN,dv,dD,rfl,pd,pe,mX,pf⟩:=me
 replace a8:∀ t,bS t=upd (upd cu 52 (.agg #[jV an.1.Bib,.slice gi an.1.Classes.length gu,.slice gj an.1.Legs.length gv])) 53 (.agg #[jV an.2.Skier,.slice bL an.2.Loops.length bN,.slice dv an.2.Bouts.length dD]) t:=a8
 have oU:bS 52=.agg #[jV an.1.Bib,.slice gi an.1.Classes.length gu,.slice gj an.1.Legs.length gv]:=(a8 52).trans ((wDN _ _ (by decide)).trans (wDv _ _ _))
 have iz:bS 53=.agg #[jV an.2.Skier,.slice bL an.2.Loops.length bN,.slice dv an.2.Bouts.length dD]:=(a8 53).trans (wDv _ _ _)
 have oV:bS 1=.pointer (some ⟨O,0,none⟩):=(a8 1).trans ((wDN _ _ (by decide)).trans ((wDN _ _ (by decide)).trans cZ))
 have iA:bS 2=.pointer (some ⟨b6,0,none⟩):=(a8 2).trans ((wDN _ _ (by decide)).trans ((wDN _ _ (by decide)).trans c6))
 clear a8
 have jF:St bw bP [.obj bt dq,B2,.blk O 28 B0] n7:=jD
 try dsimp only at fJ
 refine rR gAr Z (zm (cs:=[jV 0,.slice none 0 0,.slice none 0 0]) Z Z Z Z Z Zj Z jF ?_)
 intro oE bF jG
 let B3:List Value:=[jV an.2.Skier,.slice bL an.2.Loops.length bN,.slice dv an.2.Bouts.length dD]
 refine zh (j:=0) (vs:=B3) Z Z Z Z jG Z Z iz Z Zb (zA Z) Z Z Z ?_
 intro gE jH
 have jI:St bw bP [.blk bF 46 B3,.obj bt dq,B2,.blk O 28 B0] gE:=jH
 refine zg ⟨rfl,rfl,_,_,(jI.pick [1,0,2,3] [.obj bt dq,.blk bF 46 B3,B2,.blk O 28 B0] (by decide) rfl),fun dW dr jJ=>?_⟩
 have eZ:St bw bP [.obj bt dr,.blk bF 46 B3,B2,.blk O 28 B0] dW:=jJ
 refine zU (sR gAy Z (oR Z (zF Z Z ZU Z zS) (oL Z (eZ.ldB (j:=1) Z Z Z zZ (v:=.slice bL an.2.Loops.length bN) Z) ?_)))
 have jx:FnOK Tryz.prog bP (.func (.func 105) #[] #[]) wKm wLg wCi:=⟨105,[],[],rfl,Tryz.call105,fun U1 w1 x y vs le hs ha hm=>by obtain rfl:=ha;exact wJL x w1 U1 hs  hm⟩
 refine bnK fJ fun qa iU mu=>zM 0 Z Z Z Z (zK Z Z Tryz.call72 (zD Z (zD Z zO)) Z) eZ (fun hs=>wCu an.2.Loops bL bN wCi (.func (.func 105) #[] #[]) dW bP hs mX jx iU) (.inr Z) ?_
 rintro dP oh pN gF py jK ⟨rfl,rfl⟩
 have e8:St bw dP [.obj bt dr,.blk bF 46 B3,B2,.blk O 28 B0] gF:=jK
 refine oR Z (ZF Z Z) (eN (ifc mu ?_ ?_))
 intro cN mx
 refine zn (nC cN.out) (ZT (zf ?_))
 have q:=nA mx
 obtain rfl:=q
 exact ⟨_,_,(e8.pick [0,2,3] _ (by decide) rfl),rfl,rfl⟩
 intro cN my
 refine zy (nF (cN.out)) (sR (.fx 0 .nil .stop) Z (zh (j:=2) (vs:=[jV 3]) Z Z Z Z e8 Z iA Z Z yw (zA Z) Z Z Z ?_))
 intro gG jL
 have jM:St bw dP [.obj bt dr,.blk bF 46 B3,.blk b6 35 [jV 3],.blk O 28 B0] gG:=jL
 refine eN (zP (zc ?_))
 have q:=nA my
 obtain rfl:=q
 exact ⟨_,_,(jM.pick [0,2,3] _ (by decide) rfl),rfl,rfl⟩
 rintro ae bB oi cK fT e9
 rcases gy with ⟨⟩ | gB
 try dsimp only at cd
 rintro rfl
 have fb:sW w U bB [B2,.blk O 28 B0,.obj ae (.deferred (some []))] cK:=e9
 refine zf (zG (zI (sR gAn Z (oL Z (fb.ldBA (j:=1) Z Z cZ ya Zk (vs:=B0) Z Z) ?_))))
 have eI:=eG.le fT
 have eJ:=eH.le fT
 have q:=bnd cd
 obtain ⟨⟨⟩,iV,fL⟩:=q
 try dsimp only at fL
 refine zM 0 Z Z Z Z (zK Z Z Tryz.call104 (zD Z zO) Z) fb (fun hs=>wEt p0 ao ap ak am cK bB hs eI eJ iV) (.inr Z) ?_
 rintro dQ oj pO gH fU jN ⟨eh,rfl,rfl,iX⟩
 have jO:sW w U dQ [B2,.blk O 28 B0,.obj ae (.deferred (some []))] gH:=jN
 refine eN (zU (yL fun cr cj=>?_))
 have cV:cr 1=.pointer (some ⟨O,0,none⟩):=(cj 1).trans cZ
 have cW:cr 2=.pointer (some ⟨b6,0,none⟩):=(cj 2).trans c6
 have iB:cr 59=.func (.func 141) #[] #[.pointer (some ⟨eh,0,none⟩)]:=(cj 59).trans rfl
 clear cj
 refine bnK fL fun gz mq cg=>?_
 have eK:=eI.le fU
 have eM:=eJ.le fU
 refine CK.rangeY (S:=Unit) (E:=Int) (ar:=wPB) (PY:=(fun (_:Unit) (U_:PHeap) (L_:List Res)=>L_=[B2,.blk O 28 B0,.obj ae (.deferred (some []))])) (PE:=(fun (oc:Int) (U_:PHeap) (L_:List Res)=>L_=[.blk b6 35 [jV oc],.blk O 28 B0,.obj ae (.deferred (some []))])) (exO:=(fun _=>.ret)) (s0:=()) (rr:=gz) iB Tryz.call141 jO (by decide) (fun _ _ _ h=>by obtain ⟨_,_,_,_,_,_,_,_,rfl,_,_,_,_⟩:=h;rfl) (fun _=>.inl rfl) rfl (fun l w1 L1 PY' PE' bI bH bJ=>wEO PY' PE' _ l _ p0 eh ao ap ak am w1 L1 dQ bI bH bJ iX eK eM mq) ?_ ?_
 rintro bd pK o6 ⟨⟩ ah p6 pG bQ om n8 co be pz jQ jB mf fK bT ba
 obtain rfl:=jB
 obtain ⟨cp,cq,dw,dE,dx,dF,dy,dG,rfl,pg,ph,pj,pn⟩:=mf
 replace ba:∀ t,bT t=upd (upd cr 60 (.agg #[jV ah.1.Bib,.slice cp ah.1.Classes.length cq,.slice dw ah.1.Legs.length dE])) 61 (.agg #[jV ah.2.Skier,.slice dx ah.2.Loops.length dF,.slice dy ah.2.Bouts.length dG]) t:=ba
 have iC:bT 60=.agg #[jV ah.1.Bib,.slice cp ah.1.Classes.length cq,.slice dw ah.1.Legs.length dE]:=(ba 60).trans ((wDN _ _ (by decide)).trans (wDv _ _ _))
 have iD:bT 61=.agg #[jV ah.2.Skier,.slice dx ah.2.Loops.length dF,.slice dy ah.2.Bouts.length dG]:=(ba 61).trans (wDv _ _ _)
 have oW:bT 1=.pointer (some ⟨O,0,none⟩):=(ba 1).trans ((wDN _ _ (by decide)).trans ((wDN _ _ (by decide)).trans cV))
 have iE:bT 2=.pointer (some ⟨b6,0,none⟩):=(ba 2).trans ((wDN _ _ (by decide)).trans ((wDN _ _ (by decide)).trans cW))
 clear ba
 have jS:St be bQ [.obj bd co,B2,.blk O 28 B0,.obj ae (.deferred (some []))] n8:=jQ
 try dsimp only at fK
 refine sR gAr Z ?_
 let B4:List Value:=[jV 0,.slice none 0 0,.slice none 0 0]
 refine zm (cs:=B4) Z Z Z Z Z yG Z jS ?_
 intro oG bn jT
 let B5:List Value:=[jV ah.1.Bib,.slice cp ah.1.Classes.length cq,.slice dw ah.1.Legs.length dE]
 refine zh (j:=0) (vs:=B5) Z Z Z Z jT Z Z iC Z Zd (zA Z) Z Z Z ?_
 intro gI jU
 have jW:St be bQ [.blk bn 43 B5,.obj bd co,B2,.blk O 28 B0,.obj ae (.deferred (some []))] gI:=jU
 refine eN (rR gAr Z (zm (cs:=B4) Z Z Z Z Z Zj Z jW ?_))
 intro oH bG jX
 let B6:List Value:=[jV ah.2.Skier,.slice dx ah.2.Loops.length dF,.slice dy ah.2.Bouts.length dG]
 refine zh (j:=0) (vs:=B6) Z Z Z Z jX Z Z iD Z Zb (zA Z) Z Z Z ?_
 intro gJ jY
 have jZ:St be bQ [.blk bG 46 B6,.blk bn 43 B5,.obj bd co,B2,.blk O 28 B0,.obj ae (.deferred (some []))] gJ:=jY
 refine zg ⟨rfl,rfl,_,_,(jZ.pick [2,0,1,3,4,5] [.obj bd co,.blk bG 46 B6,.blk bn 43 B5,B2,.blk O 28 B0,.obj ae (.deferred (some []))] (by decide) rfl),fun dY dt j0=>?_⟩
 have de:St be bQ [.obj bd dt,.blk bG 46 B6,.blk bn 43 B5,B2,.blk O 28 B0,.obj ae (.deferred (some []))] dY:=j0
 refine zU (sR (wGx gAs) Z (oR Z (zF Z Z ZU Z zC) (oL Z (de.ldB (j:=1) Z Z Z zJ (v:=jV ah.2.Skier) Z) (oR Z (zF Z Z ZL Z zS) (oL Z (de.ldB (j:=2) Z Z Z zZ (v:=.slice cp ah.1.Classes.length cq) Z) (oR Z (ze Z Z zB) (oR Z (Zy Z Z Z) (bnK fK fun qc iZ mB=>zM 0 Z Z Z Z (zK Z Z yf (zD Z (zD Z (zD Z zO))) Z) de (fun hs=>wCH ah.2.Skier 0 (w64 ((↑ah.1.Classes.length:Int) - 1)) dY bQ hs iZ) (.inr Z) ?_))))))))
 rintro dR oo pQ gK pB j5 ⟨rfl,rfl⟩
 have fc:St be dR [.obj bd dt,.blk bG 46 B6,.blk bn 43 B5,B2,.blk O 28 B0,.obj ae (.deferred (some []))] gK:=j5
 refine oR Z (ZF Z Z) (eN (ifc mB ?_ ?_))
 intro cO mC
 refine zn (nC cO.out) (ZT (zf ?_))
 have q:=nA mC
 obtain rfl:=q
 exact ⟨_,_,(fc.pick [0,3,4,5] _ (by decide) rfl),rfl,rfl⟩
 intro cO mD
 refine zy (nF (cO.out)) (sR (.fx 0 .nil .stop) Z (zh (j:=3) (vs:=[jV 1]) Z Z Z Z fc Z iE Z Z yw (zA Z) Z Z Z ?_))
 intro gL j6
 have j7:St be dR [.obj bd dt,.blk bG 46 B6,.blk bn 43 B5,.blk b6 35 [jV 1],.blk O 28 B0,.obj ae (.deferred (some []))] gL:=j6
 refine eN (zP (zc ?_))
 have q:=nA mD
 obtain rfl:=q
 exact ⟨_,_,(j7.pick [0,3,4,5] _ (by decide) rfl),rfl,rfl⟩
 rintro ag bC oq cL fW fd
 rcases gz with ⟨⟩ | gC
 try dsimp only at cg
 rintro rfl
 have ff:sW w U bC [B2,.blk O 28 B0,.obj ae (.deferred (some [])),.obj ag (.deferred (some []))] cL:=fd
 refine zf (zG (zI (sR gAn Z (oL Z (ff.ldBA (j:=1) Z Z cV ya Zk (vs:=B0) Z Z) ?_))))
 have eR:=eK.le fW
 have eS:=eM.le fW
 have q:=bnd cg
 obtain ⟨⟨⟩,jb,fM⟩:=q
 try dsimp only at fM
 refine zM 0 Z Z Z Z (zK Z Z Tryz.call104 (zD Z zO) Z) ff (fun hs=>wEt p0 ao ap ak am cL bC hs eR eS jb) (.inr Z) ?_
 rintro dS ot pR gM fY j8 ⟨ej,rfl,rfl,jc⟩
 have j9:sW w U dS [B2,.blk O 28 B0,.obj ae (.deferred (some [])),.obj ag (.deferred (some []))] gM:=j8
 refine eN (zU (yL fun ct cm=>?_))
 have cX:ct 1=.pointer (some ⟨O,0,none⟩):=(cm 1).trans cV
 have cY:ct 2=.pointer (some ⟨b6,0,none⟩):=(cm 2).trans cW
 have iF:ct 71=.func (.func 141) #[] #[.pointer (some ⟨ej,0,none⟩)]:=(cm 71).trans rfl
 clear cm
 refine bnK fM fun gA mr ci=>?_
 have je:=eR.le fY
 have eT:=eS.le fY
 refine CK.rangeY (S:=Unit) (E:=Int) (ar:=wPB) (PY:=(fun (_:Unit) (U_:PHeap) (L_:List Res)=>L_=[B2,.blk O 28 B0,.obj ae (.deferred (some [])),.obj ag (.deferred (some []))])) (PE:=(fun (od:Int) (U_:PHeap) (L_:List Res)=>L_=[.blk b6 35 [jV od],.blk O 28 B0,.obj ae (.deferred (some [])),.obj ag (.deferred (some []))])) (exO:=(fun _=>.ret)) (s0:=()) (rr:=gA) iF Tryz.call141 j9 (by decide) (fun _ _ _ h=>by obtain ⟨_,_,_,_,_,_,_,_,rfl,_,_,_,_⟩:=h;rfl) (fun _=>.inl rfl) rfl (fun l w1 L1 PY' PE' bI bH bJ=>wEO PY' PE' _ l _ p0 ej ao ap ak am w1 L1 dS bI bH bJ jc je eT mr) ?_ ?_
 rintro az pL o7 ⟨⟩ ai p7 pH bR ov n9 du aY pC k6 jC mg cc bU bb
 obtain rfl:=jC
 obtain ⟨gm,gw,gq,gx,dz,dH,bM,bO,rfl,po,pp,pq,mY⟩:=mg
 replace bb:∀ t,bU t=upd (upd ct 72 (.agg #[jV ai.1.Bib,.slice gm ai.1.Classes.length gw,.slice gq ai.1.Legs.length gx])) 73 (.agg #[jV ai.2.Skier,.slice dz ai.2.Loops.length dH,.slice bM ai.2.Bouts.length bO]) t:=bb
 have oX:bU 72=.agg #[jV ai.1.Bib,.slice gm ai.1.Classes.length gw,.slice gq ai.1.Legs.length gx]:=(bb 72).trans ((wDN _ _ (by decide)).trans (wDv _ _ _))
 have iG:bU 73=.agg #[jV ai.2.Skier,.slice dz ai.2.Loops.length dH,.slice bM ai.2.Bouts.length bO]:=(bb 73).trans (wDv _ _ _)
 have iH:bU 1=.pointer (some ⟨O,0,none⟩):=(bb 1).trans ((wDN _ _ (by decide)).trans ((wDN _ _ (by decide)).trans cX))
 have iI:bU 2=.pointer (some ⟨b6,0,none⟩):=(bb 2).trans ((wDN _ _ (by decide)).trans ((wDN _ _ (by decide)).trans cY))
 clear bb
 have k8:St aY bR [.obj az du,B2,.blk O 28 B0,.obj ae (.deferred (some [])),.obj ag (.deferred (some []))] n9:=k6
 try dsimp only at cc
 refine rR gAr Z (zm (cs:=[jV 0,.slice none 0 0,.slice none 0 0]) Z Z Z Z Z Zj Z k8 ?_)
 intro oI a7 k9
 let B7:List Value:=[jV ai.2.Skier,.slice dz ai.2.Loops.length dH,.slice bM ai.2.Bouts.length bO]
 refine zh (j:=0) (vs:=B7) Z Z Z Z k9 Z Z iG Z Zb (zA Z) Z Z Z ?_
 intro gO lb
 have lc:St aY bR [.blk a7 46 B7,.obj az du,B2,.blk O 28 B0,.obj ae (.deferred (some [])),.obj ag (.deferred (some []))] gO:=lb
 refine zg ⟨rfl,rfl,_,_,(lc.pick [1,0,2,3,4,5] [.obj az du,.blk a7 46 B7,B2,.blk O 28 B0,.obj ae (.deferred (some [])),.obj ag (.deferred (some []))] (by decide) rfl),fun gP bK lf=>?_⟩
 have fg:St aY bR [.obj az bK,.blk a7 46 B7,B2,.blk O 28 B0,.obj ae (.deferred (some [])),.obj ag (.deferred (some []))] gP:=lf
 refine zU (sR fL4 Z (oR Z (zF Z Z ZU Z yr) (oL Z (fg.ldB (j:=1) Z Z Z Tryz.isAgg44 (v:=.slice bM ai.2.Bouts.length bO) Z) (oR Z (ze Z Z Zo) (oM Z Z (eN (zU ?_)))))))
 have q:=wBJ cc
 obtain ⟨pI,di⟩:=q
 have q:=wBI di
 obtain ⟨dn,mj⟩:=q
 replace dn:=zH dn
 refine yB (fun br _ σ_ w_=>∃ (U_:PHeap),σ_ 77=jV (↑br:Int)/\σ_ 1=.pointer (some ⟨O,0,none⟩)/\σ_ 2=.pointer (some ⟨b6,0,none⟩)/\σ_ 75=.slice bM ai.2.Bouts.length bO/\σ_ 76=jV (↑ai.2.Bouts.length:Int)/\PHeap.Le bR U_/\St aY U_ [.obj az bK,.blk a7 46 B7,B2,.blk O 28 B0,.obj ae (.deferred (some [])),.obj ag (.deferred (some []))] w_) mj ?_ ?_ ?_
 exact ⟨bR,Z,iH,iI,Z,Z,(zL _),fg⟩
 rintro br ⟨⟩ qh qk gQ dl ⟨dT,c8,iJ,eA,eB,eC,gb,fh⟩ fQ mh
 try dsimp only at fQ
 have eu:Hid ((↑br:Int) < (↑ai.2.Bouts.length:Int)):=zH (wAj dl)
 replace dl:=zH dl
 have mn:Hid (w64 ((↑br:Int) + 1)=(↑(br + 1):Int)):=zH (by have h1:=dn.out;have h2:=eu.out;rw [wAX] <;> omega)
 refine sR fL1 Z (oR Z (zW Z c8 eC) (eN (zI (cT Z eu (kN (zI (zU (sR fL3 Z (bnK fQ fun dL eU mH=>?_)))))))))
 have jg:=mY.le gb
 have q:=jg.el (wAV eU)
 obtain ⟨it,n3,p8,jv,da,mZ⟩:=q
 obtain ⟨dA,dI,rfl,jh⟩:=mZ
 replace da:Cl dT it (n3 + br * 1) [.slice dA dL.length dI]:=da
 refine oR Z (ZE Z eB jv c8 Zo yM (wAq eU)) (oL Z (fh.ldC (f:=0) da (v:=.slice dA dL.length dI) Z Z YT Z) (oA Z Z (eN (sR (.fl 0 (.fx 1 (wOp (.fx 5 gAs .stop)) .stop)) Z (oM Z Z ?_)))))
 have q:=bnd mH
 obtain ⟨⟨bu,dM⟩,ji,fN⟩:=q
 try dsimp only at fN
 refine zM 0 Z Z Z Z (zK Z Z Tryz.call11 (zD Z zO) Z) fh (fun hs=>wFK dL dA dI gQ dT hs jh ji) (.inr Z) ?_
 rintro bV ox pU gR m8 li ⟨rfl,rfl⟩
 have lj:St aY bV [.obj az bK,.blk a7 46 B7,B2,.blk O 28 B0,.obj ae (.deferred (some [])),.obj ag (.deferred (some []))] gR:=li
 refine oM Z Z (oR Z (zi Z Z (v:=.agg #[jV bu.Spares,jV bu.Loops,jV bu.Unused]) Z) (oR Z (zi Z Z (v:=jV dM) Z) (zm (cs:=[jV 0,jV 0,jV 0]) Z Z Z Z Z yH Z lj ?_)))
 intro oJ eo lk
 let B8:List Value:=[jV bu.Spares,jV bu.Loops,jV bu.Unused]
 refine zh (j:=0) (vs:=B8) Z Z Z Z lk Z Z Z Z Zx (zA Z) Z Z Z ?_
 intro gS ll
 have fj:St aY bV [.blk eo 49 B8,.obj az bK,.blk a7 46 B7,B2,.blk O 28 B0,.obj ae (.deferred (some [])),.obj ag (.deferred (some []))] gS:=ll
 refine oA Z Z (eN (sR fL2 Z (oM Z Z (oR Z (ZX Z Z Z) (eN (ifc fN ?_ ?_))))))
 intro cQ mI
 refine zn (zt (fun h=>h cQ.out)) (ZT (zf (zG (rR fL2 Z (oR Z (zr (zX Z c8 Z) (congrArg (jV) mn.out)) (oM Z Z (zg ?_)))))))
 have q:=nA mI
 obtain rfl:=q
 exact zG ⟨rfl,_,rfl,⟨bV,rfl,iJ,eA,eB,eC,(gb.trans m8),(fj.pick [1,2,3,4,5,6] _ (by decide) rfl)⟩⟩
 intro cQ mJ
 refine cT Z cQ (sR gAn Z (oM Z Z (zh (j:=3) (vs:=[jV dM]) Z Z Z Z fj Z eA Z Z yw (zA Z) Z Z Z ?_)))
 intro gT lm
 have lq:St aY bV [.blk eo 49 B8,.obj az bK,.blk a7 46 B7,.blk b6 35 [jV dM],.blk O 28 B0,.obj ae (.deferred (some [])),.obj ag (.deferred (some []))] gT:=lm
 refine eN (zP (zc (zR ?_)))
 have q:=wAb mJ
 obtain ⟨n5,mK,iy⟩:=q
 have q:=wBC cc di (mh n5 iy)
 obtain rfl:=q
 refine zR (zc (zc ?_))
 have q:=nA mK
 obtain rfl:=q
 exact ⟨_,_,(lq.pick [1,3,4,5,6] _ (by decide) rfl),rfl,rfl⟩
 rintro ⟨⟩ qm oK ⟨oC,iR,oY,oZ,o0,iK,pD,lu⟩ mi
 have fO:=wCI cc di mi
 try dsimp only at fO
 have iv:Hid (¬ ((↑(((↑ai.2.Bouts.length:Int):Int) - 0).toNat:Int) < (↑ai.2.Bouts.length:Int))):=zH (wAc)
 refine sR fL1 Z (oR Z (zW Z iR iK) (eN (zI (cF Z iv (ZJ (zd (zd (ZG (zf ?_)))))))))
 have q:=nA fO
 obtain rfl:=q
 exact ⟨_,_,(lu.pick [0,2,3,4,5] _ (by decide) rfl),rfl,rfl⟩
 rintro ax bj oy d8 m9 fk
 rcases gA with ⟨⟩ | gD
 try dsimp only at ci
 rintro rfl
 have lw:sW w U bj [B2,.blk O 28 B0,.obj ae (.deferred (some [])),.obj ag (.deferred (some [])),.obj ax (.deferred (some []))] d8:=fk
 refine zf (zG (sR gAq Z (OKS.makeMap Z Z Z Z Z lw ?_)))
 intro oO aw fm
 have m4:=MpR.nil wIS wIn
 refine oA Z Z (eN (zI (sR fL4 Z (oR Z (zF Z cX zo Z Zw) (oL Z (fm.ldB (j:=2) Z Z Z yO (v:=.slice ak p0.Teams.length am) Z) (oR Z (ze Z Z ZW) (oM Z Z (eN (zU (bnK ci fun qj ml mM=>?_))))))))))
 have q:=wAn ml
 obtain ⟨dp,mm⟩:=q
 replace dp:=zH dp
 refine CK.forN' (fun bs fR σ_ w_=>∃ (U_:PHeap) (bX:Array MapEntry) (cU:Nat),σ_ 94=jV (↑bs:Int)/\σ_ 1=.pointer (some ⟨O,0,none⟩)/\σ_ 2=.pointer (some ⟨b6,0,none⟩)/\σ_ 14=.map (some aw)/\σ_ 92=.slice ak p0.Teams.length am/\σ_ 93=jV (↑p0.Teams.length:Int)/\PHeap.Le bj U_/\sW w U U_ [.obj aw (.map bX cU),B2,.blk O 28 B0,.obj ae (.deferred (some [])),.obj ag (.deferred (some [])),.obj ax (.deferred (some []))] w_/\MpR bX wIS wIn fR) mm ?_ ?_ ?_
 exact ⟨bj,#[],0,Z,cX,cY,Z,Z,Z,(zL _),fm,m4⟩
 rintro bs fR qi qn oP dm ⟨bW,bX,cU,c9,iL,iM,eD,eE,eF,gf,fq,jl⟩ m7
 have ew:Hid ((↑bs:Int) < (↑p0.Teams.length:Int)):=zH (wAj dm)
 replace dm:=zH dm
 have mo:Hid (w64 ((↑bs:Int) + 1)=(↑(bs + 1):Int)):=zH (by have h1:=dp.out;have h2:=ew.out;rw [wAX] <;> omega)
 refine sR fL1 Z (oR Z (zW Z c9 eF) (eN (zI (cT Z ew (kN (zI (zU (sR gBd Z (bnK m7 fun av eW mN=>?_)))))))))
 have jm:=eT.le m9
 have jo:=jm.le gf
 have q:=jo.el (wAV eW)
 obtain ⟨iu,n4,p9,jw,db,m5⟩:=q
 obtain ⟨dB,dJ,dC,dK,rfl,o8,o9⟩:=m5
 replace db:Cl bW iu (n4 + bs * 3) [jV av.Bib,.slice dB av.Classes.length dJ,.slice dC av.Legs.length dK]:=db
 refine oR Z (ZE Z eE jw c9 ZW Zd (wAq eW)) (oL Z (fq.ldCA (f:=0) db Z Z ym Zd (us:=[jV av.Bib,.slice dB av.Classes.length dJ,.slice dC av.Legs.length dK]) Z Z) (zm (cs:=[jV 0,.slice none 0 0,.slice none 0 0]) Z Z Z Z Z yG Z fq ?_))
 intro oQ ep lx
 let B9:List Value:=[jV av.Bib,.slice dB av.Classes.length dJ,.slice dC av.Legs.length dK]
 refine zh (j:=0) (vs:=B9) Z Z Z Z lx Z Z Z Z Zd (zA Z) Z Z Z ?_
 intro gU ly
 have ft:sW w U bW [.blk ep 43 B9,.obj aw (.map bX cU),B2,.blk O 28 B0,.obj ae (.deferred (some [])),.obj ag (.deferred (some [])),.obj ax (.deferred (some []))] gU:=ly
 refine eN (rR (wCK (.fx 3 .nil .stop)) rfl (zj rfl rfl rfl rfl rfl eD (zY rfl rfl rfl rfl (fun _=>zF rfl rfl ZL rfl zC) (ZB rfl rfl rfl rfl (ft.ldB (j:=0) rfl rfl rfl zJ (v:=jV av.Bib) rfl) rfl (OKS.mapPut (x:=.tmp 98) (y:=.tmp 100) (j:=1) (mk:=wIS) (mv:=wIn) (a:=av.Bib) (v:=true) rfl rfl rfl (by first | exact .inl rfl | exact .inr rfl) ft rfl rfl rfl rfl (wBr YE) wJJ jl rfl ?_)))))
 intro ez ey gV m6 lz
 have lB:sW w U bW [.blk ep 43 B9,.obj aw (.map ez ey),B2,.blk O 28 B0,.obj ae (.deferred (some [])),.obj ag (.deferred (some [])),.obj ax (.deferred (some []))] gV:=lz
 refine zg (zf (zG (rR fL2 Z (oR Z (zr (zX Z c9 Z) (congrArg (jV) mo.out)) (oM Z Z (zg ?_))))))
 cases mN
 exact zG ⟨rfl,⟨bW,ez,ey,rfl,iL,iM,eD,eE,eF,gf,(lB.pick [1,2,3,4,5,6] _ (by decide) rfl),m6⟩⟩
 rintro qo oS ⟨bm,bq,bp,iS,iN,bY,iO,o3,iP,pE,ca,jp⟩
 have iw:Hid (¬ ((↑(((↑p0.Teams.length:Int):Int) - 0).toNat:Int) < (↑p0.Teams.length:Int))):=zH (wAc)
 refine sR fL1 Z (oR Z (zW Z iS iP) (eN (zI (cF Z iw (ZJ (zd (zd (ZG (zG (zI (sR fL6 Z (oM Z iO (oL Z (ca.lenM (j:=0) (mk:=wIS) (mv:=wIn) Z Z Z (wBr YE) jp) (oR Z (zF Z iN zo Z Zw) (oL Z (ca.ldB (j:=2) Z Z Z yO (v:=.slice ak p0.Teams.length am) Z) (oR Z (ze Z Z ZW) (oR Z (zW Z Z Z) (eN (ifc mM ?_ ?_)))))))))))))))))))
 intro cR mP
 refine cT Z cR (sR (.fx 0 .nil .stop) Z (zh (j:=1) (vs:=[jV 5]) Z Z Z Z ca Z bY Z Z yw (zA Z) Z Z Z ?_))
 intro gW lC
 let cw:Res:=.blk b6 35 [jV 5]
 have lD:sW w U bm [.obj aw (.map bq bp),cw,.blk O 28 B0,.obj ae (.deferred (some [])),.obj ag (.deferred (some [])),.obj ax (.deferred (some []))] gW:=lC
 refine eN (zP (zR (wFQ (by first | exact .inl rfl | exact .inr rfl) (rbs:=[ax,ag,ae]) (L:=[.obj aw (.map bq bp),cw,.blk O 28 B0]) (lD.pick [0,1,2,5,4,3] _ (by decide) rfl) fun gX lE=>?_)))
 have fw:sW w U bm [.obj aw (.map bq bp),cw,.blk O 28 B0] gX:=lE
 cases mP
 exact ⟨_,(wFz (v:=jV 5) ⟨⟨_,bY,(wJk YL (fw.blkAt (k:=1) rfl) rfl)⟩,trivial⟩),bm,_,(fw.pick [] _ (by decide) rfl),rfl,rfl⟩
 intro cR mQ
 refine cF Z cR (kN (sR (.fx 0 .nil .stop) Z (zh (j:=1) (vs:=[jV 0]) Z Z Z Z ca Z bY Z Z yw (zA Z) Z Z Z ?_)))
 intro gY lF
 have lG:sW w U bm [.obj aw (.map bq bp),B2,.blk O 28 B0,.obj ae (.deferred (some [])),.obj ag (.deferred (some [])),.obj ax (.deferred (some []))] gY:=lF
 refine eN (zP (wFQ (by first | exact .inl rfl | exact .inr rfl) (rbs:=[ax,ag,ae]) (L:=[.obj aw (.map bq bp),B2,.blk O 28 B0]) (lG.pick [0,1,2,5,4,3] _ (by decide) rfl) fun gZ lH=>?_))
 have fy:sW w U bm [.obj aw (.map bq bp),B2,.blk O 28 B0] gZ:=lH
 cases mQ
 exact ⟨_,(wFz (v:=jV 0) ⟨⟨_,bY,(wJk YL (fy.blkAt (k:=1) rfl) rfl)⟩,trivial⟩),bm,_,(fy.pick [] _ (by decide) rfl),rfl,rfl⟩
 try dsimp only at ci
 rintro rfl
 let cy:Res:=.blk b6 35 [jV gD]
 have lJ:sW w U bj [cy,.blk O 28 B0,.obj ae (.deferred (some [])),.obj ag (.deferred (some [])),.obj ax (.deferred (some []))] d8:=fk
 refine zc (zR (wFQ (by first | exact .inl rfl | exact .inr rfl) (rbs:=[ax,ag,ae]) (L:=[cy,.blk O 28 B0]) (lJ.pick [0,1,4,3,2] _ (by decide) rfl) fun g8 lK=>?_))
 have fz:sW w U bj [cy,.blk O 28 B0] g8:=lK
 have hE:=nA ci;first | subst r | cases hE
 exact ⟨_,(wFz (v:=jV gD) ⟨⟨_,cY,(wJk YL (fz.blkAt (k:=0) rfl) rfl)⟩,trivial⟩),bj,_,(fz.pick [] _ (by decide) rfl),rfl,rfl⟩
 try dsimp only at cg
 rintro rfl
 let cz:Res:=.blk b6 35 [jV gC]
 have lL:sW w U bC [cz,.blk O 28 B0,.obj ae (.deferred (some [])),.obj ag (.deferred (some []))] cL:=fd
 refine zc (zR (wFQ (by first | exact .inl rfl | exact .inr rfl) (rbs:=[ag,ae]) (L:=[cz,.blk O 28 B0]) (lL.pick [0,1,3,2] _ (by decide) rfl) fun g9 lM=>?_))
 have fA:sW w U bC [cz,.blk O 28 B0] g9:=lM
 have hE:=nA cg;first | subst r | cases hE
 exact ⟨_,(wFz (v:=jV gC) ⟨⟨_,cW,(wJk YL (fA.blkAt (k:=0) rfl) rfl)⟩,trivial⟩),bC,_,(fA.pick [] _ (by decide) rfl),rfl,rfl⟩
 try dsimp only at cd
 rintro rfl
 let cA:Res:=.blk b6 35 [jV gB]
 have lN:sW w U bB [cA,.blk O 28 B0,.obj ae (.deferred (some []))] cK:=e9
 refine zc (zR (wFQ (by first | exact .inl rfl | exact .inr rfl) (rbs:=[ae]) (L:=[cA,.blk O 28 B0]) lN fun ib lO=>?_))
 have fB:sW w U bB [cA,.blk O 28 B0] ib:=lO
 have hE:=nA cd;first | subst r | cases hE
 exact ⟨_,(wFz (v:=jV gB) ⟨⟨_,c6,(wJk YL (fB.blkAt (k:=0) rfl) rfl)⟩,trivial⟩),bB,_,(fB.pick [] _ (by decide) rfl),rfl,rfl⟩
 intro cS mR
 refine zy (nF (cS.out)) (sR (.fx 0 .nil .stop) Z (zh (j:=0) (vs:=[jV 3]) Z Z Z Z dh Z Z Z Z yw (zA Z) Z Z Z ?_))
 intro ic lQ
 let cC:Res:=.blk b6 35 [jV 3]
 have lR:sW w U bE [cC,.blk O 28 B0] ic:=lQ
 refine eN (zP (zc (zR (wFQ (by first | exact .inl rfl | exact .inr rfl) (rbs:=[]) (L:=[cC,.blk O 28 B0]) lR fun ie lU=>?_))))
 have fC:sW w U bE [cC,.blk O 28 B0] ie:=lU
 cases mR
 exact ⟨_,(wFz (v:=jV 3) ⟨⟨_,rfl,(wJk YL (fC.blkAt (k:=0) rfl) rfl)⟩,trivial⟩),bE,_,(fC.pick [] _ (by decide) rfl),rfl,rfl⟩
 intro aq mS
 refine zk Z Z Z (zQ Z Z (nF (aq.out)) Z) (zk Z Z Z (zQ Z Z (nF (aq.out)) Z) (ZI Z Z Z (zQ Z Z (nF (aq.out)) Z) (zk Z Z Z (zQ Z Z (nF (aq.out)) Z) (oR Z (zT Z (nF (aq.out)) Z) (oA Z Z (eN (zy Z (sR (.fx 0 .nil .stop) Z (zh (j:=0) (vs:=[jV 3]) Z Z Z Z dg Z Z Z Z yw (zA Z) Z Z Z ?_)))))))))
 intro ig lV
 let cD:Res:=.blk b6 35 [jV 3]
 have lW:sW w U bi [cD,.blk O 28 B0] ig:=lV
 refine eN (zP (zc (zR (wFQ (by first | exact .inl rfl | exact .inr rfl) (rbs:=[]) (L:=[cD,.blk O 28 B0]) lW fun ii lY=>?_))))
 have fD:sW w U bi [cD,.blk O 28 B0] ii:=lY
 cases mS
 exact ⟨_,(wFz (v:=jV 3) ⟨⟨_,rfl,(wJk YL (fD.blkAt (k:=0) rfl) rfl)⟩,trivial⟩),bi,_,(fD.pick [] _ (by decide) rfl),rfl,rfl⟩
 intro cP mU
 refine zy (nF (cP.out)) (sR (.fx 0 .nil .stop) Z (zh (j:=0) (vs:=[jV 2]) Z Z Z Z df Z Z Z Z yw (zA Z) Z Z Z ?_))
 intro ij lZ
 let cE:Res:=.blk b6 35 [jV 2]
 have l0:sW w U bD [cE,.blk O 28 B0] ij:=lZ
 refine eN (zP (zc (zR (wFQ (by first | exact .inl rfl | exact .inr rfl) (rbs:=[]) (L:=[cE,.blk O 28 B0]) l0 fun il l3=>?_))))
 have fE:sW w U bD [cE,.blk O 28 B0] il:=l3
 cases mU
 exact ⟨_,(wFz (v:=jV 2) ⟨⟨_,rfl,(wJk YL (fE.blkAt (k:=0) rfl) rfl)⟩,trivial⟩),bD,_,(fE.pick [] _ (by decide) rfl),rfl,rfl⟩
 intro aj mV
 refine zk Z Z Z (zQ Z Z (nF (aj.out)) Z) (zk Z Z Z (zQ Z Z (nF (aj.out)) Z) (zk Z Z Z (zQ Z Z (nF (aj.out)) Z) (zk Z Z Z (zQ Z Z (nF (aj.out)) Z) (zk Z Z Z (zQ Z Z (nF (aj.out)) Z) (ZI Z Z Z (zQ Z Z (nF (aj.out)) Z) (zk Z Z Z (zQ Z Z (nF (aj.out)) Z) (oR Z (zT Z (nF (aj.out)) Z) (oA Z Z (eN (zy Z (sR (.fx 0 .nil .stop) Z (zh (j:=0) (vs:=[jV 2]) Z Z Z Z bZ Z Z Z Z yw (zA Z) Z Z Z ?_))))))))))))
 intro im l4
 let cG:Res:=.blk b6 35 [jV 2]
 have l5:sW w U bh [cG,.blk O 28 B0] im:=l4
 refine eN (zP (zc (zR (wFQ (by first | exact .inl rfl | exact .inr rfl) (rbs:=[]) (L:=[cG,.blk O 28 B0]) l5 fun io l6=>?_))))
 have fG:sW w U bh [cG,.blk O 28 B0] io:=l6
 cases mV
 exact ⟨_,(wFz (v:=jV 2) ⟨⟨_,rfl,(wJk YL (fG.blkAt (k:=0) rfl) rfl)⟩,trivial⟩),bh,_,(fG.pick [] _ (by decide) rfl),rfl,rfl⟩
 intro cM mW
 refine cT Z cM (sR gAn Z (oM Z Z (zh (j:=0) (vs:=[jV x9]) Z Z Z Z dd Z Z Z Z yw (zA Z) Z Z Z ?_)))
 intro ip l7
 let cH:Res:=.blk b6 35 [jV x9]
 have l8:sW w U bA [cH,.blk O 28 B0] ip:=l7
 refine eN (zP (zc (zR (wFQ (by first | exact .inl rfl | exact .inr rfl) (rbs:=[]) (L:=[cH,.blk O 28 B0]) l8 fun iq ma=>?_))))
 have fH:sW w U bA [cH,.blk O 28 B0] iq:=ma
 have hE:=nA mW;first | subst r | cases hE
 exact ⟨_,(wFz (v:=jV x9) ⟨⟨_,rfl,(wJk YL (fH.blkAt (k:=0) rfl) rfl)⟩,trivial⟩),bA,_,(fH.pick [] _ (by decide) rfl),rfl,rfl⟩
set_option maxHeartbeats 4000000
theorem wGS (O:wAZ) (ax:Option Addr) (ay:Nat) (aj:Option Addr) (ak:Nat) (w:World) (U:PHeap) (hS:St0 w U []) (dq:Sl U 1 ax ay O.Rules.Classes.length (hD KL.encI O.Rules.Classes)) (cg:SlR U wHM aj ak O.Teams) {r:(Option wDo) × Int} (hm:wDP O=some r):Gv Tryz.prog 30 [.agg #[.slice ax O.Rules.Classes.length ay,jV O.Rules.Each,jV O.Rules.Laps,jV O.Rules.Spare,jV O.Rules.Loop,jV O.Rules.Unused,jV O.Start,.slice aj O.Teams.length ak]] w (wBD w [] U (fun U_ L_ v=>match r.1 with | none=>v=.tuple #[.pointer none,jV r.2]/\L_=[] | some d=>∃ (b0:Nat) (A0p000:Option Addr) (c0p000:Nat) (A0p02:Option Addr) (c0p02:Nat) (A0p1:Option Addr) (c0p1:Nat) (cs0p1:List Value),v=.tuple #[.pointer (some ⟨b0,0,none⟩),jV r.2]/\L_=[.blk b0 130 [.slice A0p000 d.Race.Rules.Classes.length c0p000,jV d.Race.Rules.Each,jV d.Race.Rules.Laps,jV d.Race.Rules.Spare,jV d.Race.Rules.Loop,jV d.Race.Rules.Unused,jV d.Race.Start,.slice A0p02 d.Race.Teams.length c0p02,.slice A0p1 d.after.length c0p1],.row A0p1 c0p1 23 1 cs0p1]/\Sl U_ 1 A0p000 c0p000 d.Race.Rules.Classes.length (hD KL.encI d.Race.Rules.Classes)/\SlR U_ wHM A0p02 c0p02 d.Race.Teams/\RlL U_ wDl d.after cs0p1)):=by
 unfold wDP at hm
 refine Gv.of Tryz.func30 Z Tryz.ntmps30 Tryz.results30 Z (sR (.fx 0 gAi .stop) Z ?_)
 let B0:List Value:=[.slice ax O.Rules.Classes.length ay,jV O.Rules.Each,jV O.Rules.Laps,jV O.Rules.Spare,jV O.Rules.Loop,jV O.Rules.Unused,jV O.Start,.slice aj O.Teams.length ak]
 refine ZH (cs:=B0) rfl rfl rfl rfl rfl rfl (by rfl) hS ?_
 intro W1 b2 dl
 refine oA Z Z (oA Z Z (eN (zI (sR gAw Z (oL Z (dl.ldBA (j:=0) Z Z Z ya Zk (vs:=B0) Z Z) (bnK hm fun x5 h6 ii=>zM 0 Z Z Z Z (zK Z Z Tryz.call65 (zD Z zO) Z) dl (fun hs=>wHx O ax ay aj ak W1 U hs dq cg h6) (.inr Z) ?_))))))
 rintro U8 L9 iS dM cq ge ⟨rfl,rfl⟩
 have cc:sW w U U8 [.blk b2 28 B0] dM:=ge
 refine oA Z Z (eN (sR fL2 Z (oM Z Z (oR Z (ZX Z Z Z) (eN (ifc ii ?_ ?_))))))
 intro bO gV
 refine zn (zt (fun h=>h bO.out)) (kN (sR gAy Z (oL Z (cc.ldBA (j:=0) Z Z Z ya Zk (vs:=B0) Z Z) ?_)))
 let B1:List Value:=[.slice ax O.Rules.Classes.length ay,jV O.Rules.Each,jV O.Rules.Laps,jV O.Rules.Spare,jV O.Rules.Loop,jV O.Rules.Unused,jV O.Start,.slice aj O.Teams.length ak,.slice none 0 0]
 refine zY rfl rfl rfl rfl (fun _=>zx (pv:=[(0,.agg B0.toArray)]) (z:=[.slice none 0 0,jV 0,jV 0,jV 0,jV 0,jV 0,jV 0,.slice none 0 0,.slice none 0 0]) (cs:=B1) rfl (wAA rfl wAI) Tryz.zeroValue130 wOJ rfl rfl) (ZH (cs:=B1) rfl rfl rfl rfl rfl rfl (by rfl) cc ?_)
 intro iE az dg
 refine oA Z Z (eN (zI (sR fL7 Z (oM Z Z (oR Z (ZR Z Z) (oR Z (zF Z Z Zu Z Zk) (oR Z (zF Z Z zo Z Zw) (oL Z (dg.ldB (j:=0) Z Z Z yO (v:=.slice aj O.Teams.length ak) Z) (oR Z (ze Z Z ZW) (oM Z Z (eN (zU (bnK gV fun je gQ ie=>?_)))))))))))))
 have q:=wAn gQ
 obtain ⟨cp,gR⟩:=q
 replace cp:=zH cp
 refine CK.forN' (fun aw bm σ_ w_=>∃ (U_:PHeap) (be:Option Addr) (bh:Nat) (bD:List Value),σ_ 29=jV (↑aw:Int)/\σ_ 5=.pointer (some ⟨az,0,none⟩)/\σ_ 27=.slice aj O.Teams.length ak/\σ_ 28=jV (↑O.Teams.length:Int)/\PHeap.Le U8 U_/\sW w U U_ [.row be bh 23 1 bD,.blk az 130 [.slice ax O.Rules.Classes.length ay,jV O.Rules.Each,jV O.Rules.Laps,jV O.Rules.Spare,jV O.Rules.Loop,jV O.Rules.Unused,jV O.Start,.slice aj O.Teams.length ak,.slice be bm.length bh],.blk b2 28 B0] w_/\RlL U_ wDl bm bD) gR ?_ ?_ ?_
 have gJ:=dg.nilrow 23 1
 exact ⟨U8,none,0,[],Z,Z,Z,Z,(zL _),gJ,RlL.nil⟩
 rintro aw bm ja jk iJ cm ⟨bA,be,bh,bD,bW,c6,c8,c9,dD,dp,fQ⟩ iq
 have cN:Hid ((↑aw:Int) < (↑O.Teams.length:Int)):=zH (wAj cm)
 replace cm:=zH cm
 have gT:Hid (w64 ((↑aw:Int) + 1)=(↑(aw + 1):Int)):=zH (by have h1:=cp.out;have h2:=cN.out;rw [wAX] <;> omega)
 refine sR fL1 Z (oR Z (zW Z bW c9) (eN (zI (cT Z cN (kN (zI (zU (sR gBd Z (bnK iq fun ab dd ig=>?_)))))))))
 have fR:=cg.le cq
 have fS:=fR.le dD
 have q:=fS.el (wAV dd)
 obtain ⟨ej,iw,iW,fY,ca,io⟩:=q
 obtain ⟨ct,cw,a8,ba,rfl,iQ,fT⟩:=io
 replace ca:Cl bA ej (iw + aw * 3) [jV ab.Bib,.slice ct ab.Classes.length cw,.slice a8 ab.Legs.length ba]:=ca
 refine oR Z (ZE Z c8 fY bW ZW Zd (wAq dd)) (oL Z (dp.ldCA (f:=0) ca Z Z ym Zd (us:=[jV ab.Bib,.slice ct ab.Classes.length cw,.slice a8 ab.Legs.length ba]) Z Z) ?_)
 let B2:List Value:=[jV 0,.slice none 0 0,.slice none 0 0]
 refine zm (cs:=B2) Z Z Z Z Z yG Z dp ?_
 intro iK ah gK
 let B3:List Value:=[jV ab.Bib,.slice ct ab.Classes.length cw,.slice a8 ab.Legs.length ba]
 refine zh (j:=0) (vs:=B3) Z Z Z Z gK Z Z Z Z Zd (zA Z) Z Z Z ?_
 intro dY gL
 let B4:Res:=.blk az 130 [.slice ax O.Rules.Classes.length ay,jV O.Rules.Each,jV O.Rules.Laps,jV O.Rules.Spare,jV O.Rules.Loop,jV O.Rules.Unused,jV O.Start,.slice aj O.Teams.length ak,.slice be bm.length bh]
 let B5:Res:=.row be bh 23 1 bD
 have cd:sW w U bA [.blk ah 43 B3,B5,B4,.blk b2 28 B0] dY:=gL
 refine eN (sR fL6 Z (oM Z c6 (oR Z (ZR Z Z) (oR Z (zF Z Z Zu Z Zk) (oR Z (zF Z Z zo Z zC) (oL Z (cd.ldB (j:=2) Z Z Z zJ (v:=jV O.Start) Z) (oA Z Z (eN (sR fL1 Z (oA Z Z (eN (zI (sR fL4 Z (oR Z (zF Z Z ZL Z yD) (oL Z (cd.ldB (j:=0) Z Z Z yv (v:=.slice a8 ab.Legs.length ba) Z) (oR Z (ze Z Z Zh) (oM Z Z (eN (zU ?_)))))))))))))))))))
 have q:=bnd ig
 obtain ⟨⟨jb,bb⟩,gM,dt⟩:=q
 try dsimp only at dt
 have q:=wAn gM
 obtain ⟨cn,gN⟩:=q
 replace cn:=zH cn
 refine CK.forN' (fun aY (dE,bG) σ_ w_=>∃ (U_:PHeap) (bn:Option Addr) (bs:Nat),σ_ 41=jV (↑aY:Int)/\σ_ 5=.pointer (some ⟨az,0,none⟩)/\σ_ 8=jV dE/\σ_ 9=.slice bn bG.length bs/\σ_ 27=.slice aj O.Teams.length ak/\σ_ 28=jV (↑O.Teams.length:Int)/\σ_ 29=jV (↑aw:Int)/\σ_ 39=.slice a8 ab.Legs.length ba/\σ_ 40=jV (↑ab.Legs.length:Int)/\PHeap.Le bA U_/\sW w U U_ [.blk ah 43 B3,B5,B4,.blk b2 28 B0,.row bn bs 3 1 (hD KL.encI bG)] w_) gN ?_ ?_ ?_
 have gb:=cd.nilrow 3 1
 exact ⟨bA,none,0,rfl,c6,rfl,rfl,c8,c9,bW,rfl,rfl,(zL _),(gb.pick [1,2,3,4,0] _ (by decide) rfl)⟩
 rintro aY ⟨dE,bG⟩ iY jf iC ci ⟨bz,bn,bs,bV,ez,eA,eB,eC,eD,eE,cO,cP,dz,de⟩ dx
 try dsimp only at dx
 have cJ:Hid ((↑aY:Int) < (↑ab.Legs.length:Int)):=zH (wAj ci)
 replace ci:=zH ci
 have gS:Hid (w64 ((↑aY:Int) + 1)=(↑(aY + 1):Int)):=zH (by have h1:=cn.out;have h2:=cJ.out;rw [wAX] <;> omega)
 refine sR fL1 Z (oR Z (zW Z bV cP) (eN (zI (cT Z cJ (kN (zI (zU (sR gBd Z (bnK dx fun ae da gU=>?_)))))))))
 have fw:=fT.le dz
 have q:=fw.el (wAV da)
 obtain ⟨dZ,iu,iU,fU,bY,ij⟩:=q
 obtain ⟨bu,bv,bI,bJ,rfl,fy,fz⟩:=ij
 replace bY:Cl bz dZ (iu + aY * 3) [jV ae.Skier,.slice bu ae.Loops.length bv,.slice bI ae.Bouts.length bJ]:=bY
 refine oR Z (ZE Z cO fU bV Zh Zb (wAq da)) (oL Z (de.ldCA (f:=0) bY Z Z YI Zb (us:=[jV ae.Skier,.slice bu ae.Loops.length bv,.slice bI ae.Bouts.length bJ]) Z Z) (zm (cs:=B2) Z Z Z Z Z Zj Z de ?_))
 intro iD au gf
 let B6:List Value:=[jV ae.Skier,.slice bu ae.Loops.length bv,.slice bI ae.Bouts.length bJ]
 refine zh (j:=0) (vs:=B6) Z Z Z Z gf Z Z Z Z Zb (zA Z) Z Z Z ?_
 intro dN gg
 have df:sW w U bz [.blk au 46 B6,.blk ah 43 B3,B5,B4,.blk b2 28 B0,.row bn bs 3 1 (hD KL.encI bG)] dN:=gg
 refine eN (sR fL4 Z (oR Z (zF Z Z ZU Z zS) (oL Z (df.ldB (j:=0) Z Z Z zZ (v:=.slice bu ae.Loops.length bv) Z) (oR Z (ze Z Z zB) (oM Z Z (eN (zU ?_)))))))
 have q:=bnd gU
 obtain ⟨⟨jc,jd⟩,gO,du⟩:=q
 try dsimp only at du
 have q:=wAn gO
 obtain ⟨co,gP⟩:=q
 replace co:=zH co
 refine CK.forN' (fun a7 (an,aZ) σ_ w_=>∃ (U_:PHeap) (bd:Option Addr) (bg:Nat),σ_ 48=jV (↑a7:Int)/\σ_ 5=.pointer (some ⟨az,0,none⟩)/\σ_ 8=jV an/\σ_ 9=.slice bd aZ.length bg/\σ_ 11=.pointer (some ⟨au,0,none⟩)/\σ_ 27=.slice aj O.Teams.length ak/\σ_ 28=jV (↑O.Teams.length:Int)/\σ_ 29=jV (↑aw:Int)/\σ_ 39=.slice a8 ab.Legs.length ba/\σ_ 40=jV (↑ab.Legs.length:Int)/\σ_ 41=jV (↑aY:Int)/\σ_ 47=jV (↑ae.Loops.length:Int)/\PHeap.Le bz U_/\sW w U U_ [.blk au 46 B6,.blk ah 43 B3,B5,B4,.blk b2 28 B0,.row bd bg 3 1 (hD KL.encI aZ)] w_) gP ?_ ?_ ?_
 exact ⟨bz,bn,bs,Z,ez,eA,eB,Z,eC,eD,eE,cO,cP,bV,Z,(zL _),df⟩
 rintro a7 ⟨an,aZ⟩ iZ jg dO cj ⟨bq,bd,bg,bF,cQ,eF,cR,bE,cS,cU,cV,cW,cX,cY,bS,bH,bi⟩ dy
 try dsimp only at dy
 have cK:Hid ((↑a7:Int) < (↑ae.Loops.length:Int)):=zH (wAj cj)
 replace cj:=zH cj
 have dr:Hid (w64 ((↑a7:Int) + 1)=(↑(a7 + 1):Int)):=zH (by have h1:=co.out;have h2:=cK.out;rw [wAX] <;> omega)
 refine sR fL1 Z (oR Z (zW Z bF bS) (eN (zI (cT Z cK (kN (zI (zU (sR fL2 Z (oM Z bF (oA Z Z (eN (sR fL8 Z (oM Z eF (oR Z (zF Z bE ZU Z zS) (oL Z (bi.ldB (j:=0) Z Z Z zZ (v:=.slice bu ae.Loops.length bv) Z) (oM Z Z (bnK dy fun aq db gW=>?_)))))))))))))))))
 have fA:=fy.le bH
 have q:=fA.el (fun _=>rfl) (wAV db)
 obtain ⟨iL,iR,fV,fZ⟩:=q
 refine oR Z (ZE Z Z fV Z zB zC (wAq db)) (oL Z (bi.ldC (f:=0) fZ (v:=jV aq) Z Z zJ Z) (oR Z (zX Z Z Z) (oA Z Z (eN (zI (sR fL2 Z (oM Z Z (oR Z (yT Z Z Z) (eN (ifc gW ?_ ?_))))))))))
 intro bP gX
 refine cT Z bP (sR (wGx (.fx 6 (wQz (.fx 10 (.fx 11 (.fl 12 .nil) .stop) .stop)) .stop)) Z (oR Z (zF Z bE ZU Z yr) (oL Z (bi.ldB (j:=0) Z Z Z Tryz.isAgg44 (v:=.slice bI ae.Bouts.length bJ) Z) (oM Z Z (oR Z (Zy Z Z Z) (bnK gX fun cy bX gY=>?_))))))
 have fB:=fz.le bH
 have q:=fB.el (wAV bX)
 obtain ⟨d7,iv,iV,fW,bZ,il⟩:=q
 obtain ⟨cr,cu,rfl,fC⟩:=il
 replace bZ:Cl bq d7 (iv + (w64 ((↑a7:Int) - 1)).toNat * 1) [.slice cr cy.length cu]:=bZ
 refine oR Z (Za Z Z fW Z Zo yM (wCh bX) (wCs bX)) (oL Z (bi.ldC (f:=0) bZ (v:=.slice cr cy.length cu) Z Z YT Z) ?_)
 have q:=bnd gY
 obtain ⟨⟨ac,iy⟩,fD,dv⟩:=q
 try dsimp only at dv
 refine zM 0 Z Z Z Z (zK Z Z Tryz.call11 (zD Z zO) Z) bi (fun hs=>wFK cy cr cu dO bq hs fC fD) (.inr Z) ?_
 rintro br iz iT dP ir gh ⟨rfl,rfl⟩
 let B7:Res:=.row bd bg 3 1 (hD KL.encI aZ)
 have gi:sW w U br [.blk au 46 B6,.blk ah 43 B3,B5,B4,.blk b2 28 B0,B7] dP:=gh
 refine oM Z Z (oR Z (zi Z Z (v:=.agg #[jV ac.Spares,jV ac.Loops,jV ac.Unused]) Z) (oR Z (zi Z Z (v:=jV iy) Z) (zm (cs:=[jV 0,jV 0,jV 0]) Z Z Z Z Z yH Z gi ?_)))
 intro iF bC gj
 let B8:List Value:=[jV ac.Spares,jV ac.Loops,jV ac.Unused]
 refine zh (j:=0) (vs:=B8) Z Z Z Z gj Z Z Z Z Zx (zA Z) Z Z Z ?_
 intro bN gm
 have gq:sW w U br [.blk bC 49 B8,.blk au 46 B6,.blk ah 43 B3,B5,B4,.blk b2 28 B0,B7] bN:=gm
 refine oA Z Z (eN (yL fun ao ai=>?_))
 have bT:ao 5=.pointer (some ⟨az,0,none⟩):=(ai 5).trans cQ
 have eG:ao 8=jV (w64 (an + aq)):=(ai 8).trans rfl
 have eH:ao 9=.slice bd aZ.length bg:=(ai 9).trans cR
 have eI:ao 11=.pointer (some ⟨au,0,none⟩):=(ai 11).trans bE
 have cZ:ao 13=.pointer (some ⟨bC,0,none⟩):=(ai 13).trans rfl
 have eJ:ao 27=.slice aj O.Teams.length ak:=(ai 27).trans cS
 have eK:ao 28=jV (↑O.Teams.length:Int):=(ai 28).trans cU
 have eM:ao 29=jV (↑aw:Int):=(ai 29).trans cV
 have eO:ao 39=.slice a8 ab.Legs.length ba:=(ai 39).trans cW
 have eQ:ao 40=jV (↑ab.Legs.length:Int):=(ai 40).trans cX
 have eR:ao 41=jV (↑aY:Int):=(ai 41).trans cY
 have eS:ao 47=jV (↑ae.Loops.length:Int):=(ai 47).trans bS
 have eT:ao 48=jV (↑a7:Int):=(ai 48).trans bF
 clear ai
 refine ZN ZD [3,3,1,3,3,3,3,3,1,3,3,1,3,3,3,3,3,1,3,3,3,3] wRy (by kernel_rfl) ?_
 have bj:=gq.drew
 generalize hw_W268:({ bN with drawn:=bN.drawn + 1 }:World)=iG at bj ⊢
 refine oM Z eG (oR Z (zF Z cZ Tryz.runUnderlying49 Z zC) (oL Z (bj.ldB (j:=0) Z Z Z zJ (v:=jV ac.Spares) Z) (oM Z bT (oR Z (ZR Z Z) (oR Z (zF Z Z Zu Z Zk) (oR Z (zF Z Z zo Z ZO) (oR Z (zF Z Z ZA Z zC) (oL Z (bj.ldB (j:=4) Z Z Z zJ (v:=jV O.Rules.Spare) Z) (oR Z (Runs.mulw Z Z Z) (oR Z (zF Z cZ Tryz.runUnderlying49 Z zC) (oL Z (bj.ldB (j:=0) Z Z Z zJ (v:=jV ac.Loops) Z) (oM Z bT (oR Z (ZR Z Z) (oR Z (zF Z Z Zu Z Zk) (oR Z (zF Z Z zo Z ZO) (oR Z (zF Z Z ZA Z zC) (oL Z (bj.ldB (j:=4) Z Z Z zJ (v:=jV O.Rules.Loop) Z) (oR Z (Runs.mulw Z Z Z) (oR Z (zX Z Z Z) (oR Z (zX Z Z Z) (oA Z Z (eN (rR gBg Z (oM Z eH (oM Z Z (zb (pv:=[(0,jV (w64 ((w64 (an + aq)) + (w64 ((w64 (ac.Spares * O.Rules.Spare)) + (w64 (ac.Loops * O.Rules.Loop)))))))]) (zs:=[jV 0]) (cs:=[jV (w64 ((w64 (an + aq)) + (w64 ((w64 (ac.Spares * O.Rules.Spare)) + (w64 (ac.Loops * O.Rules.Loop))))))]) Z Z Z Z Z (wAA Z wAI) zB zC zw Z Z Z Z Z bj ?_))))))))))))))))))))))))))
 intro dQ d8 gu
 let B9:Res:=.row (some ⟨d8,0,none⟩) 1 3 1 (hD KL.encI [w64 ((w64 (an + aq)) + (w64 ((w64 (ac.Spares * O.Rules.Spare)) + (w64 (ac.Loops * O.Rules.Loop)))))])
 have dh:sW w U br [B9,.blk bC 49 B8,.blk au 46 B6,.blk ah 43 B3,B5,B4,.blk b2 28 B0,B7] dQ:=gu
 refine bnK dv fun dF fE gZ=>Zr (j:=7) (enc:=KL.encI) (xs:=aZ) (ys:=[w64 ((w64 (an + aq)) + (w64 ((w64 (ac.Spares * O.Rules.Spare)) + (w64 (ac.Loops * O.Rules.Loop)))))]) (zs:=dF) rfl rfl rfl rfl rfl Zn wFr rfl rfl rfl rfl rfl rfl dh rfl rfl rfl (dh.srcR (j:=0) rfl (by decide) (wAB (f:=KL.encI) (sz:=1) (fun _=>rfl) [w64 ((w64 (an + aq)) + (w64 ((w64 (ac.Spares * O.Rules.Spare)) + (w64 (ac.Loops * O.Rules.Loop)))))])) (fun _=>rfl) (fun _=>rfl) fE rfl ?_
 intro cA cL dR gv
 have gw:sW w U br [B9,.blk bC 49 B8,.blk au 46 B6,.blk ah 43 B3,B5,B4,.blk b2 28 B0,.row cA cL 3 1 (hD KL.encI dF)] dR:=gv
 refine oA Z Z (zg (zf (zG (rR fL2 Z (oR Z (zr (zX Z eT Z) (congrArg (jV) dr.out)) (oM Z Z (zg ?_)))))))
 cases gZ
 exact zG ⟨rfl,⟨br,cA,cL,rfl,bT,rfl,rfl,eI,eJ,eK,eM,eO,eQ,eR,eS,(bH.trans ir),(gw.pick [2,3,4,5,6,7] _ (by decide) rfl)⟩⟩
 intro bP g8
 refine cF Z bP (kN (rR gBg Z (oM Z cR (oM Z Z (zb (pv:=[(0,jV (w64 (an + aq)))]) (zs:=[jV 0]) (cs:=[jV (w64 (an + aq))]) Z Z Z Z Z (wAA Z wAI) zB zC zw Z Z Z Z Z bi ?_)))))
 intro dS d9 gx
 let cE:Res:=.row (some ⟨d9,0,none⟩) 1 3 1 (hD KL.encI [w64 (an + aq)])
 have di:sW w U bq [cE,.blk au 46 B6,.blk ah 43 B3,B5,B4,.blk b2 28 B0,.row bd bg 3 1 (hD KL.encI aZ)] dS:=gx
 refine bnK g8 fun dG fG g9=>Zr (j:=6) (enc:=KL.encI) (xs:=aZ) (ys:=[w64 (an + aq)]) (zs:=dG) rfl rfl rfl rfl rfl Zn wFr rfl rfl rfl rfl rfl rfl di rfl rfl rfl (di.srcR (j:=0) rfl (by decide) (wAB (f:=KL.encI) (sz:=1) (fun _=>rfl) [w64 (an + aq)])) (fun _=>rfl) (fun _=>rfl) fG rfl ?_
 intro cC cM dT gy
 have gz:sW w U bq [cE,.blk au 46 B6,.blk ah 43 B3,B5,B4,.blk b2 28 B0,.row cC cM 3 1 (hD KL.encI dG)] dT:=gy
 refine oA Z Z (zg (zf (zG (rR fL2 Z (oR Z (zr (zX Z bF Z) (congrArg (jV) dr.out)) (oM Z Z (zg ?_)))))))
 cases g9
 exact zG ⟨rfl,⟨bq,cC,cM,rfl,cQ,rfl,rfl,bE,cS,cU,cV,cW,cX,cY,bS,bH,(gz.pick [1,2,3,4,5,6] _ (by decide) rfl)⟩⟩
 rintro jh iH ⟨dJ,dH,eo,fq,eU,eV,eW,iM,eX,eY,eZ,e8,e9,fb,fc,it,gA⟩
 have ep:Hid (¬ ((↑(((↑ae.Loops.length:Int):Int) - 0).toNat:Int) < (↑ae.Loops.length:Int))):=zH (wAc)
 refine sR fL1 Z (oR Z (zW Z fq fc) (eN (zI (cF Z ep (ZJ (zd (zd (ZG (zf (zG (rR fL2 Z (oR Z (zr (zX Z fb Z) (congrArg (jV) gS.out)) (oM Z Z (zg ?_))))))))))))))
 cases du
 exact zG ⟨rfl,⟨dJ,dH,eo,rfl,eU,eV,eW,eX,eY,eZ,e8,e9,(dz.trans it),(gA.pick [1,2,3,4,5] _ (by decide) rfl)⟩⟩
 rintro ji dU ⟨iB,bK,bQ,ft,bU,iN,fd,ff,fg,fh,iO,fj,dA,dm⟩
 have er:Hid (¬ ((↑(((↑ab.Legs.length:Int):Int) - 0).toNat:Int) < (↑ab.Legs.length:Int))):=zH (wAc)
 refine sR fL1 Z (oR Z (zW Z ft fj) (eN (zI (cF Z er (ZJ (zd (zd (ZG (zG (rR (wGx (.fx 6 (.fx 7 (.fl 8 (.fl 9 (.fx 10 .nil .stop))) .stop) .stop)) Z (oM Z bU (oM Z bU (oR Z (ZR Z Z) (oR Z (zF Z Z Zu Z Zq) (oL Z (dm.ldB (j:=2) Z Z Z yE (v:=.slice be bm.length bh) Z) (oM Z fd ?_))))))))))))))))
 have q:=dm.freezeR (k:=4) (n:=bb.length) rfl (wAB (f:=KL.encI) (sz:=1) (fun _=>rfl) bb) (by decide)
 obtain ⟨bf,dB,ip,gC⟩:=q
 have gD:sW w U bf [.blk ah 43 B3,B5,B4,.blk b2 28 B0] dU:=gC
 let bw:List Value:=[.slice bK bb.length bQ]
 refine zb (pv:=[(0,.slice bK bb.length bQ)]) (zs:=[.slice none 0 0]) (cs:=bw) Z Z Z Z Z (wAA Z wAI) zu zS YQ Z Z Z Z Z gD ?_
 intro dV eh gB
 have dw:RlL bf wDl [bb] bw:=(RlL.cons (R:=wDl) (x:=bb) (vs:=bw) ⟨bK,bQ,rfl,ip⟩ RlL.nil)
 let bL:Res:=.row (some ⟨eh,0,none⟩) 1 23 1 bw
 have dn:sW w U bf [bL,.blk ah 43 B3,B5,B4,.blk b2 28 B0] dV:=gB
 refine bnK dt fun cz fH ib=>?_
 have fI:=fQ.le dA
 have fJ:=fI.le dB
 refine YH (R:=wDl) (j:=2) (xs:=bm) (ys:=[bb]) (zs:=cz) rfl rfl rfl rfl rfl Tryz.underlying32 wMm rfl rfl rfl rfl rfl rfl rfl dn rfl rfl rfl fJ dw (dn.srcR (j:=0) rfl (by decide) (RlL.len dw)) fH rfl ?_
 intro bp bt bR dW gE im
 have gF:sW w U bf [bL,.blk ah 43 B3,.row bp bt 23 1 bR,B4,.blk b2 28 B0] dW:=gE
 refine oR Z (ZR Z Z) (oR Z (zF Z Z Zu Z Zq) (zh (j:=3) (vs:=[.slice bp cz.length bt]) Z Z Z Z gF Z Z Z Z Zq (zA Z) Z Z Z ?_))
 intro dX gG
 have gH:sW w U bf [bL,.blk ah 43 B3,.row bp bt 23 1 bR,.blk az 130 [.slice ax O.Rules.Classes.length ay,jV O.Rules.Each,jV O.Rules.Laps,jV O.Rules.Spare,jV O.Rules.Loop,jV O.Rules.Unused,jV O.Start,.slice aj O.Teams.length ak,.slice bp cz.length bt],.blk b2 28 B0] dX:=gG
 refine zg (zf (zG (rR fL2 Z (oR Z (zr (zX Z fh Z) (congrArg (jV) gT.out)) (oM Z Z (zg ?_))))))
 cases ib
 exact zG ⟨rfl,⟨bf,bp,bt,bR,rfl,bU,ff,fg,((dD.trans dA).trans dB),(gH.pick [2,3,4] _ (by decide) rfl),im⟩⟩
 rintro jj iI ⟨dK,dI,eu,ew,fu,fk,iP,fm,dC,gI,fK⟩
 have ey:Hid (¬ ((↑(((↑O.Teams.length:Int):Int) - 0).toNat:Int) < (↑O.Teams.length:Int))):=zH (wAc)
 refine sR fL1 Z (oR Z (zW Z fu fm) (eN (zI (cF Z ey (ZJ (zd (zd (ZG (zG (sR fL3 Z (oM Z fk (oA Z Z (oA Z Z (eN (zP ?_)))))))))))))))
 have fL:=dq.le cq
 have fM:=fL.le dC
 have fN:=cg.le cq
 have fO:=fN.le dC
 cases ie
 exact ⟨rfl,_,(wEr rfl rfl),dK,_,(gI.pick [1,0] _ (by decide) rfl),az,ax,ay,aj,ak,dI,eu,ew,rfl,rfl,fM,fO,fK⟩
 intro bO ic
 refine cT Z bO (sR fL3 Z (oM Z Z (oA Z Z (oA Z Z (eN (zP (zR ?_)))))))
 cases ic
 exact ⟨rfl,_,(wEr rfl rfl),U8,_,(cc.pick [] _ (by decide) rfl),rfl,rfl⟩
theorem wCq (p0:List Int) (ab:Option Addr) (aj:Nat) (w:World) (U:PHeap) (hS:St0 w U []) (ai:Sl U 1 ab aj p0.length (hD KL.encI p0)) {r:(List Int)} (hm:wBH p0=some r):Gv Tryz.prog 66 [.slice ab p0.length aj] w (wBD w [] U (fun U_ L_ v=>∃ (A0:Option Addr) (c0:Nat),v=.slice A0 r.length c0/\L_=[.row A0 c0 3 1 (hD KL.encI r)])):=by
 unfold wBH at hm
 refine Gv.of Tryz.func66 Z Tryz.ntmps66 Tryz.results66 Z (sR fL1 Z (oA Z Z (eN (zI (sR fL2 Z (oM Z Z (oR Z (Runs.eqNil Z Z Z zB) (eN ?_))))))))
 by_cases O:ab.isNone=true
 replace O:=zH O
 have az:p0=[]:=List.eq_nil_of_length_eq_zero (Sl.nilA (Option.isNone_iff_eq_none.1 O.out ▸ ai))
 have ay:(some [])=some r:=by simpa [az,app] using hm
 refine zy (congrArg nB O.out) (sR fL1 Z (oA Z Z (eN (zP (zR ?_)))))
 have av:=hS.nilrow 3 1
 cases ay
 exact ⟨Z,_,(zz Z),U,_,av,none,0,Z,Z⟩
 replace O:=zH O
 refine zn (congrArg nB (nD.2 O.out)) (kN (sR (.fx 0 gAt .stop) Z (OKS.buildSlice0 1 Z Z Z Z Z zB zC hS ?_)))
 intro W6 b7 aw
 have ah:sW w U U [.row (some ⟨b7,0,none⟩) 0 3 1 (hD KL.encI ([]:List Int))] W6:=aw
 refine oM Z Z (bnK hm fun ak ap ax=>OKS.append0 (j:=0) (enc:=KL.encI) (ys:=p0) (zs:=ak) Z Z Z Z Z Zn wFr Z Z Z Z Z Z ah Z Z Z (ah.srcS ai) (fun _=>Z) ap ?_)
 intro ae ag am aq
 have au:sW w U U [.row ae ag 3 1 (hD KL.encI ak)] am:=aq
 refine oA Z Z (eN (zP ?_))
 have hE:=nA ax;first | subst r | cases hE
 exact ⟨Z,_,(zz Z),U,_,au,ae,ag,Z,Z⟩
theorem wGI (O:wDo) (ba:Nat) (a7:Option Addr) (bb:Nat) (aw:Option Addr) (ax:Nat) (a8:Option Addr) (bd:Nat) (w:World) (U:PHeap) (hS:St0 w U [.blk ba 130 [.slice a7 O.Race.Rules.Classes.length bb,jV O.Race.Rules.Each,jV O.Race.Rules.Laps,jV O.Race.Rules.Spare,jV O.Race.Rules.Loop,jV O.Race.Rules.Unused,jV O.Race.Start,.slice aw O.Race.Teams.length ax,.slice a8 O.after.length bd]]) (eA:Sl U 1 a7 bb O.Race.Rules.Classes.length (hD KL.encI O.Race.Rules.Classes)) (dL:SlR U wHM aw ax O.Race.Teams) (dM:SlR U wDl a8 bd O.after) {r:wAk} (hm:wCe O=some r):Gv Tryz.prog 31 [.pointer (some ⟨ba,0,none⟩)] w (wBD w [.blk ba 130 [.slice a7 O.Race.Rules.Classes.length bb,jV O.Race.Rules.Each,jV O.Race.Rules.Laps,jV O.Race.Rules.Spare,jV O.Race.Rules.Loop,jV O.Race.Rules.Unused,jV O.Race.Start,.slice aw O.Race.Teams.length ax,.slice a8 O.after.length bd]] U (fun U_ L_ v=>∃ (bT:Option Addr) (bZ:Nat) (bU:Option Addr) (ca:Nat) (cg:List Value),v=.agg #[jV r.Laps,.slice bT r.Bibs.length bZ,.slice bU r.Times.length ca]/\L_=[.row bT bZ 3 1 (hD KL.encI r.Bibs),.row bU ca 23 1 cg,.blk ba 130 [.slice a7 O.Race.Rules.Classes.length bb,jV O.Race.Rules.Each,jV O.Race.Rules.Laps,jV O.Race.Rules.Spare,jV O.Race.Rules.Loop,jV O.Race.Rules.Unused,jV O.Race.Start,.slice aw O.Race.Teams.length ax,.slice a8 O.after.length bd]]/\RlL U_ wDl r.Times cg)):=by
 unfold wCe at hm
 refine Gv.of Tryz.func31 Z Tryz.ntmps31 Tryz.results31 Z (sR (.fx 0 .nil .stop) Z ?_)
 let B0:List Value:=[jV 0,.slice none 0 0,.slice none 0 0]
 refine zm (cs:=B0) Z Z Z Z Z YB Z hS ?_
 intro W2 b3 dH
 refine eN (zI (ZN ZD [3,3,3,3,3,1,3,3,3,3,3,3,1,3,3,2,0] (wQC (.fx 15 (.fx 16 .nil .stop) .stop)) (by kernel_rfl) ?_))
 have bu:=dH.drew
 generalize hw_W7:({ W2 with drawn:=W2.drawn + 1 }:World)=W7 at bu ⊢
 refine oM Z Z (oR Z (ZR Z Z) (oR Z (zF Z Z Zu Z Zk) (oR Z (zF Z Z zo Z ZO) (oR Z (zF Z Z ZA Z zS) (oL Z (bu.ldB (j:=1) Z Z Z zZ (v:=.slice a7 O.Race.Rules.Classes.length bb) Z) (oR Z (ze Z Z zB) (oM Z Z (oR Z (ZR Z Z) (oR Z (zF Z Z Zu Z Zk) (oR Z (zF Z Z zo Z ZO) (oR Z (zF Z Z ZA Z zC) (oL Z (bu.ldB (j:=1) Z Z Z zJ (v:=jV O.Race.Rules.Laps) Z) (oR Z (Runs.mulw Z Z Z) ?_)))))))))))))
 let B1:List Value:=[jV (w64 ((↑O.Race.Rules.Classes.length:Int) * O.Race.Rules.Laps)),.slice none 0 0,.slice none 0 0]
 refine oR Z (zx (pv:=[(0,jV (w64 ((↑O.Race.Rules.Classes.length:Int) * O.Race.Rules.Laps)))]) (z:=B0) (cs:=B1) Z (wAA Z wAI) YB wKX Z Z) (zm (cs:=B0) Z Z Z Z Z YB Z bu ?_)
 intro W8 b9 dn
 refine zh (j:=0) (vs:=B1) Z Z Z Z dn Z Z Z Z Zm (zA Z) Z Z Z ?_
 intro cL dw
 let B2:Res:=.blk ba 130 [.slice a7 O.Race.Rules.Classes.length bb,jV O.Race.Rules.Each,jV O.Race.Rules.Laps,jV O.Race.Rules.Spare,jV O.Race.Rules.Loop,jV O.Race.Rules.Unused,jV O.Race.Start,.slice aw O.Race.Teams.length ax,.slice a8 O.after.length bd]
 have cr:SW w [B2] U U [.blk b9 34 B1,.blk b3 34 B0,B2] cL:=dw
 refine eN (zI (sR fL7 Z (oM Z Z (oR Z (ZR Z Z) (oR Z (zF Z Z Zu Z Zk) (oR Z (zF Z Z zo Z Zw) (oL Z (cr.ldB (j:=2) Z Z Z yO (v:=.slice aw O.Race.Teams.length ax) Z) (oR Z (ze Z Z ZW) (oM Z Z (eN (zU ?_)))))))))))
 have q:=bnd hm
 obtain ⟨⟨cG,d8⟩,dN,cz⟩:=q
 try dsimp only at cz
 have q:=wAn dN
 obtain ⟨bJ,dO⟩:=q
 replace bJ:=zH bJ
 refine CK.forN' (fun aq (au,av) σ_ w_=>∃ (U_:PHeap) (ay:Option Addr) (aZ:Nat) (aj:Option Addr) (ap:Nat) (bs:List Value),σ_ 27=jV (↑aq:Int)/\σ_ 0=.pointer (some ⟨ba,0,none⟩)/\σ_ 2=.pointer (some ⟨b3,0,none⟩)/\σ_ 3=.pointer (some ⟨b9,0,none⟩)/\σ_ 25=.slice aw O.Race.Teams.length ax/\σ_ 26=jV (↑O.Race.Teams.length:Int)/\PHeap.Le U U_/\SW w [B2] U U_ [.row ay aZ 3 1 (hD KL.encI au),.row aj ap 23 1 bs,.blk b9 34 [jV (w64 ((↑O.Race.Rules.Classes.length:Int) * O.Race.Rules.Laps)),.slice ay au.length aZ,.slice aj av.length ap],.blk b3 34 B0,B2] w_/\RlL U_ wDl av bs) dO ?_ ?_ ?_
 have dI:=cr.nilrow 3 1
 have dJ:=dI.nilrow 23 1
 exact ⟨U,none,0,none,0,[],rfl,rfl,rfl,rfl,rfl,rfl,(zL _),(dJ.pick [1,0,2,3,4] _ (by decide) rfl),RlL.nil⟩
 rintro aq ⟨au,av⟩ eF eH ej bI ⟨an,ay,aZ,aj,ap,bs,bt,cj,cZ,bj,cm,cn,bK,cy,dh⟩ cC
 try dsimp only at cC
 have cd:Hid ((↑aq:Int) < (↑O.Race.Teams.length:Int)):=zH (wAj bI)
 replace bI:=zH bI
 have dP:Hid (w64 ((↑aq:Int) + 1)=(↑(aq + 1):Int)):=zH (by have h1:=bJ.out;have h2:=cd.out;rw [wAX] <;> omega)
 refine sR fL1 Z (oR Z (zW Z bt cn) (eN (zI (cT Z cd (kN (zI (zU (sR (wCK gAx) Z (oM Z bt (bnK cC fun ac cp dU=>?_))))))))))
 have di:=dL.le bK
 have q:=di.el (wAV cp)
 obtain ⟨cV,d7,eE,dm,bG,dX⟩:=q
 obtain ⟨bM,bP,bN,bQ,rfl,ey,ez⟩:=dX
 replace bG:Cl an cV (d7 + aq * 3) [jV ac.Bib,.slice bM ac.Classes.length bP,.slice bN ac.Legs.length bQ]:=bG
 refine oR Z (ZE Z cm dm bt ZW Zd (wAq cp)) (oL Z (cy.ldCA (f:=0) bG Z Z ym Zd (us:=[jV ac.Bib,.slice bM ac.Classes.length bP,.slice bN ac.Legs.length bQ]) Z Z) (zm (cs:=B0) Z Z Z Z Z yG Z cy ?_))
 intro er ag dK
 refine oA Z Z ?_
 let B3:List Value:=[jV ac.Bib,.slice bM ac.Classes.length bP,.slice bN ac.Legs.length bQ]
 refine zh (j:=0) (vs:=B3) Z Z Z Z dK Z Z Z Z Zd (zA Z) Z Z Z ?_
 intro cI dp
 let B4:Res:=.blk b9 34 [jV (w64 ((↑O.Race.Rules.Classes.length:Int) * O.Race.Rules.Laps)),.slice ay au.length aZ,.slice aj av.length ap]
 let B5:Res:=.row aj ap 23 1 bs
 let B6:Res:=.row ay aZ 3 1 (hD KL.encI au)
 have bH:SW w [B2] U an [.blk ag 43 B3,B6,B5,B4,.blk b3 34 B0,B2] cI:=dp
 refine eN (sR (wEL gAz) Z (oR Z (zF Z bj ZS Z zS) (oL Z (bH.ldB (j:=3) Z Z Z zZ (v:=.slice ay au.length aZ) Z) (oR Z (zF Z Z ZL Z zC) (oL Z (bH.ldB (j:=0) Z Z Z zJ (v:=jV ac.Bib) Z) (zb (pv:=[(0,jV ac.Bib)]) (zs:=[jV 0]) (cs:=[jV ac.Bib]) Z Z Z Z Z (wAA Z wAI) zB zC zw Z Z Z Z Z bH ?_))))))
 intro cJ cR dq
 let B7:Res:=.row (some ⟨cR,0,none⟩) 1 3 1 (hD KL.encI [ac.Bib])
 have cq:SW w [B2] U an [B7,.blk ag 43 B3,B6,B5,B4,.blk b3 34 B0,B2] cJ:=dq
 refine bnK dU fun bn c8 dQ=>Zr (j:=2) (enc:=KL.encI) (xs:=au) (ys:=[ac.Bib]) (zs:=bn) rfl rfl rfl rfl rfl Zn wFr rfl rfl rfl rfl rfl rfl cq rfl rfl rfl (cq.srcR (j:=0) rfl (by decide) (wAB (f:=KL.encI) (sz:=1) (fun _=>rfl) [ac.Bib])) (fun _=>rfl) (fun _=>rfl) c8 rfl ?_
 intro be bh cK dr
 let B8:Res:=.row be bh 3 1 (hD KL.encI bn)
 have dt:SW w [B2] U an [B7,.blk ag 43 B3,B8,B5,B4,.blk b3 34 B0,B2] cK:=dr
 refine oR Z (zF Z bj ZS Z zS) (zh (j:=4) (vs:=[.slice be bn.length bh]) Z Z Z Z dt Z Z Z Z zS (zA Z) Z Z Z ?_)
 intro bB du
 let B9:Res:=.blk b9 34 [jV (w64 ((↑O.Race.Rules.Classes.length:Int) * O.Race.Rules.Laps)),.slice be bn.length bh,.slice aj av.length ap]
 have dv:SW w [B2] U an [B7,.blk ag 43 B3,B8,B5,B9,.blk b3 34 B0,B2] bB:=du
 refine eN (ZN ZD [3,1,3,3,3,1,3,3,1,2,2,0,3,0] (wQw (.fx 9 (.fx 10 (.fx 11 (.fl 12 (.fx 13 .nil .stop)) .stop) .stop) .stop)) (by kernel_rfl) ?_)
 have bm:=dv.drew
 generalize hw_W120:({ bB with drawn:=bB.drawn + 1 }:World)=cM at bm ⊢
 refine oR Z (zF Z bj ZS Z Zq) (oL Z (bm.ldB (j:=4) Z Z Z yE (v:=.slice aj av.length ap) Z) (oM Z cj (oR Z (ZR Z Z) (oR Z (zF Z Z Zu Z Zq) (oL Z (bm.ldB (j:=6) Z Z Z yE (v:=.slice a8 O.after.length bd) Z) (oM Z Z (bnK dQ fun bR co dR=>?_)))))))
 have c9:=dM.le bK
 have q:=c9.el (wAV co)
 obtain ⟨cS,dZ,eD,dl,bF,dV⟩:=q
 obtain ⟨bL,bO,rfl,da⟩:=dV
 replace bF:Cl an cS (dZ + aq * 1) [.slice bL bR.length bO]:=bF
 refine oR Z (ZE Z Z dl Z zu zS (wAq co)) (oL Z (bm.ldC (f:=0) bF (v:=.slice bL bR.length bO) Z Z zZ Z) (bnK dR fun ai db dS=>zM 0 Z Z Z Z (zK Z Z Tryz.call66 (zD Z zO) Z) bm (fun hs=>wCq bR bL bO cM an hs da db) (.inr Z) ?_))
 rintro cH d9 eC bX cD dx ⟨bp,br,rfl,rfl⟩
 have dy:SW w [B2] U cH [.row bp br 3 1 (hD KL.encI ai),B7,.blk ag 43 B3,B8,B5,B9,.blk b3 34 B0,B2] bX:=dx
 have q:=dy.freezeR (k:=0) (n:=ai.length) rfl (wAB (f:=KL.encI) (sz:=1) (fun _=>rfl) ai) (by decide)
 obtain ⟨aY,cE,dY,dA⟩:=q
 have dB:SW w [B2] U aY [B7,.blk ag 43 B3,B8,B5,B9,.blk b3 34 B0,B2] bX:=dA
 let bq:List Value:=[.slice bp ai.length br]
 refine zb (pv:=[(0,.slice bp ai.length br)]) (zs:=[.slice none 0 0]) (cs:=bq) Z Z Z Z Z (wAA Z wAI) zu zS YQ Z Z Z Z Z dB ?_
 intro cN cU dz
 have cA:RlL aY wDl [ai] bq:=(RlL.cons (R:=wDl) (x:=ai) (vs:=bq) ⟨bp,br,rfl,dY⟩ RlL.nil)
 let bz:Res:=.row (some ⟨cU,0,none⟩) 1 23 1 bq
 have ct:SW w [B2] U aY [bz,B7,.blk ag 43 B3,B8,B5,B9,.blk b3 34 B0,B2] cN:=dz
 refine bnK dS fun bS dd dT=>?_
 have de:=dh.le cD
 have df:=de.le cE
 refine YH (R:=wDl) (j:=4) (xs:=av) (ys:=[ai]) (zs:=bS) rfl rfl rfl rfl rfl Tryz.underlying32 wMm rfl rfl rfl rfl rfl rfl rfl ct rfl rfl rfl df cA (ct.srcR (j:=0) rfl (by decide) (RlL.len cA)) dd rfl ?_
 intro bf bi bE cO dC dW
 have dD:SW w [B2] U aY [bz,B7,.blk ag 43 B3,B8,.row bf bi 23 1 bE,B9,.blk b3 34 B0,B2] cO:=dC
 refine oR Z (zF Z bj ZS Z Zq) (zh (j:=5) (vs:=[.slice bf bS.length bi]) Z Z Z Z dD Z Z Z Z Zq (zA Z) Z Z Z ?_)
 intro cP dE
 have dF:SW w [B2] U aY [bz,B7,.blk ag 43 B3,B8,.row bf bi 23 1 bE,.blk b9 34 [jV (w64 ((↑O.Race.Rules.Classes.length:Int) * O.Race.Rules.Laps)),.slice be bn.length bh,.slice bf bS.length bi],.blk b3 34 B0,B2] cP:=dE
 refine zg (zf (zG (rR fL2 Z (oR Z (zr (zX Z bt Z) (congrArg (jV) dP.out)) (oM Z Z (zg ?_))))))
 cases dT
 exact zG ⟨rfl,⟨aY,be,bh,bf,bi,bE,rfl,cj,cZ,bj,cm,cn,((bK.trans cD).trans cE),(dF.pick [3,4,5,6,7] _ (by decide) rfl),dW⟩⟩
 rintro eG eh ⟨bW,bv,bC,bw,bD,cc,c6,eu,ci,cX,ew,cY,eB,cu,dg⟩
 have cW:Hid (¬ ((↑(((↑O.Race.Teams.length:Int):Int) - 0).toNat:Int) < (↑O.Race.Teams.length:Int))):=zH (wAc)
 refine sR fL1 Z (oR Z (zW Z c6 cY) (eN (zI (cF Z cW (ZJ (zd (zd (ZG (zG (sR gAn Z ?_))))))))))
 let az:List Value:=[jV (w64 ((↑O.Race.Rules.Classes.length:Int) * O.Race.Rules.Laps)),.slice bv cG.length bC,.slice bw d8.length bD]
 refine oL Z (cu.ldBA (j:=2) Z Z cX yh Zm (vs:=az) Z Z) (zh (j:=3) (vs:=az) Z Z Z Z cu Z ci Z Z Zm (zA Z) Z Z Z ?_)
 intro cQ dG
 have cw:SW w [B2] U bW [.row bv bC 3 1 (hD KL.encI cG),.row bw bD 23 1 cc,.blk b9 34 az,.blk b3 34 az,B2] cQ:=dG
 refine eN (zP ?_)
 cases cz
 exact ⟨rfl,_,(wFz (v:=.agg az.toArray) ⟨⟨_,ci,(wBL yh Zm (cw.blkAt (k:=3) rfl) (vs:=az) rfl rfl)⟩,trivial⟩),bW,_,(cw.pick [0,1,4] _ (by decide) rfl),bv,bC,bw,bD,cc,rfl,rfl,dg⟩
end Go.Proofs.YtnbcoenjobdplaaGreat
