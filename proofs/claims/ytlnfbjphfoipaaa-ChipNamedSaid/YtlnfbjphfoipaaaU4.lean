import Derived.Test.YtlnfbjphfoipaaaU3
set_option linter.all false
open List renaming flatMap->hD,getElem_cons_succ->nB,getElem_cons_zero->nD,set->nH,getElem_toArray->nI,length_set->nJ
open Go.Value renaming bool->hH
open Option.some renaming inj->hJ
open Bool renaming eq_false_iff->nA
open Prod.mk renaming injEq->nE
open Int renaming toNat_natCast->nK
open Nat renaming blt->nL,le_of_ble_eq_true->nM
namespace Go.Proofs.Ytlnfbjphfoipaaa
open Go.KL
def gAa:Sch:=.fl 1 (.fl 2 .nil)
def gAb:Sch:=.fl 2 (.fl 3 .nil)
def gAc:Sch:=.fl 3 (.fl 4 .nil)
def gAd:Sch:=.fl 4 (.fl 5 .nil)
def gAe:Sch:=.fl 7 (.fl 8 .nil)
def gAf:Sch:=.fl 15 (.fl 16 .nil)
def gAg:Sch:=.fx 1 (.fl 2 .nil) .stop
def gAh:Sch:=.fx 2 (.fx 3 .nil .stop) .stop
def gAi:Sch:=.fx 3 (.fl 4 .nil) .stop
def gAj:Sch:=.fx 17 (.fl 18 .nil) .stop
def gAk:Sch:=.fx 0 (.fx 1 .nil .stop) .stop
def gAl:Sch:=.fl 0 (.fx 1 .nil .stop)
def gAm:Sch:=.fx 0 (.fl 1 .nil) .stop
def gAn:Sch:=.fx 4 (.fx 5 .nil .stop) .stop
def gAo:Sch:=.fx 6 gAe .stop
def gAp:Sch:=.fx 1 gAb .stop
def gAq:Sch:=.fl 0 gAg
def gAr:Sch:=.fx 15 gAj .stop
def gAs:Sch:=.fx 15 (.fl 16 (.fx 18 .nil .stop)) .stop
def gAt:Sch:=.fx 3 gAd .stop
def gAu:Sch:=.fx 0 gAg .stop
def gAv:Sch:=.fx 13 (.fl 14 (.fl 15 .nil)) .stop
def gAw:Sch:=.fx 14 gAf .stop
def gAx:Sch:=.fl 0 (.fl 1 (.fx 2 (.fl 3 .nil) .stop))
def gAy:Sch:=.fl 0 (.fl 1 gAh)
def gAz:Sch:=.fx 14 gAr .stop
def gBa:Sch:=.fx 10 gAs .stop
def gBb:Sch:=.fl 0 (.fl 1 (.fx 2 gAi .stop))
def gBc:Sch:=.fx 13 gAz .stop
def gBd:Sch:=.fl 0 (.fl 1 (.fx 2 gAc .stop))
def gBe:Sch:=.fx 12 gBc .stop
def gBf:Sch:=.fx 9 gBc .stop
def gBg:Sch:=.fx 4 (.fl 16 gBc) .stop
def gBh:Sch:=.fx 3 gBg .stop
def gBi:Sch:=.fx 4 (.fl 16 gBe) (.fx 12 gBg .stop)
def gBj:Sch:=.fx 4 (.fl 16 gBf) (.fx 9 gBg .stop)
set_option maxHeartbeats 4000000
theorem Z {α:Type} {a:α}:a=a:=rfl
section
variable {r:Option Nat} {N:Nat} {P:Program} {l:List Oper} {Q:wDa} {D:List Deferred} {ks:List Nat} {σ:Env} {w:World} {i d j e:Nat} {s:Sch} {o:Oper} {b:Bool} {x:Operand} {v:Value} {p:Prop} {inst:Decidable p} {K:List Deferred->Env->World->Prop} {c1 c2:Code}
abbrev jV (n:Int):Value:=.int .i64 n
abbrev SW (w:World) (X:List Res) (U U':PHeap) (L:List Res) (w':World):Prop:=St ⟨w,X,U⟩ U' L w'
abbrev sW (w:World) (U U':PHeap) (L:List Res) (w':World):Prop:=St ⟨w,[],U⟩ U' L w'
abbrev St0 (w:World) (U:PHeap) (L:List Res):Prop:=St ⟨w,L,U⟩ U L w
theorem ifc {α:Type} {G p:Prop} {inst:Decidable p} {a b r:α} (h:@ite α p inst a b=r) (h1:Hid p->a=r->G) (h2:Hid (¬ p)->b=r->G):G:=by
 by_cases c:p
 rw [if_pos c] at h;exact h1 ⟨c⟩ h
 rw [if_neg c] at h;exact h2 ⟨c⟩ h
theorem bnK {α β:Type} {G:Prop} {o:Option α} {f:α->Option β} {r:β} (h:o.bind f=some r) (k:∀ x,o=some x->f x=some r->G):G:=by
 obtain ⟨x,h1,h2⟩:=bnd h
 exact k x h1 h2
theorem oR (h:(l[i]?,o.dst,nL d N,wanted l σ o)=(some o,some d,true,true)) (hr:∀ {w'},Runs P σ w' o v w') (k:OKS N P l Q D ks s (upd σ d v) w):OKS N P l Q D ks (.fl i s) σ w:=by
 simp only [nE] at h;exact OKS.r h.1 h.2.1 h.2.2.1 h.2.2.2 (fun _=>hr) k
theorem oL (h:(l[i]?,o.dst,nL d N,wanted l σ o,wLm (kOf ks i))=(some o,some d,true,true,false)) (hr:wFF P σ w o v) (k:OKS N P l Q D ks s (upd σ d v) w):OKS N P l Q D ks (.fl i s) σ w:=by
 simp only [nE] at h;exact OKS.m h.1 h.2.1 h.2.2.1 h.2.2.2.1 hr h.2.2.2.2 k
theorem oM (h:(l[i]?,o.dst,nL d N,wanted l σ o,o.op)=(some o,some d,true,true,.move x)) (hx:ev σ x=v) (k:OKS N P l Q D ks s (upd σ d v) w):OKS N P l Q D ks (.fl i s) σ w:=by
 simp only [nE] at h;exact OKS.rm h.1 h.2.1 h.2.2.1 h.2.2.2.1 h.2.2.2.2 hx k
theorem oA (h:(l[i]?,o.dst,nL d N,wanted l σ o,o.op)=(some o,some d,true,true,.assign x)) (hx:ev σ x=v) (k:OKS N P l Q D ks s (upd σ d v) w):OKS N P l Q D ks (.fl i s) σ w:=by
 simp only [nE] at h;exact OKS.ra h.1 h.2.1 h.2.2.1 h.2.2.2.1 h.2.2.2.2 hx k
theorem oF (h:(l[i]?,o.dst,nL d N,o.guard,(l[j]?).bind (·.dst),σ e,false == b)=(some o,some d,true,some (j,b),some e,.bool (decide p),false)) (c:Hid (¬ p)) (k:OKS N P l Q D ks s (upd σ d undef) w):OKS N P l Q D ks (.fl i s) σ w:=by
 simp only [nE] at h;exact OKS.p h.1 h.2.1 h.2.2.1 (wFv h.2.2.2.1 h.2.2.2.2.1 (h.2.2.2.2.2.1.trans (wLk c.out)) h.2.2.2.2.2.2) k
theorem oT (h:(l[i]?,o.dst,nL d N,o.guard,(l[j]?).bind (·.dst),σ e,true == b)=(some o,some d,true,some (j,b),some e,.bool (decide p),false)) (c:Hid p) (k:OKS N P l Q D ks s (upd σ d undef) w):OKS N P l Q D ks (.fl i s) σ w:=by
 simp only [nE] at h;exact OKS.p h.1 h.2.1 h.2.2.1 (wFv h.2.2.2.1 h.2.2.2.2.1 (h.2.2.2.2.2.1.trans (wLj c.out)) h.2.2.2.2.2.2) k
theorem oN {b2:Bool} (h:(l[i]?,o.dst,nL d N,o.guard,(l[j]?).bind (·.dst),σ e,b2 == b)=(some o,some d,true,some (j,b),some e,.bool b2,false)) (k:OKS N P l Q D ks s (upd σ d undef) w):OKS N P l Q D ks (.fl i s) σ w:=by
 simp only [nE] at h;exact OKS.p h.1 h.2.1 h.2.2.1 (wFv h.2.2.2.1 h.2.2.2.2.1 h.2.2.2.2.2.1 h.2.2.2.2.2.2) k
theorem nC {a b:Bool} (h:a=b):hH (!a)=hH (!b):=h ▸ rfl
theorem nF {a:Bool} (h:¬ a=true):hH (!a)=hH (!false):=nC (nA.2 h)
theorem wT (h:(o.guard,(l[j]?).bind (·.dst),σ e)=(some (j,true),some e,.bool (decide p))) (c:Hid p):wanted l σ o=true:=by
 simp only [nE] at h;exact wGu h.1 h.2.1 (h.2.2.trans (wLj c.out))
theorem wF (h:(o.guard,(l[j]?).bind (·.dst),σ e)=(some (j,false),some e,.bool (decide p))) (c:Hid (¬ p)):wanted l σ o=true:=by
 simp only [nE] at h;exact wGu h.1 h.2.1 (h.2.2.trans (wLk c.out))
theorem rU (h:(l[i]?,o.dst,nL d N)=(some o,some d,true)) (hw:wanted l σ o=true) (hr:∀ {w'},Runs P σ w' o v w') (k:OKS N P l Q D ks s (upd σ d v) w):OKS N P l Q D ks (.fl i s) σ w:=by
 simp only [nE] at h;exact OKS.r h.1 h.2.1 h.2.2 hw (fun _=>hr) k
theorem sR {id:Nat} (s:Sch) (hs:inOrder 0 s l.length=true) (h:OKS N P l (wFA (fun D σ w=>CK r N P c2 Q D σ w) Q) D [] s σ w):CK r N P (.seq (.region id l.toArray false) c2) Q D σ w:=CK.seq (CK.reg s hs h)
theorem rR {id:Nat} (s:Sch) (hs:inOrder 0 s l.length=true) (h:OKS N P l Q D [] s σ w):CK r N P (.region id l.toArray false) Q D σ w:=CK.reg s hs h
theorem eN (h:K D σ w):OKS N P l (wFA K Q) D ks .nil σ w:=OKS.e (wGp h)
theorem cT (hz:ev σ x=.bool (decide p)) (c:Hid p) (h:CK r N P c1 Q D σ w):CK r N P (.cond x c1 c2) Q D σ w:=CK.condT (hz.trans (wLj c.out)) h
theorem cF (hz:ev σ x=.bool (decide p)) (c:Hid (¬ p)) (h:CK r N P c2 Q D σ w):CK r N P (.cond x c1 c2) Q D σ w:=CK.condF (hz.trans (wLk c.out)) h
theorem kN (h:K D σ w):CK r N P .skip (wFA K Q) D σ w:=CK.skip (wGp h)
end
def fL1:Sch:=.fl 0 .nil
def fL2:Sch:=.fl 0 (.fl 1 .nil)
def fL3:Sch:=.fl 0 gAa
def fL4:Sch:=.fl 0 (.fl 1 gAb)
def fL5:Sch:=.fl 0 (.fl 1 (.fl 2 gAc))
def fL6:Sch:=.fl 0 (.fl 1 (.fl 2 (.fl 3 gAd)))
def fL7:Sch:=.fl 0 (.fl 1 (.fl 2 (.fl 3 (.fl 4 (.fl 5 (.fl 6 .nil))))))
def fL8:Sch:=.fl 0 (.fl 1 (.fl 2 (.fl 3 (.fl 4 (.fl 5 (.fl 6 (.fl 7 .nil)))))))
def fL9:Sch:=.fl 0 (.fl 1 (.fl 2 (.fl 3 (.fl 4 (.fl 5 (.fl 6 gAe))))))
def fL10:Sch:=.fl 0 (.fl 1 (.fl 2 (.fl 3 (.fl 4 (.fl 5 (.fl 6 (.fl 7 (.fl 8 (.fl 9 .nil)))))))))
def wMQ:Sch:=.fl 0 (.fl 1 (.fl 2 (.fl 3 (.fl 4 (.fl 5 (.fl 6 (.fl 7 (.fl 8 (.fl 9 (.fl 10 .nil))))))))))
def fL15:Sch:=.fl 0 (.fl 1 (.fl 2 (.fl 3 (.fl 4 (.fl 5 (.fl 6 (.fl 7 (.fl 8 (.fl 9 (.fl 10 (.fl 11 (.fl 12 (.fl 13 (.fl 14 .nil))))))))))))))
def fL17:Sch:=.fl 0 (.fl 1 (.fl 2 (.fl 3 (.fl 4 (.fl 5 (.fl 6 (.fl 7 (.fl 8 (.fl 9 (.fl 10 (.fl 11 (.fl 12 (.fl 13 (.fl 14 gAf))))))))))))))
def fL18:Sch:=.fl 0 (.fl 1 (.fl 2 (.fl 3 (.fl 4 (.fl 5 (.fl 6 (.fl 7 (.fl 8 (.fl 9 (.fl 10 (.fl 11 (.fl 12 (.fl 13 (.fl 14 (.fl 15 (.fl 16 (.fl 17 .nil)))))))))))))))))
def fL19:Sch:=.fl 0 (.fl 1 (.fl 2 (.fl 3 (.fl 4 (.fl 5 (.fl 6 (.fl 7 (.fl 8 (.fl 9 (.fl 10 (.fl 11 (.fl 12 (.fl 13 (.fl 14 (.fl 15 (.fl 16 (.fl 17 (.fl 18 .nil))))))))))))))))))
def fL22:Sch:=.fl 0 (.fl 1 (.fl 2 (.fl 3 (.fl 4 (.fl 5 (.fl 6 (.fl 7 (.fl 8 (.fl 9 (.fl 10 (.fl 11 (.fl 12 (.fl 13 (.fl 14 (.fl 15 (.fl 16 (.fl 17 (.fl 18 (.fl 19 (.fl 20 (.fl 21 .nil)))))))))))))))))))))
def fL30:Sch:=.fl 0 (.fl 1 (.fl 2 (.fl 3 (.fl 4 (.fl 5 (.fl 6 (.fl 7 (.fl 8 (.fl 9 (.fl 10 (.fl 11 (.fl 12 (.fl 13 (.fl 14 (.fl 15 (.fl 16 (.fl 17 (.fl 18 (.fl 19 (.fl 20 (.fl 21 (.fl 22 (.fl 23 (.fl 24 (.fl 25 (.fl 26 (.fl 27 (.fl 28 (.fl 29 .nil)))))))))))))))))))))))))))))
def fL53:Sch:=.fl 0 (.fl 1 (.fl 2 (.fl 3 (.fl 4 (.fl 5 (.fl 6 (.fl 7 (.fl 8 (.fl 9 (.fl 10 (.fl 11 (.fl 12 (.fl 13 (.fl 14 (.fl 15 (.fl 16 (.fl 17 (.fl 18 (.fl 19 (.fl 20 (.fl 21 (.fl 22 (.fl 23 (.fl 24 (.fl 25 (.fl 26 (.fl 27 (.fl 28 (.fl 29 (.fl 30 (.fl 31 (.fl 32 (.fl 33 (.fl 34 (.fl 35 (.fl 36 (.fl 37 (.fl 38 (.fl 39 (.fl 40 (.fl 41 (.fl 42 (.fl 43 (.fl 44 (.fl 45 (.fl 46 (.fl 47 (.fl 48 (.fl 49 (.fl 50 (.fl 51 (.fl 52 .nil))))))))))))))))))))))))))))))))))))))))))))))))))))
def wCg (s:Sch):Sch:=.fl 0 (.fl 1 (.fl 2 (s)))
def wDl (s:Sch):Sch:=.fl 0 (.fl 1 (.fl 2 (.fl 3 (s))))
def wHI (s:Sch):Sch:=.fl 0 (.fl 1 (.fl 2 (.fl 3 (.fl 4 (s)))))
def wGf (s:Sch):Sch:=.fl 0 (.fl 1 (.fl 2 (.fl 3 (.fl 4 (.fl 5 (s))))))
def wKa (s:Sch):Sch:=.fl 0 (.fl 1 (.fl 2 (.fl 3 (.fl 4 (.fl 5 (.fl 6 (s)))))))
def wLa (s:Sch):Sch:=.fl 0 (.fl 1 (.fl 2 (.fl 3 (.fl 4 (.fl 5 (.fl 6 (.fl 7 (s))))))))
def wMR (s:Sch):Sch:=.fl 0 (.fl 1 (.fl 2 (.fl 3 (.fl 4 (.fl 5 (.fl 6 (.fl 7 (.fl 8 (s)))))))))
def wJB (s:Sch):Sch:=.fl 0 (.fl 1 (.fl 2 (.fl 3 (.fl 4 (.fl 5 (.fl 6 (.fl 7 (.fl 8 (.fl 9 (s))))))))))
def wKt (s:Sch):Sch:=.fl 0 (.fl 1 (.fl 2 (.fl 3 (.fl 4 (.fl 5 (.fl 6 (.fl 7 (.fl 8 (.fl 9 (.fl 10 (.fl 11 (s))))))))))))
def wMS (s:Sch):Sch:=.fl 0 (.fl 1 (.fl 2 (.fl 3 (.fl 4 (.fl 5 (.fl 6 (.fl 7 (.fl 8 (.fl 9 (.fl 10 (.fl 11 (.fl 12 (s)))))))))))))
def wMT (s:Sch):Sch:=.fl 0 (.fl 1 (.fl 2 (.fl 3 (.fl 4 (.fl 5 (.fl 6 (.fl 7 (.fl 8 (.fl 9 (.fl 10 (.fl 11 (.fl 12 (.fl 13 (s))))))))))))))
def wMU (s:Sch):Sch:=.fl 0 (.fl 1 (.fl 2 (.fl 3 (.fl 4 (.fl 5 (.fl 6 (.fl 7 (.fl 8 (.fl 9 (.fl 10 (.fl 11 (.fl 12 (.fl 13 (.fl 14 (s)))))))))))))))
def wMV (s:Sch):Sch:=.fl 0 (.fl 1 (.fl 2 (.fl 3 (.fl 4 (.fl 5 (.fl 6 (.fl 7 (.fl 8 (.fl 9 (.fl 10 (.fl 11 (.fl 12 (.fl 13 (.fl 14 (.fl 15 (s))))))))))))))))
def wMW (s:Sch):Sch:=.fl 0 (.fl 1 (.fl 2 (.fl 3 (.fl 4 (.fl 5 (.fl 6 (.fl 7 (.fl 8 (.fl 9 (.fl 10 (.fl 11 (.fl 12 (.fl 13 (.fl 14 (.fl 15 (.fl 16 (.fl 17 (s))))))))))))))))))
def wMX (s:Sch):Sch:=.fl 0 (.fl 1 (.fl 2 (.fl 3 (.fl 4 (.fl 5 (.fl 6 (.fl 7 (.fl 8 (.fl 9 (.fl 10 (.fl 11 (.fl 12 (.fl 13 (.fl 14 (.fl 15 (.fl 16 (.fl 17 (.fl 18 (s)))))))))))))))))))
def wMY (s:Sch):Sch:=.fl 0 (.fl 1 (.fl 2 (.fl 3 (.fl 4 (.fl 5 (.fl 6 (.fl 7 (.fl 8 (.fl 9 (.fl 10 (.fl 11 (.fl 12 (.fl 13 (.fl 14 (.fl 15 (.fl 16 (.fl 17 (.fl 18 (.fl 19 (s))))))))))))))))))))
def wMZ (s:Sch):Sch:=.fl 0 (.fl 1 (.fl 2 (.fl 3 (.fl 4 (.fl 5 (.fl 6 (.fl 7 (.fl 8 (.fl 9 (.fl 10 (.fl 11 (.fl 12 (.fl 13 (.fl 14 (.fl 15 (.fl 16 (.fl 17 (.fl 18 (.fl 19 (.fl 20 (.fl 21 (s))))))))))))))))))))))
def wMa (s:Sch):Sch:=.fl 0 (.fl 1 (.fl 2 (.fl 3 (.fl 4 (.fl 5 (.fl 6 (.fl 7 (.fl 8 (.fl 9 (.fl 10 (.fl 11 (.fl 12 (.fl 13 (.fl 14 (.fl 15 (.fl 16 (.fl 17 (.fl 18 (.fl 19 (.fl 20 (.fl 21 (.fl 22 (.fl 23 (.fl 24 (.fl 25 (.fl 26 (.fl 27 (.fl 28 (.fl 29 (.fl 30 (.fl 31 (.fl 32 (.fl 33 (.fl 34 (.fl 35 (.fl 36 (.fl 37 (.fl 38 (.fl 39 (.fl 40 (.fl 41 (.fl 42 (.fl 43 (.fl 44 (s)))))))))))))))))))))))))))))))))))))))))))))
def fC1_3 (s:Sch):Sch:=.fl 1 (.fl 2 (.fl 3 (s)))
def fC1_4 (s:Sch):Sch:=.fl 1 (.fl 2 (.fl 3 (.fl 4 (s))))
def fC1_5 (s:Sch):Sch:=.fl 1 (.fl 2 (.fl 3 (.fl 4 (.fl 5 (s)))))
def wMb (s:Sch):Sch:=.fl 1 (.fl 2 (.fl 3 (.fl 4 (.fl 5 (.fl 6 (.fl 7 (.fl 8 (.fl 9 (.fl 10 (.fl 11 (.fl 12 (.fl 13 (.fl 14 (.fl 15 (.fl 16 (.fl 17 (.fl 18 (.fl 19 (s)))))))))))))))))))
def wLb (s:Sch):Sch:=.fl 2 (.fl 3 (.fl 4 (.fl 5 (s))))
def wHJ (s:Sch):Sch:=.fl 2 (.fl 3 (.fl 4 (.fl 5 (.fl 6 (s)))))
def wJC (s:Sch):Sch:=.fl 3 (.fl 4 (.fl 5 (s)))
def wJz (s:Sch):Sch:=.fl 3 (.fl 4 (.fl 5 (.fl 6 (s))))
def fC3_7 (s:Sch):Sch:=.fl 3 (.fl 4 (.fl 5 (.fl 6 (.fl 7 (s)))))
def wMc (s:Sch):Sch:=.fl 4 (.fl 5 (.fl 6 (s)))
def fC4_7 (s:Sch):Sch:=.fl 4 (.fl 5 (.fl 6 (.fl 7 (s))))
def wKA (s:Sch):Sch:=.fl 4 (.fl 5 (.fl 6 (.fl 7 (.fl 8 (s)))))
def wMd (s:Sch):Sch:=.fl 4 (.fl 5 (.fl 6 (.fl 7 (.fl 8 (.fl 9 (.fl 10 (.fl 11 (.fl 12 (.fl 13 (.fl 14 (.fl 15 (.fl 16 (.fl 17 (.fl 18 (.fl 19 (.fl 20 (.fl 21 (.fl 22 (.fl 23 (s))))))))))))))))))))
def wKb (s:Sch):Sch:=.fl 5 (.fl 6 (.fl 7 (s)))
def wGg (s:Sch):Sch:=.fl 5 (.fl 6 (.fl 7 (.fl 8 (s))))
def wID (s:Sch):Sch:=.fl 5 (.fl 6 (.fl 7 (.fl 8 (.fl 9 (s)))))
def wKu (s:Sch):Sch:=.fl 5 (.fl 6 (.fl 7 (.fl 8 (.fl 9 (.fl 10 (.fl 11 (.fl 12 (.fl 13 (.fl 14 (.fl 15 (s)))))))))))
def fC6_8 (s:Sch):Sch:=.fl 6 (.fl 7 (.fl 8 (s)))
def wMe (s:Sch):Sch:=.fl 6 (.fl 7 (.fl 8 (.fl 9 (.fl 10 (s)))))
def wKv (s:Sch):Sch:=.fl 6 (.fl 7 (.fl 8 (.fl 9 (.fl 10 (.fl 11 (.fl 12 (s)))))))
def fC7_9 (s:Sch):Sch:=.fl 7 (.fl 8 (.fl 9 (s)))
def wKw (s:Sch):Sch:=.fl 7 (.fl 8 (.fl 9 (.fl 10 (.fl 11 (s)))))
def wKx (s:Sch):Sch:=.fl 7 (.fl 8 (.fl 9 (.fl 10 (.fl 11 (.fl 12 (s))))))
def wKy (s:Sch):Sch:=.fl 7 (.fl 8 (.fl 9 (.fl 10 (.fl 11 (.fl 12 (.fl 13 (s)))))))
def wKz (s:Sch):Sch:=.fl 8 (.fl 9 (.fl 10 (s)))
def wHk (s:Sch):Sch:=.fl 8 (.fl 9 (.fl 10 (.fl 11 (s))))
def wMf (s:Sch):Sch:=.fl 9 (.fl 10 (.fl 11 (.fl 12 (s))))
def wIE (s:Sch):Sch:=.fl 10 (.fl 11 (.fl 12 (s)))
def wLc (s:Sch):Sch:=.fl 10 (.fl 11 (.fl 12 (.fl 13 (s))))
def wKB (s:Sch):Sch:=.fl 11 (.fl 12 (.fl 13 (.fl 14 (s))))
def wLd (s:Sch):Sch:=.fl 20 (.fl 21 (.fl 22 (s)))
def wLe (s:Sch):Sch:=.fl 22 (.fl 23 (.fl 24 (s)))
def wLf (s:Sch):Sch:=.fl 47 (.fl 48 (.fl 49 (.fl 50 (s))))
theorem zA:type_of% @nM:=@nM
theorem zB:type_of% @wJI:=@wJI
theorem zC:type_of% @Try.sizeOf3:=@Try.sizeOf3
theorem zD:type_of% @Enters.mk:=@Enters.mk
theorem zE:type_of% @OKS.callH:=@OKS.callH
theorem zF:type_of% @Try.sizeOf104:=@Try.sizeOf104
theorem zG:type_of% @Runs.fa:=@Runs.fa
theorem zH:type_of% @Try.runUnderlying23:=@Try.runUnderlying23
theorem zI:type_of% @wGp:=@wGp
theorem zJ:type_of% @Try.isAgg3:=@Try.isAgg3
theorem zK:type_of% @Try.runUnderlying28:=@Try.runUnderlying28
theorem zL:type_of% @CK.seq:=@CK.seq
theorem zM:type_of% @wKc:=@wKc
theorem zN:type_of% @Hid.mk:=@Hid.mk
theorem zO:type_of% @PHeap.Le.refl:=@PHeap.Le.refl
theorem zP:type_of% @wGu:=@wGu
theorem zQ:type_of% @Runs.pickT:=@Runs.pickT
theorem zR:type_of% @OKS.alloc:=@OKS.alloc
theorem zS:type_of% @wFv:=@wFv
theorem zT:type_of% @Runs.ext:=@Runs.ext
theorem zU:type_of% @CK.ret:=@CK.ret
theorem zV:type_of% @OKS.st:=@OKS.st
theorem zW:type_of% @Try.sizeOf28:=@Try.sizeOf28
theorem zX:type_of% @OKS.p:=@OKS.p
theorem zY:type_of% @OKS.r:=@OKS.r
theorem zZ:type_of% @Try.zeroValue104:=@Try.zeroValue104
theorem za:type_of% @wJH:=@wJH
theorem zb:type_of% @Runs.addw:=@Runs.addw
theorem zc:type_of% @OKS.e:=@OKS.e
theorem zd:type_of% @CK.block:=@CK.block
theorem ze:type_of% @Runs.pickF:=@Runs.pickF
theorem zf:type_of% @Try.sizeOf41:=@Try.sizeOf41
theorem zg:type_of% @Try.isAgg28:=@Try.isAgg28
theorem zh:type_of% @Try.isAgg104:=@Try.isAgg104
theorem zi:type_of% @Runs.lss:=@Runs.lss
theorem zj:type_of% @Try.runUnderlying78:=@Try.runUnderlying78
theorem zl:type_of% @Runs.build:=@Runs.build
theorem zm:type_of% @wJG:=@wJG
theorem zn:type_of% @OKS.both:=@OKS.both
theorem zo:type_of% @OKS.rm:=@OKS.rm
theorem zq:type_of% @OKS.buildSlice:=@OKS.buildSlice
theorem zt:type_of% @wLk:=@wLk
theorem zu:type_of% @OKS.box:=@OKS.box
theorem zw:type_of% @Runs.len:=@Runs.len
theorem zx:type_of% @wIH:=@wIH
theorem zy:type_of% @Try.runUnderlying26:=@Try.runUnderlying26
theorem ZA:type_of% @wIF:=@wIF
theorem ZB:type_of% @Try.zeroValue3:=@Try.zeroValue3
theorem ZC:type_of% @Try.runUnderlying39:=@Try.runUnderlying39
theorem ZD:type_of% @Try.sizeOf23:=@Try.sizeOf23
theorem ZE:type_of% @OKS.px:=@OKS.px
theorem ZF:type_of% @OKS.m:=@OKS.m
theorem ZG:type_of% @CK.anyOrd:=@CK.anyOrd
theorem ZH:type_of% @Try.mixed:=@Try.mixed
theorem ZI:type_of% @CK.condF:=@CK.condF
theorem ZJ:type_of% @Try.zeroValue41:=@Try.zeroValue41
theorem ZK:type_of% @Try.runUnderlying24:=@Try.runUnderlying24
theorem ZL:type_of% @Try.isAgg23:=@Try.isAgg23
theorem ZM:type_of% @Runs.to:=@Runs.to
theorem ZN:type_of% @Try.runUnderlying124:=@Try.runUnderlying124
theorem ZO:type_of% @Try.runUnderlying41:=@Try.runUnderlying41
theorem ZP:type_of% @Try.sizeOf39:=@Try.sizeOf39
theorem ZQ:type_of% @Try.runUnderlying121:=@Try.runUnderlying121
theorem ZR:type_of% @OKS.mx2:=@OKS.mx2
theorem ZS:type_of% @OKS.cutD:=@OKS.cutD
theorem ZT:type_of% @CK.condT:=@CK.condT
theorem ZU:type_of% @Try.runUnderlying25:=@Try.runUnderlying25
theorem ZV:type_of% @res1:=@res1
theorem ZW:type_of% @Try.sizeOf26:=@Try.sizeOf26
theorem ZX:type_of% @Try.sizeOf169:=@Try.sizeOf169
theorem ZY:type_of% @wIG:=@wIG
theorem ZZ:type_of% @Try.sizeOf45:=@Try.sizeOf45
theorem Za:type_of% @Try.runUnderlying118:=@Try.runUnderlying118
theorem Zb:type_of% @Runs.iaI:=@Runs.iaI
theorem Zc:type_of% @CK.exit:=@CK.exit
theorem Zd:type_of% @Runs.notT:=@Runs.notT
theorem Ze:type_of% @Runs.nilp:=@Runs.nilp
theorem Zf:type_of% @Try.sizeOf78:=@Try.sizeOf78
theorem Zg:type_of% @Runs.neq:=@Runs.neq
theorem Zh:type_of% @Runs.iaN:=@Runs.iaN
theorem Zi:type_of% @Try.isAgg41:=@Try.isAgg41
theorem Zj:type_of% @Try.zeroValue39:=@Try.zeroValue39
theorem Zk:type_of% @wLj:=@wLj
theorem Zl:type_of% @Try.zeroValue118:=@Try.zeroValue118
theorem Zm:type_of% @Try.isAgg26:=@Try.isAgg26
theorem Zn:type_of% @Try.sizeOf25:=@Try.sizeOf25
theorem Zo:type_of% @Try.runUnderlying170:=@Try.runUnderlying170
theorem Zp:type_of% @CK.skip:=@CK.skip
theorem Zq:type_of% @Try.runUnderlying43:=@Try.runUnderlying43
theorem Zr:type_of% @Try.isAgg45:=@Try.isAgg45
theorem Zs:type_of% @Try.zeroValue28:=@Try.zeroValue28
theorem Zt:type_of% @Try.sizeOf43:=@Try.sizeOf43
theorem Zu:type_of% @Try.runUnderlying169:=@Try.runUnderlying169
theorem Zv:type_of% @Try.runUnderlying112:=@Try.runUnderlying112
theorem Zw:type_of% @OKS.append:=@OKS.append
theorem Zx:type_of% @Try.runUnderlying94:=@Try.runUnderlying94
theorem Zy:type_of% @Try.zeroValue45:=@Try.zeroValue45
theorem Zz:type_of% @Try.zeroValue78:=@Try.zeroValue78
theorem yA:type_of% @Try.isAgg78:=@Try.isAgg78
theorem yB:type_of% @Try.call32:=@Try.call32
theorem yC:type_of% @Try.zeroValue169:=@Try.zeroValue169
theorem yD:type_of% @Try.sizeOf121:=@Try.sizeOf121
theorem yE:type_of% @Try.sizeOf118:=@Try.sizeOf118
theorem yF:type_of% @OKS.ra:=@OKS.ra
theorem yG:type_of% @Try.sizeOf24:=@Try.sizeOf24
theorem yH:type_of% @Try.isAgg121:=@Try.isAgg121
theorem yI:type_of% @Try.isAgg25:=@Try.isAgg25
theorem yJ:type_of% @Runs.eql:=@Runs.eql
theorem yK:type_of% @Try.sizeOf74:=@Try.sizeOf74
theorem yL:type_of% @Try.zeroValue99:=@Try.zeroValue99
theorem yM:type_of% @Try.runUnderlying45:=@Try.runUnderlying45
theorem yN:type_of% @Try.runUnderlying69:=@Try.runUnderlying69
theorem yO:type_of% @Try.call75:=@Try.call75
theorem yP:type_of% @CK.cut:=@CK.cut
theorem yQ:type_of% @Try.isAgg74:=@Try.isAgg74
theorem yR:type_of% @Try.call103:=@Try.call103
theorem yS:type_of% @Try.isAgg24:=@Try.isAgg24
theorem yU:type_of% @Runs.subw:=@Runs.subw
theorem yV:type_of% @Try.isAgg169:=@Try.isAgg169
theorem yW:type_of% @OKS.stR:=@OKS.stR
theorem yX:type_of% @CK.forN:=@CK.forN
theorem yY:type_of% @Try.zeroValue43:=@Try.zeroValue43
theorem yZ:type_of% @Try.call48:=@Try.call48
theorem ya:type_of% @Try.underlying23:=@Try.underlying23
theorem yb:type_of% @Try.runUnderlying3:=@Try.runUnderlying3
theorem yc:type_of% @Try.isAgg39:=@Try.isAgg39
theorem yd:type_of% @Try.runUnderlying130:=@Try.runUnderlying130
theorem ye:type_of% @Runs.ixA:=@Runs.ixA
theorem yf:type_of% @OKS.callHT:=@OKS.callHT
theorem yg:type_of% @Try.isAgg99:=@Try.isAgg99
theorem yh:type_of% @Try.sizeOf122:=@Try.sizeOf122
theorem yi:type_of% @Runs.neS:=@Runs.neS
theorem yj:type_of% @Try.call16:=@Try.call16
theorem yk:type_of% @Try.call31:=@Try.call31
theorem yl:type_of% @Try.call49:=@Try.call49
end Go.Proofs.Ytlnfbjphfoipaaa
namespace Go.Proofs.Ytlnfbjphfoipaaa
open Go.KL
set_option maxHeartbeats 4000000
theorem wDE (p0:List Int) (ab:Option Addr) (ac:Nat) (w:World) (U:PHeap) (hS:St0 w U []) (ai:Sl U 1 ab ac p0.length (hD KL.encB8 p0)) {r:wAF} (hm:wBW p0=some r):Gv Try.prog 9 [.slice ab p0.length ac] w (wBs w [] U (fun U_ L_ v=>∃ (b0:Nat) (A0p0:Option Addr) (c0p0:Nat),v=.pointer (some ⟨b0,0,none⟩)/\L_=[.blk b0 94 [.slice A0p0 r.bytes.length c0p0,jV r.next,.int .u32 r.state]]/\Sl U_ 1 A0p0 c0p0 r.bytes.length (hD KL.encB8 r.bytes))):=by
 unfold wBW at hm
 refine Gv.of Try.func9 Z Try.ntmps9 Try.results9 Z (sR fL1 Z (oA Z Z (eN (sR gAx Z (oM Z Z ?_)))))
 let B0:List Value:=[.slice ab p0.length ac,jV 0,.int .u32 17]
 refine zY rfl rfl rfl rfl (fun _=>zl (pv:=[(0,.slice ab p0.length ac),(2,.int .u32 17)]) (z:=[.slice none 0 0,jV 0,.int .u32 0]) (cs:=B0) rfl (wAH rfl (wAH rfl wAP)) Try.zeroValue94 wKM rfl rfl) (zu (cs:=B0) rfl rfl rfl rfl rfl rfl (by rfl) hS ?_)
 intro W1 b2 ah
 refine oA Z Z (eN (zU ?_))
 cases hm
 exact ⟨Z,_,(ZV Z),U,_,ah,b2,ab,ac,Z,Z,ai⟩
theorem wAS (p0:wAF) (ag:Nat) (ac:Option Addr) (ae:Nat) (p1:Int) (w:World) (U:PHeap) (hS:St0 w U [.blk ag 94 [.slice ac p0.bytes.length ae,jV p0.next,.int .u32 p0.state]]) (ai:Sl U 1 ac ae p0.bytes.length (hD KL.encB8 p0.bytes)) {r:Int × wAF} (hm:wAM p0 p1=some r):Gv Try.prog 32 [.pointer (some ⟨ag,0,none⟩),jV p1] w (wBs w [.blk ag 94 [.slice ac p0.bytes.length ae,jV p0.next,.int .u32 p0.state]] U (fun U_ L_ v=>∃ (az:Option Addr) (aH:Nat),v=jV r.1/\L_=[.blk ag 94 [.slice az r.2.bytes.length aH,jV r.2.next,.int .u32 r.2.state]]/\Sl U_ 1 az aH r.2.bytes.length (hD KL.encB8 r.2.bytes))):=by
 unfold wAM at hm
 refine Gv.of Try.func32 Z Try.ntmps32 Try.results32 Z (sR fL1 Z (oA Z Z (eN (zL (sR fL10 Z (oM Z Z (oR Z (Runs.leq Z Z Z) (oM Z Z ?_))))))))
 by_cases c2:p1 <= 1
 have aK:=hm;rw [if_pos c2] at aK;replace c2:=zN c2
 refine oT Z c2 (oT Z c2 (oT Z c2 (oT Z c2 (oT Z c2 (oT Z c2 (oR Z (zQ Z (Zk c2.out) Z) (eN (ZT Z (sR fL1 Z (oA Z Z (eN (zU (za ?_)))))))))))))
 cases aK
 exact ⟨Z,_,(ZV Z),U,_,hS,ac,ae,Z,Z,ai⟩
 have aL:=hm;rw [if_neg c2] at aL;replace c2:=zN c2
 refine zo Z Z Z (wF Z c2) Z Z (rU Z (wF Z c2) (Ze Z Z) (rU Z (wF Z c2) (zG Z Z Zx Z Try.sizeOf22) (ZF Z Z Z (wF Z c2) (hS.ldB (j:=0) Z Z Z Try.isAgg22 (v:=.slice ac p0.bytes.length ae) Z) Z (rU Z (wF Z c2) (zw Z Z Try.runUnderlying22) (rU Z (wF Z c2) (yJ Z Z Z) (oR Z (ze Z (zt c2.out) Z) (eN (ifc aL ?_ ?_))))))))
 intro c5 bf
 refine cT Z c5 (sR fL1 Z (oA Z Z (eN (zU (za ?_)))))
 cases bf
 exact ⟨Z,_,(ZV Z),U,_,hS,ac,ae,Z,Z,ai⟩
 intro c5 bg
 refine cF Z c5 (kN (zL (ZG ZH [3,3,3,1,3,3,3,1,3,3,3,1,3,3,3,1,3,3,3,3,1,3,3,3,1,3,3,3,3,3] fL30 (by kernel_rfl) ?_)))
 have af:=hS.drew
 generalize hw_W9:({ w with drawn:=w.drawn + 1 }:World)=W9 at af ⊢
 refine oM Z Z (oR Z (Ze Z Z) (oR Z (zG Z Z Zx Z Try.sizeOf22) (oL Z (af.ldB (j:=0) Z Z Z Try.isAgg22 (v:=.slice ac p0.bytes.length ae) Z) (oM Z Z (oR Z (Ze Z Z) (oR Z (zG Z Z Zx Z zC) (oL Z (af.ldB (j:=0) Z Z Z zJ (v:=jV p0.next) Z) (oM Z Z (oR Z (Ze Z Z) (oR Z (zG Z Z Zx Z Try.sizeOf22) (oL Z (af.ldB (j:=0) Z Z Z Try.isAgg22 (v:=.slice ac p0.bytes.length ae) Z) (oR Z (zw Z Z Try.runUnderlying22) (bnK bg fun bm aP aZ=>oR Z (Runs.rem Z Z Z aP) (bnK aZ fun aM ay a5=>?_))))))))))))))
 have q:=ai.el (fun _=>rfl) (wAj ay)
 obtain ⟨bj,bk,aV,aW⟩:=q
 refine oR Z (Zb Z Z aV Z Try.runUnderlying22 Try.sizeOf5 (wCk ay) (wCw ay)) (oL Z (af.ldC (f:=0) aW (v:=.int .u8 aM) Z Z Try.isAgg5 Z) (oR Z (Runs.cvu Z Z Try.runUnderlying5 Try.runUnderlying92 Z Z) (oM Z Z (oR Z (Ze Z Z) (oR Z (zG Z Z Zx Z zC) (oL Z (af.ldB (j:=0) Z Z Z zJ (v:=jV p0.next) Z) (oM Z Z (oR Z (Ze Z Z) (oR Z (zG Z Z Zx Z Try.sizeOf22) (oL Z (af.ldB (j:=0) Z Z Z Try.isAgg22 (v:=.slice ac p0.bytes.length ae) Z) (oR Z (zw Z Z Try.runUnderlying22) (bnK a5 fun bh aQ a6=>oR Z (Runs.quo Z Z Z aQ) (oR Z (Runs.cvu Z Z yb Try.runUnderlying92 Z Z) (oA Z Z (oA Z Z (eN (zL (CK.fresh fun au am=>?_))))))))))))))))))
 have aj:au 0=.pointer (some ⟨ag,0,none⟩):=(am 0).trans rfl
 have an:au 1=jV p1:=(am 1).trans rfl
 have ao:au 5=.int .u32 (wER aM):=(am 5).trans rfl
 have aI:au 6=.int .u32 (wER bh):=(am 6).trans rfl
 clear am
 refine rR (wKa (.fx 7 .nil .stop)) Z (oM Z aj (oR Z (Ze Z Z) (oR Z (zG Z Z Zx Z zC) (oL Z (af.ldB (j:=0) Z Z Z zJ (v:=jV p0.next) Z) (oR Z (zb Z Z Z) (oR Z (Ze Z Z) (oR Z (zG Z Z Zx Z zC) (zV (j:=0) (vs:=[jV (w64 (p0.next + 1))]) Z Z Z Z af Z Z Z Z zC (zA Z) Z Z Z ?_))))))))
 intro aN aX
 let B0:Res:=.blk ag 94 [.slice ac p0.bytes.length ae,jV p0.next,.int .u32 p0.state]
 have aJ:SW w [B0] U U [.blk ag 94 [.slice ac p0.bytes.length ae,jV (w64 (p0.next + 1)),.int .u32 p0.state]] aN:=aX
 refine eN (sR (wMU (.fx 15 .nil .stop)) Z (oM Z aj (oM Z aj (oR Z (Ze Z Z) (oR Z (zG Z Z Zx Z Try.sizeOf92) (oL Z (aJ.ldB (j:=0) Z Z Z Try.isAgg92 (v:=.int .u32 p0.state) Z) (oR Z (Runs.mulu Z Z Z) (oM Z ao (oR Z (Runs.addu Z Z Z) (oM Z aI (oR Z (Runs.mulu Z Z Z) (oR Z (Runs.addu Z Z Z) (oR Z (Runs.addu Z Z Z) (bnK a6 fun aq aR a7=>oR Z (Runs.rem Z Z Z aR) (oR Z (Ze Z Z) (oR Z (zG Z Z Zx Z Try.sizeOf92) (zV (j:=0) (vs:=[.int .u32 aq]) Z Z Z Z aJ Z Z Z Z Try.sizeOf92 (zA Z) Z Z Z ?_)))))))))))))))))
 intro aO aY
 have ak:SW w [B0] U U [.blk ag 94 [.slice ac p0.bytes.length ae,jV (w64 (p0.next + 1)),.int .u32 aq]] aO:=aY
 refine eN (zL (sR fL6 Z (oM Z aI (oR Z (yJ Z Z Z) (oM Z Z (ifc a7 ?_ ?_))))))
 intro ah a8
 refine zo Z Z Z (wT Z ah) Z an (rU Z (wT Z ah) (Runs.leq Z Z Z) (oR Z (zQ Z (Zk ah.out) Z) (eN (ifc a8 ?_ ?_))))
 intro av a9
 refine cT Z av (sR fL5 Z (oM Z ao (oR Z (Runs.cvw Z Z Try.runUnderlying92 yb Z Z) (oM Z an (bnK a9 fun bn aS ba=>oR Z (Runs.rem Z Z Z aS) (oA Z Z (eN (zU (za ?_)))))))))
 cases ba
 exact ⟨Z,_,(ZV Z),U,_,ak,ac,ae,Z,Z,ai⟩
 intro av bb
 refine cF Z av (kN (sR wMQ Z (oM Z aj (oR Z (Ze Z Z) (oR Z (zG Z Z Zx Z Try.sizeOf92) (oL Z (ak.ldB (j:=0) Z Z Z Try.isAgg92 (v:=.int .u32 aq) Z) (oR Z (Runs.mulu Z Z Z) (oM Z ao (oR Z (Runs.addu Z Z Z) (oR Z (Runs.cvw Z Z Try.runUnderlying92 yb Z Z) (oM Z an (bnK bb fun bo aT bc=>oR Z (Runs.rem Z Z Z aT) (oA Z Z (eN (zU ?_)))))))))))))))
 cases bc
 exact ⟨Z,_,(ZV Z),U,_,ak,ac,ae,Z,Z,ai⟩
 intro ah bd
 refine oF Z ah (oF Z ah (oR Z (ze Z (zt ah.out) Z) (eN (ZI Z (kN (sR wMQ Z (oM Z aj (oR Z (Ze Z Z) (oR Z (zG Z Z Zx Z Try.sizeOf92) (oL Z (ak.ldB (j:=0) Z Z Z Try.isAgg92 (v:=.int .u32 aq) Z) (oR Z (Runs.mulu Z Z Z) (oM Z ao (oR Z (Runs.addu Z Z Z) (oR Z (Runs.cvw Z Z Try.runUnderlying92 yb Z Z) (oM Z an (bnK bd fun bp aU be=>oR Z (Runs.rem Z Z Z aU) (oA Z Z (eN (zU ?_)))))))))))))))))))
 cases be
 exact ⟨Z,_,(ZV Z),U,_,ak,ac,ae,Z,Z,ai⟩
theorem wAZ (p0:wAF) (ab:Nat) (ac:Option Addr) (ae:Nat) (p1:Int) (p2:Int) (w:World) (U:PHeap) (hS:St0 w U [.blk ab 94 [.slice ac p0.bytes.length ae,jV p0.next,.int .u32 p0.state]]) (ay:Sl U 1 ac ae p0.bytes.length (hD KL.encB8 p0.bytes)) {r:Int × wAF} (hm:wAQ p0 p1 p2=some r):Gv Try.prog 31 [.pointer (some ⟨ab,0,none⟩),jV p1,jV p2] w (wBs w [.blk ab 94 [.slice ac p0.bytes.length ae,jV p0.next,.int .u32 p0.state]] U (fun U_ L_ v=>∃ (aj:Option Addr) (an:Nat),v=jV r.1/\L_=[.blk ab 94 [.slice aj r.2.bytes.length an,jV r.2.next,.int .u32 r.2.state]]/\Sl U_ 1 aj an r.2.bytes.length (hD KL.encB8 r.2.bytes))):=by
 unfold wAQ at hm
 refine Gv.of Try.func31 Z Try.ntmps31 Try.results31 Z (sR fL1 Z (oA Z Z (eN (sR (wGf gAo) Z (oM Z Z (oM Z Z (oM Z Z (oM Z Z (oR Z (yU Z Z Z) (oR Z (zb Z Z Z) ?_))))))))))
 have q:=bnd hm
 obtain ⟨⟨x2,x3⟩,h4,ao⟩:=q
 try dsimp only at ao
 refine zE 1 Z Z Z Z (zD Z Z yB (zB Z (zB Z zM)) Z) hS (fun hs=>wAS p0 ab ac ae (w64 ((w64 (p2 - p1)) + 1)) w U hs ay h4) (.inl Z) ?_
 rintro U6 L7 v8 W9 aG av ⟨ai,am,rfl,rfl,aq⟩
 have ax:SW w [.blk ab 94 [.slice ac p0.bytes.length ae,jV p0.next,.int .u32 p0.state]] U U6 [.blk ab 94 [.slice ai x3.bytes.length am,jV x3.next,.int .u32 x3.state]] W9:=av
 refine oR Z (zb Z Z Z) (oA Z Z (eN (zU ?_)))
 cases ao
 exact ⟨Z,_,(ZV Z),U6,_,ax,ai,am,Z,Z,aq⟩
theorem wEu (p0:wAF) (ab:Nat) (ec:Option Addr) (ef:Nat) (p1:Int) (p2:Int) (p3:Int) (w:World) (U:PHeap) (hS:St0 w U [.blk ab 94 [.slice ec p0.bytes.length ef,jV p0.next,.int .u32 p0.state]]) (CX:Sl U 1 ec ef p0.bytes.length (hD KL.encB8 p0.bytes)) {r:wAD × (List (List Int)) × (List Int) × wAF} (hm:wBj p0 p1 p2 p3=some r):Gv Try.prog 8 [.pointer (some ⟨ab,0,none⟩),jV p1,jV p2,jV p3] w (wBs w [.blk ab 94 [.slice ec p0.bytes.length ef,jV p0.next,.int .u32 p0.state]] U (fun U_ L_ v=>∃ (jb:Option Addr) (lP:Nat) (jc:Option Addr) (lQ:Nat) (jd:Option Addr) (lR:Nat) (je:Option Addr) (lS:Nat) (A1:Option Addr) (c1:Nat) (A2:Option Addr) (c2:Nat) (jL:Option Addr) (mA:Nat),v=.tuple #[.agg #[.slice jb r.1.Starts.length lP,.slice jc r.1.Splits.length lQ,.slice jd r.1.Clocks.length lR,.slice je r.1.Readings.length lS],.slice A1 r.2.1.length c1,.slice A2 r.2.2.1.length c2]/\L_=[.row jb lP 3 1 (hD KL.encI r.1.Starts),.row jc lQ 41 2 (hD wAC r.1.Splits),.row jd lR 43 3 (hD wAB r.1.Clocks),.row je lS 39 4 (hD wAA r.1.Readings),.row A2 c2 3 1 (hD KL.encI r.2.2.1),.blk ab 94 [.slice jL r.2.2.2.bytes.length mA,jV r.2.2.2.next,.int .u32 r.2.2.2.state]]/\SlR U_ wJE A1 c1 r.2.1/\Sl U_ 1 jL mA r.2.2.2.bytes.length (hD KL.encB8 r.2.2.2.bytes))):=by
 unfold wBj at hm
 refine Gv.of Try.func8 Z Try.ntmps8 Try.results8 Z (sR (.fx 0 gAa .stop) Z ?_)
 let B0:List Value:=[.slice none 0 0,.slice none 0 0,.slice none 0 0,.slice none 0 0]
 refine zR (cs:=B0) Z Z Z Z Z Zs Z hS ?_
 intro W2 b3 Ca
 refine oA Z Z (oA Z Z (eN (sR (.fx 0 .nil .stop) Z (zR (cs:=B0) Z Z Z Z Z Zs Z Ca ?_))))
 intro W6 b7 Cy
 refine eN (sR fL1 Z (oA Z Z (eN (sR fL1 Z (oA Z Z (eN (zL (sR gAx Z (oM Z Z (oM Z Z ?_))))))))))
 have q:=bnd hm
 obtain ⟨⟨fU,iT⟩,xd,pB⟩:=q
 try dsimp only at pB
 let B1:Res:=.blk ab 94 [.slice ec p0.bytes.length ef,jV p0.next,.int .u32 p0.state]
 have Au:SW w [B1] U U [B1,.blk b7 28 B0,.blk b3 28 B0] W6:=Cy.pick [2,0,1] _ (by decide) rfl
 refine zE 1 Z Z Z Z (zD Z Z yk (zB Z (zB Z (zB Z zM))) Z) Au (fun hs=>wAZ p0 ab ec ef 1 p1 W6 U hs CX xd) (.inl Z) ?_
 rintro gB EM F7 qZ FU Bn ⟨jz,mg,rfl,rfl,xQ⟩
 have BO:SW w [B1] U gB [.blk ab 94 [.slice jz iT.bytes.length mg,jV iT.next,.int .u32 iT.state],.blk b7 28 B0,.blk b3 28 B0] qZ:=Bn
 refine oM Z Z (eN (zd ?_))
 have q:=bnd pB
 obtain ⟨⟨ED,EE,EF,ax⟩,C7,pR⟩:=q
 try dsimp only at pR
 have q:=wAx C7
 obtain ⟨iN,C8⟩:=q
 replace iN:=zN iN
 refine CK.forN' (fun dV (dZ,i5,i6,bY) σ_ w_=>∃ (U_:PHeap) (eJ:Option Addr) (fz:Nat) (cn:Option Addr) (cz:Nat),σ_ 28=jV (↑dV:Int)/\σ_ 0=.pointer (some ⟨ab,0,none⟩)/\σ_ 2=jV p2/\σ_ 3=jV p3/\σ_ 8=.pointer (some ⟨b3,0,none⟩)/\σ_ 11=.pointer (some ⟨b7,0,none⟩)/\σ_ 12=.slice none 0 0/\σ_ 13=.slice none 0 0/\σ_ 27=jV fU/\PHeap.Le gB U_/\SW w [B1] U U_ [.blk ab 94 [.slice eJ dZ.length fz,jV i5,.int .u32 i6],.row cn cz 3 1 (hD KL.encI bY),.blk b7 28 [.slice cn bY.length cz,.slice none 0 0,.slice none 0 0,.slice none 0 0],.blk b3 28 B0] w_/\Sl U_ 1 eJ fz dZ.length (hD KL.encB8 dZ)) C8 ?_ ?_ ?_
 have Cu:=BO.nilrow 3 1
 exact ⟨gB,jz,mg,none,0,rfl,rfl,rfl,rfl,rfl,rfl,rfl,rfl,rfl,(zO _),(Cu.pick [1,0,2,3] _ (by decide) rfl),xQ⟩
 rintro dV ⟨dZ,i5,i6,bY⟩ Gy G1 lG iH ⟨qG,eJ,fz,cn,cz,oW,ik,wV,wW,wX,il,wY,wZ,oU,El,CC,z4⟩ p8
 try dsimp only at p8
 have mz:Hid ((↑dV:Int) < fU):=zN (wAs iH)
 replace iH:=zN iH
 have Dk:Hid (w64 ((↑dV:Int) + 1)=(↑(dV + 1):Int)):=zN (by have h1:=iN.out;have h2:=mz.out;rw [wAW] <;> omega)
 refine sR fL1 rfl (zY rfl rfl rfl rfl (fun _=>zi rfl oW oU) (eN (zL (cT Z mz (kN (zL (zd (ZG ZH [3,1004,3,1005,3,3,1005,3,2,0,3,0,ab] (wCg (.fl 5 (.fx 3 (.fl 4 (.fx 6 (.fl 7 (.fx 8 (.fx 9 (.fl 10 (.fx 11 .nil .stop)) .stop) .stop)) .stop)) .stop))) (by kernel_rfl) ?_))))))))
 have iw:=CC.drew
 generalize hw_W140:({ lG with drawn:=lG.drawn + 1 }:World)=qN at iw ⊢
 refine oR Z (zG Z il zK Z ZD) ?_
 let B2:Res:=.blk b7 28 [.slice cn bY.length cz,.slice none 0 0,.slice none 0 0,.slice none 0 0]
 let B3:Res:=.row cn cz 3 1 (hD KL.encI bY)
 refine OKS.mt (T:=[ab]) [0] [1,2,3] [B3,B2,.blk b3 28 B0] rfl rfl rfl rfl iw rfl ⟨⟨0,by decide,_,rfl,rfl⟩,trivial⟩ (by decide) rfl (by decide) (fun _ CN=>(CN.ldB (j:=1) rfl rfl rfl ZL (v:=.slice cn bY.length cz) rfl)) rfl (zo rfl rfl rfl rfl rfl ik (zo rfl rfl rfl rfl rfl ik ?_))
 have q:=bnd p8
 obtain ⟨⟨eg,fV⟩,xk,pC⟩:=q
 try dsimp only at pC
 refine yf 1 rfl rfl rfl rfl (zD rfl rfl yB (zB rfl (zB rfl zM)) rfl) iw (fun hs=>wAS (⟨dZ,i5,i6⟩:wAF) ab eJ fz 4 qN qG hs z4 xk) rfl (T:=[ab]) rfl ⟨fun b h=>(by cases h;exact .head _),trivial⟩ ?_
 rintro lb EL F3 ls DX Ay ⟨jk,lY,rfl,rfl,xl⟩
 have AB:SW w [B1] U lb [.blk ab 94 [.slice jk fV.bytes.length lY,jV fV.next,.int .u32 fV.state],B3,B2,.blk b3 28 B0] ls:=Ay
 refine oR Z (Runs.mulw Z Z Z) ?_
 have q:=bnd pC
 obtain ⟨⟨eh,iU⟩,xm,pD⟩:=q
 try dsimp only at pD
 refine yf 1 rfl rfl rfl rfl (zD rfl rfl yB (zB rfl (zB rfl zM)) rfl) AB (fun hs=>wAS fV ab jk lY 3 ls lb hs xl xm) rfl (T:=[ab]) rfl ⟨fun b h=>(by cases h;exact .head _),trivial⟩ ?_
 rintro dk EN F5 qW DY AM ⟨jo,l4,rfl,rfl,xq⟩
 let B4:Res:=.blk ab 94 [.slice jo iU.bytes.length l4,jV iU.next,.int .u32 iU.state]
 have AQ:SW w [B1] U dk [B4,B3,B2,.blk b3 28 B0] qW:=AM
 refine oR Z (zb Z Z Z) (zq (pv:=[(0,jV (w64 ((w64 (300 * eg)) + eh)))]) (zs:=[jV 0]) (cs:=[jV (w64 ((w64 (300 * eg)) + eh))]) Z Z Z Z Z (wAH Z wAP) zH zC ZB Z Z Z Z Z AQ ?_)
 intro qY rV AU
 let B5:Res:=.row (some ⟨rV,0,none⟩) 1 3 1 (hD KL.encI [w64 ((w64 (300 * eg)) + eh)])
 have ph:SW w [B1] U dk [B5,B4,B3,B2,.blk b3 28 B0] qY:=AU
 refine bnK pD fun fW xw Dl=>Zw (j:=2) (enc:=KL.encI) (xs:=bY) (ys:=[w64 ((w64 (300 * eg)) + eh)]) (zs:=fW) rfl rfl rfl rfl rfl ya wGx rfl rfl rfl rfl rfl rfl ph rfl rfl rfl (ph.srcR (j:=0) rfl (by decide) (wAE (f:=KL.encI) (sz:=1) (fun _=>rfl) [w64 ((w64 (300 * eg)) + eh)])) (fun _=>rfl) (fun _=>rfl) xw rfl ?_
 intro eD fm q5 AX
 let B6:Res:=.row eD fm 3 1 (hD KL.encI fW)
 have AY:SW w [B1] U dk [B5,B4,B6,B2,.blk b3 28 B0] q5:=AX
 refine oR Z (zG Z il zK Z ZD) (zV (j:=3) (vs:=[.slice eD fW.length fm]) Z Z Z Z AY Z Z Z Z ZD (zA Z) Z Z Z ?_)
 intro q6 AZ
 have A3:SW w [B1] U dk [B5,B4,B6,.blk b7 28 [.slice eD fW.length fm,.slice none 0 0,.slice none 0 0,.slice none 0 0],.blk b3 28 B0] q6:=AZ
 refine zc (ZA (zI (rR fL2 Z (oR Z (ZM (zb Z oW Z) (congrArg (jV) Dk.out)) (oM Z Z (zc ?_))))))
 cases Dl
 exact zI ⟨rfl,⟨dk,jo,l4,eD,fm,rfl,ik,wV,wW,wX,il,wY,wZ,oU,((El.trans DX).trans DY),(A3.pick [1,2,3,4] _ (by decide) rfl),xq⟩⟩
 rintro GS re ⟨qD,qv,sa,aN,aO,w6,oC,vV,vW,vX,vY,vZ,v4,v5,FV,BB,xK⟩
 have sb:Hid (¬ ((↑((fU:Int) - 0).toNat:Int) < fU)):=zN (wAc)
 refine sR fL1 Z (oR Z (zi Z w6 v5) (eN (zL (cF Z sb (Zc (zm (zm (ZY (zI (zL (sR gAx Z (oM Z oC (oM Z vV ?_)))))))))))))
 have q:=bnd pR
 obtain ⟨⟨f4,iX⟩,xN,pK⟩:=q
 try dsimp only at pK
 refine zE 1 Z Z Z Z (zD Z Z yB (zB Z (zB Z zM)) Z) BB (fun hs=>wAS (⟨ED,EE,EF⟩:wAF) ab qv sa p2 re qD hs xK xN) (.inl Z) ?_
 rintro gJ EZ Gi rA FW BM ⟨jB,mi,rfl,rfl,xR⟩
 let B7:Res:=.row aN aO 3 1 (hD KL.encI ax)
 have BN:SW w [B1] U gJ [.blk ab 94 [.slice jB iX.bytes.length mi,jV iX.next,.int .u32 iX.state],B7,.blk b7 28 [.slice aN ax.length aO,.slice none 0 0,.slice none 0 0,.slice none 0 0],.blk b3 28 B0] rA:=BM
 refine oM Z Z (eN (zd ?_))
 have q:=bnd pK
 obtain ⟨⟨GA,GB,GC,ay⟩,C1,pL⟩:=q
 try dsimp only at pL
 have q:=wAx C1
 obtain ⟨iK,C2⟩:=q
 replace iK:=zN iK
 refine CK.forN' (fun dU (dW,iY,iZ,bX) σ_ w_=>∃ (U_:PHeap) (eG:Option Addr) (fu:Nat) (cm:Option Addr) (cy:Nat),σ_ 45=jV (↑dU:Int)/\σ_ 0=.pointer (some ⟨ab,0,none⟩)/\σ_ 3=jV p3/\σ_ 8=.pointer (some ⟨b3,0,none⟩)/\σ_ 11=.pointer (some ⟨b7,0,none⟩)/\σ_ 12=.slice none 0 0/\σ_ 13=.slice none 0 0/\σ_ 44=jV f4/\PHeap.Le gJ U_/\SW w [B1] U U_ [.blk ab 94 [.slice eG dW.length fu,jV iY,.int .u32 iZ],B7,.row cm cy 41 2 (hD wAC bX),.blk b7 28 [.slice aN ax.length aO,.slice cm bX.length cy,.slice none 0 0,.slice none 0 0],.blk b3 28 B0] w_/\Sl U_ 1 eG fu dW.length (hD KL.encB8 dW)) C2 ?_ ?_ ?_
 have BP:=BN.nilrow 41 2
 exact ⟨gJ,jB,mi,none,0,rfl,oC,vW,vX,vY,vZ,v4,rfl,(zO _),(BP.pick [1,2,0,3,4] _ (by decide) rfl),xR⟩
 rintro dU ⟨dW,iY,iZ,bX⟩ Gu GV rB iE ⟨qE,eG,fu,cm,cy,oV,ii,wc,wd,ij,we,wg,oG,Ee,BQ,xS⟩ p5
 try dsimp only at p5
 have mj:Hid ((↑dU:Int) < f4):=zN (wAs iE)
 replace iE:=zN iE
 have Dg:Hid (w64 ((↑dU:Int) + 1)=(↑(dU + 1):Int)):=zN (by have h1:=iK.out;have h2:=mj.out;rw [wAW] <;> omega)
 refine sR fL1 Z (oR Z (zi Z oV oG) (eN (zL (cT Z mj (kN (zL (zd (sR (.fl 0 gAp) Z (oM Z ii ?_)))))))))
 have q:=bnd p5
 obtain ⟨⟨bo,f5⟩,xT,pM⟩:=q
 try dsimp only at pM
 refine zE 1 Z Z Z Z (zD Z Z yk (zB Z (zB Z (zB Z zM))) Z) BQ (fun hs=>wAZ (⟨dW,iY,iZ⟩:wAF) ab eG fu 3 9 rB qE hs xS xT) (.inl Z) ?_
 rintro lk E0 Gj gO Ef BR ⟨jC,ml,rfl,rfl,xU⟩
 let B8:Res:=.blk b7 28 [.slice aN ax.length aO,.slice cm bX.length cy,.slice none 0 0,.slice none 0 0]
 let B9:Res:=.row cm cy 41 2 (hD wAC bX)
 have BS:SW w [B1] U lk [.blk ab 94 [.slice jC f5.bytes.length ml,jV f5.next,.int .u32 f5.state],B7,B9,B8,.blk b3 28 B0] gO:=BR
 refine zY rfl rfl rfl rfl (fun _=>Runs.mulw rfl rfl rfl) (yF rfl rfl rfl rfl rfl rfl (eN (ZG ZH [3,1004,3,3,3,1005,3,3,3,2,0,3,0,ab] (wHI (.fx 5 (fC6_8 (.fx 9 (.fx 10 (.fl 11 (.fx 12 .nil .stop)) .stop) .stop)) .stop)) (by kernel_rfl) ?_)))
 have iy:=BS.drew
 generalize hw_W351:({ gO with drawn:=gO.drawn + 1 }:World)=rC at iy ⊢
 refine zY rfl rfl rfl rfl (fun _=>zG rfl ij zK rfl yG) (OKS.mt (T:=[ab]) [0] [1,2,3,4] [B7,B9,B8,.blk b3 28 B0] rfl rfl rfl rfl iy rfl ⟨⟨0,by decide,_,rfl,rfl⟩,trivial⟩ (by decide) rfl (by decide) (fun _ CW=>(CW.ldB (j:=2) rfl rfl rfl yS (v:=.slice cm bX.length cy) rfl)) rfl (zo rfl rfl rfl rfl rfl rfl (zo rfl rfl rfl rfl rfl rfl (zo rfl rfl rfl rfl rfl ii ?_))))
 have q:=bnd pM
 obtain ⟨⟨en,i2⟩,xV,pN⟩:=q
 try dsimp only at pN
 refine yf 1 rfl rfl rfl rfl (zD rfl rfl yB (zB rfl (zB rfl zM)) rfl) iy (fun hs=>wAS f5 ab jC ml 30 rC lk hs xU xV) rfl (T:=[ab]) rfl ⟨fun b h=>(by cases h;exact .head _),trivial⟩ ?_
 rintro dl E1 Gk rD Eg BT ⟨jD,mm,rfl,rfl,xW⟩
 let eL:Res:=.blk ab 94 [.slice jD i2.bytes.length mm,jV i2.next,.int .u32 i2.state]
 have BU:SW w [B1] U dl [eL,B7,B9,B8,.blk b3 28 B0] rD:=BT
 refine oR Z (Runs.mulw Z Z Z) (oR Z (zb Z Z Z) ?_)
 let gp:List Value:=[jV (w64 (100 * bo)),jV (w64 ((w64 (100 * bo)) + (w64 (10 * en))))]
 refine oR Z (zl (pv:=[(0,jV (w64 (100 * bo))),(1,jV (w64 ((w64 (100 * bo)) + (w64 (10 * en)))))]) (z:=[jV 0,jV 0]) (cs:=gp) Z (wAH Z (wAH Z wAP)) ZJ wBy Z Z) (zq (pv:=[(0,.agg gp.toArray)]) (zs:=[jV 0,jV 0]) (cs:=gp) Z Z Z Z Z (wAH Z wAP) ZK zf ZJ Z Z Z Z Z BU ?_)
 intro rE rZ BV
 let gq:Res:=.row (some ⟨rZ,0,none⟩) 1 41 2 (hD wAC [(⟨w64 (100 * bo),w64 ((w64 (100 * bo)) + (w64 (10 * en)))⟩:wAG)])
 have pp:SW w [B1] U dl [gq,eL,B7,B9,B8,.blk b3 28 B0] rE:=BV
 refine bnK pN fun f6 xX Dv=>Zw (j:=3) (enc:=wAC) (xs:=bX) (ys:=[(⟨w64 (100 * bo),w64 ((w64 (100 * bo)) + (w64 (10 * en)))⟩:wAG)]) (zs:=f6) rfl rfl rfl rfl rfl Try.underlying24 wJV rfl rfl rfl rfl rfl rfl pp rfl rfl rfl (pp.srcR (j:=0) rfl (by decide) (wAE (f:=wAC) (sz:=2) (fun _=>rfl) [(⟨w64 (100 * bo),w64 ((w64 (100 * bo)) + (w64 (10 * en)))⟩:wAG)])) (fun _=>rfl) (fun _=>rfl) xX rfl ?_
 intro eH fw rF BW
 let jM:Res:=.row eH fw 41 2 (hD wAC f6)
 have BX:SW w [B1] U dl [gq,eL,B7,jM,B8,.blk b3 28 B0] rF:=BW
 refine oR Z (zG Z ij zK Z yG) (zV (j:=4) (vs:=[.slice eH f6.length fw]) Z Z Z Z BX Z Z Z Z yG (zA Z) Z Z Z ?_)
 intro rG BY
 have BZ:SW w [B1] U dl [gq,eL,B7,jM,.blk b7 28 [.slice aN ax.length aO,.slice eH f6.length fw,.slice none 0 0,.slice none 0 0],.blk b3 28 B0] rG:=BY
 refine zc (ZA (zI (rR fL2 Z (oR Z (ZM (zb Z oV Z) (congrArg (jV) Dg.out)) (oM Z Z (zc ?_))))))
 cases Dv
 exact zI ⟨rfl,⟨dl,jD,mm,eH,fw,rfl,ii,wc,wd,ij,we,wg,oG,((Ee.trans Ef).trans Eg),(BZ.pick [1,2,3,4,5] _ (by decide) rfl),xW⟩⟩
 rintro GW Fo ⟨ll,qw,sd,aT,aU,w8,wh,wi,wj,oH,wk,wl,wm,FX,pq,xY⟩
 have sf:Hid (¬ ((↑((f4:Int) - 0).toNat:Int) < f4)):=zN (wAc)
 refine sR fL1 Z (oR Z (zi Z w8 wm) (eN (zL (cF Z sf (Zc (zm (zm (ZY (zI (zL (sR fL4 Z (oR Z (zG Z oH zK Z ZD) (oL Z (pq.ldB (j:=3) Z Z Z ZL (v:=.slice aN ax.length aO) Z) (oR Z (zw Z Z zH) (oM Z Z (eN (zd ?_)))))))))))))))))
 have q:=bnd pL
 obtain ⟨⟨Ex,Ey,Ez,aY⟩,C3,pO⟩:=q
 try dsimp only at pO
 have q:=wAx C3
 obtain ⟨iL,C4⟩:=q
 replace iL:=zN iL
 let bc:Res:=.blk b7 28 [.slice aN ax.length aO,.slice aT ay.length aU,.slice none 0 0,.slice none 0 0]
 refine CK.forN' (fun bz (dX,i3,i4,dY) σ_ w_=>∃ (U_:PHeap) (db:Option Addr) (dL:Nat) (dd:Option Addr) (dM:Nat) (fB:List Value),σ_ 66=jV (↑bz:Int)/\σ_ 0=.pointer (some ⟨ab,0,none⟩)/\σ_ 3=jV p3/\σ_ 8=.pointer (some ⟨b3,0,none⟩)/\σ_ 11=.pointer (some ⟨b7,0,none⟩)/\σ_ 12=.slice dd dY.length dM/\σ_ 13=.slice none 0 0/\σ_ 64=.slice aN ax.length aO/\σ_ 65=jV (↑ax.length:Int)/\PHeap.Le ll U_/\SW w [B1] U U_ [.blk ab 94 [.slice db dX.length dL,jV i3,.int .u32 i4],.row aN aO 3 1 (hD KL.encI ax),.row aT aU 41 2 (hD wAC ay),bc,.blk b3 28 B0,.row dd dM 23 1 fB] w_/\Sl U_ 1 db dL dX.length (hD KL.encB8 dX)/\RlL U_ wJE dY fB) C4 ?_ ?_ ?_
 have Cb:=pq.nilrow 23 1
 exact ⟨ll,qw,sd,none,0,[],rfl,wh,wi,wj,oH,wk,wl,rfl,rfl,(zO _),(Cb.pick [1,2,3,4,5,0] _ (by decide) rfl),xY,RlL.nil⟩
 rintro bz ⟨dX,i3,i4,dY⟩ Gw GX Fp iF ⟨gK,db,dL,dd,dM,fB,im,wn,wo,wp,oI,wq,wr,oJ,oK,Eh,iz,xZ,x8⟩ p6
 try dsimp only at p6
 have mn:Hid ((↑bz:Int) < (↑ax.length:Int)):=zN (wAs iF)
 replace iF:=zN iF
 have Dh:Hid (w64 ((↑bz:Int) + 1)=(↑(bz + 1):Int)):=zN (by have h1:=iL.out;have h2:=mn.out;rw [wAW] <;> omega)
 refine sR fL1 Z (oR Z (zi Z im oK) (eN (zL (cT Z mn (kN (zL (zd (sR fL3 Z (bnK p6 fun _ ir Dw=>?_)))))))))
 obtain ⟨Fy,o8⟩:=iz.rowSome (j:=1) rfl (by rw [wAE (f:=KL.encI) (sz:=1) (fun _=>rfl) ax];have hz:=wAT ir;omega)
 refine oR Z (Zh Z oJ o8 im zH zC (wAT ir)) ?_
 have De:=wBA (xs:=ax) (wAT ir)
 refine ZF rfl rfl rfl rfl (iz.ldR (j:=1) rfl o8 rfl rfl zJ (wAV (sz:=1) (fun _=>rfl) _ _ 0 _ De (by first | omega | rfl | simp) rfl)) rfl (yF rfl rfl rfl rfl rfl rfl (eN (sR gAq rfl (zo rfl rfl rfl rfl rfl rfl (zq (pv:=[(0,jV (gd ax bz))]) (zs:=[jV 0]) (cs:=[jV (gd ax bz)]) rfl rfl rfl rfl rfl (wAH rfl wAP) zH zC ZB rfl rfl rfl rfl rfl iz ?_)))))
 intro rH lO Cc
 let bj:Res:=.row aT aU 41 2 (hD wAC ay)
 let bq:Res:=.row dd dM 23 1 fB
 have pu:SW w [B1] U gK [.row (some ⟨lO,0,none⟩) 1 3 1 (hD KL.encI [(gd ax bz)]),.blk ab 94 [.slice db dX.length dL,jV i3,.int .u32 i4],B7,bj,bc,.blk b3 28 B0,bq] rH:=Cc
 refine oA Z Z (eN (zL (sR fL4 Z (oR Z (zG Z oI zK Z yG) (oL Z (pu.ldB (j:=4) Z Z Z yS (v:=.slice aT ay.length aU) Z) (oR Z (zw Z Z ZK) (oM Z Z (eN (zd ?_)))))))))
 have q:=bnd Dw
 obtain ⟨⟨EA,EB,EC,GD,cc⟩,C5,pP⟩:=q
 try dsimp only at pP
 have q:=wAx C5
 obtain ⟨iM,C6⟩:=q
 replace iM:=zN iM
 refine CK.forN' (fun bh (cH,f7,f8,ca,d7) σ_ w_=>∃ (U_:PHeap) (de:Option Addr) (dN:Nat) (eI:Option Addr) (fy:Nat),σ_ 75=jV (↑bh:Int)/\σ_ 0=.pointer (some ⟨ab,0,none⟩)/\σ_ 3=jV p3/\σ_ 8=.pointer (some ⟨b3,0,none⟩)/\σ_ 11=.pointer (some ⟨b7,0,none⟩)/\σ_ 12=.slice dd dY.length dM/\σ_ 13=.slice none 0 0/\σ_ 16=jV ca/\σ_ 17=.slice eI d7.length fy/\σ_ 64=.slice aN ax.length aO/\σ_ 65=jV (↑ax.length:Int)/\σ_ 66=jV (↑bz:Int)/\σ_ 73=.slice aT ay.length aU/\σ_ 74=jV (↑ay.length:Int)/\PHeap.Le gK U_/\SW w [B1] U U_ [.blk ab 94 [.slice de cH.length dN,jV f7,.int .u32 f8],B7,bj,bc,.blk b3 28 B0,bq,.row eI fy 3 1 (hD KL.encI d7)] w_/\Sl U_ 1 de dN cH.length (hD KL.encB8 cH)) C6 ?_ ?_ ?_
 exact ⟨gK,db,dL,(some ⟨lO,0,none⟩),1,rfl,wn,wo,wp,oI,wq,wr,rfl,rfl,oJ,oK,im,rfl,rfl,(zO _),(pu.pick [1,2,3,4,5,6,0] _ (by decide) rfl),xZ⟩
 rintro bh ⟨cH,f7,f8,ca,d7⟩ Gx GY Fq iG ⟨gL,de,dN,eI,fy,io,oO,ws,wt,wu,wv,ww,wx,wy,wz,wA,wB,oP,oQ,Ei,iA,ym⟩ p7
 try dsimp only at p7
 have mo:Hid ((↑bh:Int) < (↑ay.length:Int)):=zN (wAs iG)
 replace iG:=zN iG
 have Di:Hid (w64 ((↑bh:Int) + 1)=(↑(bh + 1):Int)):=zN (by have h1:=iM.out;have h2:=mo.out;rw [wAW] <;> omega)
 refine sR fL1 Z (oR Z (zi Z io oQ) (eN (zL (cT Z mo (kN (zL (zd (sR gAy Z (bnK p7 fun _ it Dx=>?_)))))))))
 obtain ⟨Fz,o9⟩:=iA.rowSome (j:=2) rfl (by rw [wAE (f:=wAC) (sz:=2) (fun _=>rfl) ay];have hz:=wAT it;omega)
 refine oR Z (Zh Z oP o9 io ZK zf (wAT it)) ?_
 have Df:=wBA (xs:=ay) (wAT it)
 let bO:List Value:=[jV ((gd ay bh).Lo),jV ((gd ay bh).Hi)]
 refine ZF rfl rfl rfl rfl (iA.ldRA (j:=2) rfl o9 rfl rfl Zi zf (vs:=bO) (wEs (sz:=2) (fun _=>rfl) _ _ _ Df (by first | omega | rfl | simp) rfl) rfl) rfl (zR (cs:=[jV 0,jV 0]) rfl rfl rfl rfl rfl ZJ rfl iA ?_)
 intro Fr dt Cd
 refine zV (j:=0) (vs:=bO) Z Z Z Z Cd Z Z Z Z zf (zA Z) Z Z Z ?_
 intro gP Ce
 let eM:Res:=.row eI fy 3 1 (hD KL.encI d7)
 let jN:Res:=.blk ab 94 [.slice de cH.length dN,jV f7,.int .u32 f8]
 have iB:SW w [B1] U gL [.blk dt 41 bO,jN,B7,bj,bc,.blk b3 28 B0,bq,eM] gP:=Ce
 refine eN (sR (wGf gAo) Z (oM Z wx (oM Z oO (oR Z (zG Z Z ZO Z zC) (oL Z (iB.ldB (j:=0) Z Z Z zJ (v:=jV ((gd ay bh).Lo)) Z) (oR Z (zG Z Z ZO Z zC) (oL Z (iB.ldB (j:=0) Z Z Z zJ (v:=jV ((gd ay bh).Hi)) Z) ?_)))))))
 have q:=bnd Dx
 obtain ⟨⟨eo,i7⟩,yn,pQ⟩:=q
 try dsimp only at pQ
 have Cg:SW w [B1] U gL [jN,.blk dt 41 bO,B7,bj,bc,.blk b3 28 B0,bq,eM] gP:=iB.pick [1,0,2,3,4,5,6,7] _ (by decide) rfl
 refine zE 1 Z Z Z Z (zD Z Z yk (zB Z (zB Z (zB Z zM))) Z) Cg (fun hs=>wAZ (⟨cH,f7,f8⟩:wAF) ab de dN ((gd ay bh).Lo) ((gd ay bh).Hi) gP gL hs ym yn) (.inl Z) ?_
 rintro e0 E2 Gl rI Ej Ch ⟨jE,mp,rfl,rfl,yo⟩
 let gt:Res:=.blk ab 94 [.slice jE i7.bytes.length mp,jV i7.next,.int .u32 i7.state]
 have Ci:SW w [B1] U e0 [gt,.blk dt 41 bO,B7,bj,bc,.blk b3 28 B0,bq,eM] rI:=Ch
 refine oR Z (zb Z Z Z) (oA Z Z (eN (rR gBb Z (oM Z wy (oM Z Z (zq (pv:=[(0,jV (w64 (ca + eo)))]) (zs:=[jV 0]) (cs:=[jV (w64 (ca + eo))]) Z Z Z Z Z (wAH Z wAP) zH zC ZB Z Z Z Z Z Ci ?_))))))
 intro rJ r6 Cj
 let jO:Res:=.row (some ⟨r6,0,none⟩) 1 3 1 (hD KL.encI [w64 (ca + eo)])
 have py:SW w [B1] U e0 [jO,gt,.blk dt 41 bO,B7,bj,bc,.blk b3 28 B0,bq,eM] rJ:=Cj
 refine bnK pQ fun qs yp Dy=>Zw (j:=8) (enc:=KL.encI) (xs:=d7) (ys:=[w64 (ca + eo)]) (zs:=qs) rfl rfl rfl rfl rfl ya wGx rfl rfl rfl rfl rfl rfl py rfl rfl rfl (py.srcR (j:=0) rfl (by decide) (wAE (f:=KL.encI) (sz:=1) (fun _=>rfl) [w64 (ca + eo)])) (fun _=>rfl) (fun _=>rfl) yp rfl ?_
 intro jF mq rK Ck
 have Cm:SW w [B1] U e0 [jO,gt,.blk dt 41 bO,B7,bj,bc,.blk b3 28 B0,bq,.row jF mq 3 1 (hD KL.encI qs)] rK:=Ck
 refine oA Z Z (zc (ZA (zI (rR fL2 Z (oR Z (ZM (zb Z io Z) (congrArg (jV) Di.out)) (oM Z Z (zc ?_)))))))
 cases Dy
 exact zI ⟨rfl,⟨e0,jE,mp,jF,mq,rfl,oO,ws,wt,wu,wv,ww,rfl,rfl,wz,wA,wB,oP,oQ,(Ei.trans Ej),(Cm.pick [1,3,4,5,6,7,8] _ (by decide) rfl),yo⟩⟩
 rintro GZ rL ⟨E7,jG,mr,gj,gY,w9,wC,wD,wE,wG,wH,wI,FR,wJ,wK,wL,wM,FS,wN,qk,Co,yq⟩
 have sg:Hid (¬ ((↑(((↑ay.length:Int):Int) - 0).toNat:Int) < (↑ay.length:Int))):=zN (wAc)
 refine sR fL1 Z (oR Z (zi Z w9 wN) (eN (zL (cF Z sg (Zc (zm (zm (ZY (zI (rR gBb Z (oM Z wH (oM Z wJ ?_))))))))))))
 have q:=Co.freezeR (k:=6) (n:=cc.length) rfl (wAE (f:=KL.encI) (sz:=1) (fun _=>rfl) cc) (by decide)
 obtain ⟨dm,iR,DF,Cq⟩:=q
 let gu:Res:=.blk ab 94 [.slice jG EA.length mr,jV EB,.int .u32 EC]
 have Cr:SW w [B1] U dm [gu,B7,bj,bc,.blk b3 28 B0,bq] rL:=Cq
 let eO:List Value:=[.slice gj cc.length gY]
 refine zq (pv:=[(0,.slice gj cc.length gY)]) (zs:=[.slice none 0 0]) (cs:=eO) Z Z Z Z Z (wAH Z wAP) Try.runUnderlying29 ZD Try.zeroValue23 Z Z Z Z Z Cr ?_
 intro rM r7 Cp
 have pY:RlL dm wJE [cc] eO:=(RlL.cons (R:=wJE) (x:=cc) (vs:=eO) ⟨gj,gY,rfl,DF⟩ RlL.nil)
 let jP:Res:=.row (some ⟨r7,0,none⟩) 1 23 1 eO
 have pz:SW w [B1] U dm [jP,gu,B7,bj,bc,.blk b3 28 B0,bq] rM:=Cp
 refine bnK pP fun Et yr Dz=>?_
 have yt:=x8.le qk
 have yu:=yt.le iR
 refine OKS.appendR (R:=wJE) (j:=6) (xs:=dY) (ys:=[cc]) (zs:=Et) rfl rfl rfl rfl rfl Try.underlying29 wKm rfl rfl rfl rfl rfl rfl rfl pz rfl rfl rfl yu pY (pz.srcR (j:=0) rfl (by decide) (RlL.len pY)) yr rfl ?_
 intro jH ms mB rO Cs DE
 have Ct:SW w [B1] U dm [jP,gu,B7,bj,bc,.blk b3 28 B0,.row jH ms 23 1 mB] rO:=Cs
 refine oA Z Z (zc (ZA (zI (rR fL2 Z (oR Z (ZM (zb Z wM Z) (congrArg (jV) Dh.out)) (oM Z Z (zc ?_)))))))
 cases Dz
 have yv:=yq.le iR
 exact zI ⟨rfl,⟨dm,jG,mr,jH,ms,mB,rfl,wC,wD,wE,wG,rfl,wI,wK,wL,((Eh.trans qk).trans iR),(Ct.pick [1,2,3,4,5,6] _ (by decide) rfl),yv,DE⟩⟩
 rintro G0 rP ⟨qF,qx,sj,aR,aS,sk,xa,oS,wO,wP,wQ,wR,wS,FT,wU,FY,Cv,yw,yy⟩
 have sm:Hid (¬ ((↑(((↑ax.length:Int):Int) - 0).toNat:Int) < (↑ax.length:Int))):=zN (wAc)
 refine sR fL1 Z (oR Z (zi Z xa wU) (eN (zL (cF Z sm (Zc (zm (zm (ZY (zI (zL (sR gAq Z (oM Z oS ?_))))))))))))
 have q:=bnd pO
 obtain ⟨⟨a5,i8⟩,yz,pS⟩:=q
 try dsimp only at pS
 refine zE 1 Z Z Z Z (zD Z Z yk (zB Z (zB Z (zB Z zM))) Z) Cv (fun hs=>wAZ (⟨Ex,Ey,Ez⟩:wAF) ab qx sj 1 3 rP qF hs yw yz) (.inl Z) ?_
 rintro gM E3 Gm rQ Ek Cw ⟨jI,mu,rfl,rfl,y4⟩
 let ai:Res:=.row aT aU 41 2 (hD wAC ay)
 let ap:Res:=.row aR aS 23 1 sk
 have Cx:SW w [B1] U gM [.blk ab 94 [.slice jI i8.bytes.length mu,jV i8.next,.int .u32 i8.state],B7,ai,bc,.blk b3 28 B0,ap] rQ:=Cw
 refine oM Z Z (eN (zd ?_))
 have q:=bnd pS
 obtain ⟨⟨EG,EH,EI,aZ,a8⟩,C9,pT⟩:=q
 try dsimp only at pT
 have q:=wAx C9
 obtain ⟨iO,Da⟩:=q
 replace iO:=zN iO
 refine CK.forN' (fun aV (d9,i9,ja,a7,aK) σ_ w_=>∃ (U_:PHeap) (eK:Option Addr) (fA:Nat) (bi:Option Addr) (bk:Nat) (aL:Option Addr) (aM:Nat),σ_ 99=jV (↑aV:Int)/\σ_ 0=.pointer (some ⟨ab,0,none⟩)/\σ_ 3=jV p3/\σ_ 8=.pointer (some ⟨b3,0,none⟩)/\σ_ 11=.pointer (some ⟨b7,0,none⟩)/\σ_ 12=.slice aR aY.length aS/\σ_ 13=.slice aL aK.length aM/\σ_ 98=jV a5/\PHeap.Le gM U_/\SW w [B1] U U_ [.blk ab 94 [.slice eK d9.length fA,jV i9,.int .u32 ja],B7,ai,.row bi bk 43 3 (hD wAB a7),.blk b7 28 [.slice aN ax.length aO,.slice aT ay.length aU,.slice bi a7.length bk,.slice none 0 0],.blk b3 28 B0,ap,.row aL aM 3 1 (hD KL.encI aK)] w_/\Sl U_ 1 eK fA d9.length (hD KL.encB8 d9)) Da ?_ ?_ ?_
 have Cz:=Cx.nilrow 43 3
 have CA:=Cz.nilrow 3 1
 exact ⟨gM,jI,mu,none,0,none,0,rfl,oS,wO,wP,wQ,wR,wS,rfl,(zO _),(CA.pick [2,3,4,1,5,6,7,0] _ (by decide) rfl),y4⟩
 rintro aV ⟨d9,i9,ja,a7,aK⟩ Gz G2 rS iI ⟨qH,eK,fA,bi,bk,aL,aM,bw,be,bG,bH,bm,bI,bu,bv,Em,CB,y5⟩ p9
 try dsimp only at p9
 have mw:Hid ((↑aV:Int) < a5):=zN (wAs iI)
 replace iI:=zN iI
 have Dj:Hid (w64 ((↑aV:Int) + 1)=(↑(aV + 1):Int)):=zN (by have h1:=iO.out;have h2:=mw.out;rw [wAW] <;> omega)
 refine sR fL1 Z (oR Z (zi Z bw bv) (eN (zL (cT Z mw (kN (zL (zd (sR gAq Z (oM Z be ?_)))))))))
 have q:=bnd p9
 obtain ⟨⟨aa,f9⟩,y6,pU⟩:=q
 try dsimp only at pU
 refine zE 1 Z Z Z Z (zD Z Z yk (zB Z (zB Z (zB Z zM))) Z) CB (fun hs=>wAZ (⟨d9,i9,ja⟩:wAF) ab eK fA (-60) 20 rS qH hs y5 y6) (.inl Z) ?_
 rintro lm E4 Gn lH En CD ⟨jJ,mx,rfl,rfl,y7⟩
 let az:Res:=.blk b7 28 [.slice aN ax.length aO,.slice aT ay.length aU,.slice bi a7.length bk,.slice none 0 0]
 let aI:Res:=.row aL aM 3 1 (hD KL.encI aK)
 let bd:Res:=.row bi bk 43 3 (hD wAB a7)
 have CE:SW w [B1] U lm [.blk ab 94 [.slice jJ f9.bytes.length mx,jV f9.next,.int .u32 f9.state],B7,ai,bd,az,.blk b3 28 B0,ap,aI] lH:=CD
 refine oA Z Z (eN (sR (wCg (.fx 3 (wMc (.fx 7 (.fl 8 (.fx 9 (.fx 10 .nil .stop) .stop)) .stop)) .stop)) Z (oM Z Z (oM Z Z (oM Z be ?_)))))
 have q:=bnd pU
 obtain ⟨⟨aj,ga⟩,y8,pV⟩:=q
 try dsimp only at pV
 refine zE 1 Z Z Z Z (zD Z Z yB (zB Z (zB Z zM)) Z) CE (fun hs=>wAS f9 ab jJ mx 50 lH lm hs y7 y8) (.inl Z) ?_
 rintro ln E5 Gp lI Eo CF ⟨jK,my,rfl,rfl,y9⟩
 have CG:SW w [B1] U ln [.blk ab 94 [.slice jK ga.bytes.length my,jV ga.next,.int .u32 ga.state],B7,ai,bd,az,.blk b3 28 B0,ap,aI] lI:=CF
 refine oR Z (zb Z Z Z) ?_
 let jQ:List Value:=[jV aa,jV (w64 (aa + aj))]
 refine oR Z (zl (pv:=[(0,jV aa),(1,jV (w64 (aa + aj)))]) (z:=[jV 0,jV 0]) (cs:=jQ) Z (wAH Z (wAH Z wAP)) ZJ wBy Z Z) (oM Z be ?_)
 have q:=bnd pV
 obtain ⟨⟨an,ep⟩,z2,pW⟩:=q
 try dsimp only at pW
 refine zE 1 Z Z Z Z (zD Z Z yB (zB Z (zB Z zM)) Z) CG (fun hs=>wAS ga ab jK my 6 lI ln hs y9 z2) (.inl Z) ?_
 rintro aJ E6 Gq rT Ep CH ⟨gm,gZ,rfl,rfl,o5⟩
 let aP:Res:=.blk ab 94 [.slice gm ep.bytes.length gZ,jV ep.next,.int .u32 ep.state]
 have CI:SW w [B1] U aJ [aP,B7,ai,bd,az,.blk b3 28 B0,ap,aI] rT:=CH
 let am:List Value:=[jV aa,jV (w64 (aa + aj)),jV an]
 let co:List Value:=[jV 0,jV 0,jV 0]
 refine oR Z (zl (pv:=[(0,.agg jQ.toArray),(1,jV an)]) (z:=co) (cs:=am) Z (wAH Z (wAH Z wAP)) yY wIO Z Z) (zR (cs:=co) Z Z Z Z Z yY Z CI ?_)
 intro Fs af CJ
 refine zV (j:=0) (vs:=am) Z Z Z Z CJ Z Z Z Z Zt (zA Z) Z Z Z ?_
 intro gQ CL
 have CM:SW w [B1] U aJ [.blk af 43 am,aP,B7,ai,bd,az,.blk b3 28 B0,ap,aI] gQ:=CL
 refine eN (bnK pW fun av fK DA=>?_)
 have q:=bnd DA
 obtain ⟨⟨aX,ao⟩,o6,pX⟩:=q
 try dsimp only at pX
 refine bnK pX fun cb z3 DB=>ZG ZH [3,1,1,2,0,3,3,3,3,2,3,3,2,0,2,0,3,0,3] (wCg (wGg (.fl 10 (.fl 11 (.fx 3 (.fx 4 (.fl 16 (.fx 9 gBe (.fx 12 gBf .stop))) (.fx 9 gBi (.fx 12 gBj .stop))) (.fx 9 (.fx 3 gBi (.fx 12 gBh .stop)) (.fx 12 (.fx 3 gBj (.fx 9 gBh .stop)) .stop))))))) (by kernel_rfl) ?_
 have bf:=CM.drew
 generalize hw_W923:({ gQ with drawn:=gQ.drawn + 1 }:World)=Ft at bf ⊢
 refine ZS (s:=.fl 18 .nil) (M:=fun σ_ w_=>∃ (U_:PHeap) (er:Option Addr) (fc:Nat) (cK:Option Addr) (du:Nat) (gb:Option Addr) (gR:Nat) (ge:Option Addr) (gS:Nat) (eu:Option Addr) (fd:Nat),σ_ 0=.pointer (some ⟨ab,0,none⟩)/\σ_ 3=jV p3/\σ_ 8=.pointer (some ⟨b3,0,none⟩)/\σ_ 11=.pointer (some ⟨b7,0,none⟩)/\σ_ 12=.slice aR aY.length aS/\σ_ 21=.pointer (some ⟨af,0,none⟩)/\σ_ 98=jV a5/\σ_ 99=jV (↑aV:Int)/\σ_ 112=.pointer (some ⟨b7,2,none⟩)/\σ_ 114=.agg am.toArray/\σ_ 115=.slice gb ([(⟨(⟨aa,w64 (aa + aj)⟩:wAG),an⟩:wAK)].length) gR/\σ_ 116=.slice cK av.length du/\σ_ 118=.pointer (some ⟨ab,0,none⟩)/\σ_ 119=.pointer (some ⟨af,0,none⟩)/\σ_ 120=.pointer (some ⟨af,0,none⟩)/\σ_ 121=jV aa/\σ_ 122=.pointer (some ⟨af,0,none⟩)/\σ_ 123=.pointer (some ⟨af,1,none⟩)/\σ_ 124=jV (w64 (aa + aj))/\σ_ 125=jV aX/\σ_ 126=.slice ge ([aX].length) gS/\σ_ 127=.slice eu cb.length fd/\σ_ 128=.pointer (some ⟨b7,2,none⟩)/\PHeap.Le aJ U_/\SW w [B1] U U_ [.blk ab 94 [.slice er ao.bytes.length fc,jV ao.next,.int .u32 ao.state],.blk af 43 am,B7,ai,.row cK du 43 3 (hD wAB av),.blk b7 28 [.slice aN ax.length aO,.slice aT ay.length aU,.slice cK av.length du,.slice none 0 0],.blk b3 28 B0,ap,.row gb gR 43 3 (hD wAB [(⟨(⟨aa,w64 (aa + aj)⟩:wAG),an⟩:wAK)]),.row ge gS 3 1 (hD KL.encI [aX]),.row eu fd 3 1 (hD KL.encI cb)] w_/\Sl U_ 1 er fc ao.bytes.length (hD KL.encB8 ao.bytes)) ?_ fun DH=>?_
 rintro GE E8 ⟨qy,er,fc,cK,du,gb,gR,ge,gS,eu,fd,sn,so,sq,sr,ss,FA,su,sv,FB,FC,FD,FE,FF,FG,FH,FI,FJ,FK,FL,FM,FN,sw,FO,DN,Ab,xb⟩
 refine oA Z sw (zc (ZA (zI (rR fL2 Z (oR Z (ZM (zb Z sv Z) (congrArg (jV) Dj.out)) (oM Z Z (zc ?_)))))))
 cases DB
 exact zI ⟨rfl,⟨qy,er,fc,cK,du,eu,fd,rfl,sn,so,sq,sr,ss,rfl,su,((((Em.trans En).trans Eo).trans Ep).trans DN),(Ab.pick [0,2,3,4,5,6,7,10] _ (by decide) rfl),xb⟩⟩
 refine ZS (s:=gAj) (M:=fun σ_ w_=>∃ (U_:PHeap) (cL:Option Addr) (dv:Nat) (cM:Option Addr) (dw:Nat) (bN:Option Addr) (bQ:Nat) (cN:Option Addr) (dx:Nat) (cO:Option Addr) (dy:Nat),σ_ 0=.pointer (some ⟨ab,0,none⟩)/\σ_ 3=jV p3/\σ_ 8=.pointer (some ⟨b3,0,none⟩)/\σ_ 11=.pointer (some ⟨b7,0,none⟩)/\σ_ 12=.slice aR aY.length aS/\σ_ 21=.pointer (some ⟨af,0,none⟩)/\σ_ 98=jV a5/\σ_ 99=jV (↑aV:Int)/\σ_ 112=.pointer (some ⟨b7,2,none⟩)/\σ_ 114=.agg am.toArray/\σ_ 115=.slice cM ([(⟨(⟨aa,w64 (aa + aj)⟩:wAG),an⟩:wAK)].length) dw/\σ_ 116=.slice bN av.length bQ/\σ_ 118=.pointer (some ⟨ab,0,none⟩)/\σ_ 119=.pointer (some ⟨af,0,none⟩)/\σ_ 120=.pointer (some ⟨af,0,none⟩)/\σ_ 121=jV aa/\σ_ 122=.pointer (some ⟨af,0,none⟩)/\σ_ 123=.pointer (some ⟨af,1,none⟩)/\σ_ 124=jV (w64 (aa + aj))/\σ_ 125=jV aX/\σ_ 126=.slice cN ([aX].length) dx/\σ_ 127=.slice cO cb.length dy/\σ_ 128=.pointer (some ⟨b7,2,none⟩)/\PHeap.Le aJ U_/\SW w [B1] U U_ [.blk ab 94 [.slice cL ao.bytes.length dv,jV ao.next,.int .u32 ao.state],.blk af 43 am,B7,ai,az,.blk b3 28 B0,ap,.row cM dw 43 3 (hD wAB [(⟨(⟨aa,w64 (aa + aj)⟩:wAG),an⟩:wAK)]),.row bN bQ 43 3 (hD wAB av),.row cN dx 3 1 (hD KL.encI [aX]),.row cO dy 3 1 (hD KL.encI cb)] w_/\Sl U_ 1 cL dv ao.bytes.length (hD KL.encB8 ao.bytes)) ?_ fun DI=>?_
 rintro GF E9 ⟨j8,cL,dv,cM,dw,bN,bQ,cN,dx,cO,dy,sA,sB,sC,sD,sE,sF,sG,sH,sI,sJ,sK,mC,sL,sM,sN,sO,sP,sQ,sS,sT,sU,sV,mD,DO,Ac,xc⟩
 refine zV (j:=4) (vs:=[.slice bN av.length bQ]) Z Z Z Z Ac Z mD mC Z Zn (zA Z) Z Z Z ?_
 intro qI Ae
 have Af:SW w [B1] U j8 [.blk ab 94 [.slice cL ao.bytes.length dv,jV ao.next,.int .u32 ao.state],.blk af 43 am,B7,ai,.blk b7 28 [.slice aN ax.length aO,.slice aT ay.length aU,.slice bN av.length bQ,.slice none 0 0],.blk b3 28 B0,ap,.row cM dw 43 3 (hD wAB [(⟨(⟨aa,w64 (aa + aj)⟩:wAG),an⟩:wAK)]),.row bN bQ 43 3 (hD wAB av),.row cN dx 3 1 (hD KL.encI [aX]),.row cO dy 3 1 (hD KL.encI cb)] qI:=Ae
 exact DH _ _ ⟨j8,cL,dv,bN,bQ,cM,dw,cN,dx,cO,dy,sA,sB,sC,sD,sE,sF,sG,sH,sI,sJ,sK,mC,sL,sM,sN,sO,sP,sQ,sS,sT,sU,sV,mD,DO,(Af.pick [0,1,2,3,8,4,5,6,7,9,10] _ (by decide) rfl),xc⟩
 refine ZS (s:=gAr) (M:=fun σ_ w_=>∃ (U_:PHeap) (cP:Option Addr) (dz:Nat) (cQ:Option Addr) (dA:Nat) (cR:Option Addr) (dB:Nat) (cS:Option Addr) (dC:Nat),σ_ 0=.pointer (some ⟨ab,0,none⟩)/\σ_ 3=jV p3/\σ_ 8=.pointer (some ⟨b3,0,none⟩)/\σ_ 11=.pointer (some ⟨b7,0,none⟩)/\σ_ 12=.slice aR aY.length aS/\σ_ 13=.slice aL aK.length aM/\σ_ 21=.pointer (some ⟨af,0,none⟩)/\σ_ 98=jV a5/\σ_ 99=jV (↑aV:Int)/\σ_ 112=.pointer (some ⟨b7,2,none⟩)/\σ_ 114=.agg am.toArray/\σ_ 115=.slice cQ ([(⟨(⟨aa,w64 (aa + aj)⟩:wAG),an⟩:wAK)].length) dA/\σ_ 116=.slice cR av.length dB/\σ_ 117=.slice aL aK.length aM/\σ_ 118=.pointer (some ⟨ab,0,none⟩)/\σ_ 119=.pointer (some ⟨af,0,none⟩)/\σ_ 120=.pointer (some ⟨af,0,none⟩)/\σ_ 121=jV aa/\σ_ 122=.pointer (some ⟨af,0,none⟩)/\σ_ 123=.pointer (some ⟨af,1,none⟩)/\σ_ 124=jV (w64 (aa + aj))/\σ_ 125=jV aX/\σ_ 126=.slice cS ([aX].length) dC/\σ_ 128=.pointer (some ⟨b7,2,none⟩)/\PHeap.Le aJ U_/\SW w [B1] U U_ [.blk ab 94 [.slice cP ao.bytes.length dz,jV ao.next,.int .u32 ao.state],.blk af 43 am,B7,ai,az,.blk b3 28 B0,ap,aI,.row cQ dA 43 3 (hD wAB [(⟨(⟨aa,w64 (aa + aj)⟩:wAG),an⟩:wAK)]),.row cR dB 43 3 (hD wAB av),.row cS dC 3 1 (hD KL.encI [aX])] w_/\Sl U_ 1 cP dz ao.bytes.length (hD KL.encB8 ao.bytes)) ?_ fun DJ=>?_
 rintro GG Fa ⟨j9,cP,dz,cQ,dA,cR,dB,cS,dC,sX,sY,sZ,s3,s4,FP,s5,s6,s7,s8,s9,ta,tb,tc,te,tg,th,tj,tk,tm,tn,tp,mE,tq,DP,pd,xe⟩
 refine Zw (j:=7) (enc:=KL.encI) (xs:=aK) (ys:=[aX]) (zs:=cb) rfl rfl rfl rfl rfl ya wGx rfl rfl rfl rfl rfl rfl pd rfl tc mE (pd.srcR (j:=10) rfl (by decide) (wAE (f:=KL.encI) (sz:=1) (fun _=>rfl) [aX])) (fun _=>rfl) (fun _=>rfl) z3 rfl ?_
 intro jg lU qJ Ag
 have Ah:SW w [B1] U j9 [.blk ab 94 [.slice cP ao.bytes.length dz,jV ao.next,.int .u32 ao.state],.blk af 43 am,B7,ai,az,.blk b3 28 B0,ap,.row jg lU 3 1 (hD KL.encI cb),.row cQ dA 43 3 (hD wAB [(⟨(⟨aa,w64 (aa + aj)⟩:wAG),an⟩:wAK)]),.row cR dB 43 3 (hD wAB av),.row cS dC 3 1 (hD KL.encI [aX])] qJ:=Ag
 exact DI _ _ ⟨j9,cP,dz,cQ,dA,cR,dB,cS,dC,jg,lU,sX,sY,sZ,s3,s4,s5,s6,s7,s8,s9,ta,tb,te,tg,th,tj,tk,tm,tn,tp,mE,rfl,tq,DP,(Ah.pick [0,1,2,3,4,5,6,8,9,10,7] _ (by decide) rfl),xe⟩
 refine ZS (s:=gAz) (M:=fun σ_ w_=>∃ (U_:PHeap) (cU:Option Addr) (dD:Nat) (cV:Option Addr) (dE:Nat) (cW:Option Addr) (dF:Nat),σ_ 0=.pointer (some ⟨ab,0,none⟩)/\σ_ 3=jV p3/\σ_ 8=.pointer (some ⟨b3,0,none⟩)/\σ_ 11=.pointer (some ⟨b7,0,none⟩)/\σ_ 12=.slice aR aY.length aS/\σ_ 13=.slice aL aK.length aM/\σ_ 21=.pointer (some ⟨af,0,none⟩)/\σ_ 98=jV a5/\σ_ 99=jV (↑aV:Int)/\σ_ 112=.pointer (some ⟨b7,2,none⟩)/\σ_ 114=.agg am.toArray/\σ_ 115=.slice cV ([(⟨(⟨aa,w64 (aa + aj)⟩:wAG),an⟩:wAK)].length) dE/\σ_ 116=.slice cW av.length dF/\σ_ 117=.slice aL aK.length aM/\σ_ 118=.pointer (some ⟨ab,0,none⟩)/\σ_ 119=.pointer (some ⟨af,0,none⟩)/\σ_ 120=.pointer (some ⟨af,0,none⟩)/\σ_ 121=jV aa/\σ_ 122=.pointer (some ⟨af,0,none⟩)/\σ_ 123=.pointer (some ⟨af,1,none⟩)/\σ_ 124=jV (w64 (aa + aj))/\σ_ 125=jV aX/\σ_ 128=.pointer (some ⟨b7,2,none⟩)/\PHeap.Le aJ U_/\SW w [B1] U U_ [.blk ab 94 [.slice cU ao.bytes.length dD,jV ao.next,.int .u32 ao.state],.blk af 43 am,B7,ai,az,.blk b3 28 B0,ap,aI,.row cV dE 43 3 (hD wAB [(⟨(⟨aa,w64 (aa + aj)⟩:wAG),an⟩:wAK)]),.row cW dF 43 3 (hD wAB av)] w_/\Sl U_ 1 cU dD ao.bytes.length (hD KL.encB8 ao.bytes)) ?_ fun qa=>?_
 rintro GH Fb ⟨k3,cU,dD,cV,dE,cW,dF,tr,tt,tu,tv,tw,tx,tz,tA,tB,tC,tD,tE,tF,tG,tH,tI,tJ,tK,tL,tM,tN,mF,tO,DQ,Ai,xf⟩
 refine zq (pv:=[(0,jV aX)]) (zs:=[jV 0]) (cs:=[jV aX]) Z Z Z Z Z (wAH mF wAP) zH zC ZB Z Z Z Z Z Ai ?_
 intro qK lJ Aj
 have Ak:SW w [B1] U k3 [.row (some ⟨lJ,0,none⟩) 1 3 1 (hD KL.encI [aX]),.blk ab 94 [.slice cU ao.bytes.length dD,jV ao.next,.int .u32 ao.state],.blk af 43 am,B7,ai,az,.blk b3 28 B0,ap,aI,.row cV dE 43 3 (hD wAB [(⟨(⟨aa,w64 (aa + aj)⟩:wAG),an⟩:wAK)]),.row cW dF 43 3 (hD wAB av)] qK:=Aj
 exact DJ _ _ ⟨k3,cU,dD,cV,dE,cW,dF,(some ⟨lJ,0,none⟩),1,tr,tt,tu,tv,tw,tx,tz,tA,tB,tC,tD,tE,tF,tG,tH,tI,tJ,tK,tL,tM,tN,mF,rfl,tO,DQ,(Ak.pick [1,2,3,4,5,6,7,8,9,10,0] _ (by decide) rfl),xf⟩
 refine ZS (s:=gBc) (M:=fun σ_ w_=>∃ (U_:PHeap) (cX:Option Addr) (dG:Nat) (cY:Option Addr) (dH:Nat),σ_ 0=.pointer (some ⟨ab,0,none⟩)/\σ_ 3=jV p3/\σ_ 8=.pointer (some ⟨b3,0,none⟩)/\σ_ 11=.pointer (some ⟨b7,0,none⟩)/\σ_ 12=.slice aR aY.length aS/\σ_ 13=.slice aL aK.length aM/\σ_ 21=.pointer (some ⟨af,0,none⟩)/\σ_ 98=jV a5/\σ_ 99=jV (↑aV:Int)/\σ_ 112=.pointer (some ⟨b7,2,none⟩)/\σ_ 114=.agg am.toArray/\σ_ 115=.slice cX ([(⟨(⟨aa,w64 (aa + aj)⟩:wAG),an⟩:wAK)].length) dG/\σ_ 116=.slice cY av.length dH/\σ_ 117=.slice aL aK.length aM/\σ_ 118=.pointer (some ⟨ab,0,none⟩)/\σ_ 119=.pointer (some ⟨af,0,none⟩)/\σ_ 120=.pointer (some ⟨af,0,none⟩)/\σ_ 121=jV aa/\σ_ 122=.pointer (some ⟨af,0,none⟩)/\σ_ 123=.pointer (some ⟨af,1,none⟩)/\σ_ 124=jV (w64 (aa + aj))/\σ_ 128=.pointer (some ⟨b7,2,none⟩)/\PHeap.Le aJ U_/\SW w [B1] U U_ [.blk af 43 am,aP,B7,ai,az,.blk b3 28 B0,ap,aI,.row cX dG 43 3 (hD wAB [(⟨(⟨aa,w64 (aa + aj)⟩:wAG),an⟩:wAK)]),.row cY dH 43 3 (hD wAB av)] w_) ?_ fun fO=>?_
 rintro GI lp ⟨k5,cX,dG,cY,dH,tP,tQ,tR,tS,tT,tU,tV,tW,tX,tY,tZ,t4,t5,t6,mG,t7,t8,mH,t9,ua,mI,ub,qe,Al⟩
 have xg:=o5.le qe
 let jR:Res:=.row cX dG 43 3 (hD wAB [(⟨(⟨aa,w64 (aa + aj)⟩:wAG),an⟩:wAK)])
 let jS:Res:=.row cY dH 43 3 (hD wAB av)
 have Am:SW w [B1] U k5 [aP,.blk af 43 am,B7,ai,az,.blk b3 28 B0,ap,aI,jR,jS] lp:=Al.pick [1,0,2,3,4,5,6,7,8,9] _ (by decide) rfl
 refine zE 1 Z Z Z Z (zD Z Z yk (zB mG (zB mH (zB mI zM))) Z) Am (fun hs=>wAZ ep ab gm gZ aa (w64 (aa + aj)) lp k5 hs xg o6) (.inl Z) ?_
 rintro k6 EJ F1 qL DR An ⟨jh,lV,rfl,rfl,xh⟩
 have Ao:SW w [B1] U k6 [.blk ab 94 [.slice jh ao.bytes.length lV,jV ao.next,.int .u32 ao.state],.blk af 43 am,B7,ai,az,.blk b3 28 B0,ap,aI,jR,jS] qL:=An
 exact qa _ _ ⟨k6,jh,lV,cX,dG,cY,dH,tP,tQ,tR,tS,tT,tU,tV,tW,tX,tY,tZ,t4,t5,t6,mG,t7,t8,mH,t9,ua,mI,Z,ub,(qe.trans DR),Ao,xh⟩
 refine ZS (s:=.fl 16 gBc) (M:=fun σ_ w_=>∃ (U_:PHeap) (cZ:Option Addr) (dI:Nat) (c6:Option Addr) (dJ:Nat),σ_ 0=.pointer (some ⟨ab,0,none⟩)/\σ_ 3=jV p3/\σ_ 8=.pointer (some ⟨b3,0,none⟩)/\σ_ 11=.pointer (some ⟨b7,0,none⟩)/\σ_ 12=.slice aR aY.length aS/\σ_ 13=.slice aL aK.length aM/\σ_ 21=.pointer (some ⟨af,0,none⟩)/\σ_ 98=jV a5/\σ_ 99=jV (↑aV:Int)/\σ_ 112=.pointer (some ⟨b7,2,none⟩)/\σ_ 114=.agg am.toArray/\σ_ 115=.slice cZ ([(⟨(⟨aa,w64 (aa + aj)⟩:wAG),an⟩:wAK)].length) dI/\σ_ 116=.slice c6 av.length dJ/\σ_ 117=.slice aL aK.length aM/\σ_ 118=.pointer (some ⟨ab,0,none⟩)/\σ_ 119=.pointer (some ⟨af,0,none⟩)/\σ_ 120=.pointer (some ⟨af,0,none⟩)/\σ_ 121=jV aa/\σ_ 122=.pointer (some ⟨af,0,none⟩)/\σ_ 123=.pointer (some ⟨af,1,none⟩)/\σ_ 124=jV (w64 (aa + aj))/\PHeap.Le aJ U_/\SW w [B1] U U_ [.blk af 43 am,aP,B7,ai,az,.blk b3 28 B0,ap,aI,.row cZ dI 43 3 (hD wAB [(⟨(⟨aa,w64 (aa + aj)⟩:wAG),an⟩:wAK)]),.row c6 dJ 43 3 (hD wAB av)] w_) ?_ fun DK=>?_
 rintro GJ lq ⟨k7,cZ,dI,c6,dJ,uc,ud,ue,mJ,uf,ug,uh,ui,uj,uk,ul,um,un,uo,mK,up,uq,mL,ur,ut,mM,qf,Ap⟩
 refine oR Z (zG Z mJ zK Z Zn) ?_
 have xi:=o5.le qf
 let jT:Res:=.row cZ dI 43 3 (hD wAB [(⟨(⟨aa,w64 (aa + aj)⟩:wAG),an⟩:wAK)])
 let jU:Res:=.row c6 dJ 43 3 (hD wAB av)
 have Aq:SW w [B1] U k7 [aP,.blk af 43 am,B7,ai,az,.blk b3 28 B0,ap,aI,jT,jU] lq:=Ap.pick [1,0,2,3,4,5,6,7,8,9] _ (by decide) rfl
 refine zE 1 Z Z Z Z (zD Z Z yk (zB mK (zB mL (zB mM zM))) Z) Aq (fun hs=>wAZ ep ab gm gZ aa (w64 (aa + aj)) lq k7 hs xi o6) (.inl Z) ?_
 rintro k8 EK F2 qM DS Ar ⟨ji,lW,rfl,rfl,xj⟩
 have As:SW w [B1] U k8 [.blk ab 94 [.slice ji ao.bytes.length lW,jV ao.next,.int .u32 ao.state],.blk af 43 am,B7,ai,az,.blk b3 28 B0,ap,aI,jT,jU] qM:=Ar
 exact qa _ _ ⟨k8,ji,lW,cZ,dI,c6,dJ,uc,ud,ue,mJ,uf,ug,uh,ui,uj,uk,ul,um,un,uo,mK,up,uq,mL,ur,ut,mM,Z,Z,(qf.trans DS),As,xj⟩
 refine ZS (s:=.fl 16 gBf) (M:=fun σ_ w_=>∃ (U_:PHeap) (ew:Option Addr) (ff:Nat) (ey:Option Addr) (fg:Nat),σ_ 0=.pointer (some ⟨ab,0,none⟩)/\σ_ 3=jV p3/\σ_ 8=.pointer (some ⟨b3,0,none⟩)/\σ_ 11=.pointer (some ⟨b7,0,none⟩)/\σ_ 12=.slice aR aY.length aS/\σ_ 13=.slice aL aK.length aM/\σ_ 21=.pointer (some ⟨af,0,none⟩)/\σ_ 98=jV a5/\σ_ 99=jV (↑aV:Int)/\σ_ 112=.pointer (some ⟨b7,2,none⟩)/\σ_ 114=.agg am.toArray/\σ_ 115=.slice ew ([(⟨(⟨aa,w64 (aa + aj)⟩:wAG),an⟩:wAK)].length) ff/\σ_ 116=.slice ey av.length fg/\σ_ 117=.slice aL aK.length aM/\σ_ 118=.pointer (some ⟨ab,0,none⟩)/\σ_ 119=.pointer (some ⟨af,0,none⟩)/\σ_ 120=.pointer (some ⟨af,0,none⟩)/\σ_ 122=.pointer (some ⟨af,0,none⟩)/\σ_ 123=.pointer (some ⟨af,1,none⟩)/\σ_ 124=jV (w64 (aa + aj))/\PHeap.Le aJ U_/\SW w [B1] U U_ [.blk af 43 am,aP,B7,ai,az,.blk b3 28 B0,ap,aI,.row ew ff 43 3 (hD wAB [(⟨(⟨aa,w64 (aa + aj)⟩:wAG),an⟩:wAK)]),.row ey fg 43 3 (hD wAB av)] w_) ?_ fun DL=>?_
 rintro GK Fc ⟨qz,ew,ff,ey,fg,uu,uv,uw,mN,ux,uy,uz,uA,uB,uC,uD,uE,uF,uG,uH,uI,mO,uJ,uK,uL,DT,pe⟩
 exact oR Z (zG Z mN zK Z Zn) (ZR Z Z Z Z (pe.ldB (j:=0) Z Z mO zJ (v:=jV aa) Z) (fO _ _ ⟨qz,ew,ff,ey,fg,uu,uv,uw,mN,ux,uy,uz,uA,uB,uC,uD,uE,uF,uG,uH,uI,mO,Z,uJ,uK,uL,Z,DT,pe⟩))
 refine ZS (s:=gBg) (M:=fun σ_ w_=>∃ (U_:PHeap) (da:Option Addr) (dK:Nat),σ_ 0=.pointer (some ⟨ab,0,none⟩)/\σ_ 3=jV p3/\σ_ 8=.pointer (some ⟨b3,0,none⟩)/\σ_ 11=.pointer (some ⟨b7,0,none⟩)/\σ_ 12=.slice aR aY.length aS/\σ_ 13=.slice aL aK.length aM/\σ_ 21=.pointer (some ⟨af,0,none⟩)/\σ_ 98=jV a5/\σ_ 99=jV (↑aV:Int)/\σ_ 112=.pointer (some ⟨b7,2,none⟩)/\σ_ 113=.slice bi a7.length bk/\σ_ 114=.agg am.toArray/\σ_ 115=.slice da ([(⟨(⟨aa,w64 (aa + aj)⟩:wAG),an⟩:wAK)].length) dK/\σ_ 117=.slice aL aK.length aM/\σ_ 118=.pointer (some ⟨ab,0,none⟩)/\σ_ 119=.pointer (some ⟨af,0,none⟩)/\σ_ 120=.pointer (some ⟨af,0,none⟩)/\σ_ 121=jV aa/\σ_ 122=.pointer (some ⟨af,0,none⟩)/\σ_ 123=.pointer (some ⟨af,1,none⟩)/\σ_ 124=jV (w64 (aa + aj))/\PHeap.Le aJ U_/\SW w [B1] U U_ [.blk af 43 am,aP,B7,ai,bd,az,.blk b3 28 B0,ap,aI,.row da dK 43 3 (hD wAB [(⟨(⟨aa,w64 (aa + aj)⟩:wAG),an⟩:wAK)])] w_) ?_ fun iP=>?_
 rintro GL Fd ⟨k9,da,dK,uM,uN,uO,uP,uQ,uR,uS,uT,uU,uV,uW,uX,mP,uY,uZ,u3,u4,u5,u6,u7,u9,DU,pf⟩
 refine Zw (j:=4) (enc:=wAB) (xs:=a7) (ys:=[(⟨(⟨aa,w64 (aa + aj)⟩:wAG),an⟩:wAK)]) (zs:=av) rfl rfl rfl rfl rfl Try.underlying25 wHY rfl rfl rfl rfl rfl rfl pf rfl uW mP (pf.srcR (j:=9) rfl (by decide) (wAE (f:=wAB) (sz:=3) (fun _=>rfl) [(⟨(⟨aa,w64 (aa + aj)⟩:wAG),an⟩:wAK)])) (fun _=>rfl) (fun _=>rfl) fK rfl ?_
 intro jj lX qO Av
 have Aw:SW w [B1] U k9 [.blk af 43 am,aP,B7,ai,.row jj lX 43 3 (hD wAB av),az,.blk b3 28 B0,ap,aI,.row da dK 43 3 (hD wAB [(⟨(⟨aa,w64 (aa + aj)⟩:wAG),an⟩:wAK)])] qO:=Av
 exact DK _ _ ⟨k9,da,dK,jj,lX,uM,uN,uO,uP,uQ,uR,uS,uT,uU,uV,uX,mP,rfl,uY,uZ,u3,u4,u5,u6,u7,u9,DU,(Aw.pick [0,1,2,3,5,6,7,8,9,4] _ (by decide) rfl)⟩
 refine ZS (s:=.fl 16 gBe) (M:=fun σ_ w_=>∃ (U_:PHeap) (ez:Option Addr) (fh:Nat) (eA:Option Addr) (fj:Nat),σ_ 0=.pointer (some ⟨ab,0,none⟩)/\σ_ 3=jV p3/\σ_ 8=.pointer (some ⟨b3,0,none⟩)/\σ_ 11=.pointer (some ⟨b7,0,none⟩)/\σ_ 12=.slice aR aY.length aS/\σ_ 13=.slice aL aK.length aM/\σ_ 21=.pointer (some ⟨af,0,none⟩)/\σ_ 98=jV a5/\σ_ 99=jV (↑aV:Int)/\σ_ 112=.pointer (some ⟨b7,2,none⟩)/\σ_ 114=.agg am.toArray/\σ_ 115=.slice ez ([(⟨(⟨aa,w64 (aa + aj)⟩:wAG),an⟩:wAK)].length) fh/\σ_ 116=.slice eA av.length fj/\σ_ 117=.slice aL aK.length aM/\σ_ 118=.pointer (some ⟨ab,0,none⟩)/\σ_ 119=.pointer (some ⟨af,0,none⟩)/\σ_ 120=.pointer (some ⟨af,0,none⟩)/\σ_ 121=jV aa/\σ_ 122=.pointer (some ⟨af,0,none⟩)/\σ_ 123=.pointer (some ⟨af,1,none⟩)/\PHeap.Le aJ U_/\SW w [B1] U U_ [.blk af 43 am,aP,B7,ai,az,.blk b3 28 B0,ap,aI,.row ez fh 43 3 (hD wAB [(⟨(⟨aa,w64 (aa + aj)⟩:wAG),an⟩:wAK)]),.row eA fj 43 3 (hD wAB av)] w_) ?_ fun DM=>?_
 rintro GM Fe ⟨qA,ez,fh,eA,fj,va,vb,vc,mQ,vd,ve,vf,vg,vh,vi,vj,vk,vl,vm,vn,vo,vp,vq,vr,mR,DV,pg⟩
 exact oR Z (zG Z mQ zK Z Zn) (ZR Z Z Z Z (pg.ldB (j:=0) Z Z mR zJ (v:=jV (w64 (aa + aj))) Z) (fO _ _ ⟨qA,ez,fh,eA,fj,va,vb,vc,mQ,vd,ve,vf,vg,vh,vi,vj,vk,vl,vm,vn,vo,vp,vq,vr,mR,Z,Z,DV,pg⟩))
 refine ZS (s:=gBh) (M:=fun σ_ w_=>∃ (U_:PHeap),σ_ 0=.pointer (some ⟨ab,0,none⟩)/\σ_ 3=jV p3/\σ_ 8=.pointer (some ⟨b3,0,none⟩)/\σ_ 11=.pointer (some ⟨b7,0,none⟩)/\σ_ 12=.slice aR aY.length aS/\σ_ 13=.slice aL aK.length aM/\σ_ 21=.pointer (some ⟨af,0,none⟩)/\σ_ 98=jV a5/\σ_ 99=jV (↑aV:Int)/\σ_ 112=.pointer (some ⟨b7,2,none⟩)/\σ_ 113=.slice bi a7.length bk/\σ_ 114=.agg am.toArray/\σ_ 117=.slice aL aK.length aM/\σ_ 118=.pointer (some ⟨ab,0,none⟩)/\σ_ 119=.pointer (some ⟨af,0,none⟩)/\σ_ 120=.pointer (some ⟨af,0,none⟩)/\σ_ 121=jV aa/\σ_ 122=.pointer (some ⟨af,0,none⟩)/\σ_ 123=.pointer (some ⟨af,1,none⟩)/\σ_ 124=jV (w64 (aa + aj))/\PHeap.Le aJ U_/\SW w [B1] U U_ [.blk af 43 am,aP,B7,ai,bd,az,.blk b3 28 B0,ap,aI] w_) ?_ fun qb=>?_
 rintro GN Ff ⟨lc,vt,vu,vv,vw,vx,vy,vz,vA,vB,vC,vD,mS,vE,vF,vG,vH,vI,vJ,vK,vL,DW,Ax⟩
 refine zq (pv:=[(0,.agg am.toArray)]) (zs:=co) (cs:=am) Z Z Z Z Z (wAH mS wAP) ZU Zt yY Z Z Z Z Z Ax ?_
 intro qP lK Az
 have AA:SW w [B1] U lc [.row (some ⟨lK,0,none⟩) 1 43 3 (hD wAB [(⟨(⟨aa,w64 (aa + aj)⟩:wAG),an⟩:wAK)]),.blk af 43 am,aP,B7,ai,bd,az,.blk b3 28 B0,ap,aI] qP:=Az
 exact iP _ _ ⟨lc,(some ⟨lK,0,none⟩),1,vt,vu,vv,vw,vx,vy,vz,vA,vB,vC,vD,mS,rfl,vE,vF,vG,vH,vI,vJ,vK,vL,DW,(AA.pick [1,2,3,4,5,6,7,8,9,0] _ (by decide) rfl)⟩
 refine ZS (s:=gBj) (M:=fun σ_ w_=>∃ (U_:PHeap) (cd:Option Addr) (ct:Nat),σ_ 0=.pointer (some ⟨ab,0,none⟩)/\σ_ 3=jV p3/\σ_ 8=.pointer (some ⟨b3,0,none⟩)/\σ_ 11=.pointer (some ⟨b7,0,none⟩)/\σ_ 12=.slice aR aY.length aS/\σ_ 13=.slice aL aK.length aM/\σ_ 21=.pointer (some ⟨af,0,none⟩)/\σ_ 98=jV a5/\σ_ 99=jV (↑aV:Int)/\σ_ 112=.pointer (some ⟨b7,2,none⟩)/\σ_ 113=.slice bi a7.length bk/\σ_ 114=.agg am.toArray/\σ_ 115=.slice cd ([(⟨(⟨aa,w64 (aa + aj)⟩:wAG),an⟩:wAK)].length) ct/\σ_ 117=.slice aL aK.length aM/\σ_ 118=.pointer (some ⟨ab,0,none⟩)/\σ_ 119=.pointer (some ⟨af,0,none⟩)/\σ_ 120=.pointer (some ⟨af,0,none⟩)/\σ_ 122=.pointer (some ⟨af,0,none⟩)/\σ_ 123=.pointer (some ⟨af,1,none⟩)/\σ_ 124=jV (w64 (aa + aj))/\PHeap.Le aJ U_/\SW w [B1] U U_ [.blk af 43 am,aP,B7,ai,bd,az,.blk b3 28 B0,ap,aI,.row cd ct 43 3 (hD wAB [(⟨(⟨aa,w64 (aa + aj)⟩:wAG),an⟩:wAK)])] w_) ?_ fun qc=>?_
 rintro GO Fg ⟨gC,cd,ct,mT,mU,mV,mW,mX,mY,mZ,m3,m4,m5,m6,m7,g6,m8,m9,n3,g7,n4,n5,n6,qh,fM⟩
 refine zn ?_ ?_
 refine Zw (j:=4) (enc:=wAB) (xs:=a7) (ys:=[(⟨(⟨aa,w64 (aa + aj)⟩:wAG),an⟩:wAK)]) (zs:=av) rfl rfl rfl rfl rfl Try.underlying25 wHY rfl rfl rfl rfl rfl rfl fM rfl m6 g6 (fM.srcR (j:=9) rfl (by decide) (wAE (f:=wAB) (sz:=3) (fun _=>rfl) [(⟨(⟨aa,w64 (aa + aj)⟩:wAG),an⟩:wAK)])) (fun _=>rfl) (fun _=>rfl) fK rfl ?_
 intro jl lZ qQ AC
 have AD:SW w [B1] U gC [.blk af 43 am,aP,B7,ai,.row jl lZ 43 3 (hD wAB av),az,.blk b3 28 B0,ap,aI,.row cd ct 43 3 (hD wAB [(⟨(⟨aa,w64 (aa + aj)⟩:wAG),an⟩:wAK)])] qQ:=AC
 exact DL _ _ ⟨gC,cd,ct,jl,lZ,mT,mU,mV,mW,mX,mY,mZ,m3,m4,m5,m7,g6,rfl,m8,m9,n3,g7,n4,n5,n6,qh,(AD.pick [0,1,2,3,5,6,7,8,9,4] _ (by decide) rfl)⟩
 exact ZR Z Z Z Z (fM.ldB (j:=0) Z Z g7 zJ (v:=jV aa) Z) (iP _ _ ⟨gC,cd,ct,mT,mU,mV,mW,mX,mY,mZ,m3,m4,m5,m6,m7,g6,m8,m9,n3,g7,Z,n4,n5,n6,qh,fM⟩)
 refine ZS (s:=gBi) (M:=fun σ_ w_=>∃ (U_:PHeap) (cf:Option Addr) (cu:Nat),σ_ 0=.pointer (some ⟨ab,0,none⟩)/\σ_ 3=jV p3/\σ_ 8=.pointer (some ⟨b3,0,none⟩)/\σ_ 11=.pointer (some ⟨b7,0,none⟩)/\σ_ 12=.slice aR aY.length aS/\σ_ 13=.slice aL aK.length aM/\σ_ 21=.pointer (some ⟨af,0,none⟩)/\σ_ 98=jV a5/\σ_ 99=jV (↑aV:Int)/\σ_ 112=.pointer (some ⟨b7,2,none⟩)/\σ_ 113=.slice bi a7.length bk/\σ_ 114=.agg am.toArray/\σ_ 115=.slice cf ([(⟨(⟨aa,w64 (aa + aj)⟩:wAG),an⟩:wAK)].length) cu/\σ_ 117=.slice aL aK.length aM/\σ_ 118=.pointer (some ⟨ab,0,none⟩)/\σ_ 119=.pointer (some ⟨af,0,none⟩)/\σ_ 120=.pointer (some ⟨af,0,none⟩)/\σ_ 121=jV aa/\σ_ 122=.pointer (some ⟨af,0,none⟩)/\σ_ 123=.pointer (some ⟨af,1,none⟩)/\PHeap.Le aJ U_/\SW w [B1] U U_ [.blk af 43 am,aP,B7,ai,bd,az,.blk b3 28 B0,ap,aI,.row cf cu 43 3 (hD wAB [(⟨(⟨aa,w64 (aa + aj)⟩:wAG),an⟩:wAK)])] w_) ?_ fun qd=>?_
 rintro GP Fh ⟨gD,cf,cu,n7,n8,n9,oa,oc,od,oe,og,oh,oi,oj,ol,g8,om,oo,oq,ot,ou,ov,g9,qi,fN⟩
 refine zn ?_ ?_
 refine Zw (j:=4) (enc:=wAB) (xs:=a7) (ys:=[(⟨(⟨aa,w64 (aa + aj)⟩:wAG),an⟩:wAK)]) (zs:=av) rfl rfl rfl rfl rfl Try.underlying25 wHY rfl rfl rfl rfl rfl rfl fN rfl oj g8 (fN.srcR (j:=9) rfl (by decide) (wAE (f:=wAB) (sz:=3) (fun _=>rfl) [(⟨(⟨aa,w64 (aa + aj)⟩:wAG),an⟩:wAK)])) (fun _=>rfl) (fun _=>rfl) fK rfl ?_
 intro jm l3 qR AE
 have AF:SW w [B1] U gD [.blk af 43 am,aP,B7,ai,.row jm l3 43 3 (hD wAB av),az,.blk b3 28 B0,ap,aI,.row cf cu 43 3 (hD wAB [(⟨(⟨aa,w64 (aa + aj)⟩:wAG),an⟩:wAK)])] qR:=AE
 exact DM _ _ ⟨gD,cf,cu,jm,l3,n7,n8,n9,oa,oc,od,oe,og,oh,oi,ol,g8,rfl,om,oo,oq,ot,ou,ov,g9,qi,(AF.pick [0,1,2,3,5,6,7,8,9,4] _ (by decide) rfl)⟩
 exact ZR Z Z Z Z (fN.ldB (j:=0) Z Z g9 zJ (v:=jV (w64 (aa + aj))) Z) (iP _ _ ⟨gD,cf,cu,n7,n8,n9,oa,oc,od,oe,og,oh,oi,oj,ol,g8,om,oo,oq,ot,ou,ov,g9,Z,qi,fN⟩)
 refine oR Z (zG Z bm zK Z Zn) (oL Z (bf.ldB (j:=5) Z Z Z yI (v:=.slice bi a7.length bk) Z) (oL Z (bf.ldBA (j:=0) Z Z Z Try.isAgg43 Zt (vs:=am) Z Z) (oM Z bu (oM Z be (oR Z (zG Z Z Zq Z zf) (oR Z (zG Z Z ZO Z zC) (oR Z (zG Z Z Zq Z zf) (oR Z (zG Z Z ZO Z zC) (zn ?_ ?_)))))))))
 refine zq (pv:=[(0,.agg am.toArray)]) (zs:=co) (cs:=am) Z Z Z Z Z (wAH Z wAP) ZU Zt yY Z Z Z Z Z bf ?_
 intro qS dq AG
 let jW:Res:=.row (some ⟨dq,0,none⟩) 1 43 3 (hD wAB [(⟨(⟨aa,w64 (aa + aj)⟩:wAG),an⟩:wAK)])
 have cD:SW w [B1] U aJ [jW,.blk af 43 am,aP,B7,ai,bd,az,.blk b3 28 B0,ap,aI] qS:=AG
 refine zn ?_ ?_
 refine Zw (j:=5) (enc:=wAB) (xs:=a7) (ys:=[(⟨(⟨aa,w64 (aa + aj)⟩:wAG),an⟩:wAK)]) (zs:=av) rfl rfl rfl rfl rfl Try.underlying25 wHY rfl rfl rfl rfl rfl rfl cD rfl rfl rfl (cD.srcR (j:=0) rfl (by decide) (wAE (f:=wAB) (sz:=3) (fun _=>rfl) [(⟨(⟨aa,w64 (aa + aj)⟩:wAG),an⟩:wAK)])) (fun _=>rfl) (fun _=>rfl) fK rfl ?_
 intro gf gT qT AH
 have cE:SW w [B1] U aJ [jW,.blk af 43 am,aP,B7,ai,.row gf gT 43 3 (hD wAB av),az,.blk b3 28 B0,ap,aI] qT:=AH
 refine oR Z (zG Z bm zK Z Zn) (zn ?_ ?_)
 exact ZR rfl rfl rfl rfl (cE.ldB (j:=1) rfl rfl rfl zJ (v:=jV aa) rfl) (ZR rfl rfl rfl rfl (cE.ldB (j:=1) rfl rfl rfl zJ (v:=jV (w64 (aa + aj))) rfl) (fO _ _ ⟨aJ,(some ⟨dq,0,none⟩),1,gf,gT,be,bG,bH,bm,bI,bu,rfl,bv,bw,rfl,rfl,rfl,rfl,rfl,rfl,rfl,rfl,rfl,rfl,rfl,rfl,rfl,(zO _),(cE.pick [1,2,3,4,6,7,8,9,0,5] _ (by decide) rfl)⟩))
 exact ZR rfl rfl rfl rfl (cE.ldB (j:=1) rfl rfl rfl zJ (v:=jV (w64 (aa + aj))) rfl) (ZR rfl rfl rfl rfl (cE.ldB (j:=1) rfl rfl rfl zJ (v:=jV aa) rfl) (fO _ _ ⟨aJ,(some ⟨dq,0,none⟩),1,gf,gT,be,bG,bH,bm,bI,bu,rfl,bv,bw,rfl,rfl,rfl,rfl,rfl,rfl,rfl,rfl,rfl,rfl,rfl,rfl,rfl,(zO _),(cE.pick [1,2,3,4,6,7,8,9,0,5] _ (by decide) rfl)⟩))
 refine zn ?_ ?_
 exact ZR rfl rfl rfl rfl (cD.ldB (j:=1) rfl rfl rfl zJ (v:=jV aa) rfl) (qd _ _ ⟨aJ,(some ⟨dq,0,none⟩),1,be,bG,bH,bm,bI,bu,rfl,bv,bw,rfl,rfl,rfl,rfl,rfl,rfl,rfl,rfl,rfl,rfl,rfl,(zO _),(cD.pick [1,2,3,4,5,6,7,8,9,0] _ (by decide) rfl)⟩)
 exact ZR rfl rfl rfl rfl (cD.ldB (j:=1) rfl rfl rfl zJ (v:=jV (w64 (aa + aj))) rfl) (qc _ _ ⟨aJ,(some ⟨dq,0,none⟩),1,be,bG,bH,bm,bI,bu,rfl,bv,bw,rfl,rfl,rfl,rfl,rfl,rfl,rfl,rfl,rfl,rfl,rfl,(zO _),(cD.pick [1,2,3,4,5,6,7,8,9,0] _ (by decide) rfl)⟩)
 refine zn ?_ ?_
 refine ZR Z Z Z Z (bf.ldB (j:=0) Z Z Z zJ (v:=jV aa) Z) (zn ?_ ?_)
 refine zq (pv:=[(0,.agg am.toArray)]) (zs:=co) (cs:=am) Z Z Z Z Z (wAH Z wAP) ZU Zt yY Z Z Z Z Z bf ?_
 intro qU lL AI
 have AJ:SW w [B1] U aJ [.row (some ⟨lL,0,none⟩) 1 43 3 (hD wAB [(⟨(⟨aa,w64 (aa + aj)⟩:wAG),an⟩:wAK)]),.blk af 43 am,aP,B7,ai,bd,az,.blk b3 28 B0,ap,aI] qU:=AI
 exact qd _ _ ⟨aJ,(some ⟨lL,0,none⟩),1,be,bG,bH,bm,bI,bu,rfl,bv,bw,rfl,rfl,rfl,rfl,rfl,rfl,rfl,rfl,rfl,rfl,rfl,(zO _),(AJ.pick [1,2,3,4,5,6,7,8,9,0] _ (by decide) rfl)⟩
 exact ZR Z Z Z Z (bf.ldB (j:=0) Z Z Z zJ (v:=jV (w64 (aa + aj))) Z) (qb _ _ ⟨aJ,be,bG,bH,bm,bI,bu,Z,bv,bw,Z,Z,Z,Z,Z,Z,Z,Z,Z,Z,Z,(zO _),bf⟩)
 refine ZR Z Z Z Z (bf.ldB (j:=0) Z Z Z zJ (v:=jV (w64 (aa + aj))) Z) (zn ?_ ?_)
 refine zq (pv:=[(0,.agg am.toArray)]) (zs:=co) (cs:=am) Z Z Z Z Z (wAH Z wAP) ZU Zt yY Z Z Z Z Z bf ?_
 intro qV lM AK
 have AL:SW w [B1] U aJ [.row (some ⟨lM,0,none⟩) 1 43 3 (hD wAB [(⟨(⟨aa,w64 (aa + aj)⟩:wAG),an⟩:wAK)]),.blk af 43 am,aP,B7,ai,bd,az,.blk b3 28 B0,ap,aI] qV:=AK
 exact qc _ _ ⟨aJ,(some ⟨lM,0,none⟩),1,be,bG,bH,bm,bI,bu,rfl,bv,bw,rfl,rfl,rfl,rfl,rfl,rfl,rfl,rfl,rfl,rfl,rfl,(zO _),(AL.pick [1,2,3,4,5,6,7,8,9,0] _ (by decide) rfl)⟩
 exact ZR Z Z Z Z (bf.ldB (j:=0) Z Z Z zJ (v:=jV aa) Z) (qb _ _ ⟨aJ,be,bG,bH,bm,bI,bu,Z,bv,bw,Z,Z,Z,Z,Z,Z,Z,Z,Z,Z,Z,(zO _),bf⟩)
 rintro GQ qX ⟨qB,qu,r8,bp,bs,cg,cw,w5,ow,vM,vN,vO,vP,vQ,vR,DZ,AN,xn⟩
 have r9:Hid (¬ ((↑((a5:Int) - 0).toNat:Int) < a5)):=zN (wAc)
 refine sR fL1 Z (oR Z (zi Z w5 vR) (eN (zL (cF Z r9 (Zc (zm (zm (ZY (zI (zL (sR (wCg gAi) Z (oM Z ow (oM Z vM (oR Z (zb Z Z Z) ?_))))))))))))))
 have q:=bnd pT
 obtain ⟨⟨cI,iV⟩,xo,pE⟩:=q
 try dsimp only at pE
 refine zE 1 Z Z Z Z (zD Z Z yB (zB Z (zB Z zM)) Z) AN (fun hs=>wAS (⟨EG,EH,EI⟩:wAF) ab qu r8 (w64 (p3 + 1)) qX qB hs xn xo) (.inl Z) ?_
 rintro qC EO F6 lu D0 AO ⟨jp,l5,rfl,rfl,xp⟩
 let aq:Res:=.row bp bs 43 3 (hD wAB aZ)
 let au:Res:=.row cg cw 3 1 (hD KL.encI a8)
 let jX:Res:=.blk b7 28 [.slice aN ax.length aO,.slice aT ay.length aU,.slice bp aZ.length bs,.slice none 0 0]
 let jY:Res:=.blk ab 94 [.slice jp iV.bytes.length l5,jV iV.next,.int .u32 iV.state]
 have AP:SW w [B1] U qC [jY,B7,ai,aq,jX,.blk b3 28 B0,ap,au] lu:=AO
 refine oM Z Z (eN (zd ?_))
 have xr:=yy.le Ek
 have xt:=xr.le DZ
 have xu:=xt.le D0
 have q:=AP.freezeRR (R:=wJE) (k:=6) rfl xu rfl (by decide)
 obtain ⟨gE,D1,pZ,AS⟩:=q
 have AT:SW w [B1] U gE [jY,B7,ai,aq,jX,.blk b3 28 B0,au] lu:=AS
 have q:=bnd pE
 obtain ⟨⟨Eu,Ev,Ew,qt⟩,CY,pF⟩:=q
 try dsimp only at pF
 have q:=wAx CY
 obtain ⟨iJ,CZ⟩:=q
 replace iJ:=zN iJ
 refine CK.forN' (fun bU (bV,ej,ek,bW) σ_ w_=>∃ (U_:PHeap) (ci:Option Addr) (cx:Nat) (bD:Option Addr) (bF:Nat),σ_ 134=jV (↑bU:Int)/\σ_ 0=.pointer (some ⟨ab,0,none⟩)/\σ_ 8=.pointer (some ⟨b3,0,none⟩)/\σ_ 11=.pointer (some ⟨b7,0,none⟩)/\σ_ 12=.slice aR aY.length aS/\σ_ 13=.slice cg a8.length cw/\σ_ 133=jV cI/\PHeap.Le gE U_/\SW w [B1] U U_ [.blk ab 94 [.slice ci bV.length cx,jV ej,.int .u32 ek],B7,ai,aq,.row bD bF 39 4 (hD wAA bW),.blk b7 28 [.slice aN ax.length aO,.slice aT ay.length aU,.slice bp aZ.length bs,.slice bD bW.length bF],.blk b3 28 B0,au] w_/\Sl U_ 1 ci cx bV.length (hD KL.encB8 bV)) CZ ?_ ?_ ?_
 have AV:=AT.nilrow 39 4
 have xv:=xp.le D1
 exact ⟨gE,jp,l5,none,0,rfl,ow,vN,vO,vP,vQ,rfl,(zO _),(AV.pick [1,2,3,4,0,5,6,7] _ (by decide) rfl),xv⟩
 rintro bU ⟨bV,ej,ek,bW⟩ Gt GR lv iD ⟨eX,ci,cx,bD,bF,dR,bR,fC,bS,fD,fE,dO,fQ,AW,oX⟩ p4
 try dsimp only at p4
 have l6:Hid ((↑bU:Int) < cI):=zN (wAs iD)
 replace iD:=zN iD
 have iC:Hid (w64 ((↑bU:Int) + 1)=(↑(bU + 1):Int)):=zN (by have h1:=iJ.out;have h2:=l6.out;rw [wAW] <;> omega)
 refine sR fL1 Z (oR Z (zi Z dR dO) (eN (zL (cT Z l6 (kN (zL (zd ?_)))))))
 have q:=bnd p4
 obtain ⟨⟨fP,qq,qr,bA,bZ,aW⟩,DG,pG⟩:=q
 try dsimp only at pG
 let aG:Res:=.blk b7 28 [.slice aN ax.length aO,.slice aT ay.length aU,.slice bp aZ.length bs,.slice bD bW.length bF]
 let aH:Res:=.row bD bF 39 4 (hD wAA bW)
 let bE:List Value:=[jV bA,jV bZ,jV aW,jV 0]
 refine yP (fun σ_ w_=>∃ (U_:PHeap) (eB:Option Addr) (fk:Nat) (a6:Nat),σ_ 0=.pointer (some ⟨ab,0,none⟩)/\σ_ 8=.pointer (some ⟨b3,0,none⟩)/\σ_ 11=.pointer (some ⟨b7,0,none⟩)/\σ_ 12=.slice aR aY.length aS/\σ_ 13=.slice cg a8.length cw/\σ_ 22=.pointer (some ⟨a6,0,none⟩)/\σ_ 133=jV cI/\σ_ 134=jV (↑bU:Int)/\PHeap.Le eX U_/\SW w [B1] U U_ [.blk ab 94 [.slice eB fP.length fk,jV qq,.int .u32 qr],B7,ai,aq,aH,aG,.blk b3 28 B0,au,.blk a6 39 bE] w_/\Sl U_ 1 eB fk fP.length (hD KL.encB8 fP)) ?_ ?_
 have q:=bnd DG
 obtain ⟨⟨bJ,bB⟩,oY,pH⟩:=q
 try dsimp only at pH
 have q:=bnd pH
 obtain ⟨⟨bK,bb⟩,ip,pI⟩:=q
 try dsimp only at pI
 have q:=bnd pI
 obtain ⟨⟨bL,bg⟩,fI,dT⟩:=q
 try dsimp only at dT
 refine ZG ZH [3,3,1,3,1005,3,3,1004,3,3,1005,3,3,1004,3,0,3,2,0,ab] (wDl (wID (wKB (.fx 4 (.fx 10 (.fx 15 (.fl 16 (.fx 17 (.fx 18 .nil .stop) .stop)) (.fx 17 gAs .stop)) (.fx 17 gBa .stop)) (.fx 17 (.fx 4 gBa .stop) .stop))))) (by kernel_rfl) ?_
 have cG:=AW.drew
 generalize hw_W1886:({ lv with drawn:=lv.drawn + 1 }:World)=q7 at cG ⊢
 refine zo rfl rfl rfl rfl rfl bR (zY rfl rfl rfl rfl (fun _=>zG rfl bS zK rfl ZD) (ZF rfl rfl rfl rfl (cG.ldB (j:=5) rfl rfl rfl ZL (v:=.slice aN ax.length aO) rfl) rfl (zY rfl rfl rfl rfl (fun _=>zw rfl rfl zH) (zo rfl rfl rfl rfl rfl bR (zY rfl rfl rfl rfl (fun _=>zG rfl bS zK rfl yG) (OKS.mt (T:=[ab]) [0] [1,2,3,4,5,6,7] [B7,ai,aq,aH,aG,.blk b3 28 B0,au] rfl rfl rfl rfl cG rfl ⟨⟨0,by decide,_,rfl,rfl⟩,trivial⟩ (by decide) rfl (by decide) (fun _ CO=>(CO.ldB (j:=4) rfl rfl rfl yS (v:=.slice aT ay.length aU) rfl)) rfl (zY rfl rfl rfl rfl (fun _=>zw rfl rfl ZK) (zY rfl rfl rfl rfl (fun _=>zb rfl rfl rfl) (zo rfl rfl rfl rfl rfl bR (zY rfl rfl rfl rfl (fun _=>zG rfl bS zK rfl Zn) (OKS.mt (T:=[ab]) [0] [1,2,3,4,5,6,7] [B7,ai,aq,aH,aG,.blk b3 28 B0,au] rfl rfl rfl rfl cG rfl ⟨⟨0,by decide,_,rfl,rfl⟩,trivial⟩ (by decide) rfl (by decide) (fun _ CP=>(CP.ldB (j:=4) rfl rfl rfl yI (v:=.slice bp aZ.length bs) rfl)) rfl (zY rfl rfl rfl rfl (fun _=>zw rfl rfl ZU) (zn ?_ ?_)))))))))))))
 refine yf 1 rfl rfl rfl rfl (zD rfl rfl yB (zB rfl (zB rfl zM)) rfl) cG (fun hs=>wAS (⟨bV,ej,ek⟩:wAF) ab ci cx (↑ax.length:Int) q7 eX hs oX oY) rfl (T:=[ab]) rfl ⟨fun b h=>(by cases h;exact .head _),trivial⟩ ?_
 rintro eY EP F8 lw iQ A4 ⟨gg,gU,rfl,rfl,oZ⟩
 let jZ:Res:=.blk ab 94 [.slice gg bB.bytes.length gU,jV bB.next,.int .u32 bB.state]
 have pj:SW w [B1] U eY [jZ,B7,ai,aq,aH,aG,.blk b3 28 B0,au] lw:=A4
 refine zn ?_ ?_
 refine yf 1 rfl rfl rfl rfl (zD rfl rfl yB (zB rfl (zB rfl zM)) rfl) pj (fun hs=>wAS bB ab gg gU (w64 ((↑ay.length:Int) + 1)) lw eY hs oZ ip) rfl (T:=[ab]) rfl ⟨fun b h=>(by cases h;exact .head _),trivial⟩ ?_
 rintro eZ EQ F9 lx qj A5 ⟨gh,gV,rfl,rfl,o0⟩
 let j0:Res:=.blk ab 94 [.slice gh bb.bytes.length gV,jV bb.next,.int .u32 bb.state]
 have pk:SW w [B1] U eZ [j0,B7,ai,aq,aH,aG,.blk b3 28 B0,au] lx:=A5
 refine zn ?_ ?_
 refine zE 1 Z Z Z Z (zD Z Z yB (zB Z (zB Z zM)) Z) pk (fun hs=>wAS bb ab gh gV (↑aZ.length:Int) lx eZ hs o0 fI) (.inl Z) ?_
 rintro gF ER Ga q8 D5 A6 ⟨jq,l7,rfl,rfl,xx⟩
 let j1:Res:=.blk ab 94 [.slice jq bg.bytes.length l7,jV bg.next,.int .u32 bg.state]
 have A8:SW w [B1] U gF [j1,B7,ai,aq,aH,aG,.blk b3 28 B0,au] q8:=A6
 let gv:List Value:=[jV bJ,jV bK,jV bL,jV 0]
 let j2:List Value:=[jV 0,jV 0,jV 0,jV 0]
 refine oR Z (zl (pv:=[(0,jV bJ),(1,jV bK),(2,jV bL)]) (z:=j2) (cs:=gv) Z (wAH Z (wAH Z (wAH Z wAP))) Zj wEI Z Z) (zR (cs:=j2) Z Z Z Z Z Zj Z A8 ?_)
 intro Fi lN A9
 refine zV (j:=0) (vs:=gv) Z Z Z Z A9 Z Z Z Z ZP (zA Z) Z Z Z ?_
 intro q9 Ba
 have Bb:SW w [B1] U gF [.blk lN 39 gv,j1,B7,ai,aq,aH,aG,.blk b3 28 B0,au] q9:=Ba
 refine zc ?_
 cases dT
 exact zI ⟨rfl,⟨gF,jq,l7,lN,bR,fC,bS,fD,fE,rfl,dO,dR,((iQ.trans qj).trans D5),(Bb.pick [1,2,3,4,5,6,7,8,0] _ (by decide) rfl),xx⟩⟩
 let eV:List Value:=[jV 0,jV 0,jV 0,jV 0]
 refine zR (cs:=eV) Z Z Z Z Z Zj Z pk ?_
 intro ly fb Bc
 have Bd:SW w [B1] U eZ [j0,.blk fb 39 eV,B7,ai,aq,aH,aG,.blk b3 28 B0,au] ly:=Bc.pick [1,0,2,3,4,5,6,7,8] _ (by decide) rfl
 refine zE 1 Z Z Z Z (zD Z Z yB (zB Z (zB Z zM)) Z) Bd (fun hs=>wAS bb ab gh gV (↑aZ.length:Int) ly eZ hs o0 fI) (.inl Z) ?_
 rintro gG ES Gb rf D6 Be ⟨jr,l8,rfl,rfl,xz⟩
 let j3:Res:=.blk ab 94 [.slice jr bg.bytes.length l8,jV bg.next,.int .u32 bg.state]
 have Bf:SW w [B1] U gG [j3,.blk fb 39 eV,B7,ai,aq,aH,aG,.blk b3 28 B0,au] rf:=Be
 let gx:List Value:=[jV bJ,jV bK,jV bL,jV 0]
 refine oR Z (zl (pv:=[(0,jV bJ),(1,jV bK),(2,jV bL)]) (z:=eV) (cs:=gx) Z (wAH Z (wAH Z (wAH Z wAP))) Zj wEI Z Z) (zV (j:=1) (vs:=gx) Z Z Z Z Bf Z Z Z Z ZP (zA Z) Z Z Z ?_)
 intro rh Bg
 have Bh:SW w [B1] U gG [j3,.blk fb 39 gx,B7,ai,aq,aH,aG,.blk b3 28 B0,au] rh:=Bg
 refine zc ?_
 cases dT
 exact zI ⟨rfl,⟨gG,jr,l8,fb,bR,fC,bS,fD,fE,rfl,dO,dR,((iQ.trans qj).trans D6),(Bh.pick [0,2,3,4,5,6,7,8,1] _ (by decide) rfl),xz⟩⟩
 let dg:List Value:=[jV 0,jV 0,jV 0,jV 0]
 refine zR (cs:=dg) Z Z Z Z Z Zj Z pj ?_
 intro lz dr Bi
 have Bj:SW w [B1] U eY [jZ,.blk dr 39 dg,B7,ai,aq,aH,aG,.blk b3 28 B0,au] lz:=Bi.pick [1,0,2,3,4,5,6,7,8] _ (by decide) rfl
 refine yf 1 rfl rfl rfl rfl (zD rfl rfl yB (zB rfl (zB rfl zM)) rfl) Bj (fun hs=>wAS bB ab gg gU (w64 ((↑ay.length:Int) + 1)) lz eY hs oZ ip) rfl (T:=[ab]) rfl ⟨fun b h=>(by cases h;exact .head _),trivial⟩ ?_
 rintro lf ET Gc lA D7 Bk ⟨jt,ma,rfl,rfl,xA⟩
 have Bl:SW w [B1] U lf [.blk ab 94 [.slice jt bb.bytes.length ma,jV bb.next,.int .u32 bb.state],.blk dr 39 dg,B7,ai,aq,aH,aG,.blk b3 28 B0,au] lA:=Bk
 refine zE 1 Z Z Z Z (zD Z Z yB (zB Z (zB Z zM)) Z) Bl (fun hs=>wAS bb ab jt ma (↑aZ.length:Int) lA lf hs xA fI) (.inl Z) ?_
 rintro gH EU Gd ri D8 Bm ⟨ju,mb,rfl,rfl,xB⟩
 let j4:Res:=.blk ab 94 [.slice ju bg.bytes.length mb,jV bg.next,.int .u32 bg.state]
 have Bo:SW w [B1] U gH [j4,.blk dr 39 dg,B7,ai,aq,aH,aG,.blk b3 28 B0,au] ri:=Bm
 let gy:List Value:=[jV bJ,jV bK,jV bL,jV 0]
 refine oR Z (zl (pv:=[(0,jV bJ),(1,jV bK),(2,jV bL)]) (z:=dg) (cs:=gy) Z (wAH Z (wAH Z (wAH Z wAP))) Zj wEI Z Z) (zV (j:=1) (vs:=gy) Z Z Z Z Bo Z Z Z Z ZP (zA Z) Z Z Z ?_)
 intro rj Bp
 have Bq:SW w [B1] U gH [j4,.blk dr 39 gy,B7,ai,aq,aH,aG,.blk b3 28 B0,au] rj:=Bp
 refine zc ?_
 cases dT
 exact zI ⟨rfl,⟨gH,ju,mb,dr,bR,fC,bS,fD,fE,rfl,dO,dR,((iQ.trans D7).trans D8),(Bq.pick [0,2,3,4,5,6,7,8,1] _ (by decide) rfl),xB⟩⟩
 let cp:List Value:=[jV 0,jV 0,jV 0,jV 0]
 refine zR (cs:=cp) Z Z Z Z Z Zj Z cG ?_
 intro lB cr Br
 have Bs:SW w [B1] U eX [.blk ab 94 [.slice ci bV.length cx,jV ej,.int .u32 ek],.blk cr 39 cp,B7,ai,aq,aH,aG,.blk b3 28 B0,au] lB:=Br.pick [1,0,2,3,4,5,6,7,8] _ (by decide) rfl
 refine yf 1 rfl rfl rfl rfl (zD rfl rfl yB (zB rfl (zB rfl zM)) rfl) Bs (fun hs=>wAS (⟨bV,ej,ek⟩:wAF) ab ci cx (↑ax.length:Int) lB eX hs oX oY) rfl (T:=[ab]) rfl ⟨fun b h=>(by cases h;exact .head _),trivial⟩ ?_
 rintro lg EV Ge lC D9 Bt ⟨jw,md,rfl,rfl,xC⟩
 have Bu:SW w [B1] U lg [.blk ab 94 [.slice jw bB.bytes.length md,jV bB.next,.int .u32 bB.state],.blk cr 39 cp,B7,ai,aq,aH,aG,.blk b3 28 B0,au] lC:=Bt
 refine yf 1 rfl rfl rfl rfl (zD rfl rfl yB (zB rfl (zB rfl zM)) rfl) Bu (fun hs=>wAS bB ab jw md (w64 ((↑ay.length:Int) + 1)) lC lg hs xC ip) rfl (T:=[ab]) rfl ⟨fun b h=>(by cases h;exact .head _),trivial⟩ ?_
 rintro lh EW Gf lD Ea Bv ⟨jx,me,rfl,rfl,xD⟩
 have Bw:SW w [B1] U lh [.blk ab 94 [.slice jx bb.bytes.length me,jV bb.next,.int .u32 bb.state],.blk cr 39 cp,B7,ai,aq,aH,aG,.blk b3 28 B0,au] lD:=Bv
 refine zE 1 Z Z Z Z (zD Z Z yB (zB Z (zB Z zM)) Z) Bw (fun hs=>wAS bb ab jx me (↑aZ.length:Int) lD lh hs xD fI) (.inl Z) ?_
 rintro gI EX Gg rk Eb Bx ⟨jy,mf,rfl,rfl,xE⟩
 let j5:Res:=.blk ab 94 [.slice jy bg.bytes.length mf,jV bg.next,.int .u32 bg.state]
 have By:SW w [B1] U gI [j5,.blk cr 39 cp,B7,ai,aq,aH,aG,.blk b3 28 B0,au] rk:=Bx
 let gz:List Value:=[jV bJ,jV bK,jV bL,jV 0]
 refine oR Z (zl (pv:=[(0,jV bJ),(1,jV bK),(2,jV bL)]) (z:=cp) (cs:=gz) Z (wAH Z (wAH Z (wAH Z wAP))) Zj wEI Z Z) (zV (j:=1) (vs:=gz) Z Z Z Z By Z Z Z Z ZP (zA Z) Z Z Z ?_)
 intro ro Bz
 have BA:SW w [B1] U gI [j5,.blk cr 39 gz,B7,ai,aq,aH,aG,.blk b3 28 B0,au] ro:=Bz
 refine zc ?_
 cases dT
 exact zI ⟨rfl,⟨gI,jy,mf,cr,bR,fC,bS,fD,fE,rfl,dO,dR,((D9.trans Ea).trans Eb),(BA.pick [0,2,3,4,5,6,7,8,1] _ (by decide) rfl),xE⟩⟩
 rintro GT lE ⟨li,eB,fk,a6,ox,vS,oy,oz,oB,cA,vT,vU,fR,dS,xF⟩
 refine sR fL8 Z (oR Z (zG Z oy zK Z Zn) (oL Z (dS.ldB (j:=5) Z Z Z yI (v:=.slice bp aZ.length bs) Z) (oR Z (zG Z cA ZC Z zC) (oL Z (dS.ldB (j:=8) Z Z Z zJ (v:=jV aW) Z) (bnK pG fun _ fJ Dm=>?_)))))
 obtain ⟨Fu,o7⟩:=dS.rowSome (j:=3) rfl (by rw [wAE (f:=wAB) (sz:=3) (fun _=>rfl) aZ];have hz:=wAT fJ;omega)
 refine oR Z (Zb Z Z o7 Z ZU Zt (wBO fJ) (wBP fJ)) (oR Z (zG Z Z Zq Z zC) ?_)
 have Db:=wBA (xs:=aZ) (wAT fJ)
 refine ZF rfl rfl rfl rfl (dS.ldR (j:=3) rfl o7 rfl rfl zJ (wAV (sz:=3) (fun _=>rfl) _ _ 2 _ Db (by first | omega | rfl | simp) rfl)) rfl (yF rfl rfl rfl rfl rfl rfl (eN (zL (ZG ZH [3,3,1004,3,1004,3,1004,3,1004,3,3,1004,3,1004,3,3,3,3,3,1005,3,3,3,0,ab] (wMX (.fx 19 (wLd (.fx 23 .nil .stop)) .stop)) (by kernel_rfl) ?_))))
 have bx:=dS.drew
 generalize hw_W2138:({ lE with drawn:=lE.drawn + 1 }:World)=rp at bx ⊢
 refine zo rfl rfl rfl rfl rfl oz (zY rfl rfl rfl rfl (fun _=>zG rfl cA ZC rfl zC) (OKS.mt (T:=[ab]) [0] [1,2,3,4,5,6,7,8] [B7,ai,aq,aH,aG,.blk b3 28 B0,au,.blk a6 39 bE] rfl rfl rfl rfl bx rfl ⟨⟨0,by decide,_,rfl,rfl⟩,trivial⟩ (by decide) rfl (by decide) (fun _ CQ=>(CQ.ldB (j:=7) rfl rfl rfl zJ (v:=jV bA) rfl)) rfl (bnK Dm fun fY cB Dn=>?_)))
 have xG:=pZ.le fQ
 have o3:=xG.le fR
 have q:=o3.el (wAj cB)
 obtain ⟨rW,Er,Gr,z5,iu,DC⟩:=q
 obtain ⟨qm,qo,rfl,xH⟩:=DC
 replace iu:Cl li rW (Er + bA.toNat * 1) [.slice qm fY.length qo]:=iu
 refine zY rfl rfl rfl rfl (fun _=>Zb rfl rfl z5 rfl Try.runUnderlying29 ZD (wCk cB) (wCw cB)) (OKS.mt (T:=[ab]) [0] [1,2,3,4,5,6,7,8] [B7,ai,aq,aH,aG,.blk b3 28 B0,au,.blk a6 39 bE] rfl rfl rfl rfl bx rfl ⟨⟨0,by decide,_,rfl,rfl⟩,trivial⟩ (by decide) rfl (by decide) (fun _ CR=>(CR.ldC (f:=0) iu (v:=.slice qm fY.length qo) rfl rfl ZL rfl)) rfl (zY rfl rfl rfl rfl (fun _=>zG rfl cA ZC rfl zC) (OKS.mt (T:=[ab]) [0] [1,2,3,4,5,6,7,8] [B7,ai,aq,aH,aG,.blk b3 28 B0,au,.blk a6 39 bE] rfl rfl rfl rfl bx rfl ⟨⟨0,by decide,_,rfl,rfl⟩,trivial⟩ (by decide) rfl (by decide) (fun _ CS=>(CS.ldB (j:=7) rfl rfl rfl zJ (v:=jV bZ) rfl)) rfl (bnK Dn fun bM cC Do=>?_))))
 have q:=xH.el (fun _=>rfl) (wAj cC)
 obtain ⟨Fv,FZ,z6,z9⟩:=q
 refine zY rfl rfl rfl rfl (fun _=>Zb rfl rfl z6 rfl zH zC (wCk cC) (wCw cC)) (OKS.mt (T:=[ab]) [0] [1,2,3,4,5,6,7,8] [B7,ai,aq,aH,aG,.blk b3 28 B0,au,.blk a6 39 bE] rfl rfl rfl rfl bx rfl ⟨⟨0,by decide,_,rfl,rfl⟩,trivial⟩ (by decide) rfl (by decide) (fun _ CT=>(CT.ldC (f:=0) z9 (v:=jV bM) rfl rfl zJ rfl)) rfl (zo rfl rfl rfl rfl rfl oB (zY rfl rfl rfl rfl (fun _=>zG rfl cA ZC rfl zC) (OKS.mt (T:=[ab]) [0] [1,2,3,4,5,6,7,8] [B7,ai,aq,aH,aG,.blk b3 28 B0,au,.blk a6 39 bE] rfl rfl rfl rfl bx rfl ⟨⟨0,by decide,_,rfl,rfl⟩,trivial⟩ (by decide) rfl (by decide) (fun _ CU=>(CU.ldB (j:=7) rfl rfl rfl zJ (v:=jV aW) rfl)) rfl (bnK Do fun _ bT Dp=>?_)))))
 obtain ⟨Fw,fL⟩:=bx.rowSome (j:=7) rfl (by rw [wAE (f:=KL.encI) (sz:=1) (fun _=>rfl) a8];have hz:=wAT bT;omega)
 refine oR Z (Zb Z Z fL Z zH zC (wBO bT) (wBP bT)) ?_
 have Dc:=wBA (xs:=a8) (wAT bT)
 refine OKS.mt (T:=[ab]) [0] [1,2,3,4,5,6,7,8] [B7,ai,aq,aH,aG,.blk b3 28 B0,au,.blk a6 39 bE] rfl rfl rfl rfl bx rfl ⟨⟨0,by decide,_,rfl,rfl⟩,trivial⟩ (by decide) rfl (by decide) (fun _ CV=>(CV.ldR (j:=6) rfl fL rfl rfl zJ (wAV (sz:=1) (fun _=>rfl) _ _ 0 _ Dc (by first | omega | rfl | simp) rfl))) rfl (zY rfl rfl rfl rfl (fun _=>zb rfl rfl rfl) (zo rfl rfl rfl rfl rfl ox (zo rfl rfl rfl rfl rfl rfl (zY rfl rfl rfl rfl (fun _=>Runs.negw rfl rfl) (zo rfl rfl rfl rfl rfl rfl ?_)))))
 have q:=bnd Dp
 obtain ⟨⟨cJ,iW⟩,xI,pJ⟩:=q
 try dsimp only at pJ
 refine yf 1 rfl rfl rfl rfl (zD rfl rfl yk (zB rfl (zB rfl (zB rfl zM))) rfl) bx (fun hs=>wAZ (⟨fP,qq,qr⟩:wAF) ab eB fk (w64 (-((gd aZ aW.toNat).Error))) ((gd aZ aW.toNat).Error) rp li hs xF xI) rfl (T:=[ab]) rfl ⟨fun b h=>(by cases h;exact .head _),trivial⟩ ?_
 rintro br EY Gh rq fS BC ⟨eE,fq,rfl,rfl,iq⟩
 let dh:Res:=.blk ab 94 [.slice eE iW.bytes.length fq,jV iW.next,.int .u32 iW.state]
 have BD:SW w [B1] U br [dh,B7,ai,aq,aH,aG,.blk b3 28 B0,au,.blk a6 39 bE] rq:=BC
 refine oR Z (zb Z Z Z) (oR Z (Runs.max Z Z Z) (oR Z (zG Z cA ZC Z zC) (zV (j:=8) (vs:=[jV (max 0 (w64 ((w64 (bM + (gd a8 aW.toNat))) + cJ)))]) Z Z Z Z BD Z Z Z Z zC (zA Z) Z Z Z ?_)))
 intro gN BE
 let bP:List Value:=[jV bA,jV bZ,jV aW,jV (max 0 (w64 ((w64 (bM + (gd a8 aW.toNat))) + cJ)))]
 have BF:SW w [B1] U br [dh,B7,ai,aq,aH,aG,.blk b3 28 B0,au,.blk a6 39 bP] gN:=BE
 refine eN (zL (CK.fresh fun bC bn=>?_))
 have ib:bC 0=.pointer (some ⟨ab,0,none⟩):=(bn 0).trans ox
 have ic:bC 8=.pointer (some ⟨b3,0,none⟩):=(bn 8).trans vS
 have dP:bC 11=.pointer (some ⟨b7,0,none⟩):=(bn 11).trans oy
 have fG:bC 12=.slice aR aY.length aS:=(bn 12).trans oz
 have fH:bC 13=.slice cg a8.length cw:=(bn 13).trans oB
 have dQ:bC 22=.pointer (some ⟨a6,0,none⟩):=(bn 22).trans cA
 have oD:bC 23=jV ((gd aZ aW.toNat).Error):=(bn 23).trans rfl
 have ie:bC 133=jV cI:=(bn 133).trans vT
 have ig:bC 134=jV (↑bU:Int):=(bn 134).trans vU
 clear bn
 refine ZG ZH [3,1,3,3,1,3,1,3,1,3,1,3,3,3,1,3,1,3,3] fL19 (by kernel_rfl) ?_
 have a9:=BF.drew
 generalize hw_W2200:({ gN with drawn:=gN.drawn + 1 }:World)=Fk at a9 ⊢
 refine oR Z (zG Z dQ ZC Z zC) (oL Z (a9.ldB (j:=8) Z Z Z zJ (v:=jV (max 0 (w64 ((w64 (bM + (gd a8 aW.toNat))) + cJ)))) Z) (oM Z fG (oR Z (zG Z dQ ZC Z zC) (oL Z (a9.ldB (j:=8) Z Z Z zJ (v:=jV bA) Z) ?_))))
 have xJ:=o3.le fS
 have q:=xJ.el (wAj cB)
 obtain ⟨rX,Es,Gs,z7,iv,DD⟩:=q
 obtain ⟨qn,qp,rfl,xL⟩:=DD
 replace iv:Cl br rX (Es + bA.toNat * 1) [.slice qn fY.length qp]:=iv
 refine oR Z (Zb Z Z z7 Z Try.runUnderlying29 ZD (wCk cB) (wCw cB)) (oL Z (a9.ldC (f:=0) iv (v:=.slice qn fY.length qp) Z Z ZL Z) (oR Z (zG Z dQ ZC Z zC) (oL Z (a9.ldB (j:=8) Z Z Z zJ (v:=jV bZ) Z) ?_)))
 have q:=xL.el (fun _=>rfl) (wAj cC)
 obtain ⟨Fx,F0,z8,Aa⟩:=q
 refine oR Z (Zb Z Z z8 Z zH zC (wCk cC) (wCw cC)) (oL Z (a9.ldC (f:=0) Aa (v:=jV bM) Z Z zJ Z) (oR Z (yU Z Z Z) (oM Z fH (oR Z (zG Z dQ ZC Z zC) (oL Z (a9.ldB (j:=8) Z Z Z zJ (v:=jV aW) Z) (oR Z (Zb Z Z fL Z zH zC (wBO bT) (wBP bT)) ?_))))))
 have Dd:=wBA (xs:=a8) (wAT bT)
 refine ZF rfl rfl rfl rfl (a9.ldR (j:=7) rfl fL rfl rfl zJ (wAV (sz:=1) (fun _=>rfl) _ _ 0 _ Dd (by first | omega | rfl | simp) rfl)) rfl (zY rfl rfl rfl rfl (fun _=>yU rfl rfl rfl) (yF rfl rfl rfl rfl rfl rfl (eN (sR fL9 rfl (zo rfl rfl rfl rfl rfl rfl (zo rfl rfl rfl rfl rfl oD (zY rfl rfl rfl rfl (fun _=>Runs.negw rfl rfl) (zY rfl rfl rfl rfl (fun _=>Runs.geq rfl rfl rfl) (zo rfl rfl rfl rfl rfl rfl (ifc pJ ?_ ?_))))))))))
 intro bt Dq
 refine zo Z Z Z (wT Z bt) Z Z (zo Z Z Z (wT Z bt) Z oD (rU Z (wT Z bt) (Runs.leq Z Z Z) (oR Z (zQ Z (Zk bt.out) Z) (eN (ifc Dq ?_ ?_)))))
 intro gW Dr
 refine cT Z gW (rR (wCg (.fx 3 (.fx 4 (.fl 5 (.fx 6 .nil .stop)) .stop) .stop)) Z (oR Z (zG Z dP zK Z ZW) (oL Z (a9.ldB (j:=5) Z Z Z Zm (v:=.slice bD bW.length bF) Z) (oL Z (a9.ldBA (j:=8) Z Z dQ yc ZP (vs:=bP) Z Z) (zq (pv:=[(0,.agg bP.toArray)]) (zs:=[jV 0,jV 0,jV 0,jV 0]) (cs:=bP) Z Z Z Z Z (wAH Z wAP) zy ZP Zj Z Z Z Z Z a9 ?_)))))
 intro rv rY BG
 let gA:Res:=.row (some ⟨rY,0,none⟩) 1 39 4 (hD wAA [(⟨bA,bZ,aW,max 0 (w64 ((w64 (bM + (gd a8 aW.toNat))) + cJ))⟩:wAI)])
 have pm:SW w [B1] U br [gA,dh,B7,ai,aq,aH,aG,.blk b3 28 B0,au,.blk a6 39 bP] rv:=BG
 refine bnK Dr fun fZ xM Ds=>Zw (j:=5) (enc:=wAA) (xs:=bW) (ys:=[(⟨bA,bZ,aW,max 0 (w64 ((w64 (bM + (gd a8 aW.toNat))) + cJ))⟩:wAI)]) (zs:=fZ) rfl rfl rfl rfl rfl Try.underlying26 wHX rfl rfl rfl rfl rfl rfl pm rfl rfl rfl (pm.srcR (j:=0) rfl (by decide) (wAE (f:=wAA) (sz:=4) (fun _=>rfl) [(⟨bA,bZ,aW,max 0 (w64 ((w64 (bM + (gd a8 aW.toNat))) + cJ))⟩:wAI)])) (fun _=>rfl) (fun _=>rfl) xM rfl ?_
 intro eF ft rx BH
 let j7:Res:=.row eF ft 39 4 (hD wAA fZ)
 have BI:SW w [B1] U br [gA,dh,B7,ai,aq,j7,aG,.blk b3 28 B0,au,.blk a6 39 bP] rx:=BH
 refine oR Z (zG Z dP zK Z ZW) (zV (j:=6) (vs:=[.slice eF fZ.length ft]) Z Z Z Z BI Z Z Z Z ZW (zA Z) Z Z Z ?_)
 intro ry BJ
 have BK:SW w [B1] U br [gA,dh,B7,ai,aq,j7,.blk b7 28 [.slice aN ax.length aO,.slice aT ay.length aU,.slice bp aZ.length bs,.slice eF fZ.length ft],.blk b3 28 B0,au,.blk a6 39 bP] ry:=BJ
 refine zc (ZA (zI (rR fL2 Z (oR Z (ZM (zb Z ig Z) (congrArg (jV) iC.out)) (oM Z Z (zc ?_))))))
 cases Ds
 exact zI ⟨rfl,⟨br,eE,fq,eF,ft,rfl,ib,ic,dP,fG,fH,ie,((fQ.trans fR).trans fS),(BK.pick [1,2,3,4,5,6,7,8] _ (by decide) rfl),iq⟩⟩
 intro gW Dt
 refine cF Z gW (Zp (ZA (zI (rR fL2 Z (oR Z (ZM (zb Z ig Z) (congrArg (jV) iC.out)) (oM Z Z (zc ?_)))))))
 cases Dt
 exact zI ⟨rfl,⟨br,eE,fq,bD,bF,rfl,ib,ic,dP,fG,fH,ie,((fQ.trans fR).trans fS),(a9.pick [0,1,2,3,4,5,6,7] _ (by decide) rfl),iq⟩⟩
 intro bt Du
 refine oF Z bt (oF Z bt (oF Z bt (oR Z (ze Z (zt bt.out) Z) (eN (ZI Z (Zp (ZA (zI (rR fL2 Z (oR Z (ZM (zb Z ig Z) (congrArg (jV) iC.out)) (oM Z Z (zc ?_))))))))))))
 cases Du
 exact zI ⟨rfl,⟨br,eE,fq,bD,bF,rfl,ib,ic,dP,fG,fH,ie,((fQ.trans fR).trans fS),(a9.pick [0,1,2,3,4,5,6,7] _ (by decide) rfl),iq⟩⟩
 rintro GU Fm ⟨lj,jA,mh,gi,gX,w7,FQ,oE,v7,v9,wa,wb,Ec,pn,xO⟩
 have sc:Hid (¬ ((↑((cI:Int) - 0).toNat:Int) < cI)):=zN (wAc)
 refine sR fL1 Z (oR Z (zi Z w7 wb) (eN (zL (cF Z sc (Zc (zm (zm (ZY (zI (sR (wCg gAt) Z ?_))))))))))
 let cq:List Value:=[.slice aN ax.length aO,.slice aT ay.length aU,.slice bp aZ.length bs,.slice gi qt.length gX]
 refine oL Z (pn.ldBA (j:=5) Z Z v7 zg zW (vs:=cq) Z Z) (oM Z v9 (oM Z wa (zV (j:=6) (vs:=cq) Z Z Z Z pn Z oE Z Z zW (zA Z) Z Z Z ?_)))
 intro rz BL
 have po:SW w [B1] U lj [.blk ab 94 [.slice jA Eu.length mh,jV Ev,.int .u32 Ew],B7,ai,aq,.row gi gX 39 4 (hD wAA qt),.blk b7 28 cq,.blk b3 28 cq,au] rz:=BL
 refine oA Z Z (oA Z Z (eN (zU ?_)))
 have xP:=pZ.le Ec
 cases pF
 exact ⟨rfl,_,(wDf (rs:=[.cell 8 28,.tmp 9,.tmp 10]) (vs:=[.agg cq.toArray,.slice aR aY.length aS,.slice cg a8.length cw]) ⟨⟨_,oE,(wAq zg zW (po.blkAt (k:=6) rfl) (vs:=cq) rfl rfl)⟩,⟨rfl,⟨rfl,trivial⟩⟩⟩ rfl),lj,_,(po.pick [1,2,3,4,7,0] _ (by decide) rfl),aN,aO,aT,aU,bp,bs,gi,gX,aR,aS,cg,cw,jA,mh,rfl,rfl,xP,xO⟩
end Go.Proofs.Ytlnfbjphfoipaaa
namespace Go.Proofs.Ytlnfbjphfoipaaa
open Go.KL
set_option maxHeartbeats 4000000
theorem wEN (p0:List Int) (ah:Option Addr) (ai:Nat) (w:World) (U:PHeap) (hS:St0 w U []) (aq:Sl U 1 ah ai p0.length (hD KL.encI p0)) {r:(List Int)} (hm:wBm p0=some r):Gv Try.prog 42 [.slice ah p0.length ai] w (wBs w [] U (fun U_ L_ v=>∃ (A0:Option Addr) (c0:Nat),v=.slice A0 r.length c0/\L_=[.row A0 c0 3 1 (hD KL.encI r)])):=by
 unfold wBm at hm
 refine Gv.of Try.func42 Z Try.ntmps42 Try.results42 Z (sR fL1 Z (oA Z Z (eN (sR gAq Z (oM Z Z ?_)))))
 have an:=hS.nilrow 3 1
 have ag:sW w U U [.row none 0 3 1 (hD KL.encI ([]:List Int))] w:=an
 refine bnK hm fun x4 h5 au=>Zw (j:=0) (enc:=KL.encI) (xs:=([]:List Int)) (ys:=p0) (zs:=x4) Z Z Z Z Z ya wGx Z Z Z Z Z Z ag Z Z Z (ag.srcS aq) (fun _=>Z) (fun _=>Z) h5 Z ?_
 intro A7 c8 W9 ao
 have ap:sW w U U [.row A7 c8 3 1 (hD KL.encI x4)] W9:=ao
 refine oA Z Z (eN (zU ?_))
 have hE:=hJ au;first | subst r | cases hE
 exact ⟨Z,_,(ZV Z),U,_,ap,A7,c8,Z,Z⟩
theorem wDh (p0:List wAG) (ah:Option Addr) (ai:Nat) (w:World) (U:PHeap) (hS:St0 w U []) (aq:Sl U 2 ah ai p0.length (hD wAC p0)) {r:(List wAG)} (hm:wBK p0=some r):Gv Try.prog 43 [.slice ah p0.length ai] w (wBs w [] U (fun U_ L_ v=>∃ (A0:Option Addr) (c0:Nat),v=.slice A0 r.length c0/\L_=[.row A0 c0 41 2 (hD wAC r)])):=by
 unfold wBK at hm
 refine Gv.of Try.func43 Z Try.ntmps43 Try.results43 Z (sR fL1 Z (oA Z Z (eN (sR gAq Z (oM Z Z ?_)))))
 have an:=hS.nilrow 41 2
 have ag:sW w U U [.row none 0 41 2 (hD wAC ([]:List wAG))] w:=an
 refine bnK hm fun x4 h5 au=>Zw (j:=0) (enc:=wAC) (xs:=([]:List wAG)) (ys:=p0) (zs:=x4) Z Z Z Z Z Try.underlying24 wJV Z Z Z Z Z Z ag Z Z Z (ag.srcS aq) (fun _=>Z) (fun _=>Z) h5 Z ?_
 intro A7 c8 W9 ao
 have ap:sW w U U [.row A7 c8 41 2 (hD wAC x4)] W9:=ao
 refine oA Z Z (eN (zU ?_))
 have hE:=hJ au;first | subst r | cases hE
 exact ⟨Z,_,(ZV Z),U,_,ap,A7,c8,Z,Z⟩
theorem wDY (p0:List wAK) (ah:Option Addr) (ai:Nat) (w:World) (U:PHeap) (hS:St0 w U []) (aq:Sl U 3 ah ai p0.length (hD wAB p0)) {r:(List wAK)} (hm:wBB p0=some r):Gv Try.prog 44 [.slice ah p0.length ai] w (wBs w [] U (fun U_ L_ v=>∃ (A0:Option Addr) (c0:Nat),v=.slice A0 r.length c0/\L_=[.row A0 c0 43 3 (hD wAB r)])):=by
 unfold wBB at hm
 refine Gv.of Try.func44 Z Try.ntmps44 Try.results44 Z (sR fL1 Z (oA Z Z (eN (sR gAq Z (oM Z Z ?_)))))
 have an:=hS.nilrow 43 3
 have ag:sW w U U [.row none 0 43 3 (hD wAB ([]:List wAK))] w:=an
 refine bnK hm fun x4 h5 au=>Zw (j:=0) (enc:=wAB) (xs:=([]:List wAK)) (ys:=p0) (zs:=x4) Z Z Z Z Z Try.underlying25 wHY Z Z Z Z Z Z ag Z Z Z (ag.srcS aq) (fun _=>Z) (fun _=>Z) h5 Z ?_
 intro A7 c8 W9 ao
 have ap:sW w U U [.row A7 c8 43 3 (hD wAB x4)] W9:=ao
 refine oA Z Z (eN (zU ?_))
 have hE:=hJ au;first | subst r | cases hE
 exact ⟨Z,_,(ZV Z),U,_,ap,A7,c8,Z,Z⟩
theorem wDL (p0:List wAI) (ah:Option Addr) (ai:Nat) (w:World) (U:PHeap) (hS:St0 w U []) (aq:Sl U 4 ah ai p0.length (hD wAA p0)) {r:(List wAI)} (hm:wAt p0=some r):Gv Try.prog 45 [.slice ah p0.length ai] w (wBs w [] U (fun U_ L_ v=>∃ (A0:Option Addr) (c0:Nat),v=.slice A0 r.length c0/\L_=[.row A0 c0 39 4 (hD wAA r)])):=by
 unfold wAt at hm
 refine Gv.of Try.func45 Z Try.ntmps45 Try.results45 Z (sR fL1 Z (oA Z Z (eN (sR gAq Z (oM Z Z ?_)))))
 have an:=hS.nilrow 39 4
 have ag:sW w U U [.row none 0 39 4 (hD wAA ([]:List wAI))] w:=an
 refine bnK hm fun x4 h5 au=>Zw (j:=0) (enc:=wAA) (xs:=([]:List wAI)) (ys:=p0) (zs:=x4) Z Z Z Z Z Try.underlying26 wHX Z Z Z Z Z Z ag Z Z Z (ag.srcS aq) (fun _=>Z) (fun _=>Z) h5 Z ?_
 intro A7 c8 W9 ao
 have ap:sW w U U [.row A7 c8 39 4 (hD wAA x4)] W9:=ao
 refine oA Z Z (eN (zU ?_))
 have hE:=hJ au;first | subst r | cases hE
 exact ⟨Z,_,(ZV Z),U,_,ap,A7,c8,Z,Z⟩
theorem wBz (p0:wAD) (aj:Option Addr) (ao:Nat) (ak:Option Addr) (ap:Nat) (am:Option Addr) (aq:Nat) (an:Option Addr) (au:Nat) (w:World) (U:PHeap) (hS:St0 w U []) (bF:Sl U 1 aj ao p0.Starts.length (hD KL.encI p0.Starts)) (bG:Sl U 2 ak ap p0.Splits.length (hD wAC p0.Splits)) (bH:Sl U 3 am aq p0.Clocks.length (hD wAB p0.Clocks)) (bI:Sl U 4 an au p0.Readings.length (hD wAA p0.Readings)) {r:wAD} (hm:wAo p0=some r):Gv Try.prog 13 [.agg #[.slice aj p0.Starts.length ao,.slice ak p0.Splits.length ap,.slice am p0.Clocks.length aq,.slice an p0.Readings.length au]] w (wBs w [] U (fun U_ L_ v=>∃ (aS:Option Addr) (a9:Nat) (aT:Option Addr) (ba:Nat) (aU:Option Addr) (bb:Nat) (aV:Option Addr) (bc:Nat),v=.agg #[.slice aS r.Starts.length a9,.slice aT r.Splits.length ba,.slice aU r.Clocks.length bb,.slice aV r.Readings.length bc]/\L_=[.row aS a9 3 1 (hD KL.encI r.Starts),.row aT ba 41 2 (hD wAC r.Splits),.row aU bb 43 3 (hD wAB r.Clocks),.row aV bc 39 4 (hD wAA r.Readings)])):=by
 unfold wAo at hm
 refine Gv.of Try.func13 Z Try.ntmps13 Try.results13 Z (sR gAk Z ?_)
 let B0:List Value:=[.slice aj p0.Starts.length ao,.slice ak p0.Splits.length ap,.slice am p0.Clocks.length aq,.slice an p0.Readings.length au]
 refine zu (cs:=B0) rfl rfl rfl rfl rfl rfl (by rfl) hS ?_
 intro W1 b2 bv
 let B1:List Value:=[.slice none 0 0,.slice none 0 0,.slice none 0 0,.slice none 0 0]
 refine zR (cs:=B1) Z Z Z Z Z Zs Z bv ?_
 intro W5 b6 bD
 refine eN (zL (ZG ZH [3,1,2,3,1,2,3,1,2,3,1,2,3,0] (.fl 0 (.fl 1 (.fl 3 (.fl 4 (.fl 6 (.fl 7 (.fl 9 (.fl 10 (.fx 2 (.fx 5 (.fx 8 (.fx 11 (.fl 12 (.fx 13 .nil .stop)) .stop) .stop) .stop) .stop))))))))) (by kernel_rfl) ?_))
 have ae:=bD.drew
 generalize hw_W10:({ W5 with drawn:=W5.drawn + 1 }:World)=bf at ae ⊢
 refine oR Z (zG Z Z zK Z ZD) (oL Z (ae.ldB (j:=1) Z Z Z ZL (v:=.slice aj p0.Starts.length ao) Z) (oR Z (zG Z Z zK Z yG) (oL Z (ae.ldB (j:=1) Z Z Z yS (v:=.slice ak p0.Splits.length ap) Z) (oR Z (zG Z Z zK Z Zn) (oL Z (ae.ldB (j:=1) Z Z Z yI (v:=.slice am p0.Clocks.length aq) Z) (oR Z (zG Z Z zK Z ZW) (oL Z (ae.ldB (j:=1) Z Z Z Zm (v:=.slice an p0.Readings.length au) Z) (bnK hm fun aO bi bJ=>zE 0 Z Z Z Z (zD Z Z Try.call42 (zB Z zM) Z) ae (fun hs=>wEN p0.Starts aj ao bf U hs bF bi) (.inr Z) ?_))))))))
 rintro aX bO bU a5 aN bt ⟨av,aH,rfl,rfl⟩
 let B2:Res:=.row av aH 3 1 (hD KL.encI aO)
 have bu:sW w U aX [B2,.blk b6 28 B1,.blk b2 28 B0] a5:=bt
 have bj:=bG.le aN
 refine bnK bJ fun aP bk bK=>zE 0 Z Z Z Z (zD Z Z Try.call43 (zB Z zM) Z) bu (fun hs=>wDh p0.Splits ak ap a5 aX hs bj bk) (.inr Z) ?_
 rintro aY bP bV a6 be bw ⟨ax,aI,rfl,rfl⟩
 let B3:Res:=.row ax aI 41 2 (hD wAC aP)
 have bx:sW w U aY [B3,B2,.blk b6 28 B1,.blk b2 28 B0] a6:=bw
 have bm:=bH.le aN
 have bn:=bm.le be
 refine bnK bK fun aQ bo bL=>zE 0 Z Z Z Z (zD Z Z Try.call44 (zB Z zM) Z) bx (fun hs=>wDY p0.Clocks am aq a6 aY hs bn bo) (.inr Z) ?_
 rintro aZ bQ bW a7 bN bz ⟨ay,aJ,rfl,rfl⟩
 let B4:Res:=.row ay aJ 43 3 (hD wAB aQ)
 have bA:sW w U aZ [B4,B3,B2,.blk b6 28 B1,.blk b2 28 B0] a7:=bz
 have bp:=bI.le aN
 have bq:=bp.le be
 have br:=bq.le bN
 refine bnK bL fun aR bs bM=>zE 0 Z Z Z Z (zD Z Z Try.call45 (zB Z zM) Z) bA (fun hs=>wDL p0.Readings an au a7 aZ hs br bs) (.inr Z) ?_
 rintro aM bR bX bg bT bB ⟨az,aK,rfl,rfl⟩
 let B5:Res:=.row az aK 39 4 (hD wAA aR)
 have bC:sW w U aM [B5,B4,B3,B2,.blk b6 28 B1,.blk b2 28 B0] bg:=bB
 let B6:List Value:=[.slice av aO.length aH,.slice ax aP.length aI,.slice ay aQ.length aJ,.slice az aR.length aK]
 refine oR Z (zl (pv:=[(0,.slice av aO.length aH),(1,.slice ax aP.length aI),(2,.slice ay aQ.length aJ),(3,.slice az aR.length aK)]) (z:=B1) (cs:=B6) Z (wAH Z (wAH Z (wAH Z (wAH Z wAP)))) Zs wIN Z Z) (zV (j:=4) (vs:=B6) Z Z Z Z bC Z Z Z Z zW (zA Z) Z Z Z ?_)
 intro bh bE
 have bd:sW w U aM [B5,B4,B3,B2,.blk b6 28 B6,.blk b2 28 B0] bh:=bE
 refine eN (zU ?_)
 cases bM
 exact ⟨rfl,_,(wFg (v:=.agg B6.toArray) ⟨⟨_,rfl,(wAq zg zW (bd.blkAt (k:=4) rfl) (vs:=B6) rfl rfl)⟩,trivial⟩),aM,_,(bd.pick [3,2,1,0] _ (by decide) rfl),av,aH,ax,aI,ay,aJ,az,aK,rfl,rfl⟩
theorem wEO (p0:wAF) (ab:Nat) (ac:Option Addr) (ae:Nat) (p1:Int) (w:World) (U:PHeap) (hS:St0 w U [.blk ab 94 [.slice ac p0.bytes.length ae,jV p0.next,.int .u32 p0.state]]) (ax:Sl U 1 ac ae p0.bytes.length (hD KL.encB8 p0.bytes)) {r:Bool × wAF} (hm:wAy p0 p1=some r):Gv Try.prog 33 [.pointer (some ⟨ab,0,none⟩),jV p1] w (wBs w [.blk ab 94 [.slice ac p0.bytes.length ae,jV p0.next,.int .u32 p0.state]] U (fun U_ L_ v=>∃ (ai:Option Addr) (am:Nat),v=.bool r.1/\L_=[.blk ab 94 [.slice ai r.2.bytes.length am,jV r.2.next,.int .u32 r.2.state]]/\Sl U_ 1 ai am r.2.bytes.length (hD KL.encB8 r.2.bytes))):=by
 unfold wAy at hm
 refine Gv.of Try.func33 Z Try.ntmps33 Try.results33 Z (sR fL1 Z (oA Z Z (eN (sR gBd Z (oM Z Z (oM Z Z ?_))))))
 have q:=bnd hm
 obtain ⟨⟨x2,x3⟩,h4,an⟩:=q
 try dsimp only at an
 refine zE 1 Z Z Z Z (zD Z Z yB (zB Z (zB Z zM)) Z) hS (fun hs=>wAS p0 ab ac ae p1 w U hs ax h4) (.inl Z) ?_
 rintro U6 L7 v8 W9 az au ⟨ah,ak,rfl,rfl,ap⟩
 have av:SW w [.blk ab 94 [.slice ac p0.bytes.length ae,jV p0.next,.int .u32 p0.state]] U U6 [.blk ab 94 [.slice ah x3.bytes.length ak,jV x3.next,.int .u32 x3.state]] W9:=au
 refine oR Z (yJ Z Z Z) (oA Z Z (eN (zU ?_)))
 cases an
 exact ⟨Z,_,(ZV Z),U6,_,av,ah,ak,Z,Z,ap⟩
theorem wCj (p0:wAF) (af:Nat) (aP:Option Addr) (aQ:Nat) (p1:wAD) (aY:Option Addr) (a7:Nat) (aZ:Option Addr) (a8:Nat) (a5:Option Addr) (a9:Nat) (a6:Option Addr) (ba:Nat) (w:World) (U:PHeap) (hS:St0 w U [.blk af 94 [.slice aP p0.bytes.length aQ,jV p0.next,.int .u32 p0.state]]) (cU:Sl U 1 aP aQ p0.bytes.length (hD KL.encB8 p0.bytes)) (cV:Sl U 1 aY a7 p1.Starts.length (hD KL.encI p1.Starts)) (cW:Sl U 2 aZ a8 p1.Splits.length (hD wAC p1.Splits)) (cX:Sl U 3 a5 a9 p1.Clocks.length (hD wAB p1.Clocks)) (cY:Sl U 4 a6 ba p1.Readings.length (hD wAA p1.Readings)) {r:wAD × wAF} (hm:wBd p0 p1=some r):Gv Try.prog 10 [.pointer (some ⟨af,0,none⟩),.agg #[.slice aY p1.Starts.length a7,.slice aZ p1.Splits.length a8,.slice a5 p1.Clocks.length a9,.slice a6 p1.Readings.length ba]] w (wBs w [.blk af 94 [.slice aP p0.bytes.length aQ,jV p0.next,.int .u32 p0.state]] U (fun U_ L_ v=>∃ (br:Option Addr) (bF:Nat) (bs:Option Addr) (bG:Nat) (bt:Option Addr) (bH:Nat) (bu:Option Addr) (bI:Nat) (bx:Option Addr) (bM:Nat),v=.agg #[.slice br r.1.Starts.length bF,.slice bs r.1.Splits.length bG,.slice bt r.1.Clocks.length bH,.slice bu r.1.Readings.length bI]/\L_=[.row br bF 3 1 (hD KL.encI r.1.Starts),.row bs bG 41 2 (hD wAC r.1.Splits),.row bt bH 43 3 (hD wAB r.1.Clocks),.row bu bI 39 4 (hD wAA r.1.Readings),.blk af 94 [.slice bx r.2.bytes.length bM,jV r.2.next,.int .u32 r.2.state]]/\Sl U_ 1 bx bM r.2.bytes.length (hD KL.encB8 r.2.bytes))):=by
 unfold wBd at hm
 refine Gv.of Try.func10 Z Try.ntmps10 Try.results10 Z (sR gAk Z ?_)
 let B0:List Value:=[.slice aY p1.Starts.length a7,.slice aZ p1.Splits.length a8,.slice a5 p1.Clocks.length a9,.slice a6 p1.Readings.length ba]
 refine zu (cs:=B0) rfl rfl rfl rfl rfl rfl (by rfl) hS ?_
 intro W2 b3 cM
 let B1:List Value:=[.slice none 0 0,.slice none 0 0,.slice none 0 0,.slice none 0 0]
 refine zR (cs:=B1) Z Z Z Z Z Zs Z cM ?_
 intro W6 b7 bV
 refine eN (sR (.fl 0 (.fx 1 (.fx 2 .nil .stop) .stop)) Z (oL Z (bV.ldBA (j:=1) Z Z Z zg zW (vs:=B0) Z Z) (bnK hm fun ab cu de=>zE 0 Z Z Z Z (zD Z Z Try.call13 (zB Z zM) Z) bV (fun hs=>wBz p1 aY a7 aZ a8 a5 a9 a6 ba W6 U hs cV cW cX cY cu) (.inr Z) ?_)))
 rintro aS dq dA ci di cI ⟨au,az,av,aG,ax,aH,ag,ah,rfl,rfl⟩
 let B2:Res:=.blk af 94 [.slice aP p0.bytes.length aQ,jV p0.next,.int .u32 p0.state]
 let B3:Res:=.row ax aH 43 3 (hD wAB ab.Clocks)
 let B4:Res:=.row av aG 41 2 (hD wAC ab.Splits)
 let B5:Res:=.row au az 3 1 (hD KL.encI ab.Starts)
 let B6:Res:=.row ag ah 39 4 (hD wAA ab.Readings)
 have cK:SW w [B2] U aS [B5,B4,B3,B6,.blk b7 28 B1,.blk b3 28 B0,B2] ci:=cI
 let B7:List Value:=[.slice au ab.Starts.length az,.slice av ab.Splits.length aG,.slice ax ab.Clocks.length aH,.slice ag ab.Readings.length ah]
 refine zV (j:=5) (vs:=B7) Z Z Z Z cK Z Z Z Z zW (zA Z) Z Z Z ?_
 intro cn cL
 have bU:SW w [B2] U aS [B5,B4,B3,B6,.blk b7 28 B1,.blk b3 28 B7,B2] cn:=cL
 refine eN (zL (sR fL4 Z (oR Z (zG Z Z zK Z ZW) (oL Z (bU.ldB (j:=5) Z Z Z Zm (v:=.slice ag ab.Readings.length ah) Z) (oR Z (zw Z Z zy) (oM Z Z (eN (zd ?_))))))))
 have q:=bnd de
 obtain ⟨⟨cd,dk,dl,dm⟩,cZ,bY⟩:=q
 try dsimp only at bY
 have q:=wAx cZ
 obtain ⟨bp,c6⟩:=q
 replace bp:=zN bp
 refine CK.forN' (fun ac (aa,aM,bc,bd) σ_ w_=>∃ (U_:PHeap) (aN:Option Addr) (aO:Nat),σ_ 11=jV (↑ac:Int)/\σ_ 0=.pointer (some ⟨af,0,none⟩)/\σ_ 3=.pointer (some ⟨b3,0,none⟩)/\σ_ 4=.pointer (some ⟨b7,0,none⟩)/\σ_ 10=jV (↑ab.Readings.length:Int)/\PHeap.Le aS U_/\SW w [B2] U U_ [.blk b7 28 B1,B5,B4,B3,.row ag ah 39 4 (hD wAA aa),.blk b3 28 [.slice au ab.Starts.length az,.slice av ab.Splits.length aG,.slice ax ab.Clocks.length aH,.slice ag aa.length ah],.blk af 94 [.slice aN aM.length aO,jV bc,.int .u32 bd]] w_/\aa.length=ab.Readings.length/\Sl U_ 1 aN aO aM.length (hD KL.encB8 aM)) c6 ?_ ?_ ?_
 have cz:=cU.le di
 exact ⟨aS,aP,aQ,rfl,rfl,rfl,rfl,rfl,(zO _),(bU.pick [4,0,1,2,3,5,6] _ (by decide) rfl),rfl,cz⟩
 rintro ac ⟨aa,aM,bc,bd⟩ dE dG bE bo ⟨bC,aN,aO,aW,aU,aV,bO,bn,cb,cN,bQ,cA⟩ ca
 try dsimp only at ca
 have bL:Hid ((↑ac:Int) < (↑ab.Readings.length:Int)):=zN (wAs bo)
 replace bo:=zN bo
 have bW:Hid (w64 ((↑ac:Int) + 1)=(↑(ac + 1):Int)):=zN (by have h1:=bp.out;have h2:=bL.out;rw [wAW] <;> omega)
 refine sR fL1 Z (oR Z (zi Z aW bn) (eN (zL (cT Z bL (kN (zL (zd (sR fL2 Z (oM Z aW (oA Z Z (eN (sR gAl Z (oM Z aU ?_)))))))))))))
 have q:=bnd ca
 obtain ⟨⟨dD,be⟩,cB,bZ⟩:=q
 try dsimp only at bZ
 let B8:Res:=.blk b3 28 [.slice au ab.Starts.length az,.slice av ab.Splits.length aG,.slice ax ab.Clocks.length aH,.slice ag aa.length ah]
 let B9:Res:=.row ag ah 39 4 (hD wAA aa)
 have cO:SW w [B2] U bC [.blk af 94 [.slice aN aM.length aO,jV bc,.int .u32 bd],.blk b7 28 B1,B5,B4,B3,B9,B8] bE:=cN.pick [6,0,1,2,3,4,5] _ (by decide) rfl
 refine zE 1 Z Z Z Z (zD Z Z Try.call33 (zB Z (zB Z zM)) Z) cO (fun hs=>wEO (⟨aM,bc,bd⟩:wAF) af aN aO 5 bE bC hs cA cB) (.inl Z) ?_
 rintro bi dt dC bj cc cP ⟨bf,bk,rfl,rfl,bP⟩
 have bR:SW w [B2] U bi [.blk af 94 [.slice bf be.bytes.length bk,jV be.next,.int .u32 be.state],.blk b7 28 B1,B5,B4,B3,B9,B8] bj:=cP
 refine eN (ifc bZ ?_ ?_)
 intro bm dd
 refine ZT (congrArg hH bm.out) (ZG ZH [3,1004,3,3,1004,3,3,3,1004,3,1005,3,3,3,3,0,af] (wJB (.fx 10 (wKB (.fx 15 .nil .stop)) .stop)) (by kernel_rfl) ?_)
 have aL:=bR.drew
 generalize hw_W135:({ bj with drawn:=bj.drawn + 1 }:World)=cf at aL ⊢
 refine zY rfl rfl rfl rfl (fun _=>zG rfl aV zK rfl ZW) (OKS.mt (T:=[af]) [0] [1,2,3,4,5,6] [.blk b7 28 B1,B5,B4,B3,B9,B8] rfl rfl rfl rfl aL rfl ⟨⟨0,by decide,_,rfl,rfl⟩,trivial⟩ (by decide) rfl (by decide) (fun _ cQ=>(cQ.ldB (j:=5) rfl rfl rfl Zm (v:=.slice ag aa.length ah) rfl)) rfl (zo rfl rfl rfl rfl rfl rfl (zY rfl rfl rfl rfl (fun _=>zG rfl aV zK rfl ZW) (OKS.mt (T:=[af]) [0] [1,2,3,4,5,6] [.blk b7 28 B1,B5,B4,B3,B9,B8] rfl rfl rfl rfl aL rfl ⟨⟨0,by decide,_,rfl,rfl⟩,trivial⟩ (by decide) rfl (by decide) (fun _ cR=>(cR.ldB (j:=5) rfl rfl rfl Zm (v:=.slice ag aa.length ah) rfl)) rfl (zo rfl rfl rfl rfl rfl rfl (bnK dd fun _ aK df=>?_))))))
 obtain ⟨dw,aX⟩:=aL.rowSome (j:=5) rfl (by rw [wAE (f:=wAA) (sz:=4) (fun _=>rfl) aa];have hz:=wAT aK;omega)
 refine oR Z (Zh Z Z aX Z zy ZP (wAT aK)) (oR Z (zG Z Z ZC Z zC) ?_)
 have da:=wBA (xs:=aa) (wAT aK)
 refine OKS.mt (T:=[af]) [0] [1,2,3,4,5,6] [.blk b7 28 B1,B5,B4,B3,B9,B8] rfl rfl rfl rfl aL rfl ⟨⟨0,by decide,_,rfl,rfl⟩,trivial⟩ (by decide) rfl (by decide) (fun _ cS=>(cS.ldR (j:=4) rfl aX rfl rfl zJ (wAV (sz:=4) (fun _=>rfl) _ _ 3 _ da (by first | omega | rfl | simp) rfl))) rfl (zo rfl rfl rfl rfl rfl aU ?_)
 have q:=bnd df
 obtain ⟨⟨bb,bq⟩,cw,bX⟩:=q
 try dsimp only at bX
 refine yf 1 rfl rfl rfl rfl (zD rfl rfl yk (zB rfl (zB rfl (zB rfl zM))) rfl) aL (fun hs=>wAZ be af bf bk (-400) 400 cf bi hs bP cw) rfl (T:=[af]) rfl ⟨fun b h=>(by cases h;exact .head _),trivial⟩ ?_
 rintro aT dr dB cg dh cC ⟨bv,bJ,rfl,rfl,cx⟩
 let aR:Res:=.blk af 94 [.slice bv bq.bytes.length bJ,jV bq.next,.int .u32 bq.state]
 have cD:SW w [B2] U aT [aR,.blk b7 28 B1,B5,B4,B3,B9,B8] cg:=cC
 refine oR Z (zb Z Z Z) (oR Z (Runs.max Z Z Z) (oR Z (Zh Z Z aX Z zy ZP (wAT aK)) (oR Z (zG Z Z ZC Z zC) ?_)))
 have db:=wBA (xs:=aa) (wAT aK)
 refine yW (j:=5) (vs:=[jV (max 0 (w64 (((gd aa ac).Time) + bb)))]) (cs':=hD wAA (nH aa ac (⟨(gd aa ac).Skier,(gd aa ac).Mat,(gd aa ac).Clock,max 0 (w64 (((gd aa ac).Time) + bb))⟩:wAI))) rfl rfl rfl rfl cD rfl aX rfl rfl rfl zC (by rw [wAE (f:=wAA) (sz:=4) (fun _=>rfl)];have hz:=wAT aK;show _ + 1 <= _;first | omega | (simp only [nK];omega) | (simp only [nI,nB,nD];omega)) rfl (wBt (sz:=4) (fo:=3) (fun _=>rfl) _ _ _ _ db (by first | omega | (simp only [nK];omega) | (simp only [nI,nB,nD];omega)) (zA rfl) rfl) rfl ?_
 intro bD cE
 let bh:Res:=.row ag ah 39 4 (hD wAA (nH aa ac (⟨(gd aa ac).Skier,(gd aa ac).Mat,(gd aa ac).Clock,max 0 (w64 (((gd aa ac).Time) + bb))⟩:wAI)))
 have cG:SW w [B2] U aT [aR,.blk b7 28 B1,B5,B4,B3,bh,B8] bD:=cE
 have cH:SW w [B2] U aT [aR,.blk b7 28 B1,B5,B4,B3,bh,.blk b3 28 [.slice au ab.Starts.length az,.slice av ab.Splits.length aG,.slice ax ab.Clocks.length aH,.slice ag ((nH aa ac (⟨(gd aa ac).Skier,(gd aa ac).Mat,(gd aa ac).Clock,max 0 (w64 (((gd aa ac).Time) + bb))⟩:wAI)).length) ah]] bD:=by simpa only [B1,aR,bh,B2,B3,B4,B5,B8,nJ] using cG
 refine zc (ZA (zI (rR fL2 Z (oR Z (ZM (zb Z aW Z) (congrArg (jV) bW.out)) (oM Z Z (zc ?_))))))
 cases bX
 exact zI ⟨rfl,⟨aT,bv,bJ,rfl,aU,aV,bO,bn,((cb.trans cc).trans dh),(cH.pick [1,2,3,4,5,6,0] _ (by decide) rfl),(nJ.trans bQ),cx⟩⟩
 intro bm dg
 refine ZI (congrArg hH (nA.2 bm.out)) (Zp (ZA (zI (rR fL2 Z (oR Z (ZM (zb Z aW Z) (congrArg (jV) bW.out)) (oM Z Z (zc ?_)))))))
 cases dg
 exact zI ⟨rfl,⟨bi,bf,bk,rfl,aU,aV,bO,bn,(cb.trans cc),(bR.pick [1,2,3,4,5,6,0] _ (by decide) rfl),bQ,bP⟩⟩
 rintro dF du ⟨bB,bw,bK,ct,dx,cq,bN,cr,dz,bS,dy,cy⟩
 have cp:Hid (¬ ((↑(((↑ab.Readings.length:Int):Int) - 0).toNat:Int) < (↑ab.Readings.length:Int))):=zN (wAc)
 refine sR fL1 Z (oR Z (zi Z ct cr) (eN (zL (cF Z cp (Zc (zm (zm (ZY (zI (sR gAl Z ?_))))))))))
 let aI:List Value:=[.slice au ab.Starts.length az,.slice av ab.Splits.length aG,.slice ax ab.Clocks.length aH,.slice ag cd.length ah]
 refine oL Z (bS.ldBA (j:=5) Z Z cq zg zW (vs:=aI) Z Z) (zV (j:=0) (vs:=aI) Z Z Z Z bS Z bN Z Z zW (zA Z) Z Z Z ?_)
 intro cm cJ
 have bT:SW w [B2] U bB [.blk b7 28 aI,B5,B4,B3,.row ag ah 39 4 (hD wAA cd),.blk b3 28 aI,.blk af 94 [.slice bw dk.length bK,jV dl,.int .u32 dm]] cm:=cJ
 refine eN (zU ?_)
 cases bY
 exact ⟨rfl,_,(wFg (v:=.agg aI.toArray) ⟨⟨_,bN,(wAq zg zW (bT.blkAt (k:=0) rfl) (vs:=aI) rfl rfl)⟩,trivial⟩),bB,_,(bT.pick [1,2,3,4,6] _ (by decide) rfl),au,az,av,aG,ax,aH,ag,ah,bw,bK,rfl,rfl,cy⟩
theorem wFa (p0:Int) (p1:Int) (w:World) (U:PHeap) (hS:St0 w U [])  {r:Int} (hm:wCD p0 p1=some r):Gv Try.prog 11 [jV p0,jV p1] w (wBs w [] U (fun U_ L_ v=>v=jV r/\L_=[])):=by
 unfold wCD at hm
 refine Gv.of Try.func11 Z Try.ntmps11 Try.results11 Z (sR fL1 Z (oA Z Z (eN (zL (sR fL2 Z (oM Z Z (oR Z (Runs.leq Z Z Z) (eN ?_))))))))
 by_cases c1:p1 <= 0
 have ac:=hm;rw [if_pos c1] at ac;replace c1:=zN c1
 refine cT Z c1 (sR fL1 Z (oA Z Z (eN (zU (za ?_)))))
 cases ac
 exact ⟨Z,_,(ZV Z),U,_,hS,Z,Z⟩
 have ae:=hm;rw [if_neg c1] at ae;replace c1:=zN c1
 refine cF Z c1 (kN (sR fL8 Z (oM Z Z (oM Z Z (bnK ae fun x4 h5 ai=>oR Z (Runs.rem Z Z Z h5) (oM Z Z (oR Z (zb Z Z Z) (oM Z Z (bnK ai fun x7 h8 aj=>oR Z (Runs.rem Z Z Z h8) (oA Z Z (eN (zU ?_))))))))))))
 have hE:=hJ aj;first | subst r | cases hE
 exact ⟨Z,_,(ZV Z),U,_,hS,Z,Z⟩
theorem wCo (p0:wAF) (aj:Nat) (aG:Option Addr) (aH:Nat) (p1:Int) (w:World) (U:PHeap) (hS:St0 w U [.blk aj 94 [.slice aG p0.bytes.length aH,jV p0.next,.int .u32 p0.state]]) (bU:Sl U 1 aG aH p0.bytes.length (hD KL.encB8 p0.bytes)) {r:(List Int) × wAF} (hm:wAm p0 p1=some r):Gv Try.prog 12 [.pointer (some ⟨aj,0,none⟩),jV p1] w (wBs w [.blk aj 94 [.slice aG p0.bytes.length aH,jV p0.next,.int .u32 p0.state]] U (fun U_ L_ v=>∃ (A0:Option Addr) (c0:Nat) (a5:Option Addr) (bd:Nat),v=.slice A0 r.1.length c0/\L_=[.row A0 c0 3 1 (hD KL.encI r.1),.blk aj 94 [.slice a5 r.2.bytes.length bd,jV r.2.next,.int .u32 r.2.state]]/\Sl U_ 1 a5 bd r.2.bytes.length (hD KL.encB8 r.2.bytes))):=by
 unfold wAm at hm
 refine Gv.of Try.func12 Z Try.ntmps12 Try.results12 Z (sR fL1 Z (oA Z Z (eN (sR fL1 Z (oA Z Z (eN (zL (sR fL3 Z (oM Z Z (oR Z (Runs.max Z Z Z) (oM Z Z (eN (zd (bnK hm fun cw bW cm=>?_))))))))))))))
 have q:=wAx bW
 obtain ⟨aS,bX⟩:=q
 replace aS:=zN aS
 let B0:Res:=.blk aj 94 [.slice aG p0.bytes.length aH,jV p0.next,.int .u32 p0.state]
 refine CK.forN' (fun ai ay σ_ w_=>∃ (U_:PHeap) (aI:Option Addr) (aK:Nat),σ_ 11=jV (↑ai:Int)/\σ_ 0=.pointer (some ⟨aj,0,none⟩)/\σ_ 5=.slice aI ay.length aK/\σ_ 10=jV (max 0 p1)/\PHeap.Le U U_/\SW w [B0] U U_ [B0,.row aI aK 3 1 (hD KL.encI ay)] w_) bX ?_ ?_ ?_
 have bO:=hS.nilrow 3 1
 exact ⟨U,none,0,rfl,rfl,rfl,rfl,(zO _),(bO.pick [1,0] _ (by decide) rfl)⟩
 rintro ai ay cE cH cz aR ⟨aO,aI,aK,aQ,bx,bz,bf,cr,bP⟩ co
 have bb:Hid ((↑ai:Int) < (max 0 p1)):=zN (wAs aR)
 replace aR:=zN aR
 have cc:Hid (w64 ((↑ai:Int) + 1)=(↑(ai + 1):Int)):=zN (by have h1:=aS.out;have h2:=bb.out;rw [wAW] <;> omega)
 refine sR fL1 Z (oR Z (zi Z aQ bf) (eN (zL (cT Z bb (kN (zL (zd (sR fL2 Z (oM Z aQ (oA Z Z (eN (rR gBb Z (oM Z bz (oM Z Z (zq (pv:=[(0,jV (↑ai:Int))]) (zs:=[jV 0]) (cs:=[jV (↑ai:Int)]) Z Z Z Z Z (wAH Z wAP) zH zC ZB Z Z Z Z Z bP ?_)))))))))))))))
 intro bs bu bQ
 let B1:Res:=.row (some ⟨bu,0,none⟩) 1 3 1 (hD KL.encI [(↑ai:Int)])
 have bj:SW w [B0] U aO [B1,B0,.row aI aK 3 1 (hD KL.encI ay)] bs:=bQ
 refine bnK co fun bo bH cn=>Zw (j:=2) (enc:=KL.encI) (xs:=ay) (ys:=[(↑ai:Int)]) (zs:=bo) rfl rfl rfl rfl rfl ya wGx rfl rfl rfl rfl rfl rfl bj rfl rfl rfl (bj.srcR (j:=0) rfl (by decide) (wAE (f:=KL.encI) (sz:=1) (fun _=>rfl) [(↑ai:Int)])) (fun _=>rfl) (fun _=>rfl) bH rfl ?_
 intro aZ bc bt bR
 have bS:SW w [B0] U aO [B1,B0,.row aZ bc 3 1 (hD KL.encI bo)] bt:=bR
 refine oA Z Z (zc (ZA (zI (rR fL2 Z (oR Z (ZM (zb Z aQ Z) (congrArg (jV) cc.out)) (oM Z Z (zc ?_)))))))
 cases cn
 exact zI ⟨rfl,⟨aO,aZ,bc,rfl,bx,rfl,bf,cr,(bS.pick [1,2] _ (by decide) rfl)⟩⟩
 rintro cI cA ⟨a8,ae,af,bC,bA,bg,bB,ct,bT⟩
 have bv:Hid (¬ ((↑((max 0 p1:Int) - 0).toNat:Int) < (max 0 p1))):=zN (wAc)
 refine sR fL1 Z (oR Z (zi Z bC bB) (eN (zL (cF Z bv (Zc (zm (zm (ZY (zI (zL (sR fL4 Z (oM Z bg (oR Z (zw Z Z zH) (oR Z (yU Z Z Z) (oA Z Z (eN (zd (CK.iter (fun (az,aV,aW,aa,ab) σ_ w_=>∃ (U_:PHeap) (aq:Option Addr) (au:Nat),σ_ 0=.pointer (some ⟨aj,0,none⟩)/\σ_ 5=.slice ae aa.length af/\σ_ 7=jV ab/\PHeap.Le a8 U_/\SW w [B0] U U_ [.blk aj 94 [.slice aq az.length au,jV aV,.int .u32 aW],.row ae af 3 1 (hD KL.encI aa)] w_/\Sl U_ 1 aq au az.length (hD KL.encB8 az)/\aa.length=cw.length) cm ?_ ?_))))))))))))))))))
 have bD:=bU.le ct
 exact ⟨a8,aG,aH,bA,bg,Z,(zO _),bT,bD,Z⟩
 rintro ⟨az,aV,aW,aa,ab⟩ cD cG bp ⟨a7,aq,au,be,ao,av,cp,bi,bh,bE⟩ aT bV
 try dsimp only at aT
 refine zL (sR fL2 Z (oM Z av (oR Z (Runs.gtr Z Z Z) (eN ?_))))
 by_cases ak:0 < ab
 have bk:=aT;rw [if_pos ak] at bk;replace ak:=zN ak
 refine cT Z ak (kN (zL (zd (sR (wCg gAi) Z (oM Z be (oM Z av (oR Z (zb Z Z Z) ?_)))))))
 have q:=bnd bk
 obtain ⟨⟨ac,aU⟩,bF,bm⟩:=q
 try dsimp only at bm
 refine zE 1 Z Z Z Z (zD Z Z yB (zB Z (zB Z zM)) Z) bi (fun hs=>wAS (⟨az,aV,aW⟩:wAF) aj aq au (w64 (ab + 1)) bp a7 hs bh bF) (.inl Z) ?_
 rintro aJ cx cC aP cq bI ⟨aY,ba,rfl,rfl,bG⟩
 let B2:Res:=.blk aj 94 [.slice aY aU.bytes.length ba,jV aU.next,.int .u32 aU.state]
 have bJ:SW w [B0] U aJ [B2,.row ae af 3 1 (hD KL.encI aa)] aP:=bI
 refine yF rfl rfl rfl rfl rfl rfl (eN (ZG ZH [3,3,3,3,3,3,3,1,3,3,3,1,3,0,3,0] (wMS (.fx 13 (.fl 14 (.fx 15 .nil .stop)) .stop)) (by kernel_rfl) ?_))
 have ax:=bJ.drew
 generalize hw_W135:({ aP with drawn:=aP.drawn + 1 }:World)=cy at ax ⊢
 refine oM Z ao (oM Z av (oM Z ao (oM Z Z (oM Z ao (oM Z Z (bnK bm fun _ aL cd=>?_))))))
 obtain ⟨cB,am⟩:=ax.rowSome (j:=1) rfl (by rw [wAE (f:=KL.encI) (sz:=1) (fun _=>rfl) aa];have hz:=wAT aL;omega)
 refine oR Z (Zb Z Z am Z zH zC (wBO aL) (wBP aL)) ?_
 have bY:=wBA (xs:=aa) (wAT aL)
 refine ZF rfl rfl rfl rfl (ax.ldR (j:=1) rfl am rfl rfl zJ (wAV (sz:=1) (fun _=>rfl) _ _ 0 _ bY (by first | omega | rfl | simp) rfl)) rfl (zo rfl rfl rfl rfl rfl ao (zo rfl rfl rfl rfl rfl av (bnK cd fun _ an cf=>zY rfl rfl rfl rfl (fun _=>Zb rfl rfl am rfl zH zC (wBO an) (wBP an)) ?_)))
 have bZ:=wBA (xs:=aa) (wAT an)
 refine ZF rfl rfl rfl rfl (ax.ldR (j:=1) rfl am rfl rfl zJ (wAV (sz:=1) (fun _=>rfl) _ _ 0 _ bZ (by first | omega | rfl | simp) rfl)) rfl (zY rfl rfl rfl rfl (fun _=>Zb rfl rfl am rfl zH zC (wBO an) (wBP an)) ?_)
 have ca:=wBA (xs:=aa) (wAT an)
 refine yW (j:=1) (vs:=[jV (gd aa ac.toNat)]) (cs':=hD KL.encI (nH aa ab.toNat (gd aa ac.toNat))) rfl rfl rfl rfl ax rfl am rfl rfl rfl zC (by rw [wAE (f:=KL.encI) (sz:=1) (fun _=>rfl)];have hz:=wAT an;show _ + 1 <= _;first | omega | (simp only [nK];omega) | (simp only [nI,nB,nD];omega)) rfl (wBt (sz:=1) (fo:=0) (fun _=>rfl) _ _ _ _ ca (by first | omega | (simp only [nK];omega) | (simp only [nI,nB,nD];omega)) (zA rfl) rfl) rfl ?_
 intro bq bK
 have bL:SW w [B0] U aJ [B2,.row ae af 3 1 (hD KL.encI (nH aa ab.toNat (gd aa ac.toNat)))] bq:=bK
 refine bnK cf fun _ aM cg=>zY rfl rfl rfl rfl (fun _=>Zb rfl (Eq.trans (b:=(.slice ae aa.length af:Value)) (c:=(.slice ae ((nH aa ab.toNat (gd aa ac.toNat)).length) af:Value)) rfl (by simp only [nJ])) am rfl zH zC (wBO aM) (wBP aM)) ?_
 have cb:=wBA (xs:=(nH aa ab.toNat (gd aa ac.toNat))) (wAT aM)
 refine yW (j:=1) (vs:=[jV (gd aa ab.toNat)]) (cs':=hD KL.encI (nH (nH aa ab.toNat (gd aa ac.toNat)) ac.toNat (gd aa ab.toNat))) rfl rfl rfl rfl bL rfl am rfl rfl rfl zC (by rw [wAE (f:=KL.encI) (sz:=1) (fun _=>rfl)];have hz:=wAT aM;show _ + 1 <= _;first | omega | (simp only [nK];omega) | (simp only [nI,nB,nD];omega)) rfl (wBt (sz:=1) (fo:=0) (fun _=>rfl) _ _ _ _ cb (by first | omega | (simp only [nK];omega) | (simp only [nI,nB,nD];omega)) (zA rfl) rfl) rfl ?_
 intro br bM
 have bN:SW w [B0] U aJ [B2,.row ae af 3 1 (hD KL.encI (nH (nH aa ab.toNat (gd aa ac.toNat)) ac.toNat (gd aa ab.toNat)))] br:=bM
 refine zc (ZA (zI (rR fL3 Z (oM Z av (oR Z (yU Z Z Z) (oA Z Z (zc ?_)))))))
 have q:=hJ cg
 obtain rfl:=q
 exact zI ⟨rfl,_,rfl,⟨aJ,aY,ba,be,(Eq.trans (b:=(.slice ae ((nH aa ab.toNat (gd aa ac.toNat)).length) af:Value)) (c:=(.slice ae ((nH (nH aa ab.toNat (gd aa ac.toNat)) ac.toNat (gd aa ab.toNat)).length) af:Value)) (Eq.trans (b:=(.slice ae aa.length af:Value)) (c:=(.slice ae ((nH aa ab.toNat (gd aa ac.toNat)).length) af:Value)) ao (by simp only [nJ])) (by simp only [nJ])),rfl,(cp.trans cq),bN,bG,((nJ.trans nJ).trans bE)⟩⟩
 have bn:=aT;rw [if_neg ak] at bn;replace ak:=zN ak
 refine cF Z ak (Zc (zm ?_))
 have q:=wAh bn
 obtain ⟨cu,ci,bw⟩:=q
 have q:=bV cu bw
 obtain rfl:=q
 refine zm (ZY (zI (sR fL2 Z (oM Z ao (oA Z Z (eN (zU ?_)))))))
 cases ci
 exact ⟨rfl,_,(ZV rfl),a7,_,(bi.pick [1,0] _ (by decide) rfl),ae,af,aq,au,rfl,rfl,bh⟩
theorem wAg (p0:Int) (p1:Int) (w:World) (U:PHeap) (hS:St0 w U [])  {r:wAO} (hm:wAa p0 p1=some r):Gv Try.prog 16 [jV p0,jV p1] w (wBs w [] U (fun U_ L_ v=>v=.agg #[jV r.Skier,jV r.Mat]/\L_=[])):=by
 unfold wAa at hm
 refine Gv.of Try.func16 Z Try.ntmps16 Try.results16 Z (sR (.fx 0 .nil .stop) Z (zR (cs:=[jV 0,jV 0]) Z Z Z Z Z Zy Z hS ?_))
 intro W1 b2 ah
 refine eN (sR (wCg (.fx 3 .nil .stop)) Z (oM Z Z (oM Z Z ?_)))
 let B0:List Value:=[jV p0,jV p1]
 refine oR Z (zl (pv:=[(0,jV p0),(1,jV p1)]) (z:=[jV 0,jV 0]) (cs:=B0) Z (wAH Z (wAH Z wAP)) Zy wEf Z Z) (zV (j:=0) (vs:=B0) Z Z Z Z ah Z Z Z Z ZZ (zA Z) Z Z Z ?_)
 intro W5 ai
 have ae:sW w U U [.blk b2 45 B0] W5:=ai
 refine eN (zU ?_)
 cases hm
 exact ⟨rfl,_,(wFg (v:=.agg B0.toArray) ⟨⟨_,rfl,(wAq Zr ZZ (ae.blkAt (k:=0) rfl) (vs:=B0) rfl rfl)⟩,trivial⟩),U,_,(ae.pick [] _ (by decide) rfl),rfl,rfl⟩
theorem wEP (p0:wAF) (ac:Nat) (aj:Option Addr) (ak:Nat) (p1:wAD) (ao:Option Addr) (aq:Nat) (ap:Option Addr) (au:Nat) (az:Option Addr) (aH:Nat) (aG:Option Addr) (aI:Nat) (w:World) (U:PHeap) (hS:St0 w U [.blk ac 94 [.slice aj p0.bytes.length ak,jV p0.next,.int .u32 p0.state]]) (bp:Sl U 1 aj ak p0.bytes.length (hD KL.encB8 p0.bytes)) (bz:Sl U 1 ao aq p1.Starts.length (hD KL.encI p1.Starts)) (bA:Sl U 2 ap au p1.Splits.length (hD wAC p1.Splits)) (bB:Sl U 3 az aH p1.Clocks.length (hD wAB p1.Clocks)) (bC:Sl U 4 aG aI p1.Readings.length (hD wAA p1.Readings)) {r:wAO × wAF} (hm:wBQ p0 p1=some r):Gv Try.prog 14 [.pointer (some ⟨ac,0,none⟩),.agg #[.slice ao p1.Starts.length aq,.slice ap p1.Splits.length au,.slice az p1.Clocks.length aH,.slice aG p1.Readings.length aI]] w (wBs w [.blk ac 94 [.slice aj p0.bytes.length ak,jV p0.next,.int .u32 p0.state]] U (fun U_ L_ v=>∃ (aM:Option Addr) (aV:Nat),v=.agg #[jV r.1.Skier,jV r.1.Mat]/\L_=[.blk ac 94 [.slice aM r.2.bytes.length aV,jV r.2.next,.int .u32 r.2.state]]/\Sl U_ 1 aM aV r.2.bytes.length (hD KL.encB8 r.2.bytes))):=by
 unfold wBQ at hm
 refine Gv.of Try.func14 Z Try.ntmps14 Try.results14 Z (sR gAk Z ?_)
 let B0:List Value:=[.slice ao p1.Starts.length aq,.slice ap p1.Splits.length au,.slice az p1.Clocks.length aH,.slice aG p1.Readings.length aI]
 refine zu (cs:=B0) rfl rfl rfl rfl rfl rfl (by rfl) hS ?_
 intro W2 b3 bd
 let B1:List Value:=[jV 0,jV 0]
 refine zR (cs:=B1) Z Z Z Z Z Zy Z bd ?_
 intro W6 b7 bh
 refine eN (zL (ZG ZH [3,3,1,3,1005,3,3,1004,3,3,0,2,0,ac] (wDl (wID (.fx 4 (.fx 10 (.fx 11 (.fx 12 .nil .stop) .stop) .stop) .stop))) (by kernel_rfl) ?_))
 have an:=bh.drew
 generalize hw_W54:({ W6 with drawn:=W6.drawn + 1 }:World)=aP at an ⊢
 refine zo rfl rfl rfl rfl rfl rfl (zY rfl rfl rfl rfl (fun _=>zG rfl rfl zK rfl ZD) (ZF rfl rfl rfl rfl (an.ldB (j:=1) rfl rfl rfl ZL (v:=.slice ao p1.Starts.length aq) rfl) rfl (zY rfl rfl rfl rfl (fun _=>zw rfl rfl zH) (zo rfl rfl rfl rfl rfl rfl (zY rfl rfl rfl rfl (fun _=>zG rfl rfl zK rfl yG) (OKS.mt (T:=[ac]) [2] [0,1] [.blk b7 45 B1,.blk b3 28 B0] rfl rfl rfl rfl an rfl ⟨⟨2,by decide,_,rfl,rfl⟩,trivial⟩ (by decide) rfl (by decide) (fun _ bo=>(bo.ldB (j:=1) rfl rfl rfl yS (v:=.slice ap p1.Splits.length au) rfl)) rfl (zY rfl rfl rfl rfl (fun _=>zw rfl rfl ZK) (zY rfl rfl rfl rfl (fun _=>zb rfl rfl rfl) ?_))))))))
 have q:=bnd hm
 obtain ⟨⟨bs,av⟩,a7,aX⟩:=q
 try dsimp only at aX
 let B2:Res:=.blk ac 94 [.slice aj p0.bytes.length ak,jV p0.next,.int .u32 p0.state]
 have be:SW w [B2] U U [B2,.blk b7 45 B1,.blk b3 28 B0] aP:=an.pick [2,0,1] _ (by decide) rfl
 refine yf 1 rfl rfl rfl rfl (zD rfl rfl yB (zB rfl (zB rfl zM)) rfl) be (fun hs=>wAS p0 ac aj ak (↑p1.Starts.length:Int) aP U hs bp a7) rfl (T:=[ac]) rfl ⟨fun b h=>(by cases h;exact .head _),trivial⟩ ?_
 rintro aN bu bF aR bD bf ⟨aK,aT,rfl,rfl,a8⟩
 have bg:SW w [B2] U aN [.blk ac 94 [.slice aK av.bytes.length aT,jV av.next,.int .u32 av.state],.blk b7 45 B1,.blk b3 28 B0] aR:=bf
 have q:=bnd aX
 obtain ⟨⟨bt,aJ⟩,a9,aY⟩:=q
 try dsimp only at aY
 refine zE 1 Z Z Z Z (zD Z Z yB (zB Z (zB Z zM)) Z) bg (fun hs=>wAS av ac aK aT (w64 ((↑p1.Splits.length:Int) + 1)) aR aN hs a8 a9) (.inl Z) ?_
 rintro aO bv bG aS bE bi ⟨aL,aU,rfl,rfl,ba⟩
 let B3:Res:=.blk ac 94 [.slice aL aJ.bytes.length aU,jV aJ.next,.int .u32 aJ.state]
 have bj:SW w [B2] U aO [B3,.blk b7 45 B1,.blk b3 28 B0] aS:=bi
 refine bnK aY fun aZ bb bq=>zE 0 Z Z Z Z (zD Z Z yj (zB Z (zB Z zM)) Z) bj (fun hs=>wAg bs bt aS aO hs bb) (.inr Z) ?_
 rintro ay bw bH a5 br bk ⟨rfl,rfl⟩
 have bm:SW w [B2] U ay [B3,.blk b7 45 B1,.blk b3 28 B0] a5:=bk
 let B4:List Value:=[jV aZ.Skier,jV aZ.Mat]
 refine zV (j:=1) (vs:=B4) Z Z Z Z bm Z Z Z Z ZZ (zA Z) Z Z Z ?_
 intro a6 bn
 have aW:SW w [B2] U ay [B3,.blk b7 45 B4,.blk b3 28 B0] a6:=bn
 refine eN (zU ?_)
 have bc:=ba.le br
 cases bq
 exact ⟨rfl,_,(wFg (v:=.agg B4.toArray) ⟨⟨_,rfl,(wAq Zr ZZ (aW.blkAt (k:=1) rfl) (vs:=B4) rfl rfl)⟩,trivial⟩),ay,_,(aW.pick [0] _ (by decide) rfl),aL,aU,rfl,rfl,bc⟩
end Go.Proofs.Ytlnfbjphfoipaaa
namespace Go.Proofs.Ytlnfbjphfoipaaa
open Go.KL
set_option maxHeartbeats 4000000
theorem wBY (p0:Int) (p1:Int) (p2:Int) (w:World) (U:PHeap) (hS:St0 w U [])  {r:Bool} (hm:wAz p0 p1 p2=some r):Gv Try.prog 75 [jV p0,jV p1,jV p2] w (wBs w [] U (fun U_ L_ v=>v=.bool r/\L_=[])):=by
 unfold wAz at hm
 refine Gv.of Try.func75 Z Try.ntmps75 Try.results75 Z (sR fL1 Z (oA Z Z (eN (sR fL9 Z (oM Z Z (oM Z Z (oR Z (Runs.geq Z Z Z) (oM Z Z ?_))))))))
 by_cases c1:p1 <= p0
 have ab:=hm;rw [if_pos c1] at ab;replace c1:=zN c1
 refine zo Z Z Z (wT Z c1) Z Z (zo Z Z Z (wT Z c1) Z Z (rU Z (wT Z c1) (Runs.leq Z Z Z) (oR Z (zQ Z (Zk c1.out) Z) (oA Z Z (eN (zU ?_))))))
 first | (obtain rfl:=hJ ab) | cases ab
 exact ⟨Z,_,(ZV Z),U,_,hS,Z,Z⟩
 have af:=hm;rw [if_neg c1] at af;replace c1:=zN c1
 refine oF Z c1 (oF Z c1 (oF Z c1 (oR Z (ze Z (zt c1.out) Z) (oA Z Z (eN (zU ?_))))))
 have hE:=hJ af;first | subst r | cases hE
 exact ⟨Z,_,(ZV Z),U,_,hS,Z,Z⟩
theorem wFb (p0:List Int) (ak:Option Addr) (am:Nat) (p1:(Int->Option Bool)) (an:Value) (w:World) (U:PHeap) (hS:St0 w U []) (aW:Sl U 1 ak am p0.length (hD KL.encI p0)) (aX:FnOK Try.prog U an ar76 rr76 p1) {r:Bool} (hm:wCE p0 p1=some r):Gv Try.prog 79 [.slice ak p0.length am,an] w (wBs w [] U (fun U_ L_ v=>v=.bool r/\L_=[])):=by
 unfold wCE at hm
 refine Gv.of Try.func79 Z Try.ntmps79 Try.results79 Z (sR fL1 Z (oA Z Z (eN (zL (sR fL3 Z (oM Z Z (oR Z (zw Z Z zH) (oM Z Z (eN (zd ?_))))))))))
 have q:=wCB hm
 obtain ⟨r3,ag⟩:=q
 have q:=wCA ag
 obtain ⟨ai,a5⟩:=q
 replace ai:=zN ai
 refine yX (fun k2 _ σ_ w_=>∃ (U_:PHeap),σ_ 9=jV (↑k2:Int)/\σ_ 1=an/\σ_ 7=.slice ak p0.length am/\σ_ 8=jV (↑p0.length:Int)/\PHeap.Le U U_/\sW w U U_ [] w_) a5 ?_ ?_ ?_
 exact ⟨U,Z,Z,Z,Z,(zO _),hS⟩
 rintro k2 ⟨⟩ br bt W8 ah ⟨bf,af,ap,aq,au,aj,ax⟩ aG aY
 try dsimp only at aG
 have ao:Hid ((↑k2:Int) < (↑p0.length:Int)):=zN (wAs ah)
 replace ah:=zN ah
 have a6:Hid (w64 ((↑k2:Int) + 1)=(↑(k2 + 1):Int)):=zN (by have h1:=ai.out;have h2:=ao.out;rw [wAW] <;> omega)
 refine sR fL1 Z (oR Z (zi Z af au) (eN (zL (cT Z ao (kN (zL (zd (sR fL3 Z (bnK aG fun aI av a7=>?_)))))))))
 have aP:=aW.le aj
 have q:=aP.el (fun _=>rfl) (wAj av)
 obtain ⟨bi,bn,aS,aT⟩:=q
 refine oR Z (Zh Z aq aS af zH zC (wCv av)) (oL Z (ax.ldC (f:=0) aT (v:=jV aI) Z Z zJ Z) (oA Z Z (eN (sR gAx Z (oM Z ap (oM Z Z (bnK a7 fun bq aQ a8=>?_)))))))
 have aR:=aX.le aj
 refine OKS.callV (a:=aI) Z Z Z Z Z Z (zB Z zM) ax aR Z aQ ?_
 rintro ac be bp aK bc aU ⟨rfl,rfl⟩
 have ay:sW w U ac [] aK:=aU
 refine oR Z (Zd Z Z) (eN (ifc a8 ?_ ?_))
 intro ae a9
 refine ZI (nC ae.out) (Zp (ZA (zI (rR fL2 Z (oR Z (ZM (zb Z af Z) (congrArg (jV) a6.out)) (oM Z Z (zc ?_)))))))
 have q:=hJ a9
 obtain rfl:=q
 exact zI ⟨Z,_,Z,⟨ac,Z,ap,aq,au,(aj.trans bc),ay⟩⟩
 intro ae ba
 refine ZT (nF (ae.out)) (sR fL1 Z (oA Z Z (eN (zU (zx (za ?_))))))
 have q:=wAh ba
 obtain ⟨bd,bb,aM⟩:=q
 have q:=wBw hm ag (aY bd aM)
 obtain rfl:=q
 refine za (zx (za ?_))
 have hE:=hJ bb;first | subst r | cases hE
 exact ⟨Z,_,(ZV Z),ac,_,ay,Z,Z⟩
 rintro ⟨⟩ bs bg ⟨aJ,aO,bj,bk,aN,bm,aV⟩ aZ
 have az:=wCx hm ag aZ
 try dsimp only at az
 have aL:Hid (¬ ((↑(((↑p0.length:Int):Int) - 0).toNat:Int) < (↑p0.length:Int))):=zN (wAc)
 refine sR fL1 Z (oR Z (zi Z aO aN) (eN (zL (cF Z aL (Zc (zm (zm (ZY (zI (sR fL1 Z (oA Z Z (eN (zU ?_)))))))))))))
 have hE:=hJ az;first | subst r | cases hE
 exact ⟨Z,_,(ZV Z),aJ,_,aV,Z,Z⟩
theorem wGM (p0:Int) (w:World) (U:PHeap) (hS:St0 w U [])  {r:Bool} (hm:wCM p0=some r):Gv Try.prog 92 [jV p0] w (wBs w [] U (fun U_ L_ v=>v=.bool r/\L_=[])):=by
 unfold wCM at hm
 refine Gv.of Try.func92 Z Try.ntmps92 Try.results92 Z (sR fL1 Z (oA Z Z (eN (sR gAq Z (oM Z Z (bnK hm fun x1 h2 ah=>zE 0 Z Z Z Z (zD Z Z yO (zB Z (zB Z (zB Z zM))) Z) hS (fun hs=>wBY p0 0 360000 w U hs h2) (.inr Z) ?_))))))
 rintro U4 L5 v6 W7 aj ag ⟨rfl,rfl⟩
 have af:sW w U U4 [] W7:=ag
 refine oA Z Z (eN (zU ?_))
 have hE:=hJ ah;first | subst r | cases hE
 exact ⟨Z,_,(ZV Z),U4,_,af,Z,Z⟩
theorem wEQ (p0:List wAG) (an:Option Addr) (ao:Nat) (p1:(wAG->Option Bool)) (ap:Value) (w:World) (U:PHeap) (hS:St0 w U []) (a8:Sl U 2 an ao p0.length (hD wAC p0)) (a9:FnOK Try.prog U ap wLy wLz p1) {r:Bool} (hm:wBR p0 p1=some r):Gv Try.prog 93 [.slice an p0.length ao,ap] w (wBs w [] U (fun U_ L_ v=>v=.bool r/\L_=[])):=by
 unfold wBR at hm
 refine Gv.of Try.func93 Z Try.ntmps93 Try.results93 Z (sR fL1 Z (oA Z Z (eN (zL (sR fL3 Z (oM Z Z (oR Z (zw Z Z ZK) (oM Z Z (eN (zd ?_))))))))))
 have q:=wCB hm
 obtain ⟨r3,ai⟩:=q
 have q:=wCA ai
 obtain ⟨ak,bc⟩:=q
 replace ak:=zN ak
 refine yX (fun k2 _ σ_ w_=>∃ (U_:PHeap),σ_ 9=jV (↑k2:Int)/\σ_ 1=ap/\σ_ 7=.slice an p0.length ao/\σ_ 8=jV (↑p0.length:Int)/\PHeap.Le U U_/\sW w U U_ [] w_) bc ?_ ?_ ?_
 exact ⟨U,Z,Z,Z,Z,(zO _),hS⟩
 rintro k2 ⟨⟩ bz bB W8 aj ⟨aM,ah,av,ax,ay,am,aG⟩ aK ba
 try dsimp only at aK
 have au:Hid ((↑k2:Int) < (↑p0.length:Int)):=zN (wAs aj)
 replace aj:=zN aj
 have bd:Hid (w64 ((↑k2:Int) + 1)=(↑(k2 + 1):Int)):=zN (by have h1:=ak.out;have h2:=au.out;rw [wAW] <;> omega)
 refine sR fL1 Z (oR Z (zi Z ah ay) (eN (zL (cT Z au (kN (zL (zd (sR gAy Z (bnK aK fun ac az be=>?_)))))))))
 have aU:=a8.le am
 have q:=aU.el (fun _=>rfl) (wAj az)
 obtain ⟨bq,bu,aX,aY⟩:=q
 refine oR Z (Zh Z ax aX ah ZK zf (wCv az)) (oL Z (aG.ldCA (f:=0) aY Z Z Zi zf (us:=[jV ac.Lo,jV ac.Hi]) Z Z) (zR (cs:=[jV 0,jV 0]) Z Z Z Z Z ZJ Z aG ?_))
 intro bn aq aZ
 let B0:List Value:=[jV ac.Lo,jV ac.Hi]
 refine zV (j:=0) (vs:=B0) Z Z Z Z aZ Z Z Z Z zf (zA Z) Z Z Z ?_
 intro aO a5
 have aH:sW w U aM [.blk aq 41 B0] aO:=a5
 refine eN (sR gAx Z (oM Z av (oL Z (aH.ldBA (j:=0) Z Z Z Zi zf (vs:=B0) Z Z) (bnK be fun bx aV bf=>?_))))
 have aW:=a9.le am
 refine OKS.callV (a:=ac) Z Z Z Z Z Z (zB Z zM) aH aW Z aV ?_
 rintro af bm bw aP bj a6 ⟨rfl,rfl⟩
 have aI:sW w U af [.blk aq 41 B0] aP:=a6
 refine oR Z (Zd Z Z) (eN (ifc bf ?_ ?_))
 intro ag bg
 refine ZI (nC ag.out) (Zp (ZA (zI (rR fL2 Z (oR Z (ZM (zb Z ah Z) (congrArg (jV) bd.out)) (oM Z Z (zc ?_)))))))
 have q:=hJ bg
 obtain rfl:=q
 exact zI ⟨rfl,_,rfl,⟨af,rfl,av,ax,ay,(am.trans bj),(aI.pick [] _ (by decide) rfl)⟩⟩
 intro ag bh
 refine ZT (nF (ag.out)) (sR fL1 Z (oA Z Z (eN (zU (zx (za ?_))))))
 have q:=wAh bh
 obtain ⟨bk,bi,aR⟩:=q
 have q:=wBw hm ai (ba bk aR)
 obtain rfl:=q
 refine za (zx (za ?_))
 have hE:=hJ bi;first | subst r | cases hE
 exact ⟨rfl,_,(ZV rfl),af,_,(aI.pick [] _ (by decide) rfl),rfl,rfl⟩
 rintro ⟨⟩ bA bo ⟨aN,aT,br,bs,aS,bt,a7⟩ bb
 have aJ:=wCx hm ai bb
 try dsimp only at aJ
 have aQ:Hid (¬ ((↑(((↑p0.length:Int):Int) - 0).toNat:Int) < (↑p0.length:Int))):=zN (wAc)
 refine sR fL1 Z (oR Z (zi Z aT aS) (eN (zL (cF Z aQ (Zc (zm (zm (ZY (zI (sR fL1 Z (oA Z Z (eN (zU ?_)))))))))))))
 have hE:=hJ aJ;first | subst r | cases hE
 exact ⟨Z,_,(ZV Z),aN,_,a7,Z,Z⟩
theorem wEl (p0:wAG) (p1:Int) (p2:Int) (w:World) (U:PHeap) (hS:St0 w U [])  {r:Bool} (hm:wCN p0 p1 p2=some r):Gv Try.prog 95 [.agg #[jV p0.Lo,jV p0.Hi],jV p1,jV p2] w (wBs w [] U (fun U_ L_ v=>v=.bool r/\L_=[])):=by
 unfold wCN at hm
 refine Gv.of Try.func95 rfl Try.ntmps95 Try.results95 rfl (sR gAm rfl (zu (cs:=[jV p0.Lo,jV p0.Hi]) rfl rfl rfl rfl rfl rfl (by rfl) hS ?_))
 intro W1 b2 ae
 refine oA Z Z (eN (sR fL18 Z (oR Z (zG Z Z ZO Z zC) (oL Z (ae.ldB (j:=0) Z Z Z zJ (v:=jV p0.Lo) Z) (oR Z (zG Z Z ZO Z zC) (oL Z (ae.ldB (j:=0) Z Z Z zJ (v:=jV p0.Hi) Z) (oR Z (Runs.leq Z Z Z) (oM Z Z ?_))))))))
 by_cases c5:p0.Lo <= p0.Hi
 have ag:=hm;rw [if_pos c5] at ag;replace c5:=zN c5
 refine rU Z (wT Z c5) (zG Z Z ZO Z zC) (ZF Z Z Z (wT Z c5) (ae.ldB (j:=0) Z Z Z zJ (v:=jV p0.Lo) Z) Z (zo Z Z Z (wT Z c5) Z Z (rU Z (wT Z c5) (Runs.geq Z Z Z) (oR Z (zQ Z (Zk c5.out) Z) (oM Z Z (ifc ag ?_ ?_))))))
 intro c7 ah
 refine rU Z (wT Z c7) (zG Z Z ZO Z zC) (ZF Z Z Z (wT Z c7) (ae.ldB (j:=0) Z Z Z zJ (v:=jV p0.Hi) Z) Z (zo Z Z Z (wT Z c7) Z Z (rU Z (wT Z c7) (Runs.leq Z Z Z) (oR Z (zQ Z (Zk c7.out) Z) (oA Z Z (eN (zU ?_)))))))
 first | (obtain rfl:=hJ ah) | cases ah
 exact ⟨rfl,_,(ZV rfl),U,_,(ae.pick [] _ (by decide) rfl),rfl,rfl⟩
 intro c7 ak
 refine oF Z c7 (oF Z c7 (oF Z c7 (oF Z c7 (oR Z (ze Z (zt c7.out) Z) (oA Z Z (eN (zU ?_)))))))
 have hE:=hJ ak;first | subst r | cases hE
 exact ⟨rfl,_,(ZV rfl),U,_,(ae.pick [] _ (by decide) rfl),rfl,rfl⟩
 have af:=hm;rw [if_neg c5] at af;replace c5:=zN c5
 refine oF Z c5 (oF Z c5 (oF Z c5 (oF Z c5 (oR Z (ze Z (zt c5.out) Z) (oM Z Z (oN Z (oN Z (oN Z (oN Z (oR Z (ze Z Z Z) (oA Z Z (eN (zU ?_)))))))))))))
 have hE:=hJ af;first | subst r | cases hE
 exact ⟨rfl,_,(ZV rfl),U,_,(ae.pick [] _ (by decide) rfl),rfl,rfl⟩
theorem wGN (p0:wAG) (w:World) (U:PHeap) (hS:St0 w U [])  {r:Bool} (hm:wCO p0=some r):Gv Try.prog 94 [.agg #[jV p0.Lo,jV p0.Hi]] w (wBs w [] U (fun U_ L_ v=>v=.bool r/\L_=[])):=by
 unfold wCO at hm
 refine Gv.of Try.func94 Z Try.ntmps94 Try.results94 Z (sR gAm Z ?_)
 let B0:List Value:=[jV p0.Lo,jV p0.Hi]
 refine zu (cs:=B0) rfl rfl rfl rfl rfl rfl (by rfl) hS ?_
 intro W1 b2 ae
 refine oA Z Z (eN (sR gAq Z (oL Z (ae.ldBA (j:=0) Z Z Z Zi zf (vs:=B0) Z Z) (bnK hm fun x5 h6 am=>zE 0 Z Z Z Z (zD Z Z Try.call95 (zB Z (zB Z (zB Z zM))) Z) ae (fun hs=>wEl p0 0 360000 W1 U hs h6) (.inr Z) ?_))))
 rintro U8 L9 ap ag ao aj ⟨rfl,rfl⟩
 have ak:sW w U U8 [.blk b2 41 B0] ag:=aj
 refine oA Z Z (eN (zU ?_))
 have hE:=hJ am;first | subst r | cases hE
 exact ⟨rfl,_,(ZV rfl),U8,_,(ak.pick [] _ (by decide) rfl),rfl,rfl⟩
theorem wEC (p0:List wAK) (an:Option Addr) (ao:Nat) (p1:(wAK->Option Bool)) (ap:Value) (w:World) (U:PHeap) (hS:St0 w U []) (a8:Sl U 3 an ao p0.length (hD wAB p0)) (a9:FnOK Try.prog U ap wMA wMB p1) {r:Bool} (hm:wBE p0 p1=some r):Gv Try.prog 96 [.slice an p0.length ao,ap] w (wBs w [] U (fun U_ L_ v=>v=.bool r/\L_=[])):=by
 unfold wBE at hm
 refine Gv.of Try.func96 Z Try.ntmps96 Try.results96 Z (sR fL1 Z (oA Z Z (eN (zL (sR fL3 Z (oM Z Z (oR Z (zw Z Z ZU) (oM Z Z (eN (zd ?_))))))))))
 have q:=wCB hm
 obtain ⟨r3,ai⟩:=q
 have q:=wCA ai
 obtain ⟨ak,bc⟩:=q
 replace ak:=zN ak
 refine yX (fun k2 _ σ_ w_=>∃ (U_:PHeap),σ_ 9=jV (↑k2:Int)/\σ_ 1=ap/\σ_ 7=.slice an p0.length ao/\σ_ 8=jV (↑p0.length:Int)/\PHeap.Le U U_/\sW w U U_ [] w_) bc ?_ ?_ ?_
 exact ⟨U,Z,Z,Z,Z,(zO _),hS⟩
 rintro k2 ⟨⟩ bz bB W8 aj ⟨aM,ah,av,ax,ay,am,aG⟩ aK ba
 try dsimp only at aK
 have au:Hid ((↑k2:Int) < (↑p0.length:Int)):=zN (wAs aj)
 replace aj:=zN aj
 have bd:Hid (w64 ((↑k2:Int) + 1)=(↑(k2 + 1):Int)):=zN (by have h1:=ak.out;have h2:=au.out;rw [wAW] <;> omega)
 refine sR fL1 Z (oR Z (zi Z ah ay) (eN (zL (cT Z au (kN (zL (zd (sR gAy Z (bnK aK fun ab az be=>?_)))))))))
 have aU:=a8.le am
 have q:=aU.el (fun _=>rfl) (wAj az)
 obtain ⟨bq,bu,aX,aY⟩:=q
 refine oR Z (Zh Z ax aX ah ZU Zt (wCv az)) (oL Z (aG.ldCA (f:=0) aY Z Z Try.isAgg43 Zt (us:=[jV ab.Offset.Lo,jV ab.Offset.Hi,jV ab.Error]) Z Z) (zR (cs:=[jV 0,jV 0,jV 0]) Z Z Z Z Z yY Z aG ?_))
 intro bn aq aZ
 let B0:List Value:=[jV ab.Offset.Lo,jV ab.Offset.Hi,jV ab.Error]
 refine zV (j:=0) (vs:=B0) Z Z Z Z aZ Z Z Z Z Zt (zA Z) Z Z Z ?_
 intro aO a5
 have aH:sW w U aM [.blk aq 43 B0] aO:=a5
 refine eN (sR gAx Z (oM Z av (oL Z (aH.ldBA (j:=0) Z Z Z Try.isAgg43 Zt (vs:=B0) Z Z) (bnK be fun bx aV bf=>?_))))
 have aW:=a9.le am
 refine OKS.callV (a:=ab) Z Z Z Z Z Z (zB Z zM) aH aW Z aV ?_
 rintro af bm bw aP bj a6 ⟨rfl,rfl⟩
 have aI:sW w U af [.blk aq 43 B0] aP:=a6
 refine oR Z (Zd Z Z) (eN (ifc bf ?_ ?_))
 intro ag bg
 refine ZI (nC ag.out) (Zp (ZA (zI (rR fL2 Z (oR Z (ZM (zb Z ah Z) (congrArg (jV) bd.out)) (oM Z Z (zc ?_)))))))
 have q:=hJ bg
 obtain rfl:=q
 exact zI ⟨rfl,_,rfl,⟨af,rfl,av,ax,ay,(am.trans bj),(aI.pick [] _ (by decide) rfl)⟩⟩
 intro ag bh
 refine ZT (nF (ag.out)) (sR fL1 Z (oA Z Z (eN (zU (zx (za ?_))))))
 have q:=wAh bh
 obtain ⟨bk,bi,aR⟩:=q
 have q:=wBw hm ai (ba bk aR)
 obtain rfl:=q
 refine za (zx (za ?_))
 have hE:=hJ bi;first | subst r | cases hE
 exact ⟨rfl,_,(ZV rfl),af,_,(aI.pick [] _ (by decide) rfl),rfl,rfl⟩
 rintro ⟨⟩ bA bo ⟨aN,aT,br,bs,aS,bt,a7⟩ bb
 have aJ:=wCx hm ai bb
 try dsimp only at aJ
 have aQ:Hid (¬ ((↑(((↑p0.length:Int):Int) - 0).toNat:Int) < (↑p0.length:Int))):=zN (wAc)
 refine sR fL1 Z (oR Z (zi Z aT aS) (eN (zL (cF Z aQ (Zc (zm (zm (ZY (zI (sR fL1 Z (oA Z Z (eN (zU ?_)))))))))))))
 have hE:=hJ aJ;first | subst r | cases hE
 exact ⟨Z,_,(ZV Z),aN,_,a7,Z,Z⟩
theorem wGO (p0:wAK) (w:World) (U:PHeap) (hS:St0 w U [])  {r:Bool} (hm:wCP p0=some r):Gv Try.prog 97 [.agg #[jV p0.Offset.Lo,jV p0.Offset.Hi,jV p0.Error]] w (wBs w [] U (fun U_ L_ v=>v=.bool r/\L_=[])):=by
 unfold wCP at hm
 refine Gv.of Try.func97 Z Try.ntmps97 Try.results97 Z (sR gAm Z ?_)
 let B0:List Value:=[jV p0.Offset.Lo,jV p0.Offset.Hi,jV p0.Error]
 refine zu (cs:=B0) rfl rfl rfl rfl rfl rfl (by rfl) hS ?_
 intro W1 b2 aj
 refine oA Z Z (eN (sR (.fl 0 (.fl 1 (.fx 2 (wJC gAo) .stop))) Z (oR Z (zG Z Z Zq Z zf) (oL Z (aj.ldBA (j:=0) Z Z Z Zi zf (vs:=[jV p0.Offset.Lo,jV p0.Offset.Hi]) Z Z) (bnK hm fun x5 h6 az=>zE 0 Z Z Z Z (zD Z Z Try.call95 (zB Z (zB Z (zB Z zM))) Z) aj (fun hs=>wEl p0.Offset (-36000) 36000 W1 U hs h6) (.inr Z) ?_)))))
 rintro U8 L9 aK ah aI ap ⟨rfl,rfl⟩
 have af:sW w U U8 [.blk b2 43 B0] ah:=ap
 refine oM Z Z (ifc az ?_ ?_)
 intro ab av
 refine zY Z Z Z (zP Z Z (congrArg hH ab.out)) (fun _=>zG Z Z Zq Z zC) (ZF Z Z Z (zP Z Z (congrArg hH ab.out)) (af.ldB (j:=0) Z Z Z zJ (v:=jV p0.Error) Z) Z (bnK av fun aM an ax=>zE 0 Z Z Z (zP Z Z (congrArg hH ab.out)) (zD Z Z yO (zB Z (zB Z (zB Z zM))) Z) af (fun hs=>wBY p0.Error 0 600 ah U8 hs an) (.inr Z) ?_))
 rintro ag aG aL am aJ aq ⟨rfl,rfl⟩
 have au:sW w U ag [.blk b2 43 B0] am:=aq
 refine oR Z (zQ Z (congrArg hH ab.out) Z) (oA Z Z (eN (zU ?_)))
 have hE:=hJ ax;first | subst r | cases hE
 exact ⟨rfl,_,(ZV rfl),ag,_,(au.pick [] _ (by decide) rfl),rfl,rfl⟩
 intro ab ay
 refine zX Z Z Z (zS Z Z (congrArg hH (nA.2 ab.out)) Z) (zX Z Z Z (zS Z Z (congrArg hH (nA.2 ab.out)) Z) (ZE Z Z Z (zS Z Z (congrArg hH (nA.2 ab.out)) Z) (oR Z (ze Z (congrArg hH (nA.2 ab.out)) Z) (oA Z Z (eN (zU ?_))))))
 have hE:=hJ ay;first | subst r | cases hE
 exact ⟨rfl,_,(ZV rfl),U8,_,(af.pick [] _ (by decide) rfl),rfl,rfl⟩
theorem wCh (p0:List wAI) (an:Option Addr) (ao:Nat) (p1:(wAI->Option Bool)) (ap:Value) (w:World) (U:PHeap) (hS:St0 w U []) (a8:Sl U 4 an ao p0.length (hD wAA p0)) (a9:FnOK Try.prog U ap wIl wIm p1) {r:Bool} (hm:wAl p0 p1=some r):Gv Try.prog 98 [.slice an p0.length ao,ap] w (wBs w [] U (fun U_ L_ v=>v=.bool r/\L_=[])):=by
 unfold wAl at hm
 refine Gv.of Try.func98 Z Try.ntmps98 Try.results98 Z (sR fL1 Z (oA Z Z (eN (zL (sR fL3 Z (oM Z Z (oR Z (zw Z Z zy) (oM Z Z (eN (zd ?_))))))))))
 have q:=wCB hm
 obtain ⟨r3,ai⟩:=q
 have q:=wCA ai
 obtain ⟨ak,bc⟩:=q
 replace ak:=zN ak
 refine yX (fun k2 _ σ_ w_=>∃ (U_:PHeap),σ_ 9=jV (↑k2:Int)/\σ_ 1=ap/\σ_ 7=.slice an p0.length ao/\σ_ 8=jV (↑p0.length:Int)/\PHeap.Le U U_/\sW w U U_ [] w_) bc ?_ ?_ ?_
 exact ⟨U,Z,Z,Z,Z,(zO _),hS⟩
 rintro k2 ⟨⟩ bz bB W8 aj ⟨aM,ah,av,ax,ay,am,aG⟩ aK ba
 try dsimp only at aK
 have au:Hid ((↑k2:Int) < (↑p0.length:Int)):=zN (wAs aj)
 replace aj:=zN aj
 have bd:Hid (w64 ((↑k2:Int) + 1)=(↑(k2 + 1):Int)):=zN (by have h1:=ak.out;have h2:=au.out;rw [wAW] <;> omega)
 refine sR fL1 Z (oR Z (zi Z ah ay) (eN (zL (cT Z au (kN (zL (zd (sR gAy Z (bnK aK fun ab az be=>?_)))))))))
 have aU:=a8.le am
 have q:=aU.el (fun _=>rfl) (wAj az)
 obtain ⟨bq,bu,aX,aY⟩:=q
 refine oR Z (Zh Z ax aX ah zy ZP (wCv az)) (oL Z (aG.ldCA (f:=0) aY Z Z yc ZP (us:=[jV ab.Skier,jV ab.Mat,jV ab.Clock,jV ab.Time]) Z Z) (zR (cs:=[jV 0,jV 0,jV 0,jV 0]) Z Z Z Z Z Zj Z aG ?_))
 intro bn aq aZ
 let B0:List Value:=[jV ab.Skier,jV ab.Mat,jV ab.Clock,jV ab.Time]
 refine zV (j:=0) (vs:=B0) Z Z Z Z aZ Z Z Z Z ZP (zA Z) Z Z Z ?_
 intro aO a5
 have aH:sW w U aM [.blk aq 39 B0] aO:=a5
 refine eN (sR gAx Z (oM Z av (oL Z (aH.ldBA (j:=0) Z Z Z yc ZP (vs:=B0) Z Z) (bnK be fun bx aV bf=>?_))))
 have aW:=a9.le am
 refine OKS.callV (a:=ab) Z Z Z Z Z Z (zB Z zM) aH aW Z aV ?_
 rintro af bm bw aP bj a6 ⟨rfl,rfl⟩
 have aI:sW w U af [.blk aq 39 B0] aP:=a6
 refine oR Z (Zd Z Z) (eN (ifc bf ?_ ?_))
 intro ag bg
 refine ZI (nC ag.out) (Zp (ZA (zI (rR fL2 Z (oR Z (ZM (zb Z ah Z) (congrArg (jV) bd.out)) (oM Z Z (zc ?_)))))))
 have q:=hJ bg
 obtain rfl:=q
 exact zI ⟨rfl,_,rfl,⟨af,rfl,av,ax,ay,(am.trans bj),(aI.pick [] _ (by decide) rfl)⟩⟩
 intro ag bh
 refine ZT (nF (ag.out)) (sR fL1 Z (oA Z Z (eN (zU (zx (za ?_))))))
 have q:=wAh bh
 obtain ⟨bk,bi,aR⟩:=q
 have q:=wBw hm ai (ba bk aR)
 obtain rfl:=q
 refine za (zx (za ?_))
 have hE:=hJ bi;first | subst r | cases hE
 exact ⟨rfl,_,(ZV rfl),af,_,(aI.pick [] _ (by decide) rfl),rfl,rfl⟩
 rintro ⟨⟩ bA bo ⟨aN,aT,br,bs,aS,bt,a7⟩ bb
 have aJ:=wCx hm ai bb
 try dsimp only at aJ
 have aQ:Hid (¬ ((↑(((↑p0.length:Int):Int) - 0).toNat:Int) < (↑p0.length:Int))):=zN (wAc)
 refine sR fL1 Z (oR Z (zi Z aT aS) (eN (zL (cF Z aQ (Zc (zm (zm (ZY (zI (sR fL1 Z (oA Z Z (eN (zU ?_)))))))))))))
 have hE:=hJ aJ;first | subst r | cases hE
 exact ⟨Z,_,(ZV Z),aN,_,a7,Z,Z⟩
theorem wGP (p0:wAI) (w:World) (U:PHeap) (hS:St0 w U [])  {r:Bool} (hm:wCQ p0=some r):Gv Try.prog 99 [.agg #[jV p0.Skier,jV p0.Mat,jV p0.Clock,jV p0.Time]] w (wBs w [] U (fun U_ L_ v=>v=.bool r/\L_=[])):=by
 unfold wCQ at hm
 refine Gv.of Try.func99 Z Try.ntmps99 Try.results99 Z (sR gAm Z ?_)
 let B0:List Value:=[jV p0.Skier,jV p0.Mat,jV p0.Clock,jV p0.Time]
 refine zu (cs:=B0) rfl rfl rfl rfl rfl rfl (by rfl) hS ?_
 intro W1 b2 ae
 refine oA Z Z (eN (sR gAx Z (oR Z (zG Z Z ZC Z zC) (oL Z (ae.ldB (j:=0) Z Z Z zJ (v:=jV p0.Time) Z) (bnK hm fun x5 h6 am=>zE 0 Z Z Z Z (zD Z Z yO (zB Z (zB Z (zB Z zM))) Z) ae (fun hs=>wBY p0.Time 0 360000 W1 U hs h6) (.inr Z) ?_)))))
 rintro U8 L9 ap ag ao aj ⟨rfl,rfl⟩
 have ak:sW w U U8 [.blk b2 39 B0] ag:=aj
 refine oA Z Z (eN (zU ?_))
 have hE:=hJ am;first | subst r | cases hE
 exact ⟨rfl,_,(ZV rfl),U8,_,(ak.pick [] _ (by decide) rfl),rfl,rfl⟩
theorem wCL (p0:wAD) (af:Option Addr) (ah:Nat) (ag:Option Addr) (ai:Nat) (ao:Option Addr) (aq:Nat) (ap:Option Addr) (au:Nat) (p1:wAO) (w:World) (U:PHeap) (hS:St0 w U []) (aV:Sl U 1 af ah p0.Starts.length (hD KL.encI p0.Starts)) (aW:Sl U 2 ag ai p0.Splits.length (hD wAC p0.Splits)) (aX:Sl U 3 ao aq p0.Clocks.length (hD wAB p0.Clocks)) (aY:Sl U 4 ap au p0.Readings.length (hD wAA p0.Readings)) {r:Bool} (hm:wAd p0 p1=some r):Gv Try.prog 84 [.agg #[.slice af p0.Starts.length ah,.slice ag p0.Splits.length ai,.slice ao p0.Clocks.length aq,.slice ap p0.Readings.length au],.agg #[jV p1.Skier,jV p1.Mat]] w (wBs w [] U (fun U_ L_ v=>v=.bool r/\L_=[])):=by
 unfold wAd at hm
 refine Gv.of Try.func84 Z Try.ntmps84 Try.results84 Z (sR gAu Z ?_)
 let B0:List Value:=[.slice af p0.Starts.length ah,.slice ag p0.Splits.length ai,.slice ao p0.Clocks.length aq,.slice ap p0.Readings.length au]
 refine zu (cs:=B0) rfl rfl rfl rfl rfl rfl (by rfl) hS ?_
 intro W1 b2 aM
 let B1:List Value:=[jV p1.Skier,jV p1.Mat]
 refine zu (cs:=B1) rfl rfl rfl rfl rfl rfl (by rfl) aM ?_
 intro W5 b6 an
 refine oA Z Z (eN (sR (wGf (.fx 6 (wKx gAv) .stop)) Z (oR Z (zG Z Z yM Z zC) (oL Z (an.ldB (j:=0) Z Z Z zJ (v:=jV p1.Skier) Z) (oR Z (zG Z Z zK Z ZD) (oL Z (an.ldB (j:=1) Z Z Z ZL (v:=.slice af p0.Starts.length ah) Z) (oR Z (zw Z Z zH) (oR Z (yU Z Z Z) (bnK hm fun x9 aI aO=>zE 0 Z Z Z Z (zD Z Z yO (zB Z (zB Z (zB Z zM))) Z) an (fun hs=>wBY p1.Skier 0 (w64 ((↑p0.Starts.length:Int) - 1)) W5 U hs aI) (.inr Z) ?_)))))))))
 rintro am aS a6 ax aZ aK ⟨rfl,rfl⟩
 have ae:sW w U am [.blk b6 45 B1,.blk b2 28 B0] ax:=aK
 refine oM Z Z (ifc aO ?_ ?_)
 intro ab aP
 refine zY Z Z Z (zP Z Z (congrArg hH ab.out)) (fun _=>zG Z Z yM Z zC) (ZF Z Z Z (zP Z Z (congrArg hH ab.out)) (ae.ldB (j:=0) Z Z Z zJ (v:=jV p1.Mat) Z) Z (zY Z Z Z (zP Z Z (congrArg hH ab.out)) (fun _=>zG Z Z zK Z yG) (ZF Z Z Z (zP Z Z (congrArg hH ab.out)) (ae.ldB (j:=1) Z Z Z yS (v:=.slice ag p0.Splits.length ai) Z) Z (zY Z Z Z (zP Z Z (congrArg hH ab.out)) (fun _=>zw Z Z ZK) (bnK aP fun a8 aJ aQ=>zE 0 Z Z Z (zP Z Z (congrArg hH ab.out)) (zD Z Z yO (zB Z (zB Z (zB Z zM))) Z) ae (fun hs=>wBY p1.Mat 0 (↑p0.Splits.length:Int) ax am hs aJ) (.inr Z) ?_)))))
 rintro av aT a7 aG a5 aL ⟨rfl,rfl⟩
 have aN:sW w U av [.blk b6 45 B1,.blk b2 28 B0] aG:=aL
 refine oR Z (zQ Z (congrArg hH ab.out) Z) (oA Z Z (eN (zU ?_)))
 have hE:=hJ aQ;first | subst r | cases hE
 exact ⟨rfl,_,(ZV rfl),av,_,(aN.pick [] _ (by decide) rfl),rfl,rfl⟩
 intro ab aR
 refine zX Z Z Z (zS Z Z (congrArg hH (nA.2 ab.out)) Z) (zX Z Z Z (zS Z Z (congrArg hH (nA.2 ab.out)) Z) (zX Z Z Z (zS Z Z (congrArg hH (nA.2 ab.out)) Z) (zX Z Z Z (zS Z Z (congrArg hH (nA.2 ab.out)) Z) (zX Z Z Z (zS Z Z (congrArg hH (nA.2 ab.out)) Z) (ZE Z Z Z (zS Z Z (congrArg hH (nA.2 ab.out)) Z) (oR Z (ze Z (congrArg hH (nA.2 ab.out)) Z) (oA Z Z (eN (zU ?_)))))))))
 have hE:=hJ aR;first | subst r | cases hE
 exact ⟨rfl,_,(ZV rfl),am,_,(ae.pick [] _ (by decide) rfl),rfl,rfl⟩
theorem wGQ (p0:wAI) (p1:wAD) (az:Nat) (ai:Option Addr) (am:Nat) (aj:Option Addr) (an:Nat) (ae:Option Addr) (af:Nat) (ak:Option Addr) (ao:Nat) (w:World) (U:PHeap) (hS:St0 w U []) (ay:Cl U az 0 [.slice ai p1.Starts.length am,.slice aj p1.Splits.length an,.slice ae p1.Clocks.length af,.slice ak p1.Readings.length ao]) (aO:Sl U 1 ai am p1.Starts.length (hD KL.encI p1.Starts)) (aP:Sl U 2 aj an p1.Splits.length (hD wAC p1.Splits)) (aQ:Sl U 3 ae af p1.Clocks.length (hD wAB p1.Clocks)) (aR:Sl U 4 ak ao p1.Readings.length (hD wAA p1.Readings)) {r:Bool} (hm:wCR p0 p1=some r):Gv Try.prog 100 [.agg #[jV p0.Skier,jV p0.Mat,jV p0.Clock,jV p0.Time],.pointer (some ⟨az,0,none⟩)] w (wBs w [] U (fun U_ L_ v=>v=.bool r/\L_=[])):=by
 unfold wCR at hm
 refine Gv.of Try.func100 Z Try.ntmps100 Try.results100 Z (sR gAm Z ?_)
 let B0:List Value:=[jV p0.Skier,jV p0.Mat,jV p0.Clock,jV p0.Time]
 refine zu (cs:=B0) rfl rfl rfl rfl rfl rfl (by rfl) hS ?_
 intro W1 b2 ah
 refine oA Z Z (eN (sR (wGf (.fx 6 (wKy gAw) .stop)) Z (oL Z (ah.ldCA (f:=0) ay Z Z zg zW (us:=[.slice ai p1.Starts.length am,.slice aj p1.Splits.length an,.slice ae p1.Clocks.length af,.slice ak p1.Readings.length ao]) Z Z) (oR Z (zG Z Z ZC Z zC) (oL Z (ah.ldB (j:=0) Z Z Z zJ (v:=jV p0.Skier) Z) (oR Z (zG Z Z ZC Z zC) (oL Z (ah.ldB (j:=0) Z Z Z zJ (v:=jV p0.Mat) Z) (oR Z (zl (pv:=[(0,jV p0.Skier),(1,jV p0.Mat)]) (z:=[jV 0,jV 0]) (cs:=[jV p0.Skier,jV p0.Mat]) Z (wAH Z (wAH Z wAP)) Zy wEf Z Z) (bnK hm fun x5 h6 aV=>zE 0 Z Z Z Z (zD Z Z Try.call84 (zB Z (zB Z zM)) Z) ah (fun hs=>wCL p1 ai am aj an ae af ak ao (⟨p0.Skier,p0.Mat⟩:wAO) W1 U hs aO aP aQ aR h6) (.inr Z) ?_)))))))))
 rintro U8 L9 a5 av aW aL ⟨rfl,rfl⟩
 have ag:sW w U U8 [.blk b2 39 B0] av:=aL
 refine oM Z Z (ifc aV ?_ ?_)
 intro ac aS
 refine zY Z Z Z (zP Z Z (congrArg hH ac.out)) (fun _=>zG Z Z ZC Z zC) (ZF Z Z Z (zP Z Z (congrArg hH ac.out)) (ag.ldB (j:=0) Z Z Z zJ (v:=jV p0.Clock) Z) Z (zY Z Z Z (zP Z Z (congrArg hH ac.out)) (fun _=>zG Z Z zK Z Zn) ?_))
 have aI:=ay.le aW
 refine ZF Z Z Z (zP Z Z (congrArg hH ac.out)) (ag.ldC (f:=2) aI (v:=.slice ae p1.Clocks.length af) Z Z yI Z) Z (zY Z Z Z (zP Z Z (congrArg hH ac.out)) (fun _=>zw Z Z ZU) (zY Z Z Z (zP Z Z (congrArg hH ac.out)) (fun _=>yU Z Z Z) (bnK aS fun a7 aJ aT=>zE 0 Z Z Z (zP Z Z (congrArg hH ac.out)) (zD Z Z yO (zB Z (zB Z (zB Z zM))) Z) ag (fun hs=>wBY p0.Clock 0 (w64 ((↑p1.Clocks.length:Int) - 1)) av U8 hs aJ) (.inr Z) ?_)))
 rintro au aX a6 aH aZ aM ⟨rfl,rfl⟩
 have aN:sW w U au [.blk b2 39 B0] aH:=aM
 refine oR Z (zQ Z (congrArg hH ac.out) Z) (oA Z Z (eN (zU ?_)))
 have hE:=hJ aT;first | subst r | cases hE
 exact ⟨rfl,_,(ZV rfl),au,_,(aN.pick [] _ (by decide) rfl),rfl,rfl⟩
 intro ac aU
 refine zX Z Z Z (zS Z Z (congrArg hH (nA.2 ac.out)) Z) (zX Z Z Z (zS Z Z (congrArg hH (nA.2 ac.out)) Z) (zX Z Z Z (zS Z Z (congrArg hH (nA.2 ac.out)) Z) (zX Z Z Z (zS Z Z (congrArg hH (nA.2 ac.out)) Z) (zX Z Z Z (zS Z Z (congrArg hH (nA.2 ac.out)) Z) (zX Z Z Z (zS Z Z (congrArg hH (nA.2 ac.out)) Z) (ZE Z Z Z (zS Z Z (congrArg hH (nA.2 ac.out)) Z) (oR Z (ze Z (congrArg hH (nA.2 ac.out)) Z) (oA Z Z (eN (zU ?_))))))))))
 have hE:=hJ aU;first | subst r | cases hE
 exact ⟨rfl,_,(ZV rfl),U8,_,(ag.pick [] _ (by decide) rfl),rfl,rfl⟩
theorem wDq (p0:wAD) (an:Option Addr) (aq:Nat) (ao:Option Addr) (au:Nat) (ap:Option Addr) (av:Nat) (ai:Option Addr) (aj:Nat) (w:World) (U:PHeap) (hS:St0 w U []) (cg:Sl U 1 an aq p0.Starts.length (hD KL.encI p0.Starts)) (ci:Sl U 2 ao au p0.Splits.length (hD wAC p0.Splits)) (cm:Sl U 3 ap av p0.Clocks.length (hD wAB p0.Clocks)) (cn:Sl U 4 ai aj p0.Readings.length (hD wAA p0.Readings)) {r:Int} (hm:wCG p0=some r):Gv Try.prog 68 [.agg #[.slice an p0.Starts.length aq,.slice ao p0.Splits.length au,.slice ap p0.Clocks.length av,.slice ai p0.Readings.length aj]] w (wBs w [] U (fun U_ L_ v=>v=jV r/\L_=[])):=by
 unfold wCG at hm
 refine Gv.of Try.func68 Z Try.ntmps68 Try.results68 Z (sR gAm Z ?_)
 let B0:List Value:=[.slice an p0.Starts.length aq,.slice ao p0.Splits.length au,.slice ap p0.Clocks.length av,.slice ai p0.Readings.length aj]
 refine zu (cs:=B0) rfl rfl rfl rfl rfl rfl (by rfl) hS ?_
 intro W1 b2 ca
 have q:=ca.freeze (k:=0) rfl
 obtain ⟨U5,aP,ay,cf⟩:=q
 replace ay:=Cl.of ay
 have bp:sW w U U5 [] W1:=cf
 replace ay:Cl U5 b2 0 B0:=ay
 refine oA Z Z (eN (zL (zd (sR (wCg (.fx 3 (wMd (.nil)) .stop)) Z (oR Z (zG Z Z zK Z ZD) (oL Z (bp.ldC (f:=0) ay (v:=.slice an p0.Starts.length aq) Z Z ZL Z) (oR Z (zw Z Z zH) (bnK hm fun de bw cq=>zE 0 Z Z Z Z (zD Z Z yO (zB Z (zB Z (zB Z zM))) Z) bp (fun hs=>wBY (↑p0.Starts.length:Int) 1 8 W1 U5 hs bw) (.inr Z) ?_))))))))
 rintro am cR cZ a9 aG bZ ⟨rfl,rfl⟩
 have ah:sW w U am [] a9:=bZ
 refine oR Z (Zd Z Z) (oM Z Z (ifc cq ?_ ?_))
 intro ab cA
 refine zY Z Z Z (zP Z Z (nC ab.out)) (fun _=>zG Z Z zK Z yG) ?_
 have az:=ay.le aG
 refine ZF Z Z Z (zP Z Z (nC ab.out)) (ah.ldC (f:=1) az (v:=.slice ao p0.Splits.length au) Z Z yS Z) Z (zY Z Z Z (zP Z Z (nC ab.out)) (fun _=>zw Z Z ZK) (zY Z Z Z (zP Z Z (nC ab.out)) (fun _=>Runs.gtr Z Z Z) (oR Z (ze Z (nC ab.out) Z) (oM Z Z (ifc cA ?_ ?_)))))
 intro ac cB
 refine oT Z ac (oT Z ac (oT Z ac (oT Z ac (oR Z (zQ Z (Zk ac.out) Z) (oM Z Z (oN Z (oN Z (oN Z (oN Z (oR Z (zQ Z Z Z) (oA Z Z (eN (ZT Z (sR fL1 Z (oA Z Z (eN (zU (zx (za ?_)))))))))))))))))))
 cases cB
 exact ⟨Z,_,(ZV Z),am,_,ah,Z,Z⟩
 intro ac cC
 refine rU Z (wF Z ac) (zG Z Z zK Z Zn) (ZF Z Z Z (wF Z ac) (ah.ldC (f:=2) az (v:=.slice ap p0.Clocks.length av) Z Z yI Z) Z (rU Z (wF Z ac) (zw Z Z ZU) (rU Z (wF Z ac) (Runs.gtr Z Z Z) (oR Z (ze Z (zt ac.out) Z) (oM Z Z (ifc cC ?_ ?_))))))
 intro ae cD
 refine oT Z ae (oT Z ae (oT Z ae (oT Z ae (oR Z (zQ Z (Zk ae.out) Z) (oA Z Z (eN (ZT Z (sR fL1 Z (oA Z Z (eN (zU (zx (za ?_)))))))))))))
 cases cD
 exact ⟨Z,_,(ZV Z),am,_,ah,Z,Z⟩
 intro ae cE
 refine rU Z (wF Z ae) (zG Z Z zK Z ZW) (ZF Z Z Z (wF Z ae) (ah.ldC (f:=3) az (v:=.slice ai p0.Readings.length aj) Z Z Zm Z) Z (rU Z (wF Z ae) (zw Z Z zy) (rU Z (wF Z ae) (Runs.gtr Z Z Z) (oR Z (ze Z (zt ae.out) Z) (oA Z Z (eN (ifc cE ?_ ?_)))))))
 intro aU cG
 refine cT Z aU (sR fL1 Z (oA Z Z (eN (zU (zx (za ?_))))))
 cases cG
 exact ⟨Z,_,(ZV Z),am,_,ah,Z,Z⟩
 intro aU cH
 refine cF Z aU (sR (.fl 0 (.fl 1 (.fx 2 (wJz (.fx 7 (wKz (.nil)) .stop)) .stop))) Z (oR Z (zG Z Z zK Z ZD) (oL Z (ah.ldC (f:=0) az (v:=.slice an p0.Starts.length aq) Z Z ZL Z) ?_)))
 have bE:=cg.le aP
 have bg:=bE.le aG
 have bT:FnOK Try.prog am (.func (.func 92) #[] #[]) ar76 rr76 wCM:=⟨92,[],[],rfl,Try.call92,fun U1 w1 x y vs le hs ha hm=>by obtain rfl:=ha;exact wGM x w1 U1 hs  hm⟩
 refine bnK cH fun dg bF cI=>zE 0 Z Z Z Z (zD Z Z Try.call79 (zB Z (zB Z zM)) Z) ah (fun hs=>wFb p0.Starts an aq wCM (.func (.func 92) #[] #[]) a9 am hs bg bT bF) (.inr Z) ?_
 rintro aL cS c6 ba aH cb ⟨rfl,rfl⟩
 have aZ:sW w U aL [] ba:=cb
 refine oR Z (Zd Z Z) (oM Z Z (ifc cI ?_ ?_))
 intro af cJ
 refine zY Z Z Z (zP Z Z (nC af.out)) (fun _=>zG Z Z zK Z yG) ?_
 have bh:=az.le aH
 refine ZF Z Z Z (zP Z Z (nC af.out)) (aZ.ldC (f:=1) bh (v:=.slice ao p0.Splits.length au) Z Z yS Z) Z ?_
 have bG:=ci.le aP
 have bH:=bG.le aG
 have bi:=bH.le aH
 have bU:FnOK Try.prog aL (.func (.func 94) #[] #[]) wLy wLz wCO:=⟨94,[],[],rfl,Try.call94,fun U1 w1 x y vs le hs ha hm=>by obtain rfl:=ha;exact wGN x w1 U1 hs  hm⟩
 refine bnK cJ fun dh bI cK=>zE 0 Z Z Z (zP Z Z (nC af.out)) (zD Z Z Try.call93 (zB Z (zB Z zM)) Z) aZ (fun hs=>wEQ p0.Splits ao au wCO (.func (.func 94) #[] #[]) ba aL hs bi bU bI) (.inr Z) ?_
 rintro aM cU da bb aI cc ⟨rfl,rfl⟩
 have a5:sW w U aM [] bb:=cc
 refine zY Z Z Z (zP Z Z (nC af.out)) (fun _=>Zd Z Z) (oR Z (ze Z (nC af.out) Z) (oA Z Z (eN (ifc cK ?_ ?_))))
 intro aV cL
 refine ZI (nC aV.out) (sR gBd Z (oR Z (zG Z Z zK Z Zn) ?_))
 have bj:=bh.le aI
 refine oL Z (a5.ldC (f:=2) bj (v:=.slice ap p0.Clocks.length av) Z Z yI Z) ?_
 have bJ:=cm.le aP
 have bK:=bJ.le aG
 have bL:=bK.le aH
 have bk:=bL.le aI
 have bV:FnOK Try.prog aM (.func (.func 97) #[] #[]) wMA wMB wCP:=⟨97,[],[],rfl,Try.call97,fun U1 w1 x y vs le hs ha hm=>by obtain rfl:=ha;exact wGO x w1 U1 hs  hm⟩
 refine bnK cL fun di bM cM=>zE 0 Z Z Z Z (zD Z Z Try.call96 (zB Z (zB Z zM)) Z) a5 (fun hs=>wEC p0.Clocks ap av wCP (.func (.func 97) #[] #[]) bb aM hs bk bV bM) (.inr Z) ?_
 rintro aN cV db bc aJ cd ⟨rfl,rfl⟩
 have a6:sW w U aN [] bc:=cd
 refine oR Z (Zd Z Z) (oA Z Z (eN (ifc cM ?_ ?_)))
 intro aW cN
 refine ZI (nC aW.out) (zL (CK.fresh fun cP bq=>?_))
 have aX:cP 1=.pointer (some ⟨b2,0,none⟩):=(bq 1).trans rfl
 clear bq
 refine rR gBd Z (oR Z (zG Z aX zK Z ZW) ?_)
 have bm:=bj.le aJ
 refine oL Z (a6.ldC (f:=3) bm (v:=.slice ai p0.Readings.length aj) Z Z Zm Z) ?_
 have bN:=cn.le aP
 have bO:=bN.le aG
 have bP:=bO.le aH
 have bQ:=bP.le aI
 have bn:=bQ.le aJ
 have bW:FnOK Try.prog aN (.func (.func 99) #[] #[]) wIl wIm wCQ:=⟨99,[],[],rfl,Try.call99,fun U1 w1 x y vs le hs ha hm=>by obtain rfl:=ha;exact wGP x w1 U1 hs  hm⟩
 refine bnK cN fun dk bR cO=>zE 0 Z Z Z Z (zD Z Z Try.call98 (zB Z (zB Z zM)) Z) a6 (fun hs=>wCh p0.Readings ai aj wCQ (.func (.func 99) #[] #[]) bc aN hs bn bW bR) (.inr Z) ?_
 rintro aO cW dd bd aK bX ⟨rfl,rfl⟩
 have aY:sW w U aO [] bd:=bX
 refine oR Z (Zd Z Z) (oA Z Z (eN (ifc cO ?_ ?_)))
 intro aS co
 refine ZI (nC aS.out) (sR (wCg gAt) Z (oR Z (zG Z aX zK Z ZW) ?_))
 have be:=bm.le aK
 refine oL Z (aY.ldC (f:=3) be (v:=.slice ai p0.Readings.length aj) Z Z Zm Z) (oR Z (Runs.mkf Z zM (zB aX zM)) ?_)
 have bf:=bn.le aK
 have bs:=bg.le aH
 have bt:=bs.le aI
 have bu:=bt.le aJ
 have bv:=bu.le aK
 have bx:=bi.le aI
 have bz:=bx.le aJ
 have bA:=bz.le aK
 have bB:=bk.le aJ
 have bC:=bB.le aK
 have bS:FnOK Try.prog aO (.func (.func 100) #[] #[.pointer (some ⟨b2,0,none⟩)]) wIl wIm (fun x=>wCR x p0):=⟨100,[],[.pointer (some ⟨b2,0,none⟩)],rfl,Try.call100,fun U1 w1 x y vs le hs ha hm=>by obtain rfl:=ha;exact wGQ x p0 b2 an aq ao au ap av ai aj w1 U1 hs (be.le le) (bv.le le) (bA.le le) (bC.le le) (bf.le le) hm⟩
 refine bnK co fun df bD cp=>zE 0 Z Z Z Z (zD Z Z Try.call98 (zB Z (zB Z zM)) Z) aY (fun hs=>wCh p0.Readings ai aj (fun x=>wCR x p0) (.func (.func 100) #[] #[.pointer (some ⟨b2,0,none⟩)]) bd aO hs bf bS bD) (.inr Z) ?_
 rintro aQ cQ cY br cX bY ⟨rfl,rfl⟩
 have bo:sW w U aQ [] br:=bY
 refine oR Z (Zd Z Z) (oA Z Z (eN (ifc cp ?_ ?_)))
 intro aT cr
 refine ZI (nC aT.out) (Zp (ZA (zI (sR fL1 Z (oA Z Z (eN (zU ?_)))))))
 cases cr
 exact ⟨Z,_,(ZV Z),aQ,_,bo,Z,Z⟩
 intro aT ct
 refine ZT (nF (aT.out)) (sR fL1 Z (oA Z Z (eN (zU (zx (za ?_))))))
 cases ct
 exact ⟨Z,_,(ZV Z),aQ,_,bo,Z,Z⟩
 intro aS cu
 refine ZT (nF (aS.out)) (sR fL1 Z (oA Z Z (eN (zU (zx (za ?_))))))
 cases cu
 exact ⟨Z,_,(ZV Z),aO,_,aY,Z,Z⟩
 intro aW cw
 refine ZT (nF (aW.out)) (sR fL1 Z (oA Z Z (eN (zU (zx (za ?_))))))
 cases cw
 exact ⟨Z,_,(ZV Z),aN,_,a6,Z,Z⟩
 intro aV cx
 refine ZT (nF (aV.out)) (sR fL1 Z (oA Z Z (eN (zU (zx (za ?_))))))
 cases cx
 exact ⟨Z,_,(ZV Z),aM,_,a5,Z,Z⟩
 intro af cy
 refine zX Z Z Z (zS Z Z (nF (af.out)) Z) (zX Z Z Z (zS Z Z (nF (af.out)) Z) (ZE Z Z Z (zS Z Z (nF (af.out)) Z) (zX Z Z Z (zS Z Z (nF (af.out)) Z) (oR Z (zQ Z (nF (af.out)) Z) (oA Z Z (eN (ZT Z (sR fL1 Z (oA Z Z (eN (zU (zx (za ?_)))))))))))))
 cases cy
 exact ⟨Z,_,(ZV Z),aL,_,aZ,Z,Z⟩
 intro ab cz
 refine zX Z Z Z (zS Z Z (nF (ab.out)) Z) (zX Z Z Z (zS Z Z (nF (ab.out)) Z) (zX Z Z Z (zS Z Z (nF (ab.out)) Z) (zX Z Z Z (zS Z Z (nF (ab.out)) Z) (oR Z (zQ Z (nF (ab.out)) Z) (oM Z Z (oN Z (oN Z (oN Z (oN Z (oR Z (zQ Z Z Z) (oM Z Z (oN Z (oN Z (oN Z (oN Z (oR Z (zQ Z Z Z) (oA Z Z (eN (ZT Z (sR fL1 Z (oA Z Z (eN (zU (zx (za ?_)))))))))))))))))))))))))
 cases cz
 exact ⟨Z,_,(ZV Z),am,_,ah,Z,Z⟩
end Go.Proofs.Ytlnfbjphfoipaaa
namespace Go.Proofs.Ytlnfbjphfoipaaa
open Go.KL
set_option maxHeartbeats 4000000
theorem wBS  (w:World) (U:PHeap) (hS:St0 w U [])  {r:wAL} (hm:wBu =some r):Gv Try.prog 48 [] w (wBs w [] U (fun U_ L_ v=>v=.agg #[jV r.skier,jV r.mat]/\L_=[])):=by
 unfold wBu at hm
 refine Gv.of Try.func48 Z Try.ntmps48 Try.results48 Z (sR (.fx 0 .nil .stop) Z (zR (cs:=[jV 0,jV 0]) Z Z Z Z Z zZ Z hS ?_))
 intro W1 b2 af
 refine eN (sR gAl Z ?_)
 let B0:List Value:=[jV (-1),jV 0]
 refine oR Z (zl (pv:=[(0,jV (-1)),(1,jV 0)]) (z:=[jV 0,jV 0]) (cs:=B0) Z (wAH Z (wAH Z wAP)) zZ wBL Z Z) (zV (j:=0) (vs:=B0) Z Z Z Z af Z Z Z Z zF (zA Z) Z Z Z ?_)
 intro W5 ag
 have ab:sW w U U [.blk b2 104 B0] W5:=ag
 refine eN (zU ?_)
 cases hm
 exact ⟨rfl,_,(wFg (v:=.agg B0.toArray) ⟨⟨_,rfl,(wAq zh zF (ab.blkAt (k:=0) rfl) (vs:=B0) rfl rfl)⟩,trivial⟩),U,_,(ab.pick [] _ (by decide) rfl),rfl,rfl⟩
theorem wEv {S E:Type} (PY:S->PHeap->List Res->Prop) (PE:E->PHeap->List Res->Prop) (f:S->wAJ->Option (S ⊕ E)) (y:Nat) (s0:S) (p1:wAD) (aj:Nat) (bG:Option Addr) (bK:Nat) (bH:Option Addr) (bL:Nat) (bI:Option Addr) (bM:Nat) (bJ:Option Addr) (bN:Nat) (w:World) (L:List Res) (U:PHeap) (hS:St ⟨w,L,U⟩ U L w) (hP:PY s0 U L) (hY:YOK Try.prog y wKJ PY PE f U) (aP:Cl U aj 0 [.slice bG p1.Starts.length bK,.slice bH p1.Splits.length bL,.slice bI p1.Clocks.length bM,.slice bJ p1.Readings.length bN]) (iN:Sl U 1 bG bK p1.Starts.length (hD KL.encI p1.Starts)) (iO:Sl U 2 bH bL p1.Splits.length (hD wAC p1.Splits)) (iP:Sl U 3 bI bM p1.Clocks.length (hD wAB p1.Clocks)) (iQ:Sl U 4 bJ bN p1.Readings.length (hD wAA p1.Readings)) {r:S ⊕ E} (hm:wBk f s0 p1=some r):Gv Try.prog 105 [.func (.yield y) #[] #[],.pointer (some ⟨aj,0,none⟩)] w (ItS w L U PY PE r):=by
 unfold wBk at hm
 refine Gv.of Try.func105 Z Try.ntmps105 Try.results105 Z (sR wMQ Z (oR Z (zG Z Z zK Z yG) (oL Z (hS.ldC (f:=1) aP (v:=.slice bH p1.Splits.length bL) Z Z yS Z) (oR Z (zw Z Z ZK) (oR Z (zG Z Z zK Z Zn) (oL Z (hS.ldC (f:=2) aP (v:=.slice bI p1.Clocks.length bM) Z Z yI Z) (oR Z (zw Z Z ZU) (oR Z (zG Z Z zK Z ZW) (oL Z (hS.ldC (f:=3) aP (v:=.slice bJ p1.Readings.length bN) Z Z Zm Z) (oR Z (zw Z Z zy) ?_))))))))))
 let B0:List Value:=[jV 1,jV (↑p1.Splits.length:Int),jV (↑p1.Clocks.length:Int),jV (↑p1.Readings.length:Int)]
 refine oR Z (Runs.buildA (pv:=[(0,jV 1),(1,jV (↑p1.Splits.length:Int)),(2,jV (↑p1.Clocks.length:Int)),(3,jV (↑p1.Readings.length:Int))]) (z:=[jV 0,jV 0,jV 0,jV 0]) (cs:=B0) Z (wAH Z (wAH Z (wAH Z (wAH Z wAP)))) Try.zeroValue175 Try.runUnderlying175 zC Z Z) (oM Z Z (eN (zd ?_)))
 have q:=wCB hm
 obtain ⟨iT,an⟩:=q
 have q:=wCA an
 obtain ⟨bx,fU⟩:=q
 replace bx:=zN bx
 refine yX (fun ab cS σ_ w_=>∃ (U_:PHeap) (ap:List Res),σ_ 18=jV (↑ab:Int)/\σ_ 0=.func (.yield y) #[] #[]/\σ_ 1=.pointer (some ⟨aj,0,none⟩)/\σ_ 17=.agg B0.toArray/\PHeap.Le U U_/\St ⟨w,L,U⟩ U_ ap w_/\PY cS U_ ap) fU ?_ ?_ ?_
 exact ⟨U,L,Z,Z,Z,Z,(zO _),hS,hP⟩
 rintro ab cS iY ja io bs ⟨a9,ap,au,ci,bf,bg,am,bq,cy⟩ gG aQ
 have cc:Hid ((↑ab:Int) < 4):=zN (wAs bs)
 replace bs:=zN bs
 have cK:Hid (w64 ((↑ab:Int) + 1)=(↑(ab + 1):Int)):=zN (by have h1:=bx.out;have h2:=cc.out;rw [wAW] <;> omega)
 refine sR fL1 Z (oR Z (zi Z au Z) (eN (zL (cT Z cc (kN (zL (zd (sR fL4 Z (oM Z au (bnK gG fun af bp gm=>oR Z (ye (cs:=hD KL.encI ([1,(↑p1.Splits.length:Int),(↑p1.Clocks.length:Int),(↑p1.Readings.length:Int)]:List Int)) Z bg au Try.runUnderlying175 zC (wCk bp) (wCw bp) (wET zJ (wEB (sz:=1) (fun _=>Z) _ _ 0 _ _ (wAj bp) Z))) (oA Z Z (oA Z Z (eN (sR fL4 Z (oR Z (zG Z bf zK Z ZD) ?_)))))))))))))))
 have fk:=aP.le am
 refine oL Z (bq.ldC (f:=0) fk (v:=.slice bG p1.Starts.length bK) Z Z ZL Z) (oR Z (zw Z Z zH) (oA Z Z (eN (zL ?_))))
 have q:=bnd gm
 obtain ⟨⟨dh,gS⟩,cO,cL⟩:=q
 try dsimp only at cL
 refine yP (fun σ_ w_=>∃ (U_:PHeap) (aq:List Res),σ_ 0=.func (.yield y) #[] #[]/\σ_ 1=.pointer (some ⟨aj,0,none⟩)/\σ_ 3=jV (↑ab:Int)/\σ_ 4=jV af/\σ_ 5=jV (↑p1.Starts.length:Int)/\σ_ 17=.agg B0.toArray/\σ_ 18=jV (↑ab:Int)/\σ_ 30=.bool dh/\PHeap.Le a9 U_/\St ⟨w,L,U⟩ U_ aq w_/\PY gS U_ aq) ?_ ?_
 refine rR fL6 Z (oM Z Z (oR Z (yJ Z Z Z) (oM Z Z ?_)))
 by_cases ag:(↑ab:Int)=2
 have cM:=cO;rw [if_pos ag] at cM;replace ag:=zN ag
 refine oT Z ag (oT Z ag (oR Z (zQ Z (Zk ag.out) Z) (zc ?_)))
 cases cM
 exact zI ⟨Z,⟨a9,ap,ci,bf,Z,Z,Z,bg,au,Z,(zO _),bq,cy⟩⟩
 have cN:=cO;rw [if_neg ag] at cN;replace ag:=zN ag
 refine zo Z Z Z (wF Z ag) Z Z (rU Z (wF Z ag) (yJ Z Z Z) (oR Z (ze Z (zt ag.out) Z) (zc ?_)))
 cases cN
 exact zI ⟨Z,⟨a9,ap,ci,bf,Z,Z,Z,bg,au,Z,(zO _),bq,cy⟩⟩
 rintro ji iy ⟨aG,aq,cn,co,cp,cq,eI,cr,ct,cu,ao,cE,cz⟩
 refine ifc cL ?_ ?_
 intro bb aW
 refine ZT (cu.trans (congrArg hH bb.out)) (rR fL1 Z (oA Z Z (eN (sR fL2 Z (oM Z Z (oM Z Z (eN (zd ?_))))))))
 have q:=wCB aW
 obtain ⟨iW,aO⟩:=q
 have q:=wCA aO
 obtain ⟨bB,fY⟩:=q
 replace bB:=zN bB
 refine yX (fun ae cX σ_ w_=>∃ (U_:PHeap) (ax:List Res),σ_ 32=jV (↑ae:Int)/\σ_ 0=.func (.yield y) #[] #[]/\σ_ 1=.pointer (some ⟨aj,0,none⟩)/\σ_ 3=jV (↑ab:Int)/\σ_ 4=jV af/\σ_ 17=.agg B0.toArray/\σ_ 18=jV (↑ab:Int)/\σ_ 31=jV 1/\PHeap.Le aG U_/\St ⟨w,L,U⟩ U_ ax w_/\PY cX U_ ax) fY ?_ ?_ ?_
 exact ⟨aG,aq,Z,cn,co,cp,cq,cr,ct,Z,(zO _),cE,cz⟩
 rintro ae cX i3 jj iz bv ⟨bT,ax,bo,eJ,eK,eL,cw,eM,eO,cx,bF,fN,eY⟩ aY cJ
 have bY:Hid ((↑ae:Int) < 1):=zN (wAs bv)
 replace bv:=zN bv
 have fZ:Hid (w64 ((↑ae:Int) + 1)=(↑(ae + 1):Int)):=zN (by have h1:=bB.out;have h2:=bY.out;rw [wAW] <;> omega)
 refine sR fL1 Z (oR Z (zi Z bo cx) (eN (zL (cT Z bY (kN (zL (zd (sR fL2 Z (oM Z bo (oA Z Z (eN (sR fL2 Z (oM Z cw (oM Z Z (eN (zd ?_))))))))))))))))
 have q:=wCB aY
 obtain ⟨iS,aL⟩:=q
 have q:=wCA aL
 obtain ⟨bw,fT⟩:=q
 replace bw:=zN bw
 refine yX (fun ah cU σ_ w_=>∃ (U_:PHeap) (aZ:List Res),σ_ 36=jV (↑ah:Int)/\σ_ 0=.func (.yield y) #[] #[]/\σ_ 1=.pointer (some ⟨aj,0,none⟩)/\σ_ 3=jV (↑ab:Int)/\σ_ 4=jV af/\σ_ 6=jV (↑ae:Int)/\σ_ 17=.agg B0.toArray/\σ_ 18=jV (↑ab:Int)/\σ_ 31=jV 1/\σ_ 32=jV (↑ae:Int)/\σ_ 35=jV af/\PHeap.Le bT U_/\St ⟨w,L,U⟩ U_ aZ w_/\PY cU U_ aZ) fT ?_ ?_ ?_
 exact ⟨bT,ax,Z,eJ,eK,eL,cw,Z,eM,eO,cx,bo,Z,(zO _),fN,eY⟩
 rintro ah cU iX i9 im br ⟨ik,aZ,bk,bc,dE,bd,dF,be,dG,dH,dI,dJ,cd,bC,fu,eZ⟩ gF cG
 have bZ:Hid ((↑ah:Int) < af):=zN (wAs br)
 replace br:=zN br
 have f4:Hid (w64 ((↑ah:Int) + 1)=(↑(ah + 1):Int)):=zN (by have h1:=bw.out;have h2:=bZ.out;rw [wAW] <;> omega)
 refine sR fL1 Z (oR Z (zi Z bk cd) (eN (zL (cT Z bZ (kN (zL (zd (sR fL2 Z (oM Z bk (oA Z Z (eN (sR (wHI (.fx 5 (wKv gAv) .stop)) Z (oM Z bc (oM Z bd (oM Z be (oM Z Z ?_))))))))))))))))
 let B1:List Value:=[jV 0,jV 0,jV 0,.bool false]
 refine oR Z (zl (pv:=[(0,jV (↑ab:Int)),(1,jV (↑ae:Int)),(2,jV (↑ah:Int)),(3,.bool true)]) (z:=B1) (cs:=[jV (↑ab:Int),jV (↑ae:Int),jV (↑ah:Int),.bool true]) Z (wAH Z (wAH Z (wAH Z (wAH Z wAP)))) Zz wDS Z Z) (bnK gF fun ic e0 aR=>OKS.yieldT 0 (a:=(⟨(↑ab:Int),(↑ae:Int),(↑ah:Int),true⟩:wAJ)) Z Z Z Z Z Z (zB Z zM) fu hY (((am.trans ao).trans bF).trans bC) eZ Z e0 Z ?_)
 rintro a8 bQ iA bU cP cA aH
 rcases ic with gO | gO
 try dsimp only at aR aH
 obtain ⟨rfl,gx⟩:=aH
 have fw:St ⟨w,L,U⟩ a8 bQ bU:=cA
 refine oR Z (Zd Z Z) (oM Z Z (zo Z Z Z (zP Z Z Z) Z bc (zo Z Z Z (zP Z Z Z) Z bd (zo Z Z Z (zP Z Z Z) Z be (zo Z Z Z (zP Z Z Z) Z Z (zY Z Z Z (zP Z Z Z) (fun _=>zl (pv:=[(0,jV (↑ab:Int)),(1,jV (↑ae:Int)),(2,jV (↑ah:Int)),(3,.bool false)]) (z:=B1) (cs:=[jV (↑ab:Int),jV (↑ae:Int),jV (↑ah:Int),.bool false]) Z (wAH Z (wAH Z (wAH Z (wAH Z wAP)))) Zz wDS Z Z) (bnK aR fun ie fb aS=>OKS.yieldT 0 (a:=(⟨(↑ab:Int),(↑ae:Int),(↑ah:Int),false⟩:wAJ)) Z Z Z (zP Z Z Z) Z Z (zB Z zM) fw hY ((((am.trans ao).trans bF).trans bC).trans cP) gx Z fb Z ?_)))))))
 rintro ay a5 iB bV gI cB aI
 rcases ie with gP | gP
 try dsimp only at aS aI
 obtain ⟨rfl,gy⟩:=aI
 have fy:St ⟨w,L,U⟩ ay a5 bV:=cB
 refine zY Z Z Z (zP Z Z Z) (fun _=>Zd Z Z) (oR Z (ze Z Z Z) (eN (ZI Z (Zp (ZA (zI (rR fL2 Z (oR Z (ZM (zb Z bk Z) (congrArg (jV) f4.out)) (oM Z Z (zc ?_))))))))))
 have q:=hJ aS
 obtain rfl:=q
 exact zI ⟨Z,_,Z,⟨ay,a5,Z,bc,dE,bd,dF,be,dG,dH,dI,dJ,cd,((bC.trans cP).trans gI),fy,gy⟩⟩
 try dsimp only at aS aI
 obtain ⟨rfl,gz⟩:=aI
 have fz:St ⟨w,L,U⟩ ay a5 bV:=cB
 refine zY Z Z Z (zP Z Z Z) (fun _=>Zd Z Z) (oR Z (ze Z Z Z) (eN (ZT Z (zU (zx (za ?_))))))
 have q:=wAh aS
 obtain ⟨gT,f7,dr⟩:=q
 have q:=wBw aY aL (cG gT dr)
 obtain rfl:=q
 refine za (zx (zx (za ?_)))
 have q:=wAh f7
 obtain ⟨gU,f8,dt⟩:=q
 have q:=wBw aW aO (cJ gU dt)
 obtain rfl:=q
 refine za (zx (zx (za ?_)))
 have q:=wAh f8
 obtain ⟨gV,f9,du⟩:=q
 have q:=wBw hm an (aQ gV du)
 obtain rfl:=q
 refine za (zx ?_)
 cases f9
 exact ⟨Z,_,(wLi),ay,_,fz,gz⟩
 try dsimp only at aR aH
 obtain ⟨rfl,gA⟩:=aH
 have fA:St ⟨w,L,U⟩ a8 bQ bU:=cA
 refine oR Z (Zd Z Z) (oM Z Z (oN Z (oN Z (oN Z (oN Z (oN Z (ZE Z Z Z (zS Z Z Z Z) (oN Z (oR Z (zQ Z Z Z) (eN (ZT Z (zU (zx (za ?_))))))))))))))
 have q:=wAh aR
 obtain ⟨gW,ga,dv⟩:=q
 have q:=wBw aY aL (cG gW dv)
 obtain rfl:=q
 refine za (zx (zx (za ?_)))
 have q:=wAh ga
 obtain ⟨gX,gb,dw⟩:=q
 have q:=wBw aW aO (cJ gX dw)
 obtain rfl:=q
 refine za (zx (zx (za ?_)))
 have q:=wAh gb
 obtain ⟨gY,ge,dx⟩:=q
 have q:=wBw hm an (aQ gY dx)
 obtain rfl:=q
 refine za (zx ?_)
 cases ge
 exact ⟨Z,_,(wLi),a8,_,fA,gA⟩
 rintro i4 jb ip ⟨db,cY,eQ,dK,dL,dM,dN,iE,dO,dP,dQ,dR,dS,gJ,fB,fc⟩ fO
 have gf:=wCx aY aL fO
 have di:Hid (¬ ((↑((af:Int) - 0).toNat:Int) < af)):=zN (wAc)
 refine sR fL1 Z (oR Z (zi Z eQ dS) (eN (zL (cF Z di (Zc (zm (zm (ZY (ZA (zI (rR fL2 Z (oR Z (ZM (zb Z dR Z) (congrArg (jV) fZ.out)) (oM Z Z (zc ?_))))))))))))))
 have q:=hJ gf
 obtain rfl:=q
 exact zI ⟨Z,_,Z,⟨db,cY,Z,dK,dL,dM,dN,dO,dP,dQ,(bF.trans gJ),fB,fc⟩⟩
 rintro i5 jc iq ⟨dd,cZ,eU,dT,dU,iF,iG,dV,dW,dX,gK,fC,fd⟩ fP
 have gg:=wCx aW aO fP
 have dk:Hid (¬ ((↑((1:Int) - 0).toNat:Int) < 1)):=zN (wAc)
 refine sR fL1 Z (oR Z (zi Z eU dX) (eN (zL (cF Z dk (Zc (zm (zm (ZY (ZA (zI (rR fL2 Z (oR Z (ZM (zb Z dW Z) (congrArg (jV) cK.out)) (oM Z Z (zc ?_))))))))))))))
 have q:=hJ gg
 obtain rfl:=q
 exact zI ⟨Z,_,Z,⟨dd,cZ,Z,dT,dU,dV,((am.trans ao).trans gK),fC,fd⟩⟩
 intro bb aT
 refine ZI (cu.trans (congrArg hH (nA.2 bb.out))) (kN (sR fL2 Z (oM Z eI (oM Z Z (eN (zd ?_))))))
 have q:=wCB aT
 obtain ⟨iU,aM⟩:=q
 have q:=wCA aM
 obtain ⟨bz,fV⟩:=q
 replace bz:=zN bz
 refine yX (fun ac cV σ_ w_=>∃ (U_:PHeap) (av:List Res),σ_ 32=jV (↑ac:Int)/\σ_ 0=.func (.yield y) #[] #[]/\σ_ 1=.pointer (some ⟨aj,0,none⟩)/\σ_ 3=jV (↑ab:Int)/\σ_ 4=jV af/\σ_ 17=.agg B0.toArray/\σ_ 18=jV (↑ab:Int)/\σ_ 31=jV (↑p1.Starts.length:Int)/\PHeap.Le aG U_/\St ⟨w,L,U⟩ U_ av w_/\PY cV U_ av) fV ?_ ?_ ?_
 exact ⟨aG,aq,Z,cn,co,cp,cq,cr,ct,Z,(zO _),cE,cz⟩
 rintro ac cV iZ jd ir bt ⟨bS,av,bm,dY,dZ,d7,cf,d9,ec,cg,bD,fD,ff⟩ aX cH
 have ca:Hid ((↑ac:Int) < (↑p1.Starts.length:Int)):=zN (wAs bt)
 replace bt:=zN bt
 have f5:Hid (w64 ((↑ac:Int) + 1)=(↑(ac + 1):Int)):=zN (by have h1:=bz.out;have h2:=ca.out;rw [wAW] <;> omega)
 refine sR fL1 Z (oR Z (zi Z bm cg) (eN (zL (cT Z ca (kN (zL (zd (sR fL2 Z (oM Z bm (oA Z Z (eN (sR fL2 Z (oM Z cf (oM Z Z (eN (zd ?_))))))))))))))))
 have q:=wCB aX
 obtain ⟨iV,aN⟩:=q
 have q:=wCA aN
 obtain ⟨bA,fW⟩:=q
 replace bA:=zN bA
 refine yX (fun ai cW σ_ w_=>∃ (U_:PHeap) (a6:List Res),σ_ 36=jV (↑ai:Int)/\σ_ 0=.func (.yield y) #[] #[]/\σ_ 1=.pointer (some ⟨aj,0,none⟩)/\σ_ 3=jV (↑ab:Int)/\σ_ 4=jV af/\σ_ 6=jV (↑ac:Int)/\σ_ 17=.agg B0.toArray/\σ_ 18=jV (↑ab:Int)/\σ_ 31=jV (↑p1.Starts.length:Int)/\σ_ 32=jV (↑ac:Int)/\σ_ 35=jV af/\PHeap.Le bS U_/\St ⟨w,L,U⟩ U_ a6 w_/\PY cW U_ a6) fW ?_ ?_ ?_
 exact ⟨bS,av,Z,dY,dZ,d7,cf,Z,d9,ec,cg,bm,Z,(zO _),fD,ff⟩
 rintro ai cW i2 je it bu ⟨il,a6,bn,bh,ef,bi,eg,bj,eh,ej,ek,en,cm,bE,fE,fg⟩ gH cI
 have cb:Hid ((↑ai:Int) < af):=zN (wAs bu)
 replace bu:=zN bu
 have f6:Hid (w64 ((↑ai:Int) + 1)=(↑(ai + 1):Int)):=zN (by have h1:=bA.out;have h2:=cb.out;rw [wAW] <;> omega)
 refine sR fL1 Z (oR Z (zi Z bn cm) (eN (zL (cT Z cb (kN (zL (zd (sR fL2 Z (oM Z bn (oA Z Z (eN (sR (wHI (.fx 5 (wKv gAv) .stop)) Z (oM Z bh (oM Z bi (oM Z bj (oM Z Z ?_))))))))))))))))
 let B2:List Value:=[jV 0,jV 0,jV 0,.bool false]
 refine oR Z (zl (pv:=[(0,jV (↑ab:Int)),(1,jV (↑ac:Int)),(2,jV (↑ai:Int)),(3,.bool true)]) (z:=B2) (cs:=[jV (↑ab:Int),jV (↑ac:Int),jV (↑ai:Int),.bool true]) Z (wAH Z (wAH Z (wAH Z (wAH Z wAP)))) Zz wDS Z Z) (bnK gH fun ig fh aU=>OKS.yieldT 0 (a:=(⟨(↑ab:Int),(↑ac:Int),(↑ai:Int),true⟩:wAJ)) Z Z Z Z Z Z (zB Z zM) fE hY (((am.trans ao).trans bD).trans bE) fg Z fh Z ?_)
 rintro ba bR iC bW cQ cC aJ
 rcases ig with gQ | gQ
 try dsimp only at aU aJ
 obtain ⟨rfl,gB⟩:=aJ
 have fG:St ⟨w,L,U⟩ ba bR bW:=cC
 refine oR Z (Zd Z Z) (oM Z Z (zo Z Z Z (zP Z Z Z) Z bh (zo Z Z Z (zP Z Z Z) Z bi (zo Z Z Z (zP Z Z Z) Z bj (zo Z Z Z (zP Z Z Z) Z Z (zY Z Z Z (zP Z Z Z) (fun _=>zl (pv:=[(0,jV (↑ab:Int)),(1,jV (↑ac:Int)),(2,jV (↑ai:Int)),(3,.bool false)]) (z:=B2) (cs:=[jV (↑ab:Int),jV (↑ac:Int),jV (↑ai:Int),.bool false]) Z (wAH Z (wAH Z (wAH Z (wAH Z wAP)))) Zz wDS Z Z) (bnK aU fun ii fj aV=>OKS.yieldT 0 (a:=(⟨(↑ab:Int),(↑ac:Int),(↑ai:Int),false⟩:wAJ)) Z Z Z (zP Z Z Z) Z Z (zB Z zM) fG hY ((((am.trans ao).trans bD).trans bE).trans cQ) gB Z fj Z ?_)))))))
 rintro az a7 iD bX gL cD aK
 rcases ii with gR | gR
 try dsimp only at aV aK
 obtain ⟨rfl,gC⟩:=aK
 have fH:St ⟨w,L,U⟩ az a7 bX:=cD
 refine zY Z Z Z (zP Z Z Z) (fun _=>Zd Z Z) (oR Z (ze Z Z Z) (eN (ZI Z (Zp (ZA (zI (rR fL2 Z (oR Z (ZM (zb Z bn Z) (congrArg (jV) f6.out)) (oM Z Z (zc ?_))))))))))
 have q:=hJ aV
 obtain rfl:=q
 exact zI ⟨Z,_,Z,⟨az,a7,Z,bh,ef,bi,eg,bj,eh,ej,ek,en,cm,((bE.trans cQ).trans gL),fH,gC⟩⟩
 try dsimp only at aV aK
 obtain ⟨rfl,gD⟩:=aK
 have fI:St ⟨w,L,U⟩ az a7 bX:=cD
 refine zY Z Z Z (zP Z Z Z) (fun _=>Zd Z Z) (oR Z (ze Z Z Z) (eN (ZT Z (zU (zx (za ?_))))))
 have q:=wAh aV
 obtain ⟨gZ,gh,dy⟩:=q
 have q:=wBw aX aN (cI gZ dy)
 obtain rfl:=q
 refine za (zx (zx (za ?_)))
 have q:=wAh gh
 obtain ⟨g6,gi,dz⟩:=q
 have q:=wBw aT aM (cH g6 dz)
 obtain rfl:=q
 refine za (zx (zx (za ?_)))
 have q:=wAh gi
 obtain ⟨g7,gj,dA⟩:=q
 have q:=wBw hm an (aQ g7 dA)
 obtain rfl:=q
 refine za (zx ?_)
 cases gj
 exact ⟨Z,_,(wLi),az,_,fI,gD⟩
 try dsimp only at aU aJ
 obtain ⟨rfl,gE⟩:=aJ
 have fJ:St ⟨w,L,U⟩ ba bR bW:=cC
 refine oR Z (Zd Z Z) (oM Z Z (oN Z (oN Z (oN Z (oN Z (oN Z (ZE Z Z Z (zS Z Z Z Z) (oN Z (oR Z (zQ Z Z Z) (eN (ZT Z (zU (zx (za ?_))))))))))))))
 have q:=wAh aU
 obtain ⟨g8,gp,dB⟩:=q
 have q:=wBw aX aN (cI g8 dB)
 obtain rfl:=q
 refine za (zx (zx (za ?_)))
 have q:=wAh gp
 obtain ⟨g9,gq,dC⟩:=q
 have q:=wBw aT aM (cH g9 dC)
 obtain rfl:=q
 refine za (zx (zx (za ?_)))
 have q:=wAh gq
 obtain ⟨ib,gt,dD⟩:=q
 have q:=wBw hm an (aQ ib dD)
 obtain rfl:=q
 refine za (zx ?_)
 cases gt
 exact ⟨Z,_,(wLi),ba,_,fJ,gE⟩
 rintro i6 jf iu ⟨de,c6,eV,eo,ep,er,eu,iH,ew,ey,ez,eA,eB,gM,fK,fm⟩ fQ
 have gu:=wCx aX aN fQ
 have dl:Hid (¬ ((↑((af:Int) - 0).toNat:Int) < af)):=zN (wAc)
 refine sR fL1 Z (oR Z (zi Z eV eB) (eN (zL (cF Z dl (Zc (zm (zm (ZY (ZA (zI (rR fL2 Z (oR Z (ZM (zb Z eA Z) (congrArg (jV) f5.out)) (oM Z Z (zc ?_))))))))))))))
 have q:=hJ gu
 obtain rfl:=q
 exact zI ⟨Z,_,Z,⟨de,c6,Z,eo,ep,er,eu,ew,ey,ez,(bD.trans gM),fK,fm⟩⟩
 rintro i7 jg iv ⟨df,da,eW,eD,eE,iI,iJ,eF,eG,eH,gN,fL,fq⟩ fR
 have gv:=wCx aT aM fR
 have dm:Hid (¬ ((↑(((↑p1.Starts.length:Int):Int) - 0).toNat:Int) < (↑p1.Starts.length:Int))):=zN (wAc)
 refine sR fL1 Z (oR Z (zi Z eW eH) (eN (zL (cF Z dm (Zc (zm (zm (ZY (ZA (zI (rR fL2 Z (oR Z (ZM (zb Z eG Z) (congrArg (jV) cK.out)) (oM Z Z (zc ?_))))))))))))))
 have q:=hJ gv
 obtain rfl:=q
 exact zI ⟨Z,_,Z,⟨df,da,Z,eD,eE,eF,((am.trans ao).trans gN),fL,fq⟩⟩
 rintro i8 jh iw ⟨dg,ij,eX,iK,iL,iM,iR,fM,ft⟩ fS
 have gw:=wCx hm an fS
 have dq:Hid (¬ ((↑((4:Int) - 0).toNat:Int) < 4)):=zN (wAc)
 refine sR fL1 Z (oR Z (zi Z eX Z) (eN (zL (cF Z dq (Zc (zm (zm (ZY ?_))))))))
 cases gw
 exact ⟨Z,_,(wLi),dg,_,fM,ft⟩
theorem wFc (p0:wAD) (ac:Option Addr) (ah:Nat) (ae:Option Addr) (ai:Nat) (af:Option Addr) (aj:Nat) (ag:Option Addr) (ak:Nat) (w:World) (U:PHeap) (hS:St0 w U []) (ay:Sl U 1 ac ah p0.Starts.length (hD KL.encI p0.Starts)) (az:Sl U 2 ae ai p0.Splits.length (hD wAC p0.Splits)) (aG:Sl U 3 af aj p0.Clocks.length (hD wAB p0.Clocks)) (aH:Sl U 4 ag ak p0.Readings.length (hD wAA p0.Readings)) {r:Unit} (hm:wCe p0=some r):Gv Try.prog 81 [.agg #[.slice ac p0.Starts.length ah,.slice ae p0.Splits.length ai,.slice af p0.Clocks.length aj,.slice ag p0.Readings.length ak]] w (wBs w [] U (fun U_ L_ v=>∃ (b0:Nat),v=.func (.func 105) #[] #[.pointer (some ⟨b0,0,none⟩)]/\L_=[]/\Cl U_ b0 0 [.slice ac p0.Starts.length ah,.slice ae p0.Splits.length ai,.slice af p0.Clocks.length aj,.slice ag p0.Readings.length ak])):=by
 unfold wCe at hm
 refine Gv.of Try.func81 Z Try.ntmps81 Try.results81 Z (sR gAm Z ?_)
 let B0:List Value:=[.slice ac p0.Starts.length ah,.slice ae p0.Splits.length ai,.slice af p0.Clocks.length aj,.slice ag p0.Readings.length ak]
 refine zu (cs:=B0) rfl rfl rfl rfl rfl rfl (by rfl) hS ?_
 intro W1 b2 au
 have q:=au.freeze (k:=0) rfl
 obtain ⟨U5,aI,ab,av⟩:=q
 replace ab:=Cl.of ab
 have ax:sW w U U5 [] W1:=av
 replace ab:Cl U5 b2 0 B0:=ab
 refine oA Z Z (eN (sR fL2 Z (oR Z (Runs.mkf Z zM (zB Z zM)) (oA Z Z (eN (zU ?_))))))
 cases hm
 exact ⟨Z,_,(ZV Z),U5,_,ax,b2,Z,Z,ab⟩
theorem wGR (p0:wAD) (ae:Option Addr) (af:Nat) (aj:Option Addr) (an:Nat) (ak:Option Addr) (ao:Nat) (am:Option Addr) (ap:Nat) (p1:wAJ) (w:World) (U:PHeap) (hS:St0 w U []) (aO:Sl U 1 ae af p0.Starts.length (hD KL.encI p0.Starts)) (aP:Sl U 2 aj an p0.Splits.length (hD wAC p0.Splits)) (aQ:Sl U 3 ak ao p0.Clocks.length (hD wAB p0.Clocks)) (aR:Sl U 4 am ap p0.Readings.length (hD wAA p0.Readings)) {r:Bool} (hm:wDv p0 p1=some r):Gv Try.prog 108 [.agg #[.slice ae p0.Starts.length af,.slice aj p0.Splits.length an,.slice ak p0.Clocks.length ao,.slice am p0.Readings.length ap],.agg #[jV p1.Kind,jV p1.Skier,jV p1.Index,.bool p1.Up]] w (wBs w [] U (fun U_ L_ v=>v=.bool r/\L_=[])):=by
 unfold wDv at hm
 refine Gv.of Try.func108 Z Try.ntmps108 Try.results108 Z (sR gAu Z ?_)
 let B0:List Value:=[.slice ae p0.Starts.length af,.slice aj p0.Splits.length an,.slice ak p0.Clocks.length ao,.slice am p0.Readings.length ap]
 refine zu (cs:=B0) rfl rfl rfl rfl rfl rfl (by rfl) hS ?_
 intro W1 b2 aJ
 let B1:List Value:=[jV p1.Kind,jV p1.Skier,jV p1.Index,.bool p1.Up]
 refine zu (cs:=B1) rfl rfl rfl rfl rfl rfl (by rfl) aJ ?_
 intro W5 b6 ai
 refine oA Z Z (eN (sR (wGf (.fx 6 (wKx (.nil)) .stop)) Z (oR Z (zG Z Z zj Z zC) (oL Z (ai.ldB (j:=0) Z Z Z zJ (v:=jV p1.Skier) Z) (oR Z (zG Z Z zK Z ZD) (oL Z (ai.ldB (j:=1) Z Z Z ZL (v:=.slice ae p0.Starts.length af) Z) (oR Z (zw Z Z zH) (oR Z (yU Z Z Z) (bnK hm fun x9 aH aK=>zE 0 Z Z Z Z (zD Z Z yO (zB Z (zB Z (zB Z zM))) Z) ai (fun hs=>wBY p1.Skier 0 (w64 ((↑p0.Starts.length:Int) - 1)) W5 U hs aH) (.inr Z) ?_)))))))))
 rintro ag aM aT ax aS aI ⟨rfl,rfl⟩
 have ah:sW w U ag [.blk b6 78 B1,.blk b2 28 B0] ax:=aI
 refine oM Z Z (ifc aK ?_ ?_)
 intro ac av
 refine zY Z Z Z (zP Z Z (congrArg hH ac.out)) (fun _=>zG Z Z zj Z zC) (ZF Z Z Z (zP Z Z (congrArg hH ac.out)) (ah.ldB (j:=0) Z Z Z zJ (v:=jV p1.Index) Z) Z (zY Z Z Z (zP Z Z (congrArg hH ac.out)) (fun _=>yJ Z Z Z) (oR Z (zQ Z (congrArg hH ac.out) Z) (oA Z Z (eN (zU ?_))))))
 first | (obtain rfl:=hJ av) | cases av
 exact ⟨rfl,_,(ZV rfl),ag,_,(ah.pick [] _ (by decide) rfl),rfl,rfl⟩
 intro ac aL
 refine zX Z Z Z (zS Z Z (congrArg hH (nA.2 ac.out)) Z) (zX Z Z Z (zS Z Z (congrArg hH (nA.2 ac.out)) Z) (zX Z Z Z (zS Z Z (congrArg hH (nA.2 ac.out)) Z) (oR Z (ze Z (congrArg hH (nA.2 ac.out)) Z) (oA Z Z (eN (zU ?_))))))
 have hE:=hJ aL;first | subst r | cases hE
 exact ⟨rfl,_,(ZV rfl),ag,_,(ah.pick [] _ (by decide) rfl),rfl,rfl⟩
theorem wGS (p0:wAD) (aH:Option Addr) (aL:Nat) (aI:Option Addr) (aM:Nat) (aJ:Option Addr) (aN:Nat) (aK:Option Addr) (aO:Nat) (p1:wAJ) (w:World) (U:PHeap) (hS:St0 w U []) (bF:Sl U 1 aH aL p0.Starts.length (hD KL.encI p0.Starts)) (bG:Sl U 2 aI aM p0.Splits.length (hD wAC p0.Splits)) (bH:Sl U 3 aJ aN p0.Clocks.length (hD wAB p0.Clocks)) (bI:Sl U 4 aK aO p0.Readings.length (hD wAA p0.Readings)) {r:wAL × wAL} (hm:wDM p0 p1=some r):Gv Try.prog 109 [.agg #[.slice aH p0.Starts.length aL,.slice aI p0.Splits.length aM,.slice aJ p0.Clocks.length aN,.slice aK p0.Readings.length aO],.agg #[jV p1.Kind,jV p1.Skier,jV p1.Index,.bool p1.Up]] w (wBs w [] U (fun U_ L_ v=>v=.tuple #[.agg #[jV r.1.skier,jV r.1.mat],.agg #[jV r.2.skier,jV r.2.mat]]/\L_=[])):=by
 unfold wDM at hm
 refine Gv.of Try.func109 Z Try.ntmps109 Try.results109 Z (sR (.fx 0 (.fx 1 gAh .stop) .stop) Z ?_)
 let B0:List Value:=[.slice aH p0.Starts.length aL,.slice aI p0.Splits.length aM,.slice aJ p0.Clocks.length aN,.slice aK p0.Readings.length aO]
 refine zu (cs:=B0) rfl rfl rfl rfl rfl rfl (by rfl) hS ?_
 intro W1 b2 bd
 let B1:List Value:=[jV p1.Kind,jV p1.Skier,jV p1.Index,.bool p1.Up]
 refine zu (cs:=B1) rfl rfl rfl rfl rfl rfl (by rfl) bd ?_
 intro W5 b6 bn
 let B2:List Value:=[jV 0,jV 0]
 refine zR (cs:=B2) Z Z Z Z Z zZ Z bn ?_
 intro W9 ah bb
 refine zR (cs:=B2) Z Z Z Z Z zZ Z bb ?_
 intro aP ai bc
 refine eN ?_
 have q:=bnd hm
 obtain ⟨⟨bw,bx⟩,bu,aT⟩:=q
 try dsimp only at aT
 let B3:List Value:=[jV p1.Skier,jV 0]
 let B4:List Value:=[jV bw,jV bx]
 refine yP (fun σ_ w_=>∃ (U_:PHeap),σ_ 4=.pointer (some ⟨ah,0,none⟩)/\σ_ 5=.pointer (some ⟨ai,0,none⟩)/\PHeap.Le U U_/\sW w U U_ [.blk ai 104 B3,.blk ah 104 B4,.blk b6 78 B1,.blk b2 28 B0] w_) ?_ ?_
 refine bnK bu fun an aR aG=>ZG ZH [2,3,2,3,0,0] (.fl 1 (.fx 0 (.fx 2 (.fl 3 gAn) (.fx 4 (.fx 2 (.fl 3 (.fx 5 .nil .stop)) .stop) .stop)) (.fx 2 (.fl 3 (.fx 0 gAn .stop)) .stop))) (by kernel_rfl) ?_
 have ap:=bc.drew
 generalize hw_W40:({ aP with drawn:=aP.drawn + 1 }:World)=aQ at ap ⊢
 refine oR Z (zG Z Z zj Z zC) (zn ?_ ?_)
 refine zE 0 Z Z Z Z (zD Z Z yZ zM Z) ap (fun hs=>wBS aQ U hs aR) (.inr Z) ?_
 rintro am bz bK aW aU be ⟨rfl,rfl⟩
 have ay:sW w U am [.blk ai 104 B2,.blk ah 104 B2,.blk b6 78 B1,.blk b2 28 B0] aW:=be
 refine zn ?_ ?_
 refine ZR Z Z Z Z (ay.ldB (j:=2) Z Z Z zJ (v:=jV p1.Skier) Z) (oR Z (zl (pv:=[(0,jV p1.Skier),(1,jV 0)]) (z:=B2) (cs:=B3) Z (wAH Z (wAH Z wAP)) zZ wBL Z Z) ?_)
 let B5:List Value:=[jV an.skier,jV an.mat]
 refine zV (j:=1) (vs:=B5) Z Z Z Z ay Z Z Z Z zF (zA Z) Z Z Z ?_
 intro aX bf
 have bg:sW w U am [.blk ai 104 B2,.blk ah 104 B5,.blk b6 78 B1,.blk b2 28 B0] aX:=bf
 refine zV (j:=0) (vs:=B3) Z Z Z Z bg Z Z Z Z zF (zA Z) Z Z Z ?_
 intro aY bh
 have bi:sW w U am [.blk ai 104 B3,.blk ah 104 B5,.blk b6 78 B1,.blk b2 28 B0] aY:=bh
 refine zc ?_
 cases aG
 exact zI ⟨Z,⟨am,Z,Z,aU,bi⟩⟩
 let B6:List Value:=[jV an.skier,jV an.mat]
 refine zV (j:=1) (vs:=B6) Z Z Z Z ay Z Z Z Z zF (zA Z) Z Z Z ?_
 intro aZ bj
 have aS:sW w U am [.blk ai 104 B2,.blk ah 104 B6,.blk b6 78 B1,.blk b2 28 B0] aZ:=bj
 refine ZR Z Z Z Z (aS.ldB (j:=2) Z Z Z zJ (v:=jV p1.Skier) Z) (oR Z (zl (pv:=[(0,jV p1.Skier),(1,jV 0)]) (z:=B2) (cs:=B3) Z (wAH Z (wAH Z wAP)) zZ wBL Z Z) (zV (j:=0) (vs:=B3) Z Z Z Z aS Z Z Z Z zF (zA Z) Z Z Z ?_))
 intro a5 bk
 have bm:sW w U am [.blk ai 104 B3,.blk ah 104 B6,.blk b6 78 B1,.blk b2 28 B0] a5:=bk
 refine zc ?_
 cases aG
 exact zI ⟨Z,⟨am,Z,Z,aU,bm⟩⟩
 refine ZR Z Z Z Z (ap.ldB (j:=2) Z Z Z zJ (v:=jV p1.Skier) Z) (oR Z (zl (pv:=[(0,jV p1.Skier),(1,jV 0)]) (z:=B2) (cs:=B3) Z (wAH Z (wAH Z wAP)) zZ wBL Z Z) (zE 0 Z Z Z Z (zD Z Z yZ zM Z) ap (fun hs=>wBS aQ U hs aR) (.inr Z) ?_))
 rintro ao bA bL a6 bv bo ⟨rfl,rfl⟩
 have bp:sW w U ao [.blk ai 104 B2,.blk ah 104 B2,.blk b6 78 B1,.blk b2 28 B0] a6:=bo
 let B7:List Value:=[jV an.skier,jV an.mat]
 refine zV (j:=1) (vs:=B7) Z Z Z Z bp Z Z Z Z zF (zA Z) Z Z Z ?_
 intro a7 bq
 have br:sW w U ao [.blk ai 104 B2,.blk ah 104 B7,.blk b6 78 B1,.blk b2 28 B0] a7:=bq
 refine zV (j:=0) (vs:=B3) Z Z Z Z br Z Z Z Z zF (zA Z) Z Z Z ?_
 intro a8 bs
 have bt:sW w U ao [.blk ai 104 B3,.blk ah 104 B7,.blk b6 78 B1,.blk b2 28 B0] a8:=bs
 refine zc ?_
 cases aG
 exact zI ⟨Z,⟨ao,Z,Z,bv,bt⟩⟩
 rintro bM bD ⟨aV,a9,ba,bJ,az⟩
 refine zU ?_
 cases aT
 exact ⟨rfl,_,(wDf (rs:=[.cell 4 104,.cell 5 104]) (vs:=[.agg B4.toArray,.agg B3.toArray]) ⟨⟨_,a9,(wAq zh zF (az.blkAt (k:=1) rfl) (vs:=B4) rfl rfl)⟩,⟨⟨_,ba,(wAq zh zF (az.blkAt (k:=0) rfl) (vs:=B3) rfl rfl)⟩,trivial⟩⟩ rfl),aV,_,(az.pick [] _ (by decide) rfl),rfl,rfl⟩
theorem wGT (p0:wAD) (af:Option Addr) (ag:Nat) (ah:Option Addr) (ak:Nat) (ai:Option Addr) (am:Nat) (aj:Option Addr) (an:Nat) (p1:wAJ) (w:World) (U:PHeap) (hS:St0 w U []) (ap:Sl U 1 af ag p0.Starts.length (hD KL.encI p0.Starts)) (aO:Sl U 2 ah ak p0.Splits.length (hD wAC p0.Splits)) (aP:Sl U 3 ai am p0.Clocks.length (hD wAB p0.Clocks)) (aQ:Sl U 4 aj an p0.Readings.length (hD wAA p0.Readings)) {r:Int × Int} (hm:wDN p0 p1=some r):Gv Try.prog 110 [.agg #[.slice af p0.Starts.length ag,.slice ah p0.Splits.length ak,.slice ai p0.Clocks.length am,.slice aj p0.Readings.length an],.agg #[jV p1.Kind,jV p1.Skier,jV p1.Index,.bool p1.Up]] w (wBs w [] U (fun U_ L_ v=>v=.tuple #[jV r.1,jV r.2]/\L_=[])):=by
 unfold wDN at hm
 refine Gv.of Try.func110 rfl Try.ntmps110 Try.results110 rfl (sR (.fx 0 gAp .stop) rfl (zu (cs:=[.slice af p0.Starts.length ag,.slice ah p0.Splits.length ak,.slice ai p0.Clocks.length am,.slice aj p0.Readings.length an]) rfl rfl rfl rfl rfl rfl (by rfl) hS ?_))
 intro W1 b2 az
 refine zu (cs:=[jV p1.Kind,jV p1.Skier,jV p1.Index,.bool p1.Up]) rfl rfl rfl rfl rfl rfl (by rfl) az ?_
 intro W5 b6 aG
 refine yF rfl rfl rfl rfl rfl rfl (yF rfl rfl rfl rfl rfl rfl (eN (zL (ZG ZH [3,1,3,1,3,1,3,1,3,1,3,1,3,3,3] fL15 (by kernel_rfl) ?_))))
 have ac:=aG.drew
 generalize hw_W10:({ W5 with drawn:=W5.drawn + 1 }:World)=aJ at ac ⊢
 refine oR Z (zG Z Z zK Z ZD) (oL Z (ac.ldB (j:=1) Z Z Z ZL (v:=.slice af p0.Starts.length ag) Z) (oR Z (zG Z Z zj Z zC) (oL Z (ac.ldB (j:=0) Z Z Z zJ (v:=jV p1.Skier) Z) (bnK hm fun aq ae aH=>?_))))
 have q:=ap.el (fun _=>rfl) (wAj ae)
 obtain ⟨aK,aR,au,ax⟩:=q
 refine oR Z (Zb Z Z au Z zH zC (wCk ae) (wCw ae)) (oL Z (ac.ldC (f:=0) ax (v:=jV aq) Z Z zJ Z) (oR Z (zG Z Z zK Z ZD) (oL Z (ac.ldB (j:=1) Z Z Z ZL (v:=.slice af p0.Starts.length ag) Z) (oR Z (zG Z Z zj Z zC) (oL Z (ac.ldB (j:=0) Z Z Z zJ (v:=jV p1.Skier) Z) ?_)))))
 have q:=ap.el (fun _=>rfl) (wAj ae)
 obtain ⟨aL,aS,av,ay⟩:=q
 refine oR Z (Zb Z Z av Z zH zC (wCk ae) (wCw ae)) (oL Z (ac.ldC (f:=0) ay (v:=jV aq) Z Z zJ Z) (oR Z (Runs.negw Z Z) (oA Z Z (oA Z Z (eN (zU ?_))))))
 cases aH
 exact ⟨rfl,_,(wDm rfl rfl),U,_,(ac.pick [] _ (by decide) rfl),rfl,rfl⟩
theorem wGU (p0:wAD) (af:Option Addr) (ah:Nat) (ag:Option Addr) (ai:Nat) (ao:Option Addr) (aq:Nat) (ap:Option Addr) (au:Nat) (p1:wAJ) (w:World) (U:PHeap) (hS:St0 w U []) (aV:Sl U 1 af ah p0.Starts.length (hD KL.encI p0.Starts)) (aW:Sl U 2 ag ai p0.Splits.length (hD wAC p0.Splits)) (aX:Sl U 3 ao aq p0.Clocks.length (hD wAB p0.Clocks)) (aY:Sl U 4 ap au p0.Readings.length (hD wAA p0.Readings)) {r:Bool} (hm:wDw p0 p1=some r):Gv Try.prog 111 [.agg #[.slice af p0.Starts.length ah,.slice ag p0.Splits.length ai,.slice ao p0.Clocks.length aq,.slice ap p0.Readings.length au],.agg #[jV p1.Kind,jV p1.Skier,jV p1.Index,.bool p1.Up]] w (wBs w [] U (fun U_ L_ v=>v=.bool r/\L_=[])):=by
 unfold wDw at hm
 refine Gv.of Try.func111 Z Try.ntmps111 Try.results111 Z (sR gAu Z ?_)
 let B0:List Value:=[.slice af p0.Starts.length ah,.slice ag p0.Splits.length ai,.slice ao p0.Clocks.length aq,.slice ap p0.Readings.length au]
 refine zu (cs:=B0) rfl rfl rfl rfl rfl rfl (by rfl) hS ?_
 intro W1 b2 aM
 let B1:List Value:=[jV p1.Kind,jV p1.Skier,jV p1.Index,.bool p1.Up]
 refine zu (cs:=B1) rfl rfl rfl rfl rfl rfl (by rfl) aM ?_
 intro W5 b6 an
 refine oA Z Z (eN (sR (wGf (.fx 6 (wKy gAw) .stop)) Z (oR Z (zG Z Z zj Z zC) (oL Z (an.ldB (j:=0) Z Z Z zJ (v:=jV p1.Skier) Z) (oR Z (zG Z Z zK Z ZD) (oL Z (an.ldB (j:=1) Z Z Z ZL (v:=.slice af p0.Starts.length ah) Z) (oR Z (zw Z Z zH) (oR Z (yU Z Z Z) (bnK hm fun x9 aI aO=>zE 0 Z Z Z Z (zD Z Z yO (zB Z (zB Z (zB Z zM))) Z) an (fun hs=>wBY p1.Skier 0 (w64 ((↑p0.Starts.length:Int) - 1)) W5 U hs aI) (.inr Z) ?_)))))))))
 rintro am aS a6 ax aZ aK ⟨rfl,rfl⟩
 have ae:sW w U am [.blk b6 78 B1,.blk b2 28 B0] ax:=aK
 refine oM Z Z (ifc aO ?_ ?_)
 intro ab aP
 refine zY Z Z Z (zP Z Z (congrArg hH ab.out)) (fun _=>zG Z Z zj Z zC) (ZF Z Z Z (zP Z Z (congrArg hH ab.out)) (ae.ldB (j:=0) Z Z Z zJ (v:=jV p1.Index) Z) Z (zY Z Z Z (zP Z Z (congrArg hH ab.out)) (fun _=>zG Z Z zK Z yG) (ZF Z Z Z (zP Z Z (congrArg hH ab.out)) (ae.ldB (j:=1) Z Z Z yS (v:=.slice ag p0.Splits.length ai) Z) Z (zY Z Z Z (zP Z Z (congrArg hH ab.out)) (fun _=>zw Z Z ZK) (zY Z Z Z (zP Z Z (congrArg hH ab.out)) (fun _=>yU Z Z Z) (bnK aP fun a8 aJ aQ=>zE 0 Z Z Z (zP Z Z (congrArg hH ab.out)) (zD Z Z yO (zB Z (zB Z (zB Z zM))) Z) ae (fun hs=>wBY p1.Index 0 (w64 ((↑p0.Splits.length:Int) - 1)) ax am hs aJ) (.inr Z) ?_))))))
 rintro av aT a7 aG a5 aL ⟨rfl,rfl⟩
 have aN:sW w U av [.blk b6 78 B1,.blk b2 28 B0] aG:=aL
 refine oR Z (zQ Z (congrArg hH ab.out) Z) (oA Z Z (eN (zU ?_)))
 have hE:=hJ aQ;first | subst r | cases hE
 exact ⟨rfl,_,(ZV rfl),av,_,(aN.pick [] _ (by decide) rfl),rfl,rfl⟩
 intro ab aR
 refine zX Z Z Z (zS Z Z (congrArg hH (nA.2 ab.out)) Z) (zX Z Z Z (zS Z Z (congrArg hH (nA.2 ab.out)) Z) (zX Z Z Z (zS Z Z (congrArg hH (nA.2 ab.out)) Z) (zX Z Z Z (zS Z Z (congrArg hH (nA.2 ab.out)) Z) (zX Z Z Z (zS Z Z (congrArg hH (nA.2 ab.out)) Z) (zX Z Z Z (zS Z Z (congrArg hH (nA.2 ab.out)) Z) (ZE Z Z Z (zS Z Z (congrArg hH (nA.2 ab.out)) Z) (oR Z (ze Z (congrArg hH (nA.2 ab.out)) Z) (oA Z Z (eN (zU ?_))))))))))
 have hE:=hJ aR;first | subst r | cases hE
 exact ⟨rfl,_,(ZV rfl),am,_,(ae.pick [] _ (by decide) rfl),rfl,rfl⟩
end Go.Proofs.Ytlnfbjphfoipaaa
