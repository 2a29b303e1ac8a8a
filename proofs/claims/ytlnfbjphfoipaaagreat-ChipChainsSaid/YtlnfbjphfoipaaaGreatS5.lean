import Derived.Test.YtlnfbjphfoipaaaGreatS4
set_option linter.all false
open List renaming flatMap->hD
open Option.some renaming inj->hH
open Go.Value renaming bool->hJ
open Bool renaming eq_false_iff->hU
open Prod.mk renaming injEq->nA
open Nat renaming blt->nB,le_of_ble_eq_true->nD
namespace Go.Proofs.YtlnfbjphfoipaaaGreat
open Go.KL
def gAa:Sch:=.fl 2 (.fl 3 .nil)
def gAb:Sch:=.fl 3 (.fl 4 .nil)
def gAc:Sch:=.fl 4 (.fl 5 .nil)
def gAd:Sch:=.fl 7 (.fl 8 .nil)
def gAe:Sch:=.fl 15 (.fl 16 .nil)
def gAf:Sch:=.fx 0 (.fl 1 .nil) .stop
def gAg:Sch:=.fx 1 (.fl 2 .nil) .stop
def gAh:Sch:=.fx 2 (.fx 3 .nil .stop) .stop
def gAi:Sch:=.fl 0 (.fx 1 .nil .stop)
def gAj:Sch:=.fx 4 (.fx 5 .nil .stop) .stop
def gAk:Sch:=.fl 3 (.fx 5 .nil .stop)
def gAl:Sch:=.fl 10 (.fx 12 .nil .stop)
def gAm:Sch:=.fx 6 (.fx 7 .nil .stop) .stop
def gAn:Sch:=.fx 8 (.fx 9 .nil .stop) .stop
def gAo:Sch:=.fl 7 (.fx 9 .nil .stop)
def gAp:Sch:=.fx 4 (.fl 5 .nil) .stop
def gAq:Sch:=.fx 7 (.fx 8 .nil .stop) .stop
def gAr:Sch:=.fx 6 (.fx 8 .nil .stop) .stop
def gAs:Sch:=.fx 0 gAg .stop
def gAt:Sch:=.fx 13 (.fl 14 (.fl 15 .nil)) .stop
def gAu:Sch:=.fx 14 gAe .stop
def gAv:Sch:=.fl 10 (.fx 11 (.fx 12 .nil .stop) .stop)
def gAw:Sch:=.fx 6 gAl .stop
def gAx:Sch:=.fx 10 (.fl 11 (.fl 12 .nil)) .stop
def gAy:Sch:=.fx 6 gAo .stop
def gAz:Sch:=.fx 4 gAo .stop
def gBa:Sch:=.fx 3 gAp .stop
def gBb:Sch:=.fl 22 (.fl 23 (.fx 24 .nil .stop))
def gBc:Sch:=.fl 0 (.fl 1 (.fx 2 (.fl 3 .nil) .stop))
def gBd:Sch:=.fl 0 (.fl 1 gAh)
def gBe:Sch:=.fx 0 (.fx 1 gAh .stop) .stop
def gBf:Sch:=.fx 0 (.fx 1 gAa .stop) .stop
def gBg:Sch:=.fx 8 (.fl 9 gAl) .stop
def gBh:Sch:=.fl 7 (.fx 2 gAn .stop)
def gBi:Sch:=.fl 4 (.fl 5 gAr)
def gBj:Sch:=.fx 0 (.fl 5 gAr) .stop
def gBk:Sch:=.fx 21 gBb .stop
def gBl:Sch:=.fl 0 (.fl 1 (.fx 2 gAb .stop))
def gBm:Sch:=.fx 6 (.fl 7 gAn) (.fx 8 gAy .stop)
def gBn:Sch:=.fx 4 (.fl 7 gAn) (.fx 8 gAz .stop)
def gBo:Sch:=.fx 0 (.fx 1 (.fx 2 (.fx 3 (.fl 4 .nil) .stop) .stop) .stop) .stop
def gBp:Sch:=.fl 5 (.fx 6 gAq (.fx 7 gAr .stop))
def gBq:Sch:=.fx 3 gBi .stop
def gBr:Sch:=.fx 2 gBq .stop
def gBs:Sch:=.fx 1 gBq .stop
def gBt:Sch:=.fl 1 (.fl 2 (.fx 0 (.fl 3 gAj) (.fx 4 (.fx 0 gAk .stop) .stop)))
def gBu:Sch:=.fl 0 (.fl 2 (.fx 1 gBa (.fx 3 (.fx 1 gAp .stop) .stop)))
def gBv:Sch:=.fx 3 (.fl 4 gBp) (.fx 7 gBq .stop)
def gBw:Sch:=.fl 4 (.fx 0 gBp (.fx 7 gBj .stop))
def gBx:Sch:=.fx 0 gBq (.fx 3 (.fl 4 gBj) .stop)
def gBy:Sch:=.fx 2 gBv (.fx 7 gBr .stop)
def gBz:Sch:=.fx 1 gBv (.fx 7 gBs .stop)
def gCa:Sch:=.fx 1 gBr (.fx 2 gBs .stop)
def gCb:Sch:=.fx 0 gBr (.fx 2 gBx .stop)
def gCc:Sch:=.fx 0 gBs (.fx 1 gBx .stop)
def gCd:Sch:=.fx 0 gBv (.fx 3 gBw (.fx 7 gBx .stop))
set_option maxHeartbeats 4000000
theorem Z {α:Type} {a:α}:a=a:=rfl
section
variable {r:Option Nat} {N:Nat} {P:Program} {l:List Oper} {Q:wEo} {D:List Deferred} {ks:List Nat} {σ:Env} {w:World} {i d j e:Nat} {s:Sch} {o:Oper} {b:Bool} {x:Operand} {v:Value} {p:Prop} {inst:Decidable p} {K:List Deferred->Env->World->Prop} {c1 c2:Code}
abbrev jV (n:Int):Value:=.int .i64 n
abbrev SW (w:World) (X:List Res) (φ φ':PHeap) (L:List Res) (w':World):Prop:=St ⟨w,X,φ⟩ φ' L w'
abbrev sW (w:World) (φ φ':PHeap) (L:List Res) (w':World):Prop:=St ⟨w,[],φ⟩ φ' L w'
abbrev St0 (w:World) (φ:PHeap) (L:List Res):Prop:=St ⟨w,L,φ⟩ φ L w
theorem ifc {α:Type} {G p:Prop} {inst:Decidable p} {a b r:α} (h:@ite α p inst a b=r) (O:Hid p->a=r->G) (h2:Hid (¬ p)->b=r->G):G:=by
 by_cases c:p
 rw [if_pos c] at h;exact O ⟨c⟩ h
 rw [if_neg c] at h;exact h2 ⟨c⟩ h
theorem bnK {α β:Type} {G:Prop} {o:Option α} {f:α->Option β} {r:β} (h:o.bind f=some r) (k:∀ x,o=some x->f x=some r->G):G:=by
 obtain ⟨x,O,h2⟩:=bnd h
 exact k x O h2
theorem oR (h:(l[i]?,o.dst,nB d N,wanted l σ o)=(some o,some d,true,true)) (hr:∀ {w'},Runs P σ w' o v w') (k:OKS N P l Q D ks s (upd σ d v) w):OKS N P l Q D ks (.fl i s) σ w:=by
 simp only [nA] at h;exact OKS.r h.1 h.2.1 h.2.2.1 h.2.2.2 (fun _=>hr) k
theorem oL (h:(l[i]?,o.dst,nB d N,wanted l σ o,wOU (kOf ks i))=(some o,some d,true,true,false)) (hr:RunsK P σ w o v) (k:OKS N P l Q D ks s (upd σ d v) w):OKS N P l Q D ks (.fl i s) σ w:=by
 simp only [nA] at h;exact OKS.m h.1 h.2.1 h.2.2.1 h.2.2.2.1 hr h.2.2.2.2 k
theorem oM (h:(l[i]?,o.dst,nB d N,wanted l σ o,o.op)=(some o,some d,true,true,.move x)) (hx:ev σ x=v) (k:OKS N P l Q D ks s (upd σ d v) w):OKS N P l Q D ks (.fl i s) σ w:=by
 simp only [nA] at h;exact OKS.rm h.1 h.2.1 h.2.2.1 h.2.2.2.1 h.2.2.2.2 hx k
theorem oA (h:(l[i]?,o.dst,nB d N,wanted l σ o,o.op)=(some o,some d,true,true,.assign x)) (hx:ev σ x=v) (k:OKS N P l Q D ks s (upd σ d v) w):OKS N P l Q D ks (.fl i s) σ w:=by
 simp only [nA] at h;exact OKS.ra h.1 h.2.1 h.2.2.1 h.2.2.2.1 h.2.2.2.2 hx k
theorem oF (h:(l[i]?,o.dst,nB d N,o.guard,(l[j]?).bind (·.dst),σ e,false == b)=(some o,some d,true,some (j,b),some e,.bool (decide p),false)) (c:Hid (¬ p)) (k:OKS N P l Q D ks s (upd σ d undef) w):OKS N P l Q D ks (.fl i s) σ w:=by
 simp only [nA] at h;exact OKS.p h.1 h.2.1 h.2.2.1 (wHU h.2.2.2.1 h.2.2.2.2.1 (h.2.2.2.2.2.1.trans (wOS c.out)) h.2.2.2.2.2.2) k
theorem oT (h:(l[i]?,o.dst,nB d N,o.guard,(l[j]?).bind (·.dst),σ e,true == b)=(some o,some d,true,some (j,b),some e,.bool (decide p),false)) (c:Hid p) (k:OKS N P l Q D ks s (upd σ d undef) w):OKS N P l Q D ks (.fl i s) σ w:=by
 simp only [nA] at h;exact OKS.p h.1 h.2.1 h.2.2.1 (wHU h.2.2.2.1 h.2.2.2.2.1 (h.2.2.2.2.2.1.trans (wOR c.out)) h.2.2.2.2.2.2) k
theorem oN {O:Bool} (h:(l[i]?,o.dst,nB d N,o.guard,(l[j]?).bind (·.dst),σ e,O == b)=(some o,some d,true,some (j,b),some e,.bool O,false)) (k:OKS N P l Q D ks s (upd σ d undef) w):OKS N P l Q D ks (.fl i s) σ w:=by
 simp only [nA] at h;exact OKS.p h.1 h.2.1 h.2.2.1 (wHU h.2.2.2.1 h.2.2.2.2.1 h.2.2.2.2.2.1 h.2.2.2.2.2.2) k
theorem nC {a b:Bool} (h:a=b):hJ (!a)=hJ (!b):=h ▸ rfl
theorem nF {a:Bool} (h:¬ a=true):hJ (!a)=hJ (!false):=nC (hU.2 h)
theorem wT (h:(o.guard,(l[j]?).bind (·.dst),σ e)=(some (j,true),some e,.bool (decide p))) (c:Hid p):wanted l σ o=true:=by
 simp only [nA] at h;exact wIY h.1 h.2.1 (h.2.2.trans (wOR c.out))
theorem wF (h:(o.guard,(l[j]?).bind (·.dst),σ e)=(some (j,false),some e,.bool (decide p))) (c:Hid (¬ p)):wanted l σ o=true:=by
 simp only [nA] at h;exact wIY h.1 h.2.1 (h.2.2.trans (wOS c.out))
theorem rU (h:(l[i]?,o.dst,nB d N)=(some o,some d,true)) (hw:wanted l σ o=true) (hr:∀ {w'},Runs P σ w' o v w') (k:OKS N P l Q D ks s (upd σ d v) w):OKS N P l Q D ks (.fl i s) σ w:=by
 simp only [nA] at h;exact OKS.r h.1 h.2.1 h.2.2 hw (fun _=>hr) k
theorem sR {id:Nat} (s:Sch) (hs:inOrder 0 s l.length=true) (h:OKS N P l (wGU (fun D σ w=>CK r N P c2 Q D σ w) Q) D [] s σ w):CK r N P (.seq (.region id l.toArray false) c2) Q D σ w:=CK.seq (CK.reg s hs h)
theorem rR {id:Nat} (s:Sch) (hs:inOrder 0 s l.length=true) (h:OKS N P l Q D [] s σ w):CK r N P (.region id l.toArray false) Q D σ w:=CK.reg s hs h
theorem eN (h:K D σ w):OKS N P l (wGU K Q) D ks .nil σ w:=OKS.e (wIU h)
theorem cT (hz:ev σ x=.bool (decide p)) (c:Hid p) (h:CK r N P c1 Q D σ w):CK r N P (.cond x c1 c2) Q D σ w:=CK.condT (hz.trans (wOR c.out)) h
theorem cF (hz:ev σ x=.bool (decide p)) (c:Hid (¬ p)) (h:CK r N P c2 Q D σ w):CK r N P (.cond x c1 c2) Q D σ w:=CK.condF (hz.trans (wOS c.out)) h
theorem kN (h:K D σ w):CK r N P .skip (wGU K Q) D σ w:=CK.skip (wIU h)
end
def fL1:Sch:=.fl 0 .nil
def fL2:Sch:=.fl 0 (.fl 1 .nil)
def fL3:Sch:=.fl 0 (.fl 1 (.fl 2 .nil))
def fL4:Sch:=.fl 0 (.fl 1 gAa)
def fL5:Sch:=.fl 0 (.fl 1 (.fl 2 gAb))
def fL6:Sch:=.fl 0 (.fl 1 (.fl 2 (.fl 3 gAc)))
def fL7:Sch:=.fl 0 (.fl 1 (.fl 2 (.fl 3 (.fl 4 (.fl 5 (.fl 6 .nil))))))
def fL8:Sch:=.fl 0 (.fl 1 (.fl 2 (.fl 3 (.fl 4 (.fl 5 (.fl 6 (.fl 7 .nil)))))))
def fL9:Sch:=.fl 0 (.fl 1 (.fl 2 (.fl 3 (.fl 4 (.fl 5 (.fl 6 gAd))))))
def fL10:Sch:=.fl 0 (.fl 1 (.fl 2 (.fl 3 (.fl 4 (.fl 5 (.fl 6 (.fl 7 (.fl 8 (.fl 9 .nil)))))))))
def fL11:Sch:=.fl 0 (.fl 1 (.fl 2 (.fl 3 (.fl 4 (.fl 5 (.fl 6 (.fl 7 (.fl 8 (.fl 9 (.fl 10 .nil))))))))))
def fL12:Sch:=.fl 0 (.fl 1 (.fl 2 (.fl 3 (.fl 4 (.fl 5 (.fl 6 (.fl 7 (.fl 8 (.fl 9 (.fl 10 (.fl 11 .nil)))))))))))
def fL15:Sch:=.fl 0 (.fl 1 (.fl 2 (.fl 3 (.fl 4 (.fl 5 (.fl 6 (.fl 7 (.fl 8 (.fl 9 (.fl 10 (.fl 11 (.fl 12 (.fl 13 (.fl 14 .nil))))))))))))))
def fL17:Sch:=.fl 0 (.fl 1 (.fl 2 (.fl 3 (.fl 4 (.fl 5 (.fl 6 (.fl 7 (.fl 8 (.fl 9 (.fl 10 (.fl 11 (.fl 12 (.fl 13 (.fl 14 gAe))))))))))))))
def fL18:Sch:=.fl 0 (.fl 1 (.fl 2 (.fl 3 (.fl 4 (.fl 5 (.fl 6 (.fl 7 (.fl 8 (.fl 9 (.fl 10 (.fl 11 (.fl 12 (.fl 13 (.fl 14 (.fl 15 (.fl 16 (.fl 17 .nil)))))))))))))))))
def fL19:Sch:=.fl 0 (.fl 1 (.fl 2 (.fl 3 (.fl 4 (.fl 5 (.fl 6 (.fl 7 (.fl 8 (.fl 9 (.fl 10 (.fl 11 (.fl 12 (.fl 13 (.fl 14 (.fl 15 (.fl 16 (.fl 17 (.fl 18 .nil))))))))))))))))))
def fL21:Sch:=.fl 0 (.fl 1 (.fl 2 (.fl 3 (.fl 4 (.fl 5 (.fl 6 (.fl 7 (.fl 8 (.fl 9 (.fl 10 (.fl 11 (.fl 12 (.fl 13 (.fl 14 (.fl 15 (.fl 16 (.fl 17 (.fl 18 (.fl 19 (.fl 20 .nil))))))))))))))))))))
def fL22:Sch:=.fl 0 (.fl 1 (.fl 2 (.fl 3 (.fl 4 (.fl 5 (.fl 6 (.fl 7 (.fl 8 (.fl 9 (.fl 10 (.fl 11 (.fl 12 (.fl 13 (.fl 14 (.fl 15 (.fl 16 (.fl 17 (.fl 18 (.fl 19 (.fl 20 (.fl 21 .nil)))))))))))))))))))))
def fL23:Sch:=.fl 0 (.fl 1 (.fl 2 (.fl 3 (.fl 4 (.fl 5 (.fl 6 (.fl 7 (.fl 8 (.fl 9 (.fl 10 (.fl 11 (.fl 12 (.fl 13 (.fl 14 (.fl 15 (.fl 16 (.fl 17 (.fl 18 (.fl 19 (.fl 20 (.fl 21 (.fl 22 .nil))))))))))))))))))))))
def fL43:Sch:=.fl 0 (.fl 1 (.fl 2 (.fl 3 (.fl 4 (.fl 5 (.fl 6 (.fl 7 (.fl 8 (.fl 9 (.fl 10 (.fl 11 (.fl 12 (.fl 13 (.fl 14 (.fl 15 (.fl 16 (.fl 17 (.fl 18 (.fl 19 (.fl 20 (.fl 21 (.fl 22 (.fl 23 (.fl 24 (.fl 25 (.fl 26 (.fl 27 (.fl 28 (.fl 29 (.fl 30 (.fl 31 (.fl 32 (.fl 33 (.fl 34 (.fl 35 (.fl 36 (.fl 37 (.fl 38 (.fl 39 (.fl 40 (.fl 41 (.fl 42 .nil))))))))))))))))))))))))))))))))))))))))))
def wDK (s:Sch):Sch:=.fl 0 (.fl 1 (.fl 2 (s)))
def wEF (s:Sch):Sch:=.fl 0 (.fl 1 (.fl 2 (.fl 3 (s))))
def wGD (s:Sch):Sch:=.fl 0 (.fl 1 (.fl 2 (.fl 3 (.fl 4 (s)))))
def wGE (s:Sch):Sch:=.fl 0 (.fl 1 (.fl 2 (.fl 3 (.fl 4 (.fl 5 (s))))))
def wOE (s:Sch):Sch:=.fl 0 (.fl 1 (.fl 2 (.fl 3 (.fl 4 (.fl 5 (.fl 6 (s)))))))
def wPJ (s:Sch):Sch:=.fl 0 (.fl 1 (.fl 2 (.fl 3 (.fl 4 (.fl 5 (.fl 6 (.fl 7 (s))))))))
def fC0_8 (s:Sch):Sch:=.fl 0 (.fl 1 (.fl 2 (.fl 3 (.fl 4 (.fl 5 (.fl 6 (.fl 7 (.fl 8 (s)))))))))
def wLD (s:Sch):Sch:=.fl 0 (.fl 1 (.fl 2 (.fl 3 (.fl 4 (.fl 5 (.fl 6 (.fl 7 (.fl 8 (.fl 9 (s))))))))))
def wPK (s:Sch):Sch:=.fl 0 (.fl 1 (.fl 2 (.fl 3 (.fl 4 (.fl 5 (.fl 6 (.fl 7 (.fl 8 (.fl 9 (.fl 10 (s)))))))))))
def wPL (s:Sch):Sch:=.fl 0 (.fl 1 (.fl 2 (.fl 3 (.fl 4 (.fl 5 (.fl 6 (.fl 7 (.fl 8 (.fl 9 (.fl 10 (.fl 11 (s))))))))))))
def wNJ (s:Sch):Sch:=.fl 0 (.fl 1 (.fl 2 (.fl 3 (.fl 4 (.fl 5 (.fl 6 (.fl 7 (.fl 8 (.fl 9 (.fl 10 (.fl 11 (.fl 12 (s)))))))))))))
def wPM (s:Sch):Sch:=.fl 0 (.fl 1 (.fl 2 (.fl 3 (.fl 4 (.fl 5 (.fl 6 (.fl 7 (.fl 8 (.fl 9 (.fl 10 (.fl 11 (.fl 12 (.fl 13 (s))))))))))))))
def wNK (s:Sch):Sch:=.fl 0 (.fl 1 (.fl 2 (.fl 3 (.fl 4 (.fl 5 (.fl 6 (.fl 7 (.fl 8 (.fl 9 (.fl 10 (.fl 11 (.fl 12 (.fl 13 (.fl 14 (.fl 15 (s))))))))))))))))
def wNL (s:Sch):Sch:=.fl 0 (.fl 1 (.fl 2 (.fl 3 (.fl 4 (.fl 5 (.fl 6 (.fl 7 (.fl 8 (.fl 9 (.fl 10 (.fl 11 (.fl 12 (.fl 13 (.fl 14 (.fl 15 (.fl 16 (s)))))))))))))))))
def wPN (s:Sch):Sch:=.fl 0 (.fl 1 (.fl 2 (.fl 3 (.fl 4 (.fl 5 (.fl 6 (.fl 7 (.fl 8 (.fl 9 (.fl 10 (.fl 11 (.fl 12 (.fl 13 (.fl 14 (.fl 15 (.fl 16 (.fl 17 (.fl 18 (.fl 19 (s))))))))))))))))))))
def wNM (s:Sch):Sch:=.fl 0 (.fl 1 (.fl 2 (.fl 3 (.fl 4 (.fl 5 (.fl 6 (.fl 7 (.fl 8 (.fl 9 (.fl 10 (.fl 11 (.fl 12 (.fl 13 (.fl 14 (.fl 15 (.fl 16 (.fl 17 (.fl 18 (.fl 19 (.fl 20 (.fl 21 (s))))))))))))))))))))))
def wPO (s:Sch):Sch:=.fl 0 (.fl 1 (.fl 2 (.fl 3 (.fl 4 (.fl 5 (.fl 6 (.fl 7 (.fl 8 (.fl 9 (.fl 10 (.fl 11 (.fl 12 (.fl 13 (.fl 14 (.fl 15 (.fl 16 (.fl 17 (.fl 18 (.fl 19 (.fl 20 (.fl 21 (.fl 22 (.fl 23 (.fl 24 (.fl 25 (.fl 26 (.fl 27 (.fl 28 (.fl 29 (.fl 30 (.fl 31 (.fl 32 (.fl 33 (.fl 34 (.fl 35 (.fl 36 (.fl 37 (.fl 38 (.fl 39 (.fl 40 (.fl 41 (.fl 42 (.fl 43 (.fl 44 (s)))))))))))))))))))))))))))))))))))))))))))))
def fC1_3 (s:Sch):Sch:=.fl 1 (.fl 2 (.fl 3 (s)))
def fC1_4 (s:Sch):Sch:=.fl 1 (.fl 2 (.fl 3 (.fl 4 (s))))
def fC1_5 (s:Sch):Sch:=.fl 1 (.fl 2 (.fl 3 (.fl 4 (.fl 5 (s)))))
def wPP (s:Sch):Sch:=.fl 1 (.fl 2 (.fl 3 (.fl 4 (.fl 5 (.fl 6 (.fl 7 (.fl 8 (.fl 9 (.fl 10 (.fl 11 (.fl 12 (.fl 13 (.fl 14 (.fl 15 (.fl 16 (.fl 17 (.fl 18 (.fl 19 (s)))))))))))))))))))
def fC2_4 (s:Sch):Sch:=.fl 2 (.fl 3 (.fl 4 (s)))
def wMG (s:Sch):Sch:=.fl 2 (.fl 3 (.fl 4 (.fl 5 (s))))
def wHE (s:Sch):Sch:=.fl 2 (.fl 3 (.fl 4 (.fl 5 (.fl 6 (s)))))
def wKB (s:Sch):Sch:=.fl 3 (.fl 4 (.fl 5 (s)))
def wMH (s:Sch):Sch:=.fl 3 (.fl 4 (.fl 5 (.fl 6 (s))))
def wPQ (s:Sch):Sch:=.fl 3 (.fl 4 (.fl 5 (.fl 6 (.fl 7 (s)))))
def wPR (s:Sch):Sch:=.fl 4 (.fl 5 (.fl 6 (s)))
def fC4_7 (s:Sch):Sch:=.fl 4 (.fl 5 (.fl 6 (.fl 7 (s))))
def wJd (s:Sch):Sch:=.fl 4 (.fl 5 (.fl 6 (.fl 7 (.fl 8 (s)))))
def wPS (s:Sch):Sch:=.fl 4 (.fl 5 (.fl 6 (.fl 7 (.fl 8 (.fl 9 (.fl 10 (.fl 11 (.fl 12 (.fl 13 (.fl 14 (s)))))))))))
def wPT (s:Sch):Sch:=.fl 4 (.fl 5 (.fl 6 (.fl 7 (.fl 8 (.fl 9 (.fl 10 (.fl 11 (.fl 12 (.fl 13 (.fl 14 (.fl 15 (.fl 16 (s)))))))))))))
def wPU (s:Sch):Sch:=.fl 4 (.fl 5 (.fl 6 (.fl 7 (.fl 8 (.fl 9 (.fl 10 (.fl 11 (.fl 12 (.fl 13 (.fl 14 (.fl 15 (.fl 16 (.fl 17 (.fl 18 (s)))))))))))))))
def wPV (s:Sch):Sch:=.fl 4 (.fl 5 (.fl 6 (.fl 7 (.fl 8 (.fl 9 (.fl 10 (.fl 11 (.fl 12 (.fl 13 (.fl 14 (.fl 15 (.fl 16 (.fl 17 (.fl 18 (.fl 19 (.fl 20 (s)))))))))))))))))
def wPW (s:Sch):Sch:=.fl 4 (.fl 5 (.fl 6 (.fl 7 (.fl 8 (.fl 9 (.fl 10 (.fl 11 (.fl 12 (.fl 13 (.fl 14 (.fl 15 (.fl 16 (.fl 17 (.fl 18 (.fl 19 (.fl 20 (.fl 21 (s))))))))))))))))))
def wPX (s:Sch):Sch:=.fl 4 (.fl 5 (.fl 6 (.fl 7 (.fl 8 (.fl 9 (.fl 10 (.fl 11 (.fl 12 (.fl 13 (.fl 14 (.fl 15 (.fl 16 (.fl 17 (.fl 18 (.fl 19 (.fl 20 (.fl 21 (.fl 22 (.fl 23 (s))))))))))))))))))))
def wMI (s:Sch):Sch:=.fl 5 (.fl 6 (.fl 7 (s)))
def wIM (s:Sch):Sch:=.fl 5 (.fl 6 (.fl 7 (.fl 8 (s))))
def wIs (s:Sch):Sch:=.fl 5 (.fl 6 (.fl 7 (.fl 8 (.fl 9 (s)))))
def wPY (s:Sch):Sch:=.fl 5 (.fl 6 (.fl 7 (.fl 8 (.fl 9 (.fl 10 (.fl 11 (s)))))))
def wNN (s:Sch):Sch:=.fl 5 (.fl 6 (.fl 7 (.fl 8 (.fl 9 (.fl 10 (.fl 11 (.fl 12 (.fl 13 (.fl 14 (.fl 15 (s)))))))))))
def wKZ (s:Sch):Sch:=.fl 6 (.fl 7 (.fl 8 (.fl 9 (.fl 10 (s)))))
def wPZ (s:Sch):Sch:=.fl 6 (.fl 7 (.fl 8 (.fl 9 (.fl 10 (.fl 11 (s))))))
def wMJ (s:Sch):Sch:=.fl 6 (.fl 7 (.fl 8 (.fl 9 (.fl 10 (.fl 11 (.fl 12 (s)))))))
def fC7_9 (s:Sch):Sch:=.fl 7 (.fl 8 (.fl 9 (s)))
def wNO (s:Sch):Sch:=.fl 7 (.fl 8 (.fl 9 (.fl 10 (.fl 11 (s)))))
def wJe (s:Sch):Sch:=.fl 7 (.fl 8 (.fl 9 (.fl 10 (.fl 11 (.fl 12 (s))))))
def wKa (s:Sch):Sch:=.fl 7 (.fl 8 (.fl 9 (.fl 10 (.fl 11 (.fl 12 (.fl 13 (s)))))))
def wNP (s:Sch):Sch:=.fl 8 (.fl 9 (.fl 10 (s)))
def wJf (s:Sch):Sch:=.fl 8 (.fl 9 (.fl 10 (.fl 11 (s))))
def wPa (s:Sch):Sch:=.fl 9 (.fl 10 (.fl 11 (.fl 12 (s))))
def wPb (s:Sch):Sch:=.fl 9 (.fl 10 (.fl 11 (.fl 12 (.fl 13 (s)))))
def wOF (s:Sch):Sch:=.fl 10 (.fl 11 (.fl 12 (.fl 13 (s))))
def wOG (s:Sch):Sch:=.fl 10 (.fl 11 (.fl 12 (.fl 13 (.fl 14 (.fl 15 (.fl 16 (.fl 17 (.fl 18 (.fl 19 (.fl 20 (.fl 21 (.fl 22 (s)))))))))))))
def wOH (s:Sch):Sch:=.fl 11 (.fl 12 (.fl 13 (.fl 14 (.fl 15 (.fl 16 (s))))))
def wOI (s:Sch):Sch:=.fl 11 (.fl 12 (.fl 13 (.fl 14 (.fl 15 (.fl 16 (.fl 17 (.fl 18 (s))))))))
def wOJ (s:Sch):Sch:=.fl 14 (.fl 15 (.fl 16 (.fl 17 (.fl 18 (.fl 19 (.fl 20 (.fl 21 (s))))))))
def wOK (s:Sch):Sch:=.fl 17 (.fl 18 (.fl 19 (s)))
def wOL (s:Sch):Sch:=.fl 18 (.fl 19 (.fl 20 (.fl 21 (.fl 22 (.fl 23 (s))))))
def wOM (s:Sch):Sch:=.fl 21 (.fl 22 (.fl 23 (s)))
def wON (s:Sch):Sch:=.fl 22 (.fl 23 (.fl 24 (s)))
def wOO (s:Sch):Sch:=.fl 47 (.fl 48 (.fl 49 (.fl 50 (s))))
theorem zA:type_of% @nD:=@nD
theorem zB:type_of% @wLJ:=@wLJ
theorem zC:type_of% @Tryz.sizeOf3:=@Tryz.sizeOf3
theorem zD:type_of% @OKS.callH:=@OKS.callH
theorem zE:type_of% @Enters.mk:=@Enters.mk
theorem zF:type_of% @Runs.fa:=@Runs.fa
theorem zG:type_of% @Tryz.isAgg3:=@Tryz.isAgg3
theorem zH:type_of% @Tryz.sizeOf123:=@Tryz.sizeOf123
theorem zI:type_of% @wIY:=@wIY
theorem zJ:type_of% @wIU:=@wIU
theorem zK:type_of% @Tryz.runUnderlying22:=@Tryz.runUnderlying22
theorem zL:type_of% @CK.seq:=@CK.seq
theorem zM:type_of% @wMn:=@wMn
theorem zN:type_of% @Hid.mk:=@Hid.mk
theorem zO:type_of% @CK.ret:=@CK.ret
theorem zP:type_of% @wHU:=@wHU
theorem zQ:type_of% @wLI:=@wLI
theorem zR:type_of% @Runs.pickT:=@Runs.pickT
theorem zS:type_of% @PHeap.Le.refl:=@PHeap.Le.refl
theorem zT:type_of% @Tryz.runUnderlying27:=@Tryz.runUnderlying27
theorem zU:type_of% @Runs.ext:=@Runs.ext
theorem zV:type_of% @OKS.alloc:=@OKS.alloc
theorem zW:type_of% @Runs.pickF:=@Runs.pickF
theorem zX:type_of% @OKS.st:=@OKS.st
theorem zY:type_of% @CK.block:=@CK.block
theorem zZ:type_of% @Tryz.sizeOf27:=@Tryz.sizeOf27
theorem za:type_of% @OKS.r:=@OKS.r
theorem zb:type_of% @Tryz.runUnderlying36:=@Tryz.runUnderlying36
theorem zc:type_of% @wKE:=@wKE
theorem zd:type_of% @Tryz.zeroValue123:=@Tryz.zeroValue123
theorem ze:type_of% @Runs.lss:=@Runs.lss
theorem zf:type_of% @OKS.e:=@OKS.e
theorem zg:type_of% @Tryz.sizeOf22:=@Tryz.sizeOf22
theorem zh:type_of% @Runs.addw:=@Runs.addw
theorem zi:type_of% @Runs.len:=@Runs.len
theorem zj:type_of% @CK.condF:=@CK.condF
theorem zk:type_of% @Tryz.runUnderlying93:=@Tryz.runUnderlying93
theorem zl:type_of% @Tryz.isAgg123:=@Tryz.isAgg123
theorem zm:type_of% @wKC:=@wKC
theorem zn:type_of% @OKS.box:=@OKS.box
theorem zo:type_of% @Tryz.isAgg27:=@Tryz.isAgg27
theorem zq:type_of% @wLH:=@wLH
theorem zr:type_of% @Tryz.isAgg22:=@Tryz.isAgg22
theorem zt:type_of% @Tryz.mixed:=@Tryz.mixed
theorem zu:type_of% @wOS:=@wOS
theorem zw:type_of% @OKS.rm:=@OKS.rm
theorem zx:type_of% @CK.anyOrd:=@CK.anyOrd
theorem zy:type_of% @OKS.p:=@OKS.p
theorem zz:type_of% @Tryz.sizeOf39:=@Tryz.sizeOf39
theorem ZA:type_of% @res1:=@res1
theorem ZB:type_of% @Runs.build:=@Runs.build
theorem ZC:type_of% @OKS.px:=@OKS.px
theorem ZD:type_of% @CK.condT:=@CK.condT
theorem ZE:type_of% @OKS.m:=@OKS.m
theorem ZF:type_of% @Tryz.sizeOf36:=@Tryz.sizeOf36
theorem ZG:type_of% @Tryz.zeroValue3:=@Tryz.zeroValue3
theorem ZH:type_of% @Tryz.runUnderlying139:=@Tryz.runUnderlying139
theorem ZI:type_of% @Tryz.runUnderlying23:=@Tryz.runUnderlying23
theorem ZJ:type_of% @OKS.both:=@OKS.both
theorem ZK:type_of% @Tryz.sizeOf93:=@Tryz.sizeOf93
theorem ZL:type_of% @Tryz.runUnderlying179:=@Tryz.runUnderlying179
theorem ZM:type_of% @Runs.iaI:=@Runs.iaI
theorem ZN:type_of% @Tryz.runUnderlying25:=@Tryz.runUnderlying25
theorem ZO:type_of% @Tryz.runUnderlying89:=@Tryz.runUnderlying89
theorem ZP:type_of% @Runs.neq:=@Runs.neq
theorem ZQ:type_of% @Tryz.isAgg36:=@Tryz.isAgg36
theorem ZR:type_of% @OKS.buildSlice:=@OKS.buildSlice
theorem ZS:type_of% @Tryz.runUnderlying136:=@Tryz.runUnderlying136
theorem ZT:type_of% @Tryz.runUnderlying39:=@Tryz.runUnderlying39
theorem ZU:type_of% @Runs.to:=@Runs.to
theorem ZV:type_of% @Tryz.sizeOf29:=@Tryz.sizeOf29
theorem ZW:type_of% @wKD:=@wKD
theorem ZX:type_of% @Tryz.zeroValue39:=@Tryz.zeroValue39
theorem ZY:type_of% @Tryz.sizeOf200:=@Tryz.sizeOf200
theorem ZZ:type_of% @Tryz.runUnderlying133:=@Tryz.runUnderlying133
theorem Za:type_of% @CK.exit:=@CK.exit
theorem Zb:type_of% @Tryz.sizeOf115:=@Tryz.sizeOf115
theorem Zc:type_of% @Runs.iaN:=@Runs.iaN
theorem Zd:type_of% @wOR:=@wOR
theorem Ze:type_of% @Tryz.runUnderlying24:=@Tryz.runUnderlying24
theorem Zf:type_of% @CK.skip:=@CK.skip
theorem Zg:type_of% @Tryz.runUnderlying49:=@Tryz.runUnderlying49
theorem Zh:type_of% @OKS.mx2:=@OKS.mx2
theorem Zi:type_of% @Tryz.runUnderlying117:=@Tryz.runUnderlying117
theorem Zj:type_of% @OKS.cutD:=@OKS.cutD
theorem Zk:type_of% @Runs.notT:=@Runs.notT
theorem Zl:type_of% @Tryz.zeroValue133:=@Tryz.zeroValue133
theorem Zm:type_of% @Tryz.sizeOf23:=@Tryz.sizeOf23
theorem Zn:type_of% @Tryz.isAgg29:=@Tryz.isAgg29
theorem Zo:type_of% @Tryz.runUnderlying33:=@Tryz.runUnderlying33
theorem Zp:type_of% @Tryz.runUnderlying115:=@Tryz.runUnderlying115
theorem Zq:type_of% @Tryz.isAgg23:=@Tryz.isAgg23
theorem Zr:type_of% @Tryz.sizeOf25:=@Tryz.sizeOf25
theorem Zs:type_of% @Tryz.isAgg93:=@Tryz.isAgg93
theorem Zt:type_of% @Runs.nilp:=@Runs.nilp
theorem Zu:type_of% @Tryz.runUnderlying201:=@Tryz.runUnderlying201
theorem Zv:type_of% @Tryz.zeroValue93:=@Tryz.zeroValue93
theorem Zw:type_of% @Tryz.sizeOf136:=@Tryz.sizeOf136
theorem Zx:type_of% @Tryz.sizeOf133:=@Tryz.sizeOf133
theorem Zy:type_of% @Runs.eql:=@Runs.eql
theorem Zz:type_of% @Tryz.runUnderlying56:=@Tryz.runUnderlying56
theorem yA:type_of% @Tryz.isAgg39:=@Tryz.isAgg39
theorem yB:type_of% @Tryz.runUnderlying200:=@Tryz.runUnderlying200
theorem yC:type_of% @Tryz.isAgg136:=@Tryz.isAgg136
theorem yD:type_of% @Tryz.isAgg25:=@Tryz.isAgg25
theorem yE:type_of% @Tryz.sizeOf112:=@Tryz.sizeOf112
theorem yF:type_of% @Tryz.sizeOf33:=@Tryz.sizeOf33
theorem yG:type_of% @Tryz.zeroValue29:=@Tryz.zeroValue29
theorem yH:type_of% @Tryz.zeroValue200:=@Tryz.zeroValue200
theorem yI:type_of% @Runs.gtr:=@Runs.gtr
theorem yJ:type_of% @Tryz.sizeOf91:=@Tryz.sizeOf91
theorem yK:type_of% @Tryz.zeroValue118:=@Tryz.zeroValue118
theorem yL:type_of% @Tryz.runUnderlying34:=@Tryz.runUnderlying34
theorem yM:type_of% @Tryz.runUnderlying97:=@Tryz.runUnderlying97
theorem yN:type_of% @Tryz.runUnderlying44:=@Tryz.runUnderlying44
theorem yO:type_of% @Runs.subw:=@Runs.subw
theorem yP:type_of% @OKS.ra:=@OKS.ra
theorem yQ:type_of% @Tryz.sizeOf24:=@Tryz.sizeOf24
theorem yR:type_of% @CK.fresh:=@CK.fresh
theorem yS:type_of% @Tryz.isAgg91:=@Tryz.isAgg91
theorem yT:type_of% @Tryz.isAgg33:=@Tryz.isAgg33
theorem yU:type_of% @Tryz.runUnderlying184:=@Tryz.runUnderlying184
theorem yV:type_of% @Tryz.runUnderlying116:=@Tryz.runUnderlying116
theorem yW:type_of% @Tryz.call69:=@Tryz.call69
theorem yX:type_of% @CK.cut:=@CK.cut
theorem yY:type_of% @Tryz.sizeOf44:=@Tryz.sizeOf44
theorem yZ:type_of% @Tryz.isAgg24:=@Tryz.isAgg24
theorem ya:type_of% @Tryz.call127:=@Tryz.call127
theorem yb:type_of% @OKS.append:=@OKS.append
theorem yc:type_of% @CK.forN:=@CK.forN
theorem yd:type_of% @Tryz.zeroValue115:=@Tryz.zeroValue115
theorem ye:type_of% @Tryz.call71:=@Tryz.call71
theorem yf:type_of% @Tryz.isAgg115:=@Tryz.isAgg115
theorem yg:type_of% @Tryz.isAgg200:=@Tryz.isAgg200
theorem yh:type_of% @Tryz.sizeOf34:=@Tryz.sizeOf34
theorem yi:type_of% @Tryz.sizeOf117:=@Tryz.sizeOf117
theorem yj:type_of% @Tryz.isAgg44:=@Tryz.isAgg44
theorem yk:type_of% @Tryz.call65:=@Tryz.call65
theorem yl:type_of% @Tryz.isAgg118:=@Tryz.isAgg118
theorem ym:type_of% @Tryz.call68:=@Tryz.call68
theorem yn:type_of% @Tryz.sizeOf137:=@Tryz.sizeOf137
theorem yo:type_of% @Tryz.sizeOf116:=@Tryz.sizeOf116
theorem yp:type_of% @Tryz.call66:=@Tryz.call66
theorem yq:type_of% @Tryz.zeroValue36:=@Tryz.zeroValue36
theorem yr:type_of% @Tryz.runUnderlying112:=@Tryz.runUnderlying112
theorem yt:type_of% @Tryz.runUnderlying137:=@Tryz.runUnderlying137
theorem yu:type_of% @Tryz.sizeOf184:=@Tryz.sizeOf184
theorem yv:type_of% @Tryz.isAgg34:=@Tryz.isAgg34
theorem yw:type_of% @OKS.stR:=@OKS.stR
theorem yy:type_of% @Tryz.zeroValue27:=@Tryz.zeroValue27
theorem yz:type_of% @Runs.ixA:=@Runs.ixA
theorem YA:type_of% @Tryz.sizeOf179:=@Tryz.sizeOf179
theorem YB:type_of% @Tryz.sizeOf4:=@Tryz.sizeOf4
theorem YC:type_of% @Runs.mkf:=@Runs.mkf
theorem YD:type_of% @Runs.negw:=@Runs.negw
theorem YE:type_of% @Tryz.isAgg4:=@Tryz.isAgg4
theorem YF:type_of% @Tryz.call74:=@Tryz.call74
theorem YG:type_of% @Tryz.call122:=@Tryz.call122
theorem YH:type_of% @RunsK.to:=@RunsK.to
theorem YI:type_of% @CK.iter:=@CK.iter
end Go.Proofs.YtlnfbjphfoipaaaGreat
namespace Go.Proofs.YtlnfbjphfoipaaaGreat
open Go.KL
set_option maxHeartbeats 4000000
theorem wGO (O:wAA) (af:Option Addr) (aj:Nat) (ag:Option Addr) (ak:Nat) (ah:Option Addr) (am:Nat) (ai:Option Addr) (an:Nat) (w:World) (φ:PHeap) (hS:St0 w φ []) (aE:Sl φ 1 af aj O.Starts.length (hD KL.encI O.Starts)) (aF:Sl φ 2 ag ak O.Splits.length (hD wAD O.Splits)) (aG:Sl φ 3 ah am O.Clocks.length (hD wAF O.Clocks)) (aH:Sl φ 4 ai an O.Readings.length (hD wAB O.Readings)) {r:Bool} (hm:wCH O=some r):Gv Tryz.prog 8 [.agg #[.slice af O.Starts.length aj,.slice ag O.Splits.length ak,.slice ah O.Clocks.length am,.slice ai O.Readings.length an]] w (wCG w [] φ (fun φ_ L_ v=>v=.bool r/\L_=[])):=by
 unfold wCH at hm
 refine Gv.of Tryz.func8 rfl Tryz.ntmps8 Tryz.results8 rfl (sR gAf rfl (zn (cs:=[.slice af O.Starts.length aj,.slice ag O.Splits.length ak,.slice ah O.Clocks.length am,.slice ai O.Readings.length an]) rfl rfl rfl rfl rfl rfl (by rfl) hS ?_))
 intro W1 b2 ae
 refine oA Z Z (eN (sR fL23 Z (oR Z (zF Z Z zT Z zg) (oL Z (ae.ldB (j:=0) Z Z Z zr (v:=.slice af O.Starts.length aj) Z) (oR Z (zi Z Z zK) (oR Z (yI Z Z Z) (oM Z Z ?_)))))))
 by_cases c5:10 < (↑O.Starts.length:Int)
 have ap:=hm;rw [if_pos c5] at ap;replace c5:=zN c5
 refine oT Z c5 (oT Z c5 (oT Z c5 (oT Z c5 (oR Z (zR Z (Zd c5.out) Z) (oM Z Z (oN Z (oN Z (oN Z (oN Z (oR Z (zR Z Z Z) (oM Z Z (oN Z (oN Z (oN Z (oN Z (oR Z (zR Z Z Z) (oA Z Z (eN (zO ?_)))))))))))))))))))
 have hE:=hH ap;first | subst r | cases hE
 exact ⟨rfl,_,(ZA rfl),φ,_,(ae.pick [] _ (by decide) rfl),rfl,rfl⟩
 have aq:=hm;rw [if_neg c5] at aq;replace c5:=zN c5
 refine rU Z (wF Z c5) (zF Z Z zT Z Zm) (ZE Z Z Z (wF Z c5) (ae.ldB (j:=0) Z Z Z Zq (v:=.slice ag O.Splits.length ak) Z) Z (rU Z (wF Z c5) (zi Z Z ZI) (rU Z (wF Z c5) (yI Z Z Z) (oR Z (zW Z (zu c5.out) Z) (oM Z Z (ifc aq ?_ ?_))))))
 intro c8 ax
 refine oT Z c8 (oT Z c8 (oT Z c8 (oT Z c8 (oR Z (zR Z (Zd c8.out) Z) (oM Z Z (oN Z (oN Z (oN Z (oN Z (oR Z (zR Z Z Z) (oA Z Z (eN (zO ?_)))))))))))))
 have hE:=hH ax;first | subst r | cases hE
 exact ⟨rfl,_,(ZA rfl),φ,_,(ae.pick [] _ (by decide) rfl),rfl,rfl⟩
 intro c8 au
 refine rU Z (wF Z c8) (zF Z Z zT Z yQ) (ZE Z Z Z (wF Z c8) (ae.ldB (j:=0) Z Z Z yZ (v:=.slice ah O.Clocks.length am) Z) Z (rU Z (wF Z c8) (zi Z Z Ze) (rU Z (wF Z c8) (yI Z Z Z) (oR Z (zW Z (zu c8.out) Z) (oM Z Z (ifc au ?_ ?_))))))
 intro ab av
 refine oT Z ab (oT Z ab (oT Z ab (oT Z ab (oR Z (zR Z (Zd ab.out) Z) (oA Z Z (eN (zO ?_)))))))
 have hE:=hH av;first | subst r | cases hE
 exact ⟨rfl,_,(ZA rfl),φ,_,(ae.pick [] _ (by decide) rfl),rfl,rfl⟩
 intro ab ao
 refine rU Z (wF Z ab) (zF Z Z zT Z Zr) (ZE Z Z Z (wF Z ab) (ae.ldB (j:=0) Z Z Z yD (v:=.slice ai O.Readings.length an) Z) Z (rU Z (wF Z ab) (zi Z Z ZN) (rU Z (wF Z ab) (yI Z Z Z) (oR Z (zW Z (zu ab.out) Z) (oA Z Z (eN (zO ?_)))))))
 first | (obtain rfl:=hH ao) | cases ao
 exact ⟨rfl,_,(ZA rfl),φ,_,(ae.pick [] _ (by decide) rfl),rfl,rfl⟩
theorem wBw  (w:World) (φ:PHeap) (hS:St0 w φ [])  {r:wAA} (hm:wBL =some r):Gv Tryz.prog 56 [] w (wCG w [] φ (fun φ_ L_ v=>∃ (ao:Option Addr) (aF:Nat) (ap:Option Addr) (aG:Nat) (aq:Option Addr) (aH:Nat) (au:Option Addr) (aI:Nat),v=.agg #[.slice ao r.Starts.length aF,.slice ap r.Splits.length aG,.slice aq r.Clocks.length aH,.slice au r.Readings.length aI]/\L_=[.row ao aF 3 1 (hD KL.encI r.Starts),.row ap aG 39 2 (hD wAD r.Splits),.row aq aH 112 3 (hD wAF r.Clocks),.row au aI 115 4 (hD wAB r.Readings)])):=by
 unfold wBL at hm
 refine Gv.of Tryz.func56 Z Tryz.ntmps56 Tryz.results56 Z (sR (.fx 0 .nil .stop) Z ?_)
 let O:List Value:=[.slice none 0 0,.slice none 0 0,.slice none 0 0,.slice none 0 0]
 refine zV (cs:=O) Z Z Z Z Z yy Z hS ?_
 intro W1 b2 aW
 refine eN (sR (.fx 0 (.fl 1 (.fl 2 (.fx 3 (.fl 4 (.fl 5 (.fx 6 (fC7_9 (.fx 10 (.fl 11 (.fx 12 .nil .stop)) .stop)) .stop))) .stop))) .stop) Z (ZR (pv:=[(0,jV 0),(1,jV 300)]) (zs:=[jV 0,jV 0]) (cs:=[jV 0,jV 300]) Z Z Z Z Z (wAG Z (wAG Z wAR)) zK zC ZG Z Z Z Z Z aW ?_))
 intro W5 b6 aX
 let B1:Res:=.row (some ⟨b6,0,none⟩) 2 3 1 (hD KL.encI [0,300])
 have aY:sW w φ φ [B1,.blk b2 27 O] W5:=aX
 let B2:List Value:=[jV 0,jV 0]
 refine oR Z (ZB (pv:=[(0,jV 1000),(1,jV 1200)]) (z:=B2) (cs:=[jV 1000,jV 1200]) Z (wAG Z (wAG Z wAR)) ZX wCu Z Z) (oR Z (ZB (pv:=[(0,jV 900),(1,jV 1500)]) (z:=B2) (cs:=[jV 900,jV 1500]) Z (wAG Z (wAG Z wAR)) ZX wCu Z Z) (ZR (pv:=[(0,.agg #[jV 1000,jV 1200]),(1,.agg #[jV 900,jV 1500])]) (zs:=[jV 0,jV 0,jV 0,jV 0]) (cs:=[jV 1000,jV 1200,jV 900,jV 1500]) Z Z Z Z Z (wAG Z (wAG Z wAR)) ZI zz ZX Z Z Z Z Z aY ?_))
 intro aK af aP
 let B3:Res:=.row (some ⟨af,0,none⟩) 2 39 2 (hD wAD [(⟨1000,1200⟩:wAO),(⟨900,1500⟩:wAO)])
 have aQ:sW w φ φ [B3,B1,.blk b2 27 O] aK:=aP
 refine oR Z (ZB (pv:=[(0,jV (-5)),(1,jV 5)]) (z:=B2) (cs:=[jV (-5),jV 5]) Z (wAG Z (wAG Z wAR)) ZX wCu Z Z) ?_
 let B4:List Value:=[jV (-5),jV 5,jV 1]
 let B5:List Value:=[jV 0,jV 0,jV 0]
 refine oR Z (ZB (pv:=[(0,.agg #[jV (-5),jV 5]),(1,jV 1)]) (z:=B5) (cs:=B4) Z (wAG Z (wAG Z wAR)) Tryz.zeroValue112 wLX Z Z) (ZR (pv:=[(0,.agg B4.toArray)]) (zs:=B5) (cs:=B4) Z Z Z Z Z (wAG Z wAR) Ze yE Tryz.zeroValue112 Z Z Z Z Z aQ ?_)
 intro aL ag aR
 let B6:Res:=.row (some ⟨ag,0,none⟩) 1 112 3 (hD wAF [(⟨(⟨-5,5⟩:wAO),1⟩:wAi)])
 have aS:sW w φ φ [B6,B3,B1,.blk b2 27 O] aL:=aR
 let B7:List Value:=[jV 0,jV 0,jV 0,jV 0]
 let B8:List Value:=[jV 0,jV 2,jV 0,jV 2250]
 refine oR Z (ZB (pv:=[(1,jV 2),(3,jV 2250)]) (z:=B7) (cs:=B8) Z (wAG Z (wAG Z wAR)) yd wHY Z Z) ?_
 let B9:List Value:=[jV 1,jV 1,jV 0,jV 1400]
 refine oR Z (ZB (pv:=[(0,jV 1),(1,jV 1),(3,jV 1400)]) (z:=B7) (cs:=B9) Z (wAG Z (wAG Z (wAG Z wAR))) yd wHY Z Z) ?_
 let av:List Value:=[jV 1,jV 2,jV 0,jV 2499]
 refine oR Z (ZB (pv:=[(0,jV 1),(1,jV 2),(3,jV 2499)]) (z:=B7) (cs:=av) Z (wAG Z (wAG Z (wAG Z wAR))) yd wHY Z Z) (ZR (pv:=[(0,.agg B8.toArray),(1,.agg B9.toArray),(2,.agg av.toArray)]) (zs:=[jV 0,jV 0,jV 0,jV 0,jV 0,jV 0,jV 0,jV 0,jV 0,jV 0,jV 0,jV 0]) (cs:=[jV 0,jV 2,jV 0,jV 2250,jV 1,jV 1,jV 0,jV 1400,jV 1,jV 2,jV 0,jV 2499]) Z Z Z Z Z (wAG Z (wAG Z (wAG Z wAR))) ZN Zb yd Z Z Z Z Z aS ?_)
 intro aM ah aT
 let ax:Res:=.row (some ⟨ah,0,none⟩) 3 115 4 (hD wAB [(⟨0,2,0,2250⟩:wAK),(⟨1,1,0,1400⟩:wAK),(⟨1,2,0,2499⟩:wAK)])
 have aU:sW w φ φ [ax,B6,B3,B1,.blk b2 27 O] aM:=aT
 let ab:List Value:=[.slice (some ⟨b6,0,none⟩) 2 2,.slice (some ⟨af,0,none⟩) 2 2,.slice (some ⟨ag,0,none⟩) 1 1,.slice (some ⟨ah,0,none⟩) 3 3]
 refine oR Z (ZB (pv:=[(0,.slice (some ⟨b6,0,none⟩) 2 2),(1,.slice (some ⟨af,0,none⟩) 2 2),(2,.slice (some ⟨ag,0,none⟩) 1 1),(3,.slice (some ⟨ah,0,none⟩) 3 3)]) (z:=O) (cs:=ab) Z (wAG Z (wAG Z (wAG Z (wAG Z wAR)))) yy wKJ Z Z) (zX (j:=4) (vs:=ab) Z Z Z Z aU Z Z Z Z zZ (zA Z) Z Z Z ?_)
 intro aN aV
 have aJ:sW w φ φ [ax,B6,B3,B1,.blk b2 27 ab] aN:=aV
 refine eN (zO ?_)
 cases hm
 exact ⟨rfl,_,(wHW (v:=.agg ab.toArray) ⟨⟨_,rfl,(wBQ zo zZ (aJ.blkAt (k:=4) rfl) (vs:=ab) rfl rfl)⟩,trivial⟩),φ,_,(aJ.pick [3,2,1,0] _ (by decide) rfl),(some ⟨b6,0,none⟩),2,(some ⟨af,0,none⟩),2,(some ⟨ag,0,none⟩),1,(some ⟨ah,0,none⟩),3,rfl,rfl⟩
theorem wBl (p0:Int) (p1:Int) (w:World) (φ:PHeap) (hS:St0 w φ [])  {r:wAM} (hm:wBF p0 p1=some r):Gv Tryz.prog 57 [jV p0,jV p1] w (wCG w [] φ (fun φ_ L_ v=>v=.agg #[jV r.Skier,jV r.Mat]/\L_=[])):=by
 unfold wBF at hm
 refine Gv.of Tryz.func57 Z Tryz.ntmps57 Tryz.results57 Z (sR (.fx 0 .nil .stop) Z (zV (cs:=[jV 0,jV 0]) Z Z Z Z Z yG Z hS ?_))
 intro W1 b2 ag
 refine eN (sR (wDK (.fx 3 .nil .stop)) Z (oM Z Z (oM Z Z ?_)))
 let O:List Value:=[jV p0,jV p1]
 refine oR Z (ZB (pv:=[(0,jV p0),(1,jV p1)]) (z:=[jV 0,jV 0]) (cs:=O) Z (wAG Z (wAG Z wAR)) yG wFt Z Z) (zX (j:=0) (vs:=O) Z Z Z Z ag Z Z Z Z ZV (zA Z) Z Z Z ?_)
 intro W5 ah
 have ac:sW w φ φ [.blk b2 29 O] W5:=ah
 refine eN (zO ?_)
 cases hm
 exact ⟨rfl,_,(wHW (v:=.agg O.toArray) ⟨⟨_,rfl,(wBQ Zn ZV (ac.blkAt (k:=0) rfl) (vs:=O) rfl rfl)⟩,trivial⟩),φ,_,(ac.pick [] _ (by decide) rfl),rfl,rfl⟩
theorem wCQ (p0:Int) (p1:Int) (p2:Int) (w:World) (φ:PHeap) (hS:St0 w φ [])  {r:Bool} (hm:wBg p0 p1 p2=some r):Gv Tryz.prog 69 [jV p0,jV p1,jV p2] w (wCG w [] φ (fun φ_ L_ v=>v=.bool r/\L_=[])):=by
 unfold wBg at hm
 refine Gv.of Tryz.func69 Z Tryz.ntmps69 Tryz.results69 Z (sR fL1 Z (oA Z Z (eN (sR fL9 Z (oM Z Z (oM Z Z (oR Z (Runs.geq Z Z Z) (oM Z Z ?_))))))))
 by_cases O:p1 <= p0
 have aa:=hm;rw [if_pos O] at aa;replace O:=zN O
 refine zw Z Z Z (wT Z O) Z Z (zw Z Z Z (wT Z O) Z Z (rU Z (wT Z O) (Runs.leq Z Z Z) (oR Z (zR Z (Zd O.out) Z) (oA Z Z (eN (zO ?_))))))
 first | (obtain rfl:=hH aa) | cases aa
 exact ⟨Z,_,(ZA Z),φ,_,hS,Z,Z⟩
 have ae:=hm;rw [if_neg O] at ae;replace O:=zN O
 refine oF Z O (oF Z O (oF Z O (oR Z (zW Z (zu O.out) Z) (oA Z Z (eN (zO ?_))))))
 have hE:=hH ae;first | subst r | cases hE
 exact ⟨Z,_,(ZA Z),φ,_,hS,Z,Z⟩
theorem wGz (O:List Int) (ai:Option Addr) (aj:Nat) (p1:(Int->Option Bool)) (ak:Value) (w:World) (φ:PHeap) (hS:St0 w φ []) (aS:Sl φ 1 ai aj O.length (hD KL.encI O)) (aT:FnOK Tryz.prog φ ak wKf wKg p1) {r:Bool} (hm:wCy O p1=some r):Gv Tryz.prog 89 [.slice ai O.length aj,ak] w (wCG w [] φ (fun φ_ L_ v=>v=.bool r/\L_=[])):=by
 unfold wCy at hm
 refine Gv.of Tryz.func89 Z Tryz.ntmps89 Tryz.results89 Z (sR fL1 Z (oA Z Z (eN (zL (sR fL3 Z (oM Z Z (oR Z (zi Z Z zK) (oM Z Z (eN (zY ?_))))))))))
 have q:=wCA hm
 obtain ⟨r3,ae⟩:=q
 have q:=wCT ae
 obtain ⟨ag,aW⟩:=q
 replace ag:=zN ag
 refine yc (fun k2 _ σ_ w_=>∃ (φ_:PHeap),σ_ 9=jV (↑k2:Int)/\σ_ 1=ak/\σ_ 7=.slice ai O.length aj/\σ_ 8=jV (↑O.length:Int)/\PHeap.Le φ φ_/\sW w φ φ_ [] w_) aW ?_ ?_ ?_
 exact ⟨φ,Z,Z,Z,Z,(zS _),hS⟩
 rintro k2 ⟨⟩ bo bq W8 af ⟨br,ac,ao,ap,aq,ah,av⟩ az aU
 try dsimp only at az
 have an:Hid ((↑k2:Int) < (↑O.length:Int)):=zN (wBO af)
 replace af:=zN af
 have aX:Hid (w64 ((↑k2:Int) + 1)=(↑(k2 + 1):Int)):=zN (by have h1:=ag.out;have h2:=an.out;rw [wAb] <;> omega)
 refine sR fL1 Z (oR Z (ze Z ac aq) (eN (zL (cT Z an (kN (zL (zY (sR fL3 Z (bnK az fun aF au aY=>?_)))))))))
 have aL:=aS.le ah
 have q:=aL.el (fun _=>rfl) (wAe au)
 obtain ⟨be,bi,aO,aP⟩:=q
 refine oR Z (Zc Z ap aO ac zK zC (wCa au)) (oL Z (av.ldC (f:=0) aP (v:=jV aF) Z Z zG Z) (oA Z Z (eN (sR gBc Z (oM Z ao (oM Z Z (bnK aY fun bn aM aZ=>?_)))))))
 have aN:=aT.le ah
 refine OKS.callV (a:=aF) Z Z Z Z Z Z (zB Z zM) av aN Z aM ?_
 rintro am bb bm aG a8 aQ ⟨rfl,rfl⟩
 have ax:sW w φ am [] aG:=aQ
 refine oR Z (Zk Z Z) (eN (ifc aZ ?_ ?_))
 intro ab a5
 refine zj (nC ab.out) (Zf (zm (zJ (rR fL2 Z (oR Z (ZU (zh Z ac Z) (congrArg (jV) aX.out)) (oM Z Z (zf ?_)))))))
 have q:=hH a5
 obtain rfl:=q
 exact zJ ⟨Z,_,Z,⟨am,Z,ao,ap,aq,(ah.trans a8),ax⟩⟩
 intro ab a6
 refine ZD (nF (ab.out)) (sR fL1 Z (oA Z Z (eN (zO (zc (zQ ?_))))))
 have q:=wAS a6
 obtain ⟨a9,a7,aI⟩:=q
 have q:=wAt hm ae (aU a9 aI)
 obtain rfl:=q
 refine zQ (zc (zQ ?_))
 have hE:=hH a7;first | subst r | cases hE
 exact ⟨Z,_,(ZA Z),am,_,ax,Z,Z⟩
 rintro ⟨⟩ bp bc ⟨ba,aK,bf,bg,aJ,bh,aR⟩ aV
 have ay:=wCs hm ae aV
 try dsimp only at ay
 have aH:Hid (¬ ((↑(((↑O.length:Int):Int) - 0).toNat:Int) < (↑O.length:Int))):=zN (wAq)
 refine sR fL1 Z (oR Z (ze Z aK aJ) (eN (zL (cF Z aH (Za (zq (zq (ZW (zJ (sR fL1 Z (oA Z Z (eN (zO ?_)))))))))))))
 have hE:=hH ay;first | subst r | cases hE
 exact ⟨Z,_,(ZA Z),ba,_,aR,Z,Z⟩
theorem wHp (O:Int) (w:World) (φ:PHeap) (hS:St0 w φ [])  {r:Bool} (hm:wDL O=some r):Gv Tryz.prog 90 [jV O] w (wCG w [] φ (fun φ_ L_ v=>v=.bool r/\L_=[])):=by
 unfold wDL at hm
 refine Gv.of Tryz.func90 Z Tryz.ntmps90 Tryz.results90 Z (sR fL1 Z (oA Z Z (eN (sR (.fl 0 gAg) Z (oM Z Z (bnK hm fun x1 h2 ag=>zD 0 Z Z Z Z (zE Z Z yW (zB Z (zB Z (zB Z zM))) Z) hS (fun hs=>wCQ O 0 360000 w φ hs h2) (.inr Z) ?_))))))
 rintro aa L5 v6 W7 ai af ⟨rfl,rfl⟩
 have ae:sW w φ aa [] W7:=af
 refine oA Z Z (eN (zO ?_))
 have hE:=hH ag;first | subst r | cases hE
 exact ⟨Z,_,(ZA Z),aa,_,ae,Z,Z⟩
theorem wFb (O:List wAO) (ak:Option Addr) (am:Nat) (p1:(wAO->Option Bool)) (an:Value) (w:World) (φ:PHeap) (hS:St0 w φ []) (aY:Sl φ 2 ak am O.length (hD wAD O)) (aZ:FnOK Tryz.prog φ an wOg wOh p1) {r:Bool} (hm:wCE O p1=some r):Gv Tryz.prog 91 [.slice ak O.length am,an] w (wCG w [] φ (fun φ_ L_ v=>v=.bool r/\L_=[])):=by
 unfold wCE at hm
 refine Gv.of Tryz.func91 Z Tryz.ntmps91 Tryz.results91 Z (sR fL1 Z (oA Z Z (eN (zL (sR fL3 Z (oM Z Z (oR Z (zi Z Z ZI) (oM Z Z (eN (zY ?_))))))))))
 have q:=wCA hm
 obtain ⟨r3,ag⟩:=q
 have q:=wCT ag
 obtain ⟨ai,a7⟩:=q
 replace ai:=zN ai
 refine yc (fun k2 _ σ_ w_=>∃ (φ_:PHeap),σ_ 9=jV (↑k2:Int)/\σ_ 1=an/\σ_ 7=.slice ak O.length am/\σ_ 8=jV (↑O.length:Int)/\PHeap.Le φ φ_/\sW w φ φ_ [] w_) a7 ?_ ?_ ?_
 exact ⟨φ,Z,Z,Z,Z,(zS _),hS⟩
 rintro k2 ⟨⟩ bw bz W8 ah ⟨bg,af,au,av,ax,aj,az⟩ aH a5
 try dsimp only at aH
 have aq:Hid ((↑k2:Int) < (↑O.length:Int)):=zN (wBO ah)
 replace ah:=zN ah
 have a8:Hid (w64 ((↑k2:Int) + 1)=(↑(k2 + 1):Int)):=zN (by have h1:=ai.out;have h2:=aq.out;rw [wAb] <;> omega)
 refine sR fL1 Z (oR Z (ze Z af ax) (eN (zL (cT Z aq (kN (zL (zY (sR gBd Z (bnK aH fun ab ay a9=>?_)))))))))
 have aP:=aY.le aj
 have q:=aP.el (fun _=>rfl) (wAe ay)
 obtain ⟨bo,bs,aS,aT⟩:=q
 refine oR Z (Zc Z av aS af ZI zz (wCa ay)) (oL Z (az.ldCA (f:=0) aT Z Z yA zz (us:=[jV ab.Lo,jV ab.Hi]) Z Z) (zV (cs:=[jV 0,jV 0]) Z Z Z Z Z ZX Z az ?_))
 intro bj ap aU
 let B0:List Value:=[jV ab.Lo,jV ab.Hi]
 refine zX (j:=0) (vs:=B0) Z Z Z Z aU Z Z Z Z zz (zA Z) Z Z Z ?_
 intro aJ aV
 have aE:sW w φ bg [.blk ap 39 B0] aJ:=aV
 refine eN (sR gBc Z (oM Z au (oL Z (aE.ldBA (j:=0) Z Z Z yA zz (vs:=B0) Z Z) (bnK a9 fun bv aQ ba=>?_))))
 have aR:=aZ.le aj
 refine OKS.callV (a:=ab) Z Z Z Z Z Z (zB Z zM) aE aR Z aQ ?_
 rintro ao bi bu aK be aW ⟨rfl,rfl⟩
 have aF:sW w φ ao [.blk ap 39 B0] aK:=aW
 refine oR Z (Zk Z Z) (eN (ifc ba ?_ ?_))
 intro ae bb
 refine zj (nC ae.out) (Zf (zm (zJ (rR fL2 Z (oR Z (ZU (zh Z af Z) (congrArg (jV) a8.out)) (oM Z Z (zf ?_)))))))
 have q:=hH bb
 obtain rfl:=q
 exact zJ ⟨rfl,_,rfl,⟨ao,rfl,au,av,ax,(aj.trans be),(aF.pick [] _ (by decide) rfl)⟩⟩
 intro ae bc
 refine ZD (nF (ae.out)) (sR fL1 Z (oA Z Z (eN (zO (zc (zQ ?_))))))
 have q:=wAS bc
 obtain ⟨bf,bd,aM⟩:=q
 have q:=wAt hm ag (a5 bf aM)
 obtain rfl:=q
 refine zQ (zc (zQ ?_))
 have hE:=hH bd;first | subst r | cases hE
 exact ⟨rfl,_,(ZA rfl),ao,_,(aF.pick [] _ (by decide) rfl),rfl,rfl⟩
 rintro ⟨⟩ bx bm ⟨bh,aO,bp,bq,aN,br,aX⟩ a6
 have aG:=wCs hm ag a6
 try dsimp only at aG
 have aL:Hid (¬ ((↑(((↑O.length:Int):Int) - 0).toNat:Int) < (↑O.length:Int))):=zN (wAq)
 refine sR fL1 Z (oR Z (ze Z aO aN) (eN (zL (cF Z aL (Za (zq (zq (ZW (zJ (sR fL1 Z (oA Z Z (eN (zO ?_)))))))))))))
 have hE:=hH aG;first | subst r | cases hE
 exact ⟨Z,_,(ZA Z),bh,_,aX,Z,Z⟩
theorem wGG (p0:wAO) (p1:Int) (p2:Int) (w:World) (φ:PHeap) (hS:St0 w φ [])  {r:Bool} (hm:wDM p0 p1 p2=some r):Gv Tryz.prog 93 [.agg #[jV p0.Lo,jV p0.Hi],jV p1,jV p2] w (wCG w [] φ (fun φ_ L_ v=>v=.bool r/\L_=[])):=by
 unfold wDM at hm
 refine Gv.of Tryz.func93 rfl Tryz.ntmps93 Tryz.results93 rfl (sR gAf rfl (zn (cs:=[jV p0.Lo,jV p0.Hi]) rfl rfl rfl rfl rfl rfl (by rfl) hS ?_))
 intro W1 b2 ac
 refine oA Z Z (eN (sR fL18 Z (oR Z (zF Z Z ZT Z zC) (oL Z (ac.ldB (j:=0) Z Z Z zG (v:=jV p0.Lo) Z) (oR Z (zF Z Z ZT Z zC) (oL Z (ac.ldB (j:=0) Z Z Z zG (v:=jV p0.Hi) Z) (oR Z (Runs.leq Z Z Z) (oM Z Z ?_))))))))
 by_cases O:p0.Lo <= p0.Hi
 have af:=hm;rw [if_pos O] at af;replace O:=zN O
 refine rU Z (wT Z O) (zF Z Z ZT Z zC) (ZE Z Z Z (wT Z O) (ac.ldB (j:=0) Z Z Z zG (v:=jV p0.Lo) Z) Z (zw Z Z Z (wT Z O) Z Z (rU Z (wT Z O) (Runs.geq Z Z Z) (oR Z (zR Z (Zd O.out) Z) (oM Z Z (ifc af ?_ ?_))))))
 intro c7 ag
 refine rU Z (wT Z c7) (zF Z Z ZT Z zC) (ZE Z Z Z (wT Z c7) (ac.ldB (j:=0) Z Z Z zG (v:=jV p0.Hi) Z) Z (zw Z Z Z (wT Z c7) Z Z (rU Z (wT Z c7) (Runs.leq Z Z Z) (oR Z (zR Z (Zd c7.out) Z) (oA Z Z (eN (zO ?_)))))))
 first | (obtain rfl:=hH ag) | cases ag
 exact ⟨rfl,_,(ZA rfl),φ,_,(ac.pick [] _ (by decide) rfl),rfl,rfl⟩
 intro c7 aj
 refine oF Z c7 (oF Z c7 (oF Z c7 (oF Z c7 (oR Z (zW Z (zu c7.out) Z) (oA Z Z (eN (zO ?_)))))))
 have hE:=hH aj;first | subst r | cases hE
 exact ⟨rfl,_,(ZA rfl),φ,_,(ac.pick [] _ (by decide) rfl),rfl,rfl⟩
 have ae:=hm;rw [if_neg O] at ae;replace O:=zN O
 refine oF Z O (oF Z O (oF Z O (oF Z O (oR Z (zW Z (zu O.out) Z) (oM Z Z (oN Z (oN Z (oN Z (oN Z (oR Z (zW Z Z Z) (oA Z Z (eN (zO ?_)))))))))))))
 have hE:=hH ae;first | subst r | cases hE
 exact ⟨rfl,_,(ZA rfl),φ,_,(ac.pick [] _ (by decide) rfl),rfl,rfl⟩
theorem wHq (O:wAO) (w:World) (φ:PHeap) (hS:St0 w φ [])  {r:Bool} (hm:wDN O=some r):Gv Tryz.prog 92 [.agg #[jV O.Lo,jV O.Hi]] w (wCG w [] φ (fun φ_ L_ v=>v=.bool r/\L_=[])):=by
 unfold wDN at hm
 refine Gv.of Tryz.func92 Z Tryz.ntmps92 Tryz.results92 Z (sR gAf Z ?_)
 let B0:List Value:=[jV O.Lo,jV O.Hi]
 refine zn (cs:=B0) rfl rfl rfl rfl rfl rfl (by rfl) hS ?_
 intro W1 b2 ab
 refine oA Z Z (eN (sR (.fl 0 gAg) Z (oL Z (ab.ldBA (j:=0) Z Z Z yA zz (vs:=B0) Z Z) (bnK hm fun x5 h6 ak=>zD 0 Z Z Z Z (zE Z Z Tryz.call93 (zB Z (zB Z (zB Z zM))) Z) ab (fun hs=>wGG O 0 360000 W1 φ hs h6) (.inr Z) ?_))))
 rintro ac L9 ao af an ai ⟨rfl,rfl⟩
 have aj:sW w φ ac [.blk b2 39 B0] af:=ai
 refine oA Z Z (eN (zO ?_))
 have hE:=hH ak;first | subst r | cases hE
 exact ⟨rfl,_,(ZA rfl),ac,_,(aj.pick [] _ (by decide) rfl),rfl,rfl⟩
theorem wFJ (O:List wAi) (ak:Option Addr) (am:Nat) (p1:(wAi->Option Bool)) (an:Value) (w:World) (φ:PHeap) (hS:St0 w φ []) (aY:Sl φ 3 ak am O.length (hD wAF O)) (aZ:FnOK Tryz.prog φ an wOi wOj p1) {r:Bool} (hm:wBm O p1=some r):Gv Tryz.prog 94 [.slice ak O.length am,an] w (wCG w [] φ (fun φ_ L_ v=>v=.bool r/\L_=[])):=by
 unfold wBm at hm
 refine Gv.of Tryz.func94 Z Tryz.ntmps94 Tryz.results94 Z (sR fL1 Z (oA Z Z (eN (zL (sR fL3 Z (oM Z Z (oR Z (zi Z Z Ze) (oM Z Z (eN (zY ?_))))))))))
 have q:=wCA hm
 obtain ⟨r3,ag⟩:=q
 have q:=wCT ag
 obtain ⟨ai,a7⟩:=q
 replace ai:=zN ai
 refine yc (fun k2 _ σ_ w_=>∃ (φ_:PHeap),σ_ 9=jV (↑k2:Int)/\σ_ 1=an/\σ_ 7=.slice ak O.length am/\σ_ 8=jV (↑O.length:Int)/\PHeap.Le φ φ_/\sW w φ φ_ [] w_) a7 ?_ ?_ ?_
 exact ⟨φ,Z,Z,Z,Z,(zS _),hS⟩
 rintro k2 ⟨⟩ bw bz W8 ah ⟨bg,af,au,av,ax,aj,az⟩ aH a5
 try dsimp only at aH
 have aq:Hid ((↑k2:Int) < (↑O.length:Int)):=zN (wBO ah)
 replace ah:=zN ah
 have a8:Hid (w64 ((↑k2:Int) + 1)=(↑(k2 + 1):Int)):=zN (by have h1:=ai.out;have h2:=aq.out;rw [wAb] <;> omega)
 refine sR fL1 Z (oR Z (ze Z af ax) (eN (zL (cT Z aq (kN (zL (zY (sR gBd Z (bnK aH fun aa ay a9=>?_)))))))))
 have aP:=aY.le aj
 have q:=aP.el (fun _=>rfl) (wAe ay)
 obtain ⟨bo,bs,aS,aT⟩:=q
 refine oR Z (Zc Z av aS af Ze yE (wCa ay)) (oL Z (az.ldCA (f:=0) aT Z Z Tryz.isAgg112 yE (us:=[jV aa.Offset.Lo,jV aa.Offset.Hi,jV aa.Error]) Z Z) (zV (cs:=[jV 0,jV 0,jV 0]) Z Z Z Z Z Tryz.zeroValue112 Z az ?_))
 intro bj ap aU
 let B0:List Value:=[jV aa.Offset.Lo,jV aa.Offset.Hi,jV aa.Error]
 refine zX (j:=0) (vs:=B0) Z Z Z Z aU Z Z Z Z yE (zA Z) Z Z Z ?_
 intro aJ aV
 have aE:sW w φ bg [.blk ap 112 B0] aJ:=aV
 refine eN (sR gBc Z (oM Z au (oL Z (aE.ldBA (j:=0) Z Z Z Tryz.isAgg112 yE (vs:=B0) Z Z) (bnK a9 fun bv aQ ba=>?_))))
 have aR:=aZ.le aj
 refine OKS.callV (a:=aa) Z Z Z Z Z Z (zB Z zM) aE aR Z aQ ?_
 rintro ao bi bu aK be aW ⟨rfl,rfl⟩
 have aF:sW w φ ao [.blk ap 112 B0] aK:=aW
 refine oR Z (Zk Z Z) (eN (ifc ba ?_ ?_))
 intro ae bb
 refine zj (nC ae.out) (Zf (zm (zJ (rR fL2 Z (oR Z (ZU (zh Z af Z) (congrArg (jV) a8.out)) (oM Z Z (zf ?_)))))))
 have q:=hH bb
 obtain rfl:=q
 exact zJ ⟨rfl,_,rfl,⟨ao,rfl,au,av,ax,(aj.trans be),(aF.pick [] _ (by decide) rfl)⟩⟩
 intro ae bc
 refine ZD (nF (ae.out)) (sR fL1 Z (oA Z Z (eN (zO (zc (zQ ?_))))))
 have q:=wAS bc
 obtain ⟨bf,bd,aM⟩:=q
 have q:=wAt hm ag (a5 bf aM)
 obtain rfl:=q
 refine zQ (zc (zQ ?_))
 have hE:=hH bd;first | subst r | cases hE
 exact ⟨rfl,_,(ZA rfl),ao,_,(aF.pick [] _ (by decide) rfl),rfl,rfl⟩
 rintro ⟨⟩ bx bm ⟨bh,aO,bp,bq,aN,br,aX⟩ a6
 have aG:=wCs hm ag a6
 try dsimp only at aG
 have aL:Hid (¬ ((↑(((↑O.length:Int):Int) - 0).toNat:Int) < (↑O.length:Int))):=zN (wAq)
 refine sR fL1 Z (oR Z (ze Z aO aN) (eN (zL (cF Z aL (Za (zq (zq (ZW (zJ (sR fL1 Z (oA Z Z (eN (zO ?_)))))))))))))
 have hE:=hH aG;first | subst r | cases hE
 exact ⟨Z,_,(ZA Z),bh,_,aX,Z,Z⟩
theorem wHr (O:wAi) (w:World) (φ:PHeap) (hS:St0 w φ [])  {r:Bool} (hm:wDO O=some r):Gv Tryz.prog 95 [.agg #[jV O.Offset.Lo,jV O.Offset.Hi,jV O.Error]] w (wCG w [] φ (fun φ_ L_ v=>v=.bool r/\L_=[])):=by
 unfold wDO at hm
 refine Gv.of Tryz.func95 Z Tryz.ntmps95 Tryz.results95 Z (sR gAf Z ?_)
 let B0:List Value:=[jV O.Offset.Lo,jV O.Offset.Hi,jV O.Error]
 refine zn (cs:=B0) rfl rfl rfl rfl rfl rfl (by rfl) hS ?_
 intro W1 b2 ah
 refine oA Z Z (eN (sR (.fl 0 (.fl 1 (.fx 2 (wKB (.fx 6 gAd .stop)) .stop))) Z (oR Z (zF Z Z yr Z zz) (oL Z (ah.ldBA (j:=0) Z Z Z yA zz (vs:=[jV O.Offset.Lo,jV O.Offset.Hi]) Z Z) (bnK hm fun x5 h6 ay=>zD 0 Z Z Z Z (zE Z Z Tryz.call93 (zB Z (zB Z (zB Z zM))) Z) ah (fun hs=>wGG O.Offset (-36000) 36000 W1 φ hs h6) (.inr Z) ?_)))))
 rintro ae L9 aH af aF ao ⟨rfl,rfl⟩
 have ac:sW w φ ae [.blk b2 112 B0] af:=ao
 refine oM Z Z (ifc ay ?_ ?_)
 intro aa au
 refine za Z Z Z (zI Z Z (congrArg hJ aa.out)) (fun _=>zF Z Z yr Z zC) (ZE Z Z Z (zI Z Z (congrArg hJ aa.out)) (ac.ldB (j:=0) Z Z Z zG (v:=jV O.Error) Z) Z (bnK au fun aJ am av=>zD 0 Z Z Z (zI Z Z (congrArg hJ aa.out)) (zE Z Z yW (zB Z (zB Z (zB Z zM))) Z) ac (fun hs=>wCQ O.Error 0 600 af ae hs am) (.inr Z) ?_))
 rintro ai az aI ak aG ap ⟨rfl,rfl⟩
 have aq:sW w φ ai [.blk b2 112 B0] ak:=ap
 refine oR Z (zR Z (congrArg hJ aa.out) Z) (oA Z Z (eN (zO ?_)))
 have hE:=hH av;first | subst r | cases hE
 exact ⟨rfl,_,(ZA rfl),ai,_,(aq.pick [] _ (by decide) rfl),rfl,rfl⟩
 intro aa ax
 refine zy Z Z Z (zP Z Z (congrArg hJ (hU.2 aa.out)) Z) (zy Z Z Z (zP Z Z (congrArg hJ (hU.2 aa.out)) Z) (ZC Z Z Z (zP Z Z (congrArg hJ (hU.2 aa.out)) Z) (oR Z (zW Z (congrArg hJ (hU.2 aa.out)) Z) (oA Z Z (eN (zO ?_))))))
 have hE:=hH ax;first | subst r | cases hE
 exact ⟨rfl,_,(ZA rfl),ae,_,(ac.pick [] _ (by decide) rfl),rfl,rfl⟩
theorem wDn (O:List wAK) (ak:Option Addr) (am:Nat) (p1:(wAK->Option Bool)) (an:Value) (w:World) (φ:PHeap) (hS:St0 w φ []) (aY:Sl φ 4 ak am O.length (hD wAB O)) (aZ:FnOK Tryz.prog φ an wKh wKi p1) {r:Bool} (hm:wBE O p1=some r):Gv Tryz.prog 96 [.slice ak O.length am,an] w (wCG w [] φ (fun φ_ L_ v=>v=.bool r/\L_=[])):=by
 unfold wBE at hm
 refine Gv.of Tryz.func96 Z Tryz.ntmps96 Tryz.results96 Z (sR fL1 Z (oA Z Z (eN (zL (sR fL3 Z (oM Z Z (oR Z (zi Z Z ZN) (oM Z Z (eN (zY ?_))))))))))
 have q:=wCA hm
 obtain ⟨r3,ag⟩:=q
 have q:=wCT ag
 obtain ⟨ai,a7⟩:=q
 replace ai:=zN ai
 refine yc (fun k2 _ σ_ w_=>∃ (φ_:PHeap),σ_ 9=jV (↑k2:Int)/\σ_ 1=an/\σ_ 7=.slice ak O.length am/\σ_ 8=jV (↑O.length:Int)/\PHeap.Le φ φ_/\sW w φ φ_ [] w_) a7 ?_ ?_ ?_
 exact ⟨φ,Z,Z,Z,Z,(zS _),hS⟩
 rintro k2 ⟨⟩ bw bz W8 ah ⟨bg,af,au,av,ax,aj,az⟩ aH a5
 try dsimp only at aH
 have aq:Hid ((↑k2:Int) < (↑O.length:Int)):=zN (wBO ah)
 replace ah:=zN ah
 have a8:Hid (w64 ((↑k2:Int) + 1)=(↑(k2 + 1):Int)):=zN (by have h1:=ai.out;have h2:=aq.out;rw [wAb] <;> omega)
 refine sR fL1 Z (oR Z (ze Z af ax) (eN (zL (cT Z aq (kN (zL (zY (sR gBd Z (bnK aH fun aa ay a9=>?_)))))))))
 have aP:=aY.le aj
 have q:=aP.el (fun _=>rfl) (wAe ay)
 obtain ⟨bo,bs,aS,aT⟩:=q
 refine oR Z (Zc Z av aS af ZN Zb (wCa ay)) (oL Z (az.ldCA (f:=0) aT Z Z yf Zb (us:=[jV aa.Skier,jV aa.Mat,jV aa.Clock,jV aa.Time]) Z Z) (zV (cs:=[jV 0,jV 0,jV 0,jV 0]) Z Z Z Z Z yd Z az ?_))
 intro bj ap aU
 let B0:List Value:=[jV aa.Skier,jV aa.Mat,jV aa.Clock,jV aa.Time]
 refine zX (j:=0) (vs:=B0) Z Z Z Z aU Z Z Z Z Zb (zA Z) Z Z Z ?_
 intro aJ aV
 have aE:sW w φ bg [.blk ap 115 B0] aJ:=aV
 refine eN (sR gBc Z (oM Z au (oL Z (aE.ldBA (j:=0) Z Z Z yf Zb (vs:=B0) Z Z) (bnK a9 fun bv aQ ba=>?_))))
 have aR:=aZ.le aj
 refine OKS.callV (a:=aa) Z Z Z Z Z Z (zB Z zM) aE aR Z aQ ?_
 rintro ao bi bu aK be aW ⟨rfl,rfl⟩
 have aF:sW w φ ao [.blk ap 115 B0] aK:=aW
 refine oR Z (Zk Z Z) (eN (ifc ba ?_ ?_))
 intro ae bb
 refine zj (nC ae.out) (Zf (zm (zJ (rR fL2 Z (oR Z (ZU (zh Z af Z) (congrArg (jV) a8.out)) (oM Z Z (zf ?_)))))))
 have q:=hH bb
 obtain rfl:=q
 exact zJ ⟨rfl,_,rfl,⟨ao,rfl,au,av,ax,(aj.trans be),(aF.pick [] _ (by decide) rfl)⟩⟩
 intro ae bc
 refine ZD (nF (ae.out)) (sR fL1 Z (oA Z Z (eN (zO (zc (zQ ?_))))))
 have q:=wAS bc
 obtain ⟨bf,bd,aM⟩:=q
 have q:=wAt hm ag (a5 bf aM)
 obtain rfl:=q
 refine zQ (zc (zQ ?_))
 have hE:=hH bd;first | subst r | cases hE
 exact ⟨rfl,_,(ZA rfl),ao,_,(aF.pick [] _ (by decide) rfl),rfl,rfl⟩
 rintro ⟨⟩ bx bm ⟨bh,aO,bp,bq,aN,br,aX⟩ a6
 have aG:=wCs hm ag a6
 try dsimp only at aG
 have aL:Hid (¬ ((↑(((↑O.length:Int):Int) - 0).toNat:Int) < (↑O.length:Int))):=zN (wAq)
 refine sR fL1 Z (oR Z (ze Z aO aN) (eN (zL (cF Z aL (Za (zq (zq (ZW (zJ (sR fL1 Z (oA Z Z (eN (zO ?_)))))))))))))
 have hE:=hH aG;first | subst r | cases hE
 exact ⟨Z,_,(ZA Z),bh,_,aX,Z,Z⟩
theorem wHs (O:wAK) (w:World) (φ:PHeap) (hS:St0 w φ [])  {r:Bool} (hm:wDP O=some r):Gv Tryz.prog 97 [.agg #[jV O.Skier,jV O.Mat,jV O.Clock,jV O.Time]] w (wCG w [] φ (fun φ_ L_ v=>v=.bool r/\L_=[])):=by
 unfold wDP at hm
 refine Gv.of Tryz.func97 Z Tryz.ntmps97 Tryz.results97 Z (sR gAf Z ?_)
 let B0:List Value:=[jV O.Skier,jV O.Mat,jV O.Clock,jV O.Time]
 refine zn (cs:=B0) rfl rfl rfl rfl rfl rfl (by rfl) hS ?_
 intro W1 b2 ab
 refine oA Z Z (eN (sR gBc Z (oR Z (zF Z Z Zp Z zC) (oL Z (ab.ldB (j:=0) Z Z Z zG (v:=jV O.Time) Z) (bnK hm fun x5 h6 ak=>zD 0 Z Z Z Z (zE Z Z yW (zB Z (zB Z (zB Z zM))) Z) ab (fun hs=>wCQ O.Time 0 360000 W1 φ hs h6) (.inr Z) ?_)))))
 rintro ac L9 ao af an ai ⟨rfl,rfl⟩
 have aj:sW w φ ac [.blk b2 115 B0] af:=ai
 refine oA Z Z (eN (zO ?_))
 have hE:=hH ak;first | subst r | cases hE
 exact ⟨rfl,_,(ZA rfl),ac,_,(aj.pick [] _ (by decide) rfl),rfl,rfl⟩
theorem wDI (O:wAA) (ae:Option Addr) (ag:Nat) (af:Option Addr) (ah:Nat) (am:Option Addr) (ao:Nat) (an:Option Addr) (ap:Nat) (p1:wAM) (w:World) (φ:PHeap) (hS:St0 w φ []) (aS:Sl φ 1 ae ag O.Starts.length (hD KL.encI O.Starts)) (aT:Sl φ 2 af ah O.Splits.length (hD wAD O.Splits)) (aU:Sl φ 3 am ao O.Clocks.length (hD wAF O.Clocks)) (aV:Sl φ 4 an ap O.Readings.length (hD wAB O.Readings)) {r:Bool} (hm:wAu O p1=some r):Gv Tryz.prog 99 [.agg #[.slice ae O.Starts.length ag,.slice af O.Splits.length ah,.slice am O.Clocks.length ao,.slice an O.Readings.length ap],.agg #[jV p1.Skier,jV p1.Mat]] w (wCG w [] φ (fun φ_ L_ v=>v=.bool r/\L_=[])):=by
 unfold wAu at hm
 refine Gv.of Tryz.func99 Z Tryz.ntmps99 Tryz.results99 Z (sR gAs Z ?_)
 let B0:List Value:=[.slice ae O.Starts.length ag,.slice af O.Splits.length ah,.slice am O.Clocks.length ao,.slice an O.Readings.length ap]
 refine zn (cs:=B0) rfl rfl rfl rfl rfl rfl (by rfl) hS ?_
 intro W1 b2 aJ
 let B1:List Value:=[jV p1.Skier,jV p1.Mat]
 refine zn (cs:=B1) rfl rfl rfl rfl rfl rfl (by rfl) aJ ?_
 intro W5 b6 ak
 refine oA Z Z (eN (sR (wGE (.fx 6 (wJe gAt) .stop)) Z (oR Z (zF Z Z Tryz.runUnderlying29 Z zC) (oL Z (ak.ldB (j:=0) Z Z Z zG (v:=jV p1.Skier) Z) (oR Z (zF Z Z zT Z zg) (oL Z (ak.ldB (j:=1) Z Z Z zr (v:=.slice ae O.Starts.length ag) Z) (oR Z (zi Z Z zK) (oR Z (yO Z Z Z) (bnK hm fun x9 aF aL=>zD 0 Z Z Z Z (zE Z Z yW (zB Z (zB Z (zB Z zM))) Z) ak (fun hs=>wCQ p1.Skier 0 (w64 ((↑O.Starts.length:Int) - 1)) W5 φ hs aF) (.inr Z) ?_)))))))))
 rintro aq aP aY au aW aH ⟨rfl,rfl⟩
 have ac:sW w φ aq [.blk b6 29 B1,.blk b2 27 B0] au:=aH
 refine oM Z Z (ifc aL ?_ ?_)
 intro aa aM
 refine za Z Z Z (zI Z Z (congrArg hJ aa.out)) (fun _=>zF Z Z Tryz.runUnderlying29 Z zC) (ZE Z Z Z (zI Z Z (congrArg hJ aa.out)) (ac.ldB (j:=0) Z Z Z zG (v:=jV p1.Mat) Z) Z (za Z Z Z (zI Z Z (congrArg hJ aa.out)) (fun _=>zF Z Z zT Z Zm) (ZE Z Z Z (zI Z Z (congrArg hJ aa.out)) (ac.ldB (j:=1) Z Z Z Zq (v:=.slice af O.Splits.length ah) Z) Z (za Z Z Z (zI Z Z (congrArg hJ aa.out)) (fun _=>zi Z Z ZI) (bnK aM fun a5 aG aN=>zD 0 Z Z Z (zI Z Z (congrArg hJ aa.out)) (zE Z Z yW (zB Z (zB Z (zB Z zM))) Z) ac (fun hs=>wCQ p1.Mat 0 (↑O.Splits.length:Int) au aq hs aG) (.inr Z) ?_)))))
 rintro ay aQ aZ az aX aI ⟨rfl,rfl⟩
 have aK:sW w φ ay [.blk b6 29 B1,.blk b2 27 B0] az:=aI
 refine oR Z (zR Z (congrArg hJ aa.out) Z) (oA Z Z (eN (zO ?_)))
 have hE:=hH aN;first | subst r | cases hE
 exact ⟨rfl,_,(ZA rfl),ay,_,(aK.pick [] _ (by decide) rfl),rfl,rfl⟩
 intro aa aO
 refine zy Z Z Z (zP Z Z (congrArg hJ (hU.2 aa.out)) Z) (zy Z Z Z (zP Z Z (congrArg hJ (hU.2 aa.out)) Z) (zy Z Z Z (zP Z Z (congrArg hJ (hU.2 aa.out)) Z) (zy Z Z Z (zP Z Z (congrArg hJ (hU.2 aa.out)) Z) (zy Z Z Z (zP Z Z (congrArg hJ (hU.2 aa.out)) Z) (ZC Z Z Z (zP Z Z (congrArg hJ (hU.2 aa.out)) Z) (oR Z (zW Z (congrArg hJ (hU.2 aa.out)) Z) (oA Z Z (eN (zO ?_)))))))))
 have hE:=hH aO;first | subst r | cases hE
 exact ⟨rfl,_,(ZA rfl),aq,_,(ac.pick [] _ (by decide) rfl),rfl,rfl⟩
end Go.Proofs.YtlnfbjphfoipaaaGreat
namespace Go.Proofs.YtlnfbjphfoipaaaGreat
open Go.KL
set_option maxHeartbeats 4000000
theorem wHt (p0:wAK) (O:wAA) (ax:Nat) (ah:Option Addr) (ak:Nat) (ai:Option Addr) (am:Nat) (ac:Option Addr) (ae:Nat) (aj:Option Addr) (an:Nat) (w:World) (φ:PHeap) (hS:St0 w φ []) (av:Cl φ ax 0 [.slice ah O.Starts.length ak,.slice ai O.Splits.length am,.slice ac O.Clocks.length ae,.slice aj O.Readings.length an]) (aL:Sl φ 1 ah ak O.Starts.length (hD KL.encI O.Starts)) (aM:Sl φ 2 ai am O.Splits.length (hD wAD O.Splits)) (aN:Sl φ 3 ac ae O.Clocks.length (hD wAF O.Clocks)) (aO:Sl φ 4 aj an O.Readings.length (hD wAB O.Readings)) {r:Bool} (hm:wDQ p0 O=some r):Gv Tryz.prog 98 [.agg #[jV p0.Skier,jV p0.Mat,jV p0.Clock,jV p0.Time],.pointer (some ⟨ax,0,none⟩)] w (wCG w [] φ (fun φ_ L_ v=>v=.bool r/\L_=[])):=by
 unfold wDQ at hm
 refine Gv.of Tryz.func98 Z Tryz.ntmps98 Tryz.results98 Z (sR gAf Z ?_)
 let B0:List Value:=[jV p0.Skier,jV p0.Mat,jV p0.Clock,jV p0.Time]
 refine zn (cs:=B0) rfl rfl rfl rfl rfl rfl (by rfl) hS ?_
 intro W1 b2 ag
 refine oA Z Z (eN (sR (wGE (.fx 6 (wKa gAu) .stop)) Z (oL Z (ag.ldCA (f:=0) av Z Z zo zZ (us:=[.slice ah O.Starts.length ak,.slice ai O.Splits.length am,.slice ac O.Clocks.length ae,.slice aj O.Readings.length an]) Z Z) (oR Z (zF Z Z Zp Z zC) (oL Z (ag.ldB (j:=0) Z Z Z zG (v:=jV p0.Skier) Z) (oR Z (zF Z Z Zp Z zC) (oL Z (ag.ldB (j:=0) Z Z Z zG (v:=jV p0.Mat) Z) (oR Z (ZB (pv:=[(0,jV p0.Skier),(1,jV p0.Mat)]) (z:=[jV 0,jV 0]) (cs:=[jV p0.Skier,jV p0.Mat]) Z (wAG Z (wAG Z wAR)) yG wFt Z Z) (bnK hm fun x5 h6 aS=>zD 0 Z Z Z Z (zE Z Z Tryz.call99 (zB Z (zB Z zM)) Z) ag (fun hs=>wDI O ah ak ai am ac ae aj an (⟨p0.Skier,p0.Mat⟩:wAM) W1 φ hs aL aM aN aO h6) (.inr Z) ?_)))))))))
 rintro ap L9 aX aq aT aI ⟨rfl,rfl⟩
 have af:sW w φ ap [.blk b2 115 B0] aq:=aI
 refine oM Z Z (ifc aS ?_ ?_)
 intro ab aP
 refine za Z Z Z (zI Z Z (congrArg hJ ab.out)) (fun _=>zF Z Z Zp Z zC) (ZE Z Z Z (zI Z Z (congrArg hJ ab.out)) (af.ldB (j:=0) Z Z Z zG (v:=jV p0.Clock) Z) Z (za Z Z Z (zI Z Z (congrArg hJ ab.out)) (fun _=>zF Z Z zT Z yQ) ?_))
 have aF:=av.le aT
 refine ZE Z Z Z (zI Z Z (congrArg hJ ab.out)) (af.ldC (f:=2) aF (v:=.slice ac O.Clocks.length ae) Z Z yZ Z) Z (za Z Z Z (zI Z Z (congrArg hJ ab.out)) (fun _=>zi Z Z Ze) (za Z Z Z (zI Z Z (congrArg hJ ab.out)) (fun _=>yO Z Z Z) (bnK aP fun aZ aG aQ=>zD 0 Z Z Z (zI Z Z (congrArg hJ ab.out)) (zE Z Z yW (zB Z (zB Z (zB Z zM))) Z) af (fun hs=>wCQ p0.Clock 0 (w64 ((↑O.Clocks.length:Int) - 1)) aq ap hs aG) (.inr Z) ?_)))
 rintro ay aU aY aE aW aJ ⟨rfl,rfl⟩
 have aK:sW w φ ay [.blk b2 115 B0] aE:=aJ
 refine oR Z (zR Z (congrArg hJ ab.out) Z) (oA Z Z (eN (zO ?_)))
 have hE:=hH aQ;first | subst r | cases hE
 exact ⟨rfl,_,(ZA rfl),ay,_,(aK.pick [] _ (by decide) rfl),rfl,rfl⟩
 intro ab aR
 refine zy Z Z Z (zP Z Z (congrArg hJ (hU.2 ab.out)) Z) (zy Z Z Z (zP Z Z (congrArg hJ (hU.2 ab.out)) Z) (zy Z Z Z (zP Z Z (congrArg hJ (hU.2 ab.out)) Z) (zy Z Z Z (zP Z Z (congrArg hJ (hU.2 ab.out)) Z) (zy Z Z Z (zP Z Z (congrArg hJ (hU.2 ab.out)) Z) (zy Z Z Z (zP Z Z (congrArg hJ (hU.2 ab.out)) Z) (ZC Z Z Z (zP Z Z (congrArg hJ (hU.2 ab.out)) Z) (oR Z (zW Z (congrArg hJ (hU.2 ab.out)) Z) (oA Z Z (eN (zO ?_))))))))))
 have hE:=hH aR;first | subst r | cases hE
 exact ⟨rfl,_,(ZA rfl),ap,_,(af.pick [] _ (by decide) rfl),rfl,rfl⟩
theorem wFB (O:wAA) (ak:Option Addr) (ao:Nat) (am:Option Addr) (ap:Nat) (an:Option Addr) (aq:Nat) (ag:Option Addr) (ah:Nat) (w:World) (φ:PHeap) (hS:St0 w φ []) (cc:Sl φ 1 ak ao O.Starts.length (hD KL.encI O.Starts)) (cd:Sl φ 2 am ap O.Splits.length (hD wAD O.Splits)) (cf:Sl φ 3 an aq O.Clocks.length (hD wAF O.Clocks)) (cg:Sl φ 4 ag ah O.Readings.length (hD wAB O.Readings)) {r:Int} (hm:wDB O=some r):Gv Tryz.prog 33 [.agg #[.slice ak O.Starts.length ao,.slice am O.Splits.length ap,.slice an O.Clocks.length aq,.slice ag O.Readings.length ah]] w (wCG w [] φ (fun φ_ L_ v=>v=jV r/\L_=[])):=by
 unfold wDB at hm
 refine Gv.of Tryz.func33 Z Tryz.ntmps33 Tryz.results33 Z (sR gAf Z ?_)
 let B0:List Value:=[.slice ak O.Starts.length ao,.slice am O.Splits.length ap,.slice an O.Clocks.length aq,.slice ag O.Readings.length ah]
 refine zn (cs:=B0) rfl rfl rfl rfl rfl rfl (by rfl) hS ?_
 intro W1 b2 bY
 have q:=bY.freeze (k:=0) rfl
 obtain ⟨aY,aI,ax,cb⟩:=q
 replace ax:=Cl.of ax
 have bn:sW w φ aY [] W1:=cb
 replace ax:Cl aY b2 0 B0:=ax
 refine oA Z Z (eN (zL (zY (sR (wDK (.fx 3 (wPX (.nil)) .stop)) Z (oR Z (zF Z Z zT Z zg) (oL Z (bn.ldC (f:=0) ax (v:=.slice ak O.Starts.length ao) Z Z zr Z) (oR Z (zi Z Z zK) (bnK hm fun db bu cn=>zD 0 Z Z Z Z (zE Z Z yW (zB Z (zB Z (zB Z zM))) Z) bn (fun hs=>wCQ (↑O.Starts.length:Int) 1 8 W1 aY hs bu) (.inr Z) ?_))))))))
 rintro au cP cX a6 az bX ⟨rfl,rfl⟩
 have af:sW w φ au [] a6:=bX
 refine oR Z (Zk Z Z) (oM Z Z (ifc cn ?_ ?_))
 intro aa cx
 refine za Z Z Z (zI Z Z (nC aa.out)) (fun _=>zF Z Z zT Z Zm) ?_
 have ay:=ax.le az
 refine ZE Z Z Z (zI Z Z (nC aa.out)) (af.ldC (f:=1) ay (v:=.slice am O.Splits.length ap) Z Z Zq Z) Z (za Z Z Z (zI Z Z (nC aa.out)) (fun _=>zi Z Z ZI) (za Z Z Z (zI Z Z (nC aa.out)) (fun _=>yI Z Z Z) (oR Z (zW Z (nC aa.out) Z) (oM Z Z (ifc cx ?_ ?_)))))
 intro ab cy
 refine oT Z ab (oT Z ab (oT Z ab (oT Z ab (oR Z (zR Z (Zd ab.out) Z) (oM Z Z (oN Z (oN Z (oN Z (oN Z (oR Z (zR Z Z Z) (oA Z Z (eN (ZD Z (sR fL1 Z (oA Z Z (eN (zO (zc (zQ ?_)))))))))))))))))))
 cases cy
 exact ⟨Z,_,(ZA Z),au,_,af,Z,Z⟩
 intro ab cz
 refine rU Z (wF Z ab) (zF Z Z zT Z yQ) (ZE Z Z Z (wF Z ab) (af.ldC (f:=2) ay (v:=.slice an O.Clocks.length aq) Z Z yZ Z) Z (rU Z (wF Z ab) (zi Z Z Ze) (rU Z (wF Z ab) (yI Z Z Z) (oR Z (zW Z (zu ab.out) Z) (oM Z Z (ifc cz ?_ ?_))))))
 intro ac cA
 refine oT Z ac (oT Z ac (oT Z ac (oT Z ac (oR Z (zR Z (Zd ac.out) Z) (oA Z Z (eN (ZD Z (sR fL1 Z (oA Z Z (eN (zO (zc (zQ ?_)))))))))))))
 cases cA
 exact ⟨Z,_,(ZA Z),au,_,af,Z,Z⟩
 intro ac cC
 refine rU Z (wF Z ac) (zF Z Z zT Z Zr) (ZE Z Z Z (wF Z ac) (af.ldC (f:=3) ay (v:=.slice ag O.Readings.length ah) Z Z yD Z) Z (rU Z (wF Z ac) (zi Z Z ZN) (rU Z (wF Z ac) (yI Z Z Z) (oR Z (zW Z (zu ac.out) Z) (oA Z Z (eN (ifc cC ?_ ?_)))))))
 intro aP cD
 refine cT Z aP (sR fL1 Z (oA Z Z (eN (zO (zc (zQ ?_))))))
 cases cD
 exact ⟨Z,_,(ZA Z),au,_,af,Z,Z⟩
 intro aP cE
 refine cF Z aP (sR (.fl 0 (.fl 1 (.fx 2 (wMH (.fx 7 (wNP (.nil)) .stop)) .stop))) Z (oR Z (zF Z Z zT Z zg) (oL Z (af.ldC (f:=0) ay (v:=.slice ak O.Starts.length ao) Z Z zr Z) ?_)))
 have bC:=cc.le aI
 have bd:=bC.le az
 have bR:FnOK Tryz.prog au (.func (.func 90) #[] #[]) wKf wKg wDL:=⟨90,[],[],rfl,Tryz.call90,fun aj w1 x y vs le hs ha hm=>by obtain rfl:=ha;exact wHp x w1 aj hs  hm⟩
 refine bnK cE fun de bD cG=>zD 0 Z Z Z Z (zE Z Z Tryz.call89 (zB Z (zB Z zM)) Z) af (fun hs=>wGz O.Starts ak ao wDL (.func (.func 90) #[] #[]) a6 au hs bd bR bD) (.inr Z) ?_
 rintro aJ cQ cY a7 aE bZ ⟨rfl,rfl⟩
 have aU:sW w φ aJ [] a7:=bZ
 refine oR Z (Zk Z Z) (oM Z Z (ifc cG ?_ ?_))
 intro ae cH
 refine za Z Z Z (zI Z Z (nC ae.out)) (fun _=>zF Z Z zT Z Zm) ?_
 have be:=ay.le aE
 refine ZE Z Z Z (zI Z Z (nC ae.out)) (aU.ldC (f:=1) be (v:=.slice am O.Splits.length ap) Z Z Zq Z) Z ?_
 have bE:=cd.le aI
 have bF:=bE.le az
 have bf:=bF.le aE
 have bS:FnOK Tryz.prog aJ (.func (.func 92) #[] #[]) wOg wOh wDN:=⟨92,[],[],rfl,Tryz.call92,fun aj w1 x y vs le hs ha hm=>by obtain rfl:=ha;exact wHq x w1 aj hs  hm⟩
 refine bnK cH fun df bG cI=>zD 0 Z Z Z (zI Z Z (nC ae.out)) (zE Z Z Tryz.call91 (zB Z (zB Z zM)) Z) aU (fun hs=>wFb O.Splits am ap wDN (.func (.func 92) #[] #[]) a7 aJ hs bf bS bG) (.inr Z) ?_
 rintro aK cR cZ a8 aF b5 ⟨rfl,rfl⟩
 have aV:sW w φ aK [] a8:=b5
 refine za Z Z Z (zI Z Z (nC ae.out)) (fun _=>Zk Z Z) (oR Z (zW Z (nC ae.out) Z) (oA Z Z (eN (ifc cI ?_ ?_))))
 intro aQ cJ
 refine zj (nC aQ.out) (sR gBl Z (oR Z (zF Z Z zT Z yQ) ?_))
 have bg:=be.le aF
 refine oL Z (aV.ldC (f:=2) bg (v:=.slice an O.Clocks.length aq) Z Z yZ Z) ?_
 have bH:=cf.le aI
 have bI:=bH.le az
 have bJ:=bI.le aE
 have bh:=bJ.le aF
 have bT:FnOK Tryz.prog aK (.func (.func 95) #[] #[]) wOi wOj wDO:=⟨95,[],[],rfl,Tryz.call95,fun aj w1 x y vs le hs ha hm=>by obtain rfl:=ha;exact wHr x w1 aj hs  hm⟩
 refine bnK cJ fun dg bK cK=>zD 0 Z Z Z Z (zE Z Z Tryz.call94 (zB Z (zB Z zM)) Z) aV (fun hs=>wFJ O.Clocks an aq wDO (.func (.func 95) #[] #[]) a8 aK hs bh bT bK) (.inr Z) ?_
 rintro aL cS c6 a9 aG ca ⟨rfl,rfl⟩
 have aW:sW w φ aL [] a9:=ca
 refine oR Z (Zk Z Z) (oA Z Z (eN (ifc cK ?_ ?_)))
 intro aR cL
 refine zj (nC aR.out) (zL (yR fun cN bo=>?_))
 have aS:cN 1=.pointer (some ⟨b2,0,none⟩):=(bo 1).trans rfl
 clear bo
 refine rR gBl Z (oR Z (zF Z aS zT Z Zr) ?_)
 have bi:=bg.le aG
 refine oL Z (aW.ldC (f:=3) bi (v:=.slice ag O.Readings.length ah) Z Z yD Z) ?_
 have bL:=cg.le aI
 have bM:=bL.le az
 have bN:=bM.le aE
 have bO:=bN.le aF
 have bj:=bO.le aG
 have bU:FnOK Tryz.prog aL (.func (.func 97) #[] #[]) wKh wKi wDP:=⟨97,[],[],rfl,Tryz.call97,fun aj w1 x y vs le hs ha hm=>by obtain rfl:=ha;exact wHs x w1 aj hs  hm⟩
 refine bnK cL fun dh bP cM=>zD 0 Z Z Z Z (zE Z Z Tryz.call96 (zB Z (zB Z zM)) Z) aW (fun hs=>wDn O.Readings ag ah wDP (.func (.func 97) #[] #[]) a9 aL hs bj bU bP) (.inr Z) ?_
 rintro aM cU da ba aH bV ⟨rfl,rfl⟩
 have aT:sW w φ aM [] ba:=bV
 refine oR Z (Zk Z Z) (oA Z Z (eN (ifc cM ?_ ?_)))
 intro aN cj
 refine zj (nC aN.out) (sR (wDK (.fx 3 gAc .stop)) Z (oR Z (zF Z aS zT Z Zr) ?_))
 have bb:=bi.le aH
 refine oL Z (aT.ldC (f:=3) bb (v:=.slice ag O.Readings.length ah) Z Z yD Z) (oR Z (YC Z zM (zB aS zM)) ?_)
 have bc:=bj.le aH
 have bq:=bd.le aE
 have br:=bq.le aF
 have bs:=br.le aG
 have bt:=bs.le aH
 have bv:=bf.le aF
 have bw:=bv.le aG
 have bx:=bw.le aH
 have bz:=bh.le aG
 have bA:=bz.le aH
 have bQ:FnOK Tryz.prog aM (.func (.func 98) #[] #[.pointer (some ⟨b2,0,none⟩)]) wKh wKi (fun x=>wDQ x O):=⟨98,[],[.pointer (some ⟨b2,0,none⟩)],rfl,Tryz.call98,fun aj w1 x y vs le hs ha hm=>by obtain rfl:=ha;exact wHt x O b2 ak ao am ap an aq ag ah w1 aj hs (bb.le le) (bt.le le) (bx.le le) (bA.le le) (bc.le le) hm⟩
 refine bnK cj fun dd bB cm=>zD 0 Z Z Z Z (zE Z Z Tryz.call96 (zB Z (zB Z zM)) Z) aT (fun hs=>wDn O.Readings ag ah (fun x=>wDQ x O) (.func (.func 98) #[] #[.pointer (some ⟨b2,0,none⟩)]) ba aM hs bc bQ bB) (.inr Z) ?_
 rintro aX cO cW bp cV bW ⟨rfl,rfl⟩
 have bm:sW w φ aX [] bp:=bW
 refine oR Z (Zk Z Z) (oA Z Z (eN (ifc cm ?_ ?_)))
 intro aO co
 refine zj (nC aO.out) (Zf (zm (zJ (sR fL1 Z (oA Z Z (eN (zO ?_)))))))
 cases co
 exact ⟨Z,_,(ZA Z),aX,_,bm,Z,Z⟩
 intro aO cp
 refine ZD (nF (aO.out)) (sR fL1 Z (oA Z Z (eN (zO (zc (zQ ?_))))))
 cases cp
 exact ⟨Z,_,(ZA Z),aX,_,bm,Z,Z⟩
 intro aN cq
 refine ZD (nF (aN.out)) (sR fL1 Z (oA Z Z (eN (zO (zc (zQ ?_))))))
 cases cq
 exact ⟨Z,_,(ZA Z),aM,_,aT,Z,Z⟩
 intro aR cr
 refine ZD (nF (aR.out)) (sR fL1 Z (oA Z Z (eN (zO (zc (zQ ?_))))))
 cases cr
 exact ⟨Z,_,(ZA Z),aL,_,aW,Z,Z⟩
 intro aQ ct
 refine ZD (nF (aQ.out)) (sR fL1 Z (oA Z Z (eN (zO (zc (zQ ?_))))))
 cases ct
 exact ⟨Z,_,(ZA Z),aK,_,aV,Z,Z⟩
 intro ae cu
 refine zy Z Z Z (zP Z Z (nF (ae.out)) Z) (zy Z Z Z (zP Z Z (nF (ae.out)) Z) (ZC Z Z Z (zP Z Z (nF (ae.out)) Z) (zy Z Z Z (zP Z Z (nF (ae.out)) Z) (oR Z (zR Z (nF (ae.out)) Z) (oA Z Z (eN (ZD Z (sR fL1 Z (oA Z Z (eN (zO (zc (zQ ?_)))))))))))))
 cases cu
 exact ⟨Z,_,(ZA Z),aJ,_,aU,Z,Z⟩
 intro aa cw
 refine zy Z Z Z (zP Z Z (nF (aa.out)) Z) (zy Z Z Z (zP Z Z (nF (aa.out)) Z) (zy Z Z Z (zP Z Z (nF (aa.out)) Z) (zy Z Z Z (zP Z Z (nF (aa.out)) Z) (oR Z (zR Z (nF (aa.out)) Z) (oM Z Z (oN Z (oN Z (oN Z (oN Z (oR Z (zR Z Z Z) (oM Z Z (oN Z (oN Z (oN Z (oN Z (oR Z (zR Z Z Z) (oA Z Z (eN (ZD Z (sR fL1 Z (oA Z Z (eN (zO (zc (zQ ?_)))))))))))))))))))))))))
 cases cw
 exact ⟨Z,_,(ZA Z),au,_,af,Z,Z⟩
theorem wCM  (w:World) (φ:PHeap) (hS:St0 w φ [])  {r:wAH} (hm:wDD =some r):Gv Tryz.prog 65 [] w (wCG w [] φ (fun φ_ L_ v=>v=.agg #[jV r.skier,jV r.mat]/\L_=[])):=by
 unfold wDD at hm
 refine Gv.of Tryz.func65 Z Tryz.ntmps65 Tryz.results65 Z (sR (.fx 0 .nil .stop) Z (zV (cs:=[jV 0,jV 0]) Z Z Z Z Z zd Z hS ?_))
 intro W1 b2 ae
 refine eN (sR gAi Z ?_)
 let O:List Value:=[jV (-1),jV 0]
 refine oR Z (ZB (pv:=[(0,jV (-1)),(1,jV 0)]) (z:=[jV 0,jV 0]) (cs:=O) Z (wAG Z (wAG Z wAR)) zd wBv Z Z) (zX (j:=0) (vs:=O) Z Z Z Z ae Z Z Z Z zH (zA Z) Z Z Z ?_)
 intro W5 af
 have aa:sW w φ φ [.blk b2 123 O] W5:=af
 refine eN (zO ?_)
 cases hm
 exact ⟨rfl,_,(wHW (v:=.agg O.toArray) ⟨⟨_,rfl,(wBQ zl zH (aa.blkAt (k:=0) rfl) (vs:=O) rfl rfl)⟩,trivial⟩),φ,_,(aa.pick [] _ (by decide) rfl),rfl,rfl⟩
theorem wGP {S E:Type} (PY:S->PHeap->List Res->Prop) (PE:E->PHeap->List Res->Prop) (f:S->wAC->Option (S ⊕ E)) (y:Nat) (s0:S) (O:wAA) (ai:Nat) (bB:Option Addr) (bF:Nat) (bC:Option Addr) (bG:Nat) (bD:Option Addr) (bH:Nat) (bE:Option Addr) (bI:Nat) (w:World) (L:List Res) (φ:PHeap) (hS:St ⟨w,L,φ⟩ φ L w) (hP:PY s0 φ L) (hY:YOK Tryz.prog y wMU PY PE f φ) (aJ:Cl φ ai 0 [.slice bB O.Starts.length bF,.slice bC O.Splits.length bG,.slice bD O.Clocks.length bH,.slice bE O.Readings.length bI]) (iF:Sl φ 1 bB bF O.Starts.length (hD KL.encI O.Starts)) (iG:Sl φ 2 bC bG O.Splits.length (hD wAD O.Splits)) (iH:Sl φ 3 bD bH O.Clocks.length (hD wAF O.Clocks)) (iI:Sl φ 4 bE bI O.Readings.length (hD wAB O.Readings)) {r:S ⊕ E} (hm:wCg f s0 O=some r):Gv Tryz.prog 126 [.func (.yield y) #[] #[],.pointer (some ⟨ai,0,none⟩)] w (ItS w L φ PY PE r):=by
 unfold wCg at hm
 refine Gv.of Tryz.func126 Z Tryz.ntmps126 Tryz.results126 Z (sR fL11 Z (oR Z (zF Z Z zT Z Zm) (oL Z (hS.ldC (f:=1) aJ (v:=.slice bC O.Splits.length bG) Z Z Zq Z) (oR Z (zi Z Z ZI) (oR Z (zF Z Z zT Z yQ) (oL Z (hS.ldC (f:=2) aJ (v:=.slice bD O.Clocks.length bH) Z Z yZ Z) (oR Z (zi Z Z Ze) (oR Z (zF Z Z zT Z Zr) (oL Z (hS.ldC (f:=3) aJ (v:=.slice bE O.Readings.length bI) Z Z yD Z) (oR Z (zi Z Z ZN) ?_))))))))))
 let B0:List Value:=[jV 1,jV (↑O.Splits.length:Int),jV (↑O.Clocks.length:Int),jV (↑O.Readings.length:Int)]
 refine oR Z (Runs.buildA (pv:=[(0,jV 1),(1,jV (↑O.Splits.length:Int)),(2,jV (↑O.Clocks.length:Int)),(3,jV (↑O.Readings.length:Int))]) (z:=[jV 0,jV 0,jV 0,jV 0]) (cs:=B0) Z (wAG Z (wAG Z (wAG Z (wAG Z wAR)))) Tryz.zeroValue195 Tryz.runUnderlying195 zC Z Z) (oM Z Z (eN (zY ?_)))
 have q:=wCA hm
 obtain ⟨iL,am⟩:=q
 have q:=wCT am
 obtain ⟨bs,fE⟩:=q
 replace bs:=zN bs
 refine yc (fun aa cO σ_ w_=>∃ (φ_:PHeap) (ao:List Res),σ_ 18=jV (↑aa:Int)/\σ_ 0=.func (.yield y) #[] #[]/\σ_ 1=.pointer (some ⟨ai,0,none⟩)/\σ_ 17=.agg B0.toArray/\PHeap.Le φ φ_/\St ⟨w,L,φ⟩ φ_ ao w_/\PY cO φ_ ao) fE ?_ ?_ ?_
 exact ⟨φ,L,Z,Z,Z,Z,(zS _),hS,hP⟩
 rintro aa cO iQ i4 ic bn ⟨bK,ao,aq,cb,a9,ba,ak,bj,cr⟩ gu aK
 have bY:Hid ((↑aa:Int) < 4):=zN (wBO bn)
 replace bn:=zN bn
 have cG:Hid (w64 ((↑aa:Int) + 1)=(↑(aa + 1):Int)):=zN (by have h1:=bs.out;have h2:=bY.out;rw [wAb] <;> omega)
 refine sR fL1 Z (oR Z (ze Z aq Z) (eN (zL (cT Z bY (kN (zL (zY (sR fL4 Z (oM Z aq (bnK gu fun ae bi fZ=>oR Z (yz (cs:=hD KL.encI ([1,(↑O.Splits.length:Int),(↑O.Clocks.length:Int),(↑O.Readings.length:Int)]:List Int)) Z ba aq Tryz.runUnderlying195 zC (wBV bi) (wBb bi) (wFd zG (wFH (sz:=1) (fun _=>Z) _ _ 0 _ _ (wAe bi) Z))) (oA Z Z (oA Z Z (eN (sR fL4 Z (oR Z (zF Z a9 zT Z zg) ?_)))))))))))))))
 have eU:=aJ.le ak
 refine oL Z (bj.ldC (f:=0) eU (v:=.slice bB O.Starts.length bF) Z Z zr Z) (oR Z (zi Z Z zK) (oA Z Z (eN (zL ?_))))
 have q:=bnd fZ
 obtain ⟨⟨c6,gG⟩,cK,cH⟩:=q
 try dsimp only at cH
 refine yX (fun σ_ w_=>∃ (φ_:PHeap) (ap:List Res),σ_ 0=.func (.yield y) #[] #[]/\σ_ 1=.pointer (some ⟨ai,0,none⟩)/\σ_ 3=jV (↑aa:Int)/\σ_ 4=jV ae/\σ_ 5=jV (↑O.Starts.length:Int)/\σ_ 17=.agg B0.toArray/\σ_ 18=jV (↑aa:Int)/\σ_ 30=.bool c6/\PHeap.Le bK φ_/\St ⟨w,L,φ⟩ φ_ ap w_/\PY gG φ_ ap) ?_ ?_
 refine rR fL6 Z (oM Z Z (oR Z (Zy Z Z Z) (oM Z Z ?_)))
 by_cases af:(↑aa:Int)=2
 have cI:=cK;rw [if_pos af] at cI;replace af:=zN af
 refine oT Z af (oT Z af (oR Z (zR Z (Zd af.out) Z) (zf ?_)))
 cases cI
 exact zJ ⟨Z,⟨bK,ao,cb,a9,Z,Z,Z,ba,aq,Z,(zS _),bj,cr⟩⟩
 have cJ:=cK;rw [if_neg af] at cJ;replace af:=zN af
 refine zw Z Z Z (wF Z af) Z Z (rU Z (wF Z af) (Zy Z Z Z) (oR Z (zW Z (zu af.out) Z) (zf ?_)))
 cases cJ
 exact zJ ⟨Z,⟨bK,ao,cb,a9,Z,Z,Z,ba,aq,Z,(zS _),bj,cr⟩⟩
 rintro je io ⟨aV,ap,cd,cf,cg,cj,ew,cm,cn,co,an,cz,ct⟩
 refine ifc cH ?_ ?_
 intro a5 aQ
 refine ZD (co.trans (congrArg hJ a5.out)) (rR fL1 Z (oA Z Z (eN (sR fL2 Z (oM Z Z (oM Z Z (eN (zY ?_))))))))
 have q:=wCA aQ
 obtain ⟨iO,aI⟩:=q
 have q:=wCT aI
 obtain ⟨bv,fI⟩:=q
 replace bv:=zN bv
 refine yc (fun ac cS σ_ w_=>∃ (φ_:PHeap) (av:List Res),σ_ 32=jV (↑ac:Int)/\σ_ 0=.func (.yield y) #[] #[]/\σ_ 1=.pointer (some ⟨ai,0,none⟩)/\σ_ 3=jV (↑aa:Int)/\σ_ 4=jV ae/\σ_ 17=.agg B0.toArray/\σ_ 18=jV (↑aa:Int)/\σ_ 31=jV 1/\PHeap.Le aV φ_/\St ⟨w,L,φ⟩ φ_ av w_/\PY cS φ_ av) fI ?_ ?_ ?_
 exact ⟨aV,ap,Z,cd,cf,cg,cj,cm,cn,Z,(zS _),cz,ct⟩
 rintro ac cS iT jf ip bq ⟨cV,av,bh,ey,ez,eA,cp,eB,eC,cq,bA,fu,eI⟩ aS cE
 have bU:Hid ((↑ac:Int) < 1):=zN (wBO bq)
 replace bq:=zN bq
 have fJ:Hid (w64 ((↑ac:Int) + 1)=(↑(ac + 1):Int)):=zN (by have h1:=bv.out;have h2:=bU.out;rw [wAb] <;> omega)
 refine sR fL1 Z (oR Z (ze Z bh cq) (eN (zL (cT Z bU (kN (zL (zY (sR fL2 Z (oM Z bh (oA Z Z (eN (sR fL2 Z (oM Z cp (oM Z Z (eN (zY ?_))))))))))))))))
 have q:=wCA aS
 obtain ⟨iK,aF⟩:=q
 have q:=wCT aF
 obtain ⟨br,fD⟩:=q
 replace br:=zN br
 refine yc (fun ag cP σ_ w_=>∃ (φ_:PHeap) (aW:List Res),σ_ 36=jV (↑ag:Int)/\σ_ 0=.func (.yield y) #[] #[]/\σ_ 1=.pointer (some ⟨ai,0,none⟩)/\σ_ 3=jV (↑aa:Int)/\σ_ 4=jV ae/\σ_ 6=jV (↑ac:Int)/\σ_ 17=.agg B0.toArray/\σ_ 18=jV (↑aa:Int)/\σ_ 31=jV 1/\σ_ 32=jV (↑ac:Int)/\σ_ 35=jV ae/\PHeap.Le cV φ_/\St ⟨w,L,φ⟩ φ_ aW w_/\PY cP φ_ aW) fD ?_ ?_ ?_
 exact ⟨cV,av,Z,ey,ez,eA,cp,Z,eB,eC,cq,bh,Z,(zS _),fu,eI⟩
 rintro ag cP iP iZ ib bm ⟨jg,aW,be,a6,dw,a7,dx,a8,dy,dz,dA,dB,bZ,bw,eY,eJ⟩ gt cA
 have bV:Hid ((↑ag:Int) < ae):=zN (wBO bm)
 replace bm:=zN bm
 have fK:Hid (w64 ((↑ag:Int) + 1)=(↑(ag + 1):Int)):=zN (by have h1:=br.out;have h2:=bV.out;rw [wAb] <;> omega)
 refine sR fL1 Z (oR Z (ze Z be bZ) (eN (zL (cT Z bV (kN (zL (zY (sR fL2 Z (oM Z be (oA Z Z (eN (sR (wGD (.fx 5 (wMJ gAt) .stop)) Z (oM Z a6 (oM Z a7 (oM Z a8 (oM Z Z ?_))))))))))))))))
 let B1:List Value:=[jV 0,jV 0,jV 0,.bool false]
 refine oR Z (ZB (pv:=[(0,jV (↑aa:Int)),(1,jV (↑ac:Int)),(2,jV (↑ag:Int)),(3,.bool true)]) (z:=B1) (cs:=[jV (↑aa:Int),jV (↑ac:Int),jV (↑ag:Int),.bool true]) Z (wAG Z (wAG Z (wAG Z (wAG Z wAR)))) Zv wEV Z Z) (bnK gt fun gT eK aL=>OKS.yieldT 0 (a:=(⟨(↑aa:Int),(↑ac:Int),(↑ag:Int),true⟩:wAC)) Z Z Z Z Z Z (zB Z zM) eY hY (((ak.trans an).trans bA).trans bw) eJ Z eK Z ?_)
 rintro bJ bO iq bQ cL cu ax
 rcases gT with gC | gC
 try dsimp only at aL ax
 obtain ⟨rfl,ge⟩:=ax
 have eZ:St ⟨w,L,φ⟩ bJ bO bQ:=cu
 refine oR Z (Zk Z Z) (oM Z Z (zw Z Z Z (zI Z Z Z) Z a6 (zw Z Z Z (zI Z Z Z) Z a7 (zw Z Z Z (zI Z Z Z) Z a8 (zw Z Z Z (zI Z Z Z) Z Z (za Z Z Z (zI Z Z Z) (fun _=>ZB (pv:=[(0,jV (↑aa:Int)),(1,jV (↑ac:Int)),(2,jV (↑ag:Int)),(3,.bool false)]) (z:=B1) (cs:=[jV (↑aa:Int),jV (↑ac:Int),jV (↑ag:Int),.bool false]) Z (wAG Z (wAG Z (wAG Z (wAG Z wAR)))) Zv wEV Z Z) (bnK aL fun gU eL aM=>OKS.yieldT 0 (a:=(⟨(↑aa:Int),(↑ac:Int),(↑ag:Int),false⟩:wAC)) Z Z Z (zI Z Z Z) Z Z (zB Z zM) eZ hY ((((ak.trans an).trans bA).trans bw).trans cL) ge Z eL Z ?_)))))))
 rintro aT aX ir bR gw cw ay
 rcases gU with gD | gD
 try dsimp only at aM ay
 obtain ⟨rfl,gg⟩:=ay
 have e6:St ⟨w,L,φ⟩ aT aX bR:=cw
 refine za Z Z Z (zI Z Z Z) (fun _=>Zk Z Z) (oR Z (zW Z Z Z) (eN (zj Z (Zf (zm (zJ (rR fL2 Z (oR Z (ZU (zh Z be Z) (congrArg (jV) fK.out)) (oM Z Z (zf ?_))))))))))
 have q:=hH aM
 obtain rfl:=q
 exact zJ ⟨Z,_,Z,⟨aT,aX,Z,a6,dw,a7,dx,a8,dy,dz,dA,dB,bZ,((bw.trans cL).trans gw),e6,gg⟩⟩
 try dsimp only at aM ay
 obtain ⟨rfl,gh⟩:=ay
 have e8:St ⟨w,L,φ⟩ aT aX bR:=cw
 refine za Z Z Z (zI Z Z Z) (fun _=>Zk Z Z) (oR Z (zW Z Z Z) (eN (ZD Z (zO (zc (zQ ?_))))))
 have q:=wAS aM
 obtain ⟨gH,fN,dg⟩:=q
 have q:=wAt aS aF (cA gH dg)
 obtain rfl:=q
 refine zQ (zc (zc (zQ ?_)))
 have q:=wAS fN
 obtain ⟨gI,fO,dh⟩:=q
 have q:=wAt aQ aI (cE gI dh)
 obtain rfl:=q
 refine zQ (zc (zc (zQ ?_)))
 have q:=wAS fO
 obtain ⟨gJ,fP,di⟩:=q
 have q:=wAt hm am (aK gJ di)
 obtain rfl:=q
 refine zQ (zc ?_)
 cases fP
 exact ⟨Z,_,(wMN),aT,_,e8,gh⟩
 try dsimp only at aL ax
 obtain ⟨rfl,gi⟩:=ax
 have e9:St ⟨w,L,φ⟩ bJ bO bQ:=cu
 refine oR Z (Zk Z Z) (oM Z Z (oN Z (oN Z (oN Z (oN Z (oN Z (ZC Z Z Z (zP Z Z Z Z) (oN Z (oR Z (zR Z Z Z) (eN (ZD Z (zO (zc (zQ ?_))))))))))))))
 have q:=wAS aL
 obtain ⟨gK,fQ,dk⟩:=q
 have q:=wAt aS aF (cA gK dk)
 obtain rfl:=q
 refine zQ (zc (zc (zQ ?_)))
 have q:=wAS fQ
 obtain ⟨gL,fR,dl⟩:=q
 have q:=wAt aQ aI (cE gL dl)
 obtain rfl:=q
 refine zQ (zc (zc (zQ ?_)))
 have q:=wAS fR
 obtain ⟨gM,fS,dm⟩:=q
 have q:=wAt hm am (aK gM dm)
 obtain rfl:=q
 refine zQ (zc ?_)
 cases fS
 exact ⟨Z,_,(wMN),bJ,_,e9,gi⟩
 rintro iU i6 ie ⟨gX,cW,eD,dC,dD,dE,dF,iv,dG,dH,dI,dJ,dK,gx,fb,eM⟩ fy
 have fT:=wCs aS aF fy
 have da:Hid (¬ ((↑((ae:Int) - 0).toNat:Int) < ae)):=zN (wAq)
 refine sR fL1 Z (oR Z (ze Z eD dK) (eN (zL (cF Z da (Za (zq (zq (ZW (zm (zJ (rR fL2 Z (oR Z (ZU (zh Z dJ Z) (congrArg (jV) fJ.out)) (oM Z Z (zf ?_))))))))))))))
 have q:=hH fT
 obtain rfl:=q
 exact zJ ⟨Z,_,Z,⟨gX,cW,Z,dC,dD,dE,dF,dG,dH,dI,(bA.trans gx),fb,eM⟩⟩
 rintro iV i8 ig ⟨gY,cX,eE,dL,dM,iw,iy,dN,dO,dP,gy,fc,eO⟩ fz
 have fU:=wCs aQ aI fz
 have db:Hid (¬ ((↑((1:Int) - 0).toNat:Int) < 1)):=zN (wAq)
 refine sR fL1 Z (oR Z (ze Z eE dP) (eN (zL (cF Z db (Za (zq (zq (ZW (zm (zJ (rR fL2 Z (oR Z (ZU (zh Z dO Z) (congrArg (jV) cG.out)) (oM Z Z (zf ?_))))))))))))))
 have q:=hH fU
 obtain rfl:=q
 exact zJ ⟨Z,_,Z,⟨gY,cX,Z,dL,dM,dN,((ak.trans an).trans gy),fc,eO⟩⟩
 intro a5 aN
 refine zj (co.trans (congrArg hJ (hU.2 a5.out))) (kN (sR fL2 Z (oM Z ew (oM Z Z (eN (zY ?_))))))
 have q:=wCA aN
 obtain ⟨iM,aG⟩:=q
 have q:=wCT aG
 obtain ⟨bt,fG⟩:=q
 replace bt:=zN bt
 refine yc (fun ab cQ σ_ w_=>∃ (φ_:PHeap) (au:List Res),σ_ 32=jV (↑ab:Int)/\σ_ 0=.func (.yield y) #[] #[]/\σ_ 1=.pointer (some ⟨ai,0,none⟩)/\σ_ 3=jV (↑aa:Int)/\σ_ 4=jV ae/\σ_ 17=.agg B0.toArray/\σ_ 18=jV (↑aa:Int)/\σ_ 31=jV (↑O.Starts.length:Int)/\PHeap.Le aV φ_/\St ⟨w,L,φ⟩ φ_ au w_/\PY cQ φ_ au) fG ?_ ?_ ?_
 exact ⟨aV,ap,Z,cd,cf,cg,cj,cm,cn,Z,(zS _),cz,ct⟩
 rintro ab cQ iR i9 ii bo ⟨cU,au,bf,dQ,dR,dS,b5,dT,dU,ca,bx,fd,eP⟩ aR cC
 have bW:Hid ((↑ab:Int) < (↑O.Starts.length:Int)):=zN (wBO bo)
 replace bo:=zN bo
 have fL:Hid (w64 ((↑ab:Int) + 1)=(↑(ab + 1):Int)):=zN (by have h1:=bt.out;have h2:=bW.out;rw [wAb] <;> omega)
 refine sR fL1 Z (oR Z (ze Z bf ca) (eN (zL (cT Z bW (kN (zL (zY (sR fL2 Z (oM Z bf (oA Z Z (eN (sR fL2 Z (oM Z b5 (oM Z Z (eN (zY ?_))))))))))))))))
 have q:=wCA aR
 obtain ⟨iN,aH⟩:=q
 have q:=wCT aH
 obtain ⟨bu,fH⟩:=q
 replace bu:=zN bu
 refine yc (fun ah cR σ_ w_=>∃ (φ_:PHeap) (aY:List Res),σ_ 36=jV (↑ah:Int)/\σ_ 0=.func (.yield y) #[] #[]/\σ_ 1=.pointer (some ⟨ai,0,none⟩)/\σ_ 3=jV (↑aa:Int)/\σ_ 4=jV ae/\σ_ 6=jV (↑ab:Int)/\σ_ 17=.agg B0.toArray/\σ_ 18=jV (↑aa:Int)/\σ_ 31=jV (↑O.Starts.length:Int)/\σ_ 32=jV (↑ab:Int)/\σ_ 35=jV ae/\PHeap.Le cU φ_/\St ⟨w,L,φ⟩ φ_ aY w_/\PY cR φ_ aY) fH ?_ ?_ ?_
 exact ⟨cU,au,Z,dQ,dR,dS,b5,Z,dT,dU,ca,bf,Z,(zS _),fd,eP⟩
 rintro ah cR iS ja ij bp ⟨jh,aY,bg,bb,dV,bc,dW,bd,dX,dY,dZ,d4,cc,bz,ff,eQ⟩ gv cD
 have bX:Hid ((↑ah:Int) < ae):=zN (wBO bp)
 replace bp:=zN bp
 have fM:Hid (w64 ((↑ah:Int) + 1)=(↑(ah + 1):Int)):=zN (by have h1:=bu.out;have h2:=bX.out;rw [wAb] <;> omega)
 refine sR fL1 Z (oR Z (ze Z bg cc) (eN (zL (cT Z bX (kN (zL (zY (sR fL2 Z (oM Z bg (oA Z Z (eN (sR (wGD (.fx 5 (wMJ gAt) .stop)) Z (oM Z bb (oM Z bc (oM Z bd (oM Z Z ?_))))))))))))))))
 let B2:List Value:=[jV 0,jV 0,jV 0,.bool false]
 refine oR Z (ZB (pv:=[(0,jV (↑aa:Int)),(1,jV (↑ab:Int)),(2,jV (↑ah:Int)),(3,.bool true)]) (z:=B2) (cs:=[jV (↑aa:Int),jV (↑ab:Int),jV (↑ah:Int),.bool true]) Z (wAG Z (wAG Z (wAG Z (wAG Z wAR)))) Zv wEV Z Z) (bnK gv fun gV eR aO=>OKS.yieldT 0 (a:=(⟨(↑aa:Int),(↑ab:Int),(↑ah:Int),true⟩:wAC)) Z Z Z Z Z Z (zB Z zM) ff hY (((ak.trans an).trans bx).trans bz) eQ Z eR Z ?_)
 rintro bL bP it bS cM cx az
 rcases gV with gE | gE
 try dsimp only at aO az
 obtain ⟨rfl,gj⟩:=az
 have fg:St ⟨w,L,φ⟩ bL bP bS:=cx
 refine oR Z (Zk Z Z) (oM Z Z (zw Z Z Z (zI Z Z Z) Z bb (zw Z Z Z (zI Z Z Z) Z bc (zw Z Z Z (zI Z Z Z) Z bd (zw Z Z Z (zI Z Z Z) Z Z (za Z Z Z (zI Z Z Z) (fun _=>ZB (pv:=[(0,jV (↑aa:Int)),(1,jV (↑ab:Int)),(2,jV (↑ah:Int)),(3,.bool false)]) (z:=B2) (cs:=[jV (↑aa:Int),jV (↑ab:Int),jV (↑ah:Int),.bool false]) Z (wAG Z (wAG Z (wAG Z (wAG Z wAR)))) Zv wEV Z Z) (bnK aO fun gW eS aP=>OKS.yieldT 0 (a:=(⟨(↑aa:Int),(↑ab:Int),(↑ah:Int),false⟩:wAC)) Z Z Z (zI Z Z Z) Z Z (zB Z zM) fg hY ((((ak.trans an).trans bx).trans bz).trans cM) gj Z eS Z ?_)))))))
 rintro aU aZ iu bT gz cy aE
 rcases gW with gF | gF
 try dsimp only at aP aE
 obtain ⟨rfl,gk⟩:=aE
 have fh:St ⟨w,L,φ⟩ aU aZ bT:=cy
 refine za Z Z Z (zI Z Z Z) (fun _=>Zk Z Z) (oR Z (zW Z Z Z) (eN (zj Z (Zf (zm (zJ (rR fL2 Z (oR Z (ZU (zh Z bg Z) (congrArg (jV) fM.out)) (oM Z Z (zf ?_))))))))))
 have q:=hH aP
 obtain rfl:=q
 exact zJ ⟨Z,_,Z,⟨aU,aZ,Z,bb,dV,bc,dW,bd,dX,dY,dZ,d4,cc,((bz.trans cM).trans gz),fh,gk⟩⟩
 try dsimp only at aP aE
 obtain ⟨rfl,gp⟩:=aE
 have fj:St ⟨w,L,φ⟩ aU aZ bT:=cy
 refine za Z Z Z (zI Z Z Z) (fun _=>Zk Z Z) (oR Z (zW Z Z Z) (eN (ZD Z (zO (zc (zQ ?_))))))
 have q:=wAS aP
 obtain ⟨gN,fV,dp⟩:=q
 have q:=wAt aR aH (cD gN dp)
 obtain rfl:=q
 refine zQ (zc (zc (zQ ?_)))
 have q:=wAS fV
 obtain ⟨gO,fW,dq⟩:=q
 have q:=wAt aN aG (cC gO dq)
 obtain rfl:=q
 refine zQ (zc (zc (zQ ?_)))
 have q:=wAS fW
 obtain ⟨gP,fY,dr⟩:=q
 have q:=wAt hm am (aK gP dr)
 obtain rfl:=q
 refine zQ (zc ?_)
 cases fY
 exact ⟨Z,_,(wMN),aU,_,fj,gp⟩
 try dsimp only at aO az
 obtain ⟨rfl,gq⟩:=az
 have fk:St ⟨w,L,φ⟩ bL bP bS:=cx
 refine oR Z (Zk Z Z) (oM Z Z (oN Z (oN Z (oN Z (oN Z (oN Z (ZC Z Z Z (zP Z Z Z Z) (oN Z (oR Z (zR Z Z Z) (eN (ZD Z (zO (zc (zQ ?_))))))))))))))
 have q:=wAS aO
 obtain ⟨gQ,f4,dt⟩:=q
 have q:=wAt aR aH (cD gQ dt)
 obtain rfl:=q
 refine zQ (zc (zc (zQ ?_)))
 have q:=wAS f4
 obtain ⟨gR,f5,du⟩:=q
 have q:=wAt aN aG (cC gR du)
 obtain rfl:=q
 refine zQ (zc (zc (zQ ?_)))
 have q:=wAS f5
 obtain ⟨gS,f6,dv⟩:=q
 have q:=wAt hm am (aK gS dv)
 obtain rfl:=q
 refine zQ (zc ?_)
 cases f6
 exact ⟨Z,_,(wMN),bL,_,fk,gq⟩
 rintro iW jb ik ⟨gZ,cY,eF,d5,d6,d7,d8,iz,d9,eg,eh,ej,ek,gA,fm,eV⟩ fA
 have f8:=wCs aR aH fA
 have dd:Hid (¬ ((↑((ae:Int) - 0).toNat:Int) < ae)):=zN (wAq)
 refine sR fL1 Z (oR Z (ze Z eF ek) (eN (zL (cF Z dd (Za (zq (zq (ZW (zm (zJ (rR fL2 Z (oR Z (ZU (zh Z ej Z) (congrArg (jV) fL.out)) (oM Z Z (zf ?_))))))))))))))
 have q:=hH f8
 obtain rfl:=q
 exact zJ ⟨Z,_,Z,⟨gZ,cY,Z,d5,d6,d7,d8,d9,eg,eh,(bx.trans gA),fm,eV⟩⟩
 rintro iX jc il ⟨g7,cZ,eG,en,eo,iA,iB,ep,er,eu,gB,fq,eW⟩ fB
 have f9:=wCs aN aG fB
 have de:Hid (¬ ((↑(((↑O.Starts.length:Int):Int) - 0).toNat:Int) < (↑O.Starts.length:Int))):=zN (wAq)
 refine sR fL1 Z (oR Z (ze Z eG eu) (eN (zL (cF Z de (Za (zq (zq (ZW (zm (zJ (rR fL2 Z (oR Z (ZU (zh Z er Z) (congrArg (jV) cG.out)) (oM Z Z (zf ?_))))))))))))))
 have q:=hH f9
 obtain rfl:=q
 exact zJ ⟨Z,_,Z,⟨g7,cZ,Z,en,eo,ep,((ak.trans an).trans gB),fq,eW⟩⟩
 rintro iY jd im ⟨g8,g9,eH,iC,iD,iE,iJ,ft,eX⟩ fC
 have ga:=wCs hm am fC
 have df:Hid (¬ ((↑((4:Int) - 0).toNat:Int) < 4)):=zN (wAq)
 refine sR fL1 Z (oR Z (ze Z eH Z) (eN (zL (cF Z df (Za (zq (zq (ZW ?_))))))))
 cases ga
 exact ⟨Z,_,(wMN),g8,_,ft,eX⟩
end Go.Proofs.YtlnfbjphfoipaaaGreat
namespace Go.Proofs.YtlnfbjphfoipaaaGreat
open Go.KL
set_option maxHeartbeats 4000000
theorem wHA (O:wAA) (ab:Option Addr) (ag:Nat) (ac:Option Addr) (ah:Nat) (ae:Option Addr) (ai:Nat) (af:Option Addr) (aj:Nat) (w:World) (φ:PHeap) (hS:St0 w φ []) (ax:Sl φ 1 ab ag O.Starts.length (hD KL.encI O.Starts)) (ay:Sl φ 2 ac ah O.Splits.length (hD wAD O.Splits)) (az:Sl φ 3 ae ai O.Clocks.length (hD wAF O.Clocks)) (aE:Sl φ 4 af aj O.Readings.length (hD wAB O.Readings)) {r:Unit} (hm:wDj O=some r):Gv Tryz.prog 106 [.agg #[.slice ab O.Starts.length ag,.slice ac O.Splits.length ah,.slice ae O.Clocks.length ai,.slice af O.Readings.length aj]] w (wCG w [] φ (fun φ_ L_ v=>∃ (b0:Nat),v=.func (.func 126) #[] #[.pointer (some ⟨b0,0,none⟩)]/\L_=[]/\Cl φ_ b0 0 [.slice ab O.Starts.length ag,.slice ac O.Splits.length ah,.slice ae O.Clocks.length ai,.slice af O.Readings.length aj])):=by
 unfold wDj at hm
 refine Gv.of Tryz.func106 Z Tryz.ntmps106 Tryz.results106 Z (sR gAf Z ?_)
 let B0:List Value:=[.slice ab O.Starts.length ag,.slice ac O.Splits.length ah,.slice ae O.Clocks.length ai,.slice af O.Readings.length aj]
 refine zn (cs:=B0) rfl rfl rfl rfl rfl rfl (by rfl) hS ?_
 intro W1 b2 aq
 have q:=aq.freeze (k:=0) rfl
 obtain ⟨ak,aF,aa,au⟩:=q
 replace aa:=Cl.of aa
 have av:sW w φ ak [] W1:=au
 replace aa:Cl ak b2 0 B0:=aa
 refine oA Z Z (eN (sR fL2 Z (oR Z (YC Z zM (zB Z zM)) (oA Z Z (eN (zO ?_))))))
 cases hm
 exact ⟨Z,_,(ZA Z),ak,_,av,b2,Z,Z,aa⟩
theorem wHu (O:wAA) (ac:Option Addr) (ae:Nat) (ah:Option Addr) (ak:Nat) (ai:Option Addr) (am:Nat) (aj:Option Addr) (an:Nat) (p1:wAC) (w:World) (φ:PHeap) (hS:St0 w φ []) (aL:Sl φ 1 ac ae O.Starts.length (hD KL.encI O.Starts)) (aM:Sl φ 2 ah ak O.Splits.length (hD wAD O.Splits)) (aN:Sl φ 3 ai am O.Clocks.length (hD wAF O.Clocks)) (aO:Sl φ 4 aj an O.Readings.length (hD wAB O.Readings)) {r:Bool} (hm:wDq O p1=some r):Gv Tryz.prog 133 [.agg #[.slice ac O.Starts.length ae,.slice ah O.Splits.length ak,.slice ai O.Clocks.length am,.slice aj O.Readings.length an],.agg #[jV p1.Kind,jV p1.Skier,jV p1.Index,.bool p1.Up]] w (wCG w [] φ (fun φ_ L_ v=>v=.bool r/\L_=[])):=by
 unfold wDq at hm
 refine Gv.of Tryz.func133 Z Tryz.ntmps133 Tryz.results133 Z (sR gAs Z ?_)
 let B0:List Value:=[.slice ac O.Starts.length ae,.slice ah O.Splits.length ak,.slice ai O.Clocks.length am,.slice aj O.Readings.length an]
 refine zn (cs:=B0) rfl rfl rfl rfl rfl rfl (by rfl) hS ?_
 intro W1 b2 aG
 let B1:List Value:=[jV p1.Kind,jV p1.Skier,jV p1.Index,.bool p1.Up]
 refine zn (cs:=B1) rfl rfl rfl rfl rfl rfl (by rfl) aG ?_
 intro W5 b6 ag
 refine oA Z Z (eN (sR (wGE (.fx 6 (wJe (.nil)) .stop)) Z (oR Z (zF Z Z zk Z zC) (oL Z (ag.ldB (j:=0) Z Z Z zG (v:=jV p1.Skier) Z) (oR Z (zF Z Z zT Z zg) (oL Z (ag.ldB (j:=1) Z Z Z zr (v:=.slice ac O.Starts.length ae) Z) (oR Z (zi Z Z zK) (oR Z (yO Z Z Z) (bnK hm fun x9 aE aH=>zD 0 Z Z Z Z (zE Z Z yW (zB Z (zB Z (zB Z zM))) Z) ag (fun hs=>wCQ p1.Skier 0 (w64 ((↑O.Starts.length:Int) - 1)) W5 φ hs aE) (.inr Z) ?_)))))))))
 rintro ao aJ aQ av aP aF ⟨rfl,rfl⟩
 have af:sW w φ ao [.blk b6 93 B1,.blk b2 27 B0] av:=aF
 refine oM Z Z (ifc aH ?_ ?_)
 intro ab au
 refine za Z Z Z (zI Z Z (congrArg hJ ab.out)) (fun _=>zF Z Z zk Z zC) (ZE Z Z Z (zI Z Z (congrArg hJ ab.out)) (af.ldB (j:=0) Z Z Z zG (v:=jV p1.Index) Z) Z (za Z Z Z (zI Z Z (congrArg hJ ab.out)) (fun _=>Zy Z Z Z) (oR Z (zR Z (congrArg hJ ab.out) Z) (oA Z Z (eN (zO ?_))))))
 first | (obtain rfl:=hH au) | cases au
 exact ⟨rfl,_,(ZA rfl),ao,_,(af.pick [] _ (by decide) rfl),rfl,rfl⟩
 intro ab aI
 refine zy Z Z Z (zP Z Z (congrArg hJ (hU.2 ab.out)) Z) (zy Z Z Z (zP Z Z (congrArg hJ (hU.2 ab.out)) Z) (zy Z Z Z (zP Z Z (congrArg hJ (hU.2 ab.out)) Z) (oR Z (zW Z (congrArg hJ (hU.2 ab.out)) Z) (oA Z Z (eN (zO ?_))))))
 have hE:=hH aI;first | subst r | cases hE
 exact ⟨rfl,_,(ZA rfl),ao,_,(af.pick [] _ (by decide) rfl),rfl,rfl⟩
theorem wHv (O:wAA) (aE:Option Addr) (aI:Nat) (aF:Option Addr) (aJ:Nat) (aG:Option Addr) (aK:Nat) (aH:Option Addr) (aL:Nat) (p1:wAC) (w:World) (φ:PHeap) (hS:St0 w φ []) (bD:Sl φ 1 aE aI O.Starts.length (hD KL.encI O.Starts)) (bE:Sl φ 2 aF aJ O.Splits.length (hD wAD O.Splits)) (bF:Sl φ 3 aG aK O.Clocks.length (hD wAF O.Clocks)) (bG:Sl φ 4 aH aL O.Readings.length (hD wAB O.Readings)) {r:wAH × wAH} (hm:wEP O p1=some r):Gv Tryz.prog 134 [.agg #[.slice aE O.Starts.length aI,.slice aF O.Splits.length aJ,.slice aG O.Clocks.length aK,.slice aH O.Readings.length aL],.agg #[jV p1.Kind,jV p1.Skier,jV p1.Index,.bool p1.Up]] w (wCG w [] φ (fun φ_ L_ v=>v=.tuple #[.agg #[jV r.1.skier,jV r.1.mat],.agg #[jV r.2.skier,jV r.2.mat]]/\L_=[])):=by
 unfold wEP at hm
 refine Gv.of Tryz.func134 Z Tryz.ntmps134 Tryz.results134 Z (sR gBe Z ?_)
 let B0:List Value:=[.slice aE O.Starts.length aI,.slice aF O.Splits.length aJ,.slice aG O.Clocks.length aK,.slice aH O.Readings.length aL]
 refine zn (cs:=B0) rfl rfl rfl rfl rfl rfl (by rfl) hS ?_
 intro W1 b2 a9
 let B1:List Value:=[jV p1.Kind,jV p1.Skier,jV p1.Index,.bool p1.Up]
 refine zn (cs:=B1) rfl rfl rfl rfl rfl rfl (by rfl) a9 ?_
 intro W5 b6 bi
 let B2:List Value:=[jV 0,jV 0]
 refine zV (cs:=B2) Z Z Z Z Z zd Z bi ?_
 intro W9 ag a7
 refine zV (cs:=B2) Z Z Z Z Z zd Z a7 ?_
 intro aM ah a8
 refine eN ?_
 have q:=bnd hm
 obtain ⟨⟨bt,bu⟩,br,aQ⟩:=q
 try dsimp only at aQ
 let B3:List Value:=[jV p1.Skier,jV 0]
 let B4:List Value:=[jV bt,jV bu]
 refine yX (fun σ_ w_=>∃ (φ_:PHeap),σ_ 4=.pointer (some ⟨ag,0,none⟩)/\σ_ 5=.pointer (some ⟨ah,0,none⟩)/\PHeap.Le φ φ_/\sW w φ φ_ [.blk ah 123 B3,.blk ag 123 B4,.blk b6 93 B1,.blk b2 27 B0] w_) ?_ ?_
 refine bnK br fun am aO az=>zx zt [2,3,2,3,0,0] (.fl 1 (.fx 0 (.fx 2 (.fl 3 gAj) (.fx 4 (.fx 2 gAk .stop) .stop)) (.fx 2 (.fl 3 (.fx 0 gAj .stop)) .stop))) (by kernel_rfl) ?_
 have an:=a8.drew
 generalize hw_W40:({ aM with drawn:=aM.drawn + 1 }:World)=aN at an ⊢
 refine oR Z (zF Z Z zk Z zC) (ZJ ?_ ?_)
 refine zD 0 Z Z Z Z (zE Z Z yk zM Z) an (fun hs=>wCM aN φ hs aO) (.inr Z) ?_
 rintro ak bw bI aS aR ba ⟨rfl,rfl⟩
 have ax:sW w φ ak [.blk ah 123 B2,.blk ag 123 B2,.blk b6 93 B1,.blk b2 27 B0] aS:=ba
 refine ZJ ?_ ?_
 refine Zh Z Z Z Z (ax.ldB (j:=2) Z Z Z zG (v:=jV p1.Skier) Z) (oR Z (ZB (pv:=[(0,jV p1.Skier),(1,jV 0)]) (z:=B2) (cs:=B3) Z (wAG Z (wAG Z wAR)) zd wBv Z Z) ?_)
 let B5:List Value:=[jV am.skier,jV am.mat]
 refine zX (j:=1) (vs:=B5) Z Z Z Z ax Z Z Z Z zH (zA Z) Z Z Z ?_
 intro aT bb
 have bc:sW w φ ak [.blk ah 123 B2,.blk ag 123 B5,.blk b6 93 B1,.blk b2 27 B0] aT:=bb
 refine zX (j:=0) (vs:=B3) Z Z Z Z bc Z Z Z Z zH (zA Z) Z Z Z ?_
 intro aU bd
 have be:sW w φ ak [.blk ah 123 B3,.blk ag 123 B5,.blk b6 93 B1,.blk b2 27 B0] aU:=bd
 refine zf ?_
 cases az
 exact zJ ⟨Z,⟨ak,Z,Z,aR,be⟩⟩
 let B6:List Value:=[jV am.skier,jV am.mat]
 refine zX (j:=1) (vs:=B6) Z Z Z Z ax Z Z Z Z zH (zA Z) Z Z Z ?_
 intro aV bf
 have aP:sW w φ ak [.blk ah 123 B2,.blk ag 123 B6,.blk b6 93 B1,.blk b2 27 B0] aV:=bf
 refine Zh Z Z Z Z (aP.ldB (j:=2) Z Z Z zG (v:=jV p1.Skier) Z) (oR Z (ZB (pv:=[(0,jV p1.Skier),(1,jV 0)]) (z:=B2) (cs:=B3) Z (wAG Z (wAG Z wAR)) zd wBv Z Z) (zX (j:=0) (vs:=B3) Z Z Z Z aP Z Z Z Z zH (zA Z) Z Z Z ?_))
 intro aW bg
 have bh:sW w φ ak [.blk ah 123 B3,.blk ag 123 B6,.blk b6 93 B1,.blk b2 27 B0] aW:=bg
 refine zf ?_
 cases az
 exact zJ ⟨Z,⟨ak,Z,Z,aR,bh⟩⟩
 refine Zh Z Z Z Z (an.ldB (j:=2) Z Z Z zG (v:=jV p1.Skier) Z) (oR Z (ZB (pv:=[(0,jV p1.Skier),(1,jV 0)]) (z:=B2) (cs:=B3) Z (wAG Z (wAG Z wAR)) zd wBv Z Z) (zD 0 Z Z Z Z (zE Z Z yk zM Z) an (fun hs=>wCM aN φ hs aO) (.inr Z) ?_))
 rintro ao bx bJ aX bs bj ⟨rfl,rfl⟩
 have bm:sW w φ ao [.blk ah 123 B2,.blk ag 123 B2,.blk b6 93 B1,.blk b2 27 B0] aX:=bj
 let B7:List Value:=[jV am.skier,jV am.mat]
 refine zX (j:=1) (vs:=B7) Z Z Z Z bm Z Z Z Z zH (zA Z) Z Z Z ?_
 intro aY bn
 have bo:sW w φ ao [.blk ah 123 B2,.blk ag 123 B7,.blk b6 93 B1,.blk b2 27 B0] aY:=bn
 refine zX (j:=0) (vs:=B3) Z Z Z Z bo Z Z Z Z zH (zA Z) Z Z Z ?_
 intro aZ bp
 have bq:sW w φ ao [.blk ah 123 B3,.blk ag 123 B7,.blk b6 93 B1,.blk b2 27 B0] aZ:=bp
 refine zf ?_
 cases az
 exact zJ ⟨Z,⟨ao,Z,Z,bs,bq⟩⟩
 rintro bK bB ⟨bv,a5,a6,bH,ay⟩
 refine zO ?_
 cases aQ
 exact ⟨rfl,_,(wEk (rs:=[.cell 4 123,.cell 5 123]) (vs:=[.agg B4.toArray,.agg B3.toArray]) ⟨⟨_,a5,(wBQ zl zH (ay.blkAt (k:=1) rfl) (vs:=B4) rfl rfl)⟩,⟨⟨_,a6,(wBQ zl zH (ay.blkAt (k:=0) rfl) (vs:=B3) rfl rfl)⟩,trivial⟩⟩ rfl),bv,_,(ay.pick [] _ (by decide) rfl),rfl,rfl⟩
theorem wHw (O:wAA) (ae:Option Addr) (af:Nat) (ag:Option Addr) (aj:Nat) (ah:Option Addr) (ak:Nat) (ai:Option Addr) (am:Nat) (p1:wAC) (w:World) (φ:PHeap) (hS:St0 w φ []) (ao:Sl φ 1 ae af O.Starts.length (hD KL.encI O.Starts)) (aL:Sl φ 2 ag aj O.Splits.length (hD wAD O.Splits)) (aM:Sl φ 3 ah ak O.Clocks.length (hD wAF O.Clocks)) (aN:Sl φ 4 ai am O.Readings.length (hD wAB O.Readings)) {r:Int × Int} (hm:wEQ O p1=some r):Gv Tryz.prog 135 [.agg #[.slice ae O.Starts.length af,.slice ag O.Splits.length aj,.slice ah O.Clocks.length ak,.slice ai O.Readings.length am],.agg #[jV p1.Kind,jV p1.Skier,jV p1.Index,.bool p1.Up]] w (wCG w [] φ (fun φ_ L_ v=>v=.tuple #[jV r.1,jV r.2]/\L_=[])):=by
 unfold wEQ at hm
 refine Gv.of Tryz.func135 rfl Tryz.ntmps135 Tryz.results135 rfl (sR gBf rfl (zn (cs:=[.slice ae O.Starts.length af,.slice ag O.Splits.length aj,.slice ah O.Clocks.length ak,.slice ai O.Readings.length am]) rfl rfl rfl rfl rfl rfl (by rfl) hS ?_))
 intro W1 b2 ay
 refine zn (cs:=[jV p1.Kind,jV p1.Skier,jV p1.Index,.bool p1.Up]) rfl rfl rfl rfl rfl rfl (by rfl) ay ?_
 intro W5 b6 az
 refine yP rfl rfl rfl rfl rfl rfl (yP rfl rfl rfl rfl rfl rfl (eN (zL (zx zt [3,1,3,1,3,1,3,1,3,1,3,1,3,3,3] fL15 (by kernel_rfl) ?_))))
 have ab:=az.drew
 generalize hw_W10:({ W5 with drawn:=W5.drawn + 1 }:World)=aG at ab ⊢
 refine oR Z (zF Z Z zT Z zg) (oL Z (ab.ldB (j:=1) Z Z Z zr (v:=.slice ae O.Starts.length af) Z) (oR Z (zF Z Z zk Z zC) (oL Z (ab.ldB (j:=0) Z Z Z zG (v:=jV p1.Skier) Z) (bnK hm fun ap ac aE=>?_))))
 have q:=ao.el (fun _=>rfl) (wAe ac)
 obtain ⟨aH,aO,aq,av⟩:=q
 refine oR Z (ZM Z Z aq Z zK zC (wBV ac) (wBb ac)) (oL Z (ab.ldC (f:=0) av (v:=jV ap) Z Z zG Z) (oR Z (zF Z Z zT Z zg) (oL Z (ab.ldB (j:=1) Z Z Z zr (v:=.slice ae O.Starts.length af) Z) (oR Z (zF Z Z zk Z zC) (oL Z (ab.ldB (j:=0) Z Z Z zG (v:=jV p1.Skier) Z) ?_)))))
 have q:=ao.el (fun _=>rfl) (wAe ac)
 obtain ⟨aI,aP,au,ax⟩:=q
 refine oR Z (ZM Z Z au Z zK zC (wBV ac) (wBb ac)) (oL Z (ab.ldC (f:=0) ax (v:=jV ap) Z Z zG Z) (oR Z (YD Z Z) (oA Z Z (oA Z Z (eN (zO ?_))))))
 cases aE
 exact ⟨rfl,_,(wDp rfl rfl),φ,_,(ab.pick [] _ (by decide) rfl),rfl,rfl⟩
theorem wHx (O:wAA) (ae:Option Addr) (ag:Nat) (af:Option Addr) (ah:Nat) (am:Option Addr) (ao:Nat) (an:Option Addr) (ap:Nat) (p1:wAC) (w:World) (φ:PHeap) (hS:St0 w φ []) (aS:Sl φ 1 ae ag O.Starts.length (hD KL.encI O.Starts)) (aT:Sl φ 2 af ah O.Splits.length (hD wAD O.Splits)) (aU:Sl φ 3 am ao O.Clocks.length (hD wAF O.Clocks)) (aV:Sl φ 4 an ap O.Readings.length (hD wAB O.Readings)) {r:Bool} (hm:wDr O p1=some r):Gv Tryz.prog 136 [.agg #[.slice ae O.Starts.length ag,.slice af O.Splits.length ah,.slice am O.Clocks.length ao,.slice an O.Readings.length ap],.agg #[jV p1.Kind,jV p1.Skier,jV p1.Index,.bool p1.Up]] w (wCG w [] φ (fun φ_ L_ v=>v=.bool r/\L_=[])):=by
 unfold wDr at hm
 refine Gv.of Tryz.func136 Z Tryz.ntmps136 Tryz.results136 Z (sR gAs Z ?_)
 let B0:List Value:=[.slice ae O.Starts.length ag,.slice af O.Splits.length ah,.slice am O.Clocks.length ao,.slice an O.Readings.length ap]
 refine zn (cs:=B0) rfl rfl rfl rfl rfl rfl (by rfl) hS ?_
 intro W1 b2 aJ
 let B1:List Value:=[jV p1.Kind,jV p1.Skier,jV p1.Index,.bool p1.Up]
 refine zn (cs:=B1) rfl rfl rfl rfl rfl rfl (by rfl) aJ ?_
 intro W5 b6 ak
 refine oA Z Z (eN (sR (wGE (.fx 6 (wKa gAu) .stop)) Z (oR Z (zF Z Z zk Z zC) (oL Z (ak.ldB (j:=0) Z Z Z zG (v:=jV p1.Skier) Z) (oR Z (zF Z Z zT Z zg) (oL Z (ak.ldB (j:=1) Z Z Z zr (v:=.slice ae O.Starts.length ag) Z) (oR Z (zi Z Z zK) (oR Z (yO Z Z Z) (bnK hm fun x9 aF aL=>zD 0 Z Z Z Z (zE Z Z yW (zB Z (zB Z (zB Z zM))) Z) ak (fun hs=>wCQ p1.Skier 0 (w64 ((↑O.Starts.length:Int) - 1)) W5 φ hs aF) (.inr Z) ?_)))))))))
 rintro aq aP aY au aW aH ⟨rfl,rfl⟩
 have ac:sW w φ aq [.blk b6 93 B1,.blk b2 27 B0] au:=aH
 refine oM Z Z (ifc aL ?_ ?_)
 intro aa aM
 refine za Z Z Z (zI Z Z (congrArg hJ aa.out)) (fun _=>zF Z Z zk Z zC) (ZE Z Z Z (zI Z Z (congrArg hJ aa.out)) (ac.ldB (j:=0) Z Z Z zG (v:=jV p1.Index) Z) Z (za Z Z Z (zI Z Z (congrArg hJ aa.out)) (fun _=>zF Z Z zT Z Zm) (ZE Z Z Z (zI Z Z (congrArg hJ aa.out)) (ac.ldB (j:=1) Z Z Z Zq (v:=.slice af O.Splits.length ah) Z) Z (za Z Z Z (zI Z Z (congrArg hJ aa.out)) (fun _=>zi Z Z ZI) (za Z Z Z (zI Z Z (congrArg hJ aa.out)) (fun _=>yO Z Z Z) (bnK aM fun a5 aG aN=>zD 0 Z Z Z (zI Z Z (congrArg hJ aa.out)) (zE Z Z yW (zB Z (zB Z (zB Z zM))) Z) ac (fun hs=>wCQ p1.Index 0 (w64 ((↑O.Splits.length:Int) - 1)) au aq hs aG) (.inr Z) ?_))))))
 rintro ay aQ aZ az aX aI ⟨rfl,rfl⟩
 have aK:sW w φ ay [.blk b6 93 B1,.blk b2 27 B0] az:=aI
 refine oR Z (zR Z (congrArg hJ aa.out) Z) (oA Z Z (eN (zO ?_)))
 have hE:=hH aN;first | subst r | cases hE
 exact ⟨rfl,_,(ZA rfl),ay,_,(aK.pick [] _ (by decide) rfl),rfl,rfl⟩
 intro aa aO
 refine zy Z Z Z (zP Z Z (congrArg hJ (hU.2 aa.out)) Z) (zy Z Z Z (zP Z Z (congrArg hJ (hU.2 aa.out)) Z) (zy Z Z Z (zP Z Z (congrArg hJ (hU.2 aa.out)) Z) (zy Z Z Z (zP Z Z (congrArg hJ (hU.2 aa.out)) Z) (zy Z Z Z (zP Z Z (congrArg hJ (hU.2 aa.out)) Z) (zy Z Z Z (zP Z Z (congrArg hJ (hU.2 aa.out)) Z) (ZC Z Z Z (zP Z Z (congrArg hJ (hU.2 aa.out)) Z) (oR Z (zW Z (congrArg hJ (hU.2 aa.out)) Z) (oA Z Z (eN (zO ?_))))))))))
 have hE:=hH aO;first | subst r | cases hE
 exact ⟨rfl,_,(ZA rfl),aq,_,(ac.pick [] _ (by decide) rfl),rfl,rfl⟩
theorem wHy (p0:wAA) (aq:Option Addr) (ay:Nat) (au:Option Addr) (az:Nat) (av:Option Addr) (aE:Nat) (ax:Option Addr) (aF:Nat) (O:wAC) (w:World) (φ:PHeap) (hS:St0 w φ []) (bx:Sl φ 1 aq ay p0.Starts.length (hD KL.encI p0.Starts)) (bz:Sl φ 2 au az p0.Splits.length (hD wAD p0.Splits)) (bA:Sl φ 3 av aE p0.Clocks.length (hD wAF p0.Clocks)) (bB:Sl φ 4 ax aF p0.Readings.length (hD wAB p0.Readings)) {r:wAH × wAH} (hm:wER p0 O=some r):Gv Tryz.prog 137 [.agg #[.slice aq p0.Starts.length ay,.slice au p0.Splits.length az,.slice av p0.Clocks.length aE,.slice ax p0.Readings.length aF],.agg #[jV O.Kind,jV O.Skier,jV O.Index,.bool O.Up]] w (wCG w [] φ (fun φ_ L_ v=>v=.tuple #[.agg #[jV r.1.skier,jV r.1.mat],.agg #[jV r.2.skier,jV r.2.mat]]/\L_=[])):=by
 unfold wER at hm
 refine Gv.of Tryz.func137 Z Tryz.ntmps137 Tryz.results137 Z (sR gBe Z ?_)
 let B0:List Value:=[.slice aq p0.Starts.length ay,.slice au p0.Splits.length az,.slice av p0.Clocks.length aE,.slice ax p0.Readings.length aF]
 refine zn (cs:=B0) rfl rfl rfl rfl rfl rfl (by rfl) hS ?_
 intro W1 b2 a5
 let B1:List Value:=[jV O.Kind,jV O.Skier,jV O.Index,.bool O.Up]
 refine zn (cs:=B1) rfl rfl rfl rfl rfl rfl (by rfl) a5 ?_
 intro W5 b6 bq
 let B2:List Value:=[jV 0,jV 0]
 refine zV (cs:=B2) Z Z Z Z Z zd Z bq ?_
 intro W9 ah aX
 refine zV (cs:=B2) Z Z Z Z Z zd Z aX ?_
 intro aG ai aY
 refine eN ?_
 have q:=bnd hm
 obtain ⟨⟨⟩,ao,aJ⟩:=q
 try dsimp only at aJ
 let B3:List Value:=[jV O.Skier,jV (w64 (O.Index + 1))]
 let B4:List Value:=[jV O.Skier,jV O.Index]
 refine yX (fun σ_ w_=>∃ (φ_:PHeap),σ_ 4=.pointer (some ⟨ah,0,none⟩)/\σ_ 5=.pointer (some ⟨ai,0,none⟩)/\PHeap.Le φ φ_/\sW w φ φ_ [.blk ai 123 B3,.blk ah 123 B4,.blk b6 93 B1,.blk b2 27 B0] w_) ?_ ?_
 refine zx zt [3,1,3,1,3,3,2,3,2,3,3,0,0] (wGE (.fl 7 (.fx 6 (.fx 8 (.fl 9 gAv) (.fx 11 gBg .stop)) (.fx 8 (.fl 9 (.fx 6 gAv (.fx 11 gAw .stop))) (.fx 11 (.fx 6 gBg (.fx 8 (.fl 9 gAw) .stop)) .stop))))) (by kernel_rfl) ?_
 have am:=aY.drew
 generalize hw_W27:({ aG with drawn:=aG.drawn + 1 }:World)=bt at am ⊢
 refine oR Z (zF Z Z zk Z zC) (oL Z (am.ldB (j:=2) Z Z Z zG (v:=jV O.Skier) Z) (oR Z (zF Z Z zk Z zC) (oL Z (am.ldB (j:=2) Z Z Z zG (v:=jV O.Index) Z) (oR Z (ZB (pv:=[(0,jV O.Skier),(1,jV O.Index)]) (z:=B2) (cs:=B4) Z (wAG Z (wAG Z wAR)) zd wBv Z Z) (oR Z (zF Z Z zk Z zC) (oR Z (zF Z Z zk Z zC) (ZJ ?_ ?_)))))))
 refine Zh Z Z Z Z (am.ldB (j:=2) Z Z Z zG (v:=jV O.Skier) Z) (ZJ ?_ ?_)
 refine Zh Z Z Z Z (am.ldB (j:=2) Z Z Z zG (v:=jV O.Index) Z) (oR Z (zh Z Z Z) (oR Z (ZB (pv:=[(0,jV O.Skier),(1,jV (w64 (O.Index + 1)))]) (z:=B2) (cs:=B3) Z (wAG Z (wAG Z wAR)) zd wBv Z Z) (zX (j:=1) (vs:=B4) Z Z Z Z am Z Z Z Z zH (zA Z) Z Z Z ?_)))
 intro aK aZ
 have a6:sW w φ φ [.blk ai 123 B2,.blk ah 123 B4,.blk b6 93 B1,.blk b2 27 B0] aK:=aZ
 refine zX (j:=0) (vs:=B3) Z Z Z Z a6 Z Z Z Z zH (zA Z) Z Z Z ?_
 intro aL a7
 have a8:sW w φ φ [.blk ai 123 B3,.blk ah 123 B4,.blk b6 93 B1,.blk b2 27 B0] aL:=a7
 refine zf ?_
 cases ao
 exact zJ ⟨Z,⟨φ,Z,Z,(zS _),a8⟩⟩
 refine zX (j:=1) (vs:=B4) Z Z Z Z am Z Z Z Z zH (zA Z) Z Z Z ?_
 intro aM a9
 have aH:sW w φ φ [.blk ai 123 B2,.blk ah 123 B4,.blk b6 93 B1,.blk b2 27 B0] aM:=a9
 refine Zh Z Z Z Z (aH.ldB (j:=2) Z Z Z zG (v:=jV O.Index) Z) (oR Z (zh Z Z Z) (oR Z (ZB (pv:=[(0,jV O.Skier),(1,jV (w64 (O.Index + 1)))]) (z:=B2) (cs:=B3) Z (wAG Z (wAG Z wAR)) zd wBv Z Z) (zX (j:=0) (vs:=B3) Z Z Z Z aH Z Z Z Z zH (zA Z) Z Z Z ?_)))
 intro aN ba
 have bb:sW w φ φ [.blk ai 123 B3,.blk ah 123 B4,.blk b6 93 B1,.blk b2 27 B0] aN:=ba
 refine zf ?_
 cases ao
 exact zJ ⟨Z,⟨φ,Z,Z,(zS _),bb⟩⟩
 refine ZJ ?_ ?_
 refine Zh Z Z Z Z (am.ldB (j:=2) Z Z Z zG (v:=jV O.Index) Z) (oR Z (zh Z Z Z) (ZJ ?_ ?_))
 refine Zh Z Z Z Z (am.ldB (j:=2) Z Z Z zG (v:=jV O.Skier) Z) (oR Z (ZB (pv:=[(0,jV O.Skier),(1,jV (w64 (O.Index + 1)))]) (z:=B2) (cs:=B3) Z (wAG Z (wAG Z wAR)) zd wBv Z Z) (zX (j:=1) (vs:=B4) Z Z Z Z am Z Z Z Z zH (zA Z) Z Z Z ?_))
 intro aO bc
 have bd:sW w φ φ [.blk ai 123 B2,.blk ah 123 B4,.blk b6 93 B1,.blk b2 27 B0] aO:=bc
 refine zX (j:=0) (vs:=B3) Z Z Z Z bd Z Z Z Z zH (zA Z) Z Z Z ?_
 intro aP be
 have bf:sW w φ φ [.blk ai 123 B3,.blk ah 123 B4,.blk b6 93 B1,.blk b2 27 B0] aP:=be
 refine zf ?_
 cases ao
 exact zJ ⟨Z,⟨φ,Z,Z,(zS _),bf⟩⟩
 refine zX (j:=1) (vs:=B4) Z Z Z Z am Z Z Z Z zH (zA Z) Z Z Z ?_
 intro aQ bg
 have aI:sW w φ φ [.blk ai 123 B2,.blk ah 123 B4,.blk b6 93 B1,.blk b2 27 B0] aQ:=bg
 refine Zh Z Z Z Z (aI.ldB (j:=2) Z Z Z zG (v:=jV O.Skier) Z) (oR Z (ZB (pv:=[(0,jV O.Skier),(1,jV (w64 (O.Index + 1)))]) (z:=B2) (cs:=B3) Z (wAG Z (wAG Z wAR)) zd wBv Z Z) (zX (j:=0) (vs:=B3) Z Z Z Z aI Z Z Z Z zH (zA Z) Z Z Z ?_))
 intro aR bh
 have bi:sW w φ φ [.blk ai 123 B3,.blk ah 123 B4,.blk b6 93 B1,.blk b2 27 B0] aR:=bh
 refine zf ?_
 cases ao
 exact zJ ⟨Z,⟨φ,Z,Z,(zS _),bi⟩⟩
 refine zX (j:=1) (vs:=B4) Z Z Z Z am Z Z Z Z zH (zA Z) Z Z Z ?_
 intro aS bj
 have an:sW w φ φ [.blk ai 123 B2,.blk ah 123 B4,.blk b6 93 B1,.blk b2 27 B0] aS:=bj
 refine ZJ ?_ ?_
 refine Zh Z Z Z Z (an.ldB (j:=2) Z Z Z zG (v:=jV O.Skier) Z) (Zh Z Z Z Z (an.ldB (j:=2) Z Z Z zG (v:=jV O.Index) Z) (oR Z (zh Z Z Z) (oR Z (ZB (pv:=[(0,jV O.Skier),(1,jV (w64 (O.Index + 1)))]) (z:=B2) (cs:=B3) Z (wAG Z (wAG Z wAR)) zd wBv Z Z) (zX (j:=0) (vs:=B3) Z Z Z Z an Z Z Z Z zH (zA Z) Z Z Z ?_))))
 intro aT bm
 have bn:sW w φ φ [.blk ai 123 B3,.blk ah 123 B4,.blk b6 93 B1,.blk b2 27 B0] aT:=bm
 refine zf ?_
 cases ao
 exact zJ ⟨Z,⟨φ,Z,Z,(zS _),bn⟩⟩
 refine Zh Z Z Z Z (an.ldB (j:=2) Z Z Z zG (v:=jV O.Index) Z) (oR Z (zh Z Z Z) (Zh Z Z Z Z (an.ldB (j:=2) Z Z Z zG (v:=jV O.Skier) Z) (oR Z (ZB (pv:=[(0,jV O.Skier),(1,jV (w64 (O.Index + 1)))]) (z:=B2) (cs:=B3) Z (wAG Z (wAG Z wAR)) zd wBv Z Z) (zX (j:=0) (vs:=B3) Z Z Z Z an Z Z Z Z zH (zA Z) Z Z Z ?_))))
 intro aU bo
 have bp:sW w φ φ [.blk ai 123 B3,.blk ah 123 B4,.blk b6 93 B1,.blk b2 27 B0] aU:=bo
 refine zf ?_
 cases ao
 exact zJ ⟨Z,⟨φ,Z,Z,(zS _),bp⟩⟩
 rintro bD bv ⟨br,aV,aW,bC,ap⟩
 refine zO ?_
 cases aJ
 exact ⟨rfl,_,(wEk (rs:=[.cell 4 123,.cell 5 123]) (vs:=[.agg B4.toArray,.agg B3.toArray]) ⟨⟨_,aV,(wBQ zl zH (ap.blkAt (k:=1) rfl) (vs:=B4) rfl rfl)⟩,⟨⟨_,aW,(wBQ zl zH (ap.blkAt (k:=0) rfl) (vs:=B3) rfl rfl)⟩,trivial⟩⟩ rfl),br,_,(ap.pick [] _ (by decide) rfl),rfl,rfl⟩
theorem wHz (O:wAA) (ag:Option Addr) (aj:Nat) (ae:Option Addr) (af:Nat) (ah:Option Addr) (ak:Nat) (ai:Option Addr) (am:Nat) (p1:wAC) (w:World) (φ:PHeap) (hS:St0 w φ []) (aL:Sl φ 1 ag aj O.Starts.length (hD KL.encI O.Starts)) (ao:Sl φ 2 ae af O.Splits.length (hD wAD O.Splits)) (aM:Sl φ 3 ah ak O.Clocks.length (hD wAF O.Clocks)) (aN:Sl φ 4 ai am O.Readings.length (hD wAB O.Readings)) {r:Int × Int} (hm:wES O p1=some r):Gv Tryz.prog 138 [.agg #[.slice ag O.Starts.length aj,.slice ae O.Splits.length af,.slice ah O.Clocks.length ak,.slice ai O.Readings.length am],.agg #[jV p1.Kind,jV p1.Skier,jV p1.Index,.bool p1.Up]] w (wCG w [] φ (fun φ_ L_ v=>v=.tuple #[jV r.1,jV r.2]/\L_=[])):=by
 unfold wES at hm
 refine Gv.of Tryz.func138 rfl Tryz.ntmps138 Tryz.results138 rfl (sR gBf rfl (zn (cs:=[.slice ag O.Starts.length aj,.slice ae O.Splits.length af,.slice ah O.Clocks.length ak,.slice ai O.Readings.length am]) rfl rfl rfl rfl rfl rfl (by rfl) hS ?_))
 intro W1 b2 ay
 refine zn (cs:=[jV p1.Kind,jV p1.Skier,jV p1.Index,.bool p1.Up]) rfl rfl rfl rfl rfl rfl (by rfl) ay ?_
 intro W5 b6 az
 refine yP rfl rfl rfl rfl rfl rfl (yP rfl rfl rfl rfl rfl rfl (eN (zL (zx zt [3,1,3,1,3,3,1,3,1,3,1,3,3,1,3,3,3] fL17 (by kernel_rfl) ?_))))
 have ab:=az.drew
 generalize hw_W10:({ W5 with drawn:=W5.drawn + 1 }:World)=aG at ab ⊢
 refine oR Z (zF Z Z zT Z Zm) (oL Z (ab.ldB (j:=1) Z Z Z Zq (v:=.slice ae O.Splits.length af) Z) (oR Z (zF Z Z zk Z zC) (oL Z (ab.ldB (j:=0) Z Z Z zG (v:=jV p1.Index) Z) (bnK hm fun ap ac aE=>?_))))
 have q:=ao.el (fun _=>rfl) (wAe ac)
 obtain ⟨aH,aO,aq,av⟩:=q
 refine oR Z (ZM Z Z aq Z ZI zz (wBV ac) (wBb ac)) (oR Z (zF Z Z ZT Z zC) (oL Z (ab.ldC (f:=1) av (v:=jV ap.Hi) Z Z zG Z) (oR Z (zF Z Z zT Z Zm) (oL Z (ab.ldB (j:=1) Z Z Z Zq (v:=.slice ae O.Splits.length af) Z) (oR Z (zF Z Z zk Z zC) (oL Z (ab.ldB (j:=0) Z Z Z zG (v:=jV p1.Index) Z) ?_))))))
 have q:=ao.el (fun _=>rfl) (wAe ac)
 obtain ⟨aI,aP,au,ax⟩:=q
 refine oR Z (ZM Z Z au Z ZI zz (wBV ac) (wBb ac)) (oR Z (zF Z Z ZT Z zC) (oL Z (ab.ldC (f:=0) ax (v:=jV ap.Lo) Z Z zG Z) (oR Z (YD Z Z) (oA Z Z (oA Z Z (eN (zO ?_)))))))
 cases aE
 exact ⟨rfl,_,(wDp rfl rfl),φ,_,(ab.pick [] _ (by decide) rfl),rfl,rfl⟩
theorem wIA (p0:wAA) (ag:Option Addr) (aj:Nat) (ah:Option Addr) (ak:Nat) (ae:Option Addr) (af:Nat) (ai:Option Addr) (am:Nat) (p1:wAC) (w:World) (φ:PHeap) (hS:St0 w φ []) (aL:Sl φ 1 ag aj p0.Starts.length (hD KL.encI p0.Starts)) (aM:Sl φ 2 ah ak p0.Splits.length (hD wAD p0.Splits)) (aN:Sl φ 3 ae af p0.Clocks.length (hD wAF p0.Clocks)) (aO:Sl φ 4 ai am p0.Readings.length (hD wAB p0.Readings)) {r:Bool} (hm:wDs p0 p1=some r):Gv Tryz.prog 139 [.agg #[.slice ag p0.Starts.length aj,.slice ah p0.Splits.length ak,.slice ae p0.Clocks.length af,.slice ai p0.Readings.length am],.agg #[jV p1.Kind,jV p1.Skier,jV p1.Index,.bool p1.Up]] w (wCG w [] φ (fun φ_ L_ v=>v=.bool r/\L_=[])):=by
 unfold wDs at hm
 refine Gv.of Tryz.func139 Z Tryz.ntmps139 Tryz.results139 Z (sR gAs Z ?_)
 let B0:List Value:=[.slice ag p0.Starts.length aj,.slice ah p0.Splits.length ak,.slice ae p0.Clocks.length af,.slice ai p0.Readings.length am]
 refine zn (cs:=B0) rfl rfl rfl rfl rfl rfl (by rfl) hS ?_
 intro W1 b2 aH
 let B1:List Value:=[jV p1.Kind,jV p1.Skier,jV p1.Index,.bool p1.Up]
 refine zn (cs:=B1) rfl rfl rfl rfl rfl rfl (by rfl) aH ?_
 intro W5 b6 ac
 refine oA Z Z (eN (sR (wLD gAx) Z (oR Z (zF Z Z zk Z zC) (oL Z (ac.ldB (j:=0) Z Z Z zG (v:=jV p1.Skier) Z) (oR Z (Zy Z Z Z) (oM Z Z ?_))))))
 by_cases O:p1.Skier=0
 have ap:=hm;rw [if_pos O] at ap;replace O:=zN O
 refine rU Z (wT Z O) (zF Z Z zk Z zC) (ZE Z Z Z (wT Z O) (ac.ldB (j:=0) Z Z Z zG (v:=jV p1.Index) Z) Z (rU Z (wT Z O) (zF Z Z zT Z yQ) (ZE Z Z Z (wT Z O) (ac.ldB (j:=1) Z Z Z yZ (v:=.slice ae p0.Clocks.length af) Z) Z (rU Z (wT Z O) (zi Z Z Ze) (rU Z (wT Z O) (yO Z Z Z) (bnK ap fun aR aE aI=>zD 0 Z Z Z (wT Z O) (zE Z Z yW (zB Z (zB Z (zB Z zM))) Z) ac (fun hs=>wCQ p1.Index 0 (w64 ((↑p0.Clocks.length:Int) - 1)) W5 φ hs aE) (.inr Z) ?_))))))
 rintro au aJ aQ av aP aF ⟨rfl,rfl⟩
 have aG:sW w φ au [.blk b6 93 B1,.blk b2 27 B0] av:=aF
 refine oR Z (zR Z (Zd O.out) Z) (oA Z Z (eN (zO ?_)))
 have hE:=hH aI;first | subst r | cases hE
 exact ⟨rfl,_,(ZA rfl),au,_,(aG.pick [] _ (by decide) rfl),rfl,rfl⟩
 have aq:=hm;rw [if_neg O] at aq;replace O:=zN O
 refine oF Z O (oF Z O (oF Z O (oF Z O (oF Z O (oF Z O (ZC Z Z Z (zP Z Z (zu O.out) Z) (oR Z (zW Z (zu O.out) Z) (oA Z Z (eN (zO ?_))))))))))
 have hE:=hH aq;first | subst r | cases hE
 exact ⟨rfl,_,(ZA rfl),φ,_,(ac.pick [] _ (by decide) rfl),rfl,rfl⟩
theorem wDU (p0:Int) (w:World) (φ:PHeap) (hS:St0 w φ [])  {r:wAH} (hm:wDR p0=some r):Gv Tryz.prog 70 [jV p0] w (wCG w [] φ (fun φ_ L_ v=>v=.agg #[jV r.skier,jV r.mat]/\L_=[])):=by
 unfold wDR at hm
 refine Gv.of Tryz.func70 Z Tryz.ntmps70 Tryz.results70 Z (sR (.fx 0 .nil .stop) Z (zV (cs:=[jV 0,jV 0]) Z Z Z Z Z zd Z hS ?_))
 intro W1 b2 af
 refine eN (sR (wDK (.fx 3 .nil .stop)) Z (oM Z Z (oR Z (zh Z Z Z) ?_)))
 let O:List Value:=[jV (-1),jV (w64 (1 + p0))]
 refine oR Z (ZB (pv:=[(0,jV (-1)),(1,jV (w64 (1 + p0)))]) (z:=[jV 0,jV 0]) (cs:=O) Z (wAG Z (wAG Z wAR)) zd wBv Z Z) (zX (j:=0) (vs:=O) Z Z Z Z af Z Z Z Z zH (zA Z) Z Z Z ?_)
 intro W5 ag
 have ab:sW w φ φ [.blk b2 123 O] W5:=ag
 refine eN (zO ?_)
 cases hm
 exact ⟨rfl,_,(wHW (v:=.agg O.toArray) ⟨⟨_,rfl,(wBQ zl zH (ab.blkAt (k:=0) rfl) (vs:=O) rfl rfl)⟩,trivial⟩),φ,_,(ab.pick [] _ (by decide) rfl),rfl,rfl⟩
theorem wIB (O:wAA) (ap:Option Addr) (ax:Nat) (aq:Option Addr) (ay:Nat) (au:Option Addr) (az:Nat) (av:Option Addr) (aE:Nat) (p1:wAC) (w:World) (φ:PHeap) (hS:St0 w φ []) (bd:Sl φ 1 ap ax O.Starts.length (hD KL.encI O.Starts)) (be:Sl φ 2 aq ay O.Splits.length (hD wAD O.Splits)) (bf:Sl φ 3 au az O.Clocks.length (hD wAF O.Clocks)) (bg:Sl φ 4 av aE O.Readings.length (hD wAB O.Readings)) {r:wAH × wAH} (hm:wET O p1=some r):Gv Tryz.prog 140 [.agg #[.slice ap O.Starts.length ax,.slice aq O.Splits.length ay,.slice au O.Clocks.length az,.slice av O.Readings.length aE],.agg #[jV p1.Kind,jV p1.Skier,jV p1.Index,.bool p1.Up]] w (wCG w [] φ (fun φ_ L_ v=>v=.tuple #[.agg #[jV r.1.skier,jV r.1.mat],.agg #[jV r.2.skier,jV r.2.mat]]/\L_=[])):=by
 unfold wET at hm
 refine Gv.of Tryz.func140 Z Tryz.ntmps140 Tryz.results140 Z (sR gBe Z ?_)
 let B0:List Value:=[.slice ap O.Starts.length ax,.slice aq O.Splits.length ay,.slice au O.Clocks.length az,.slice av O.Readings.length aE]
 refine zn (cs:=B0) rfl rfl rfl rfl rfl rfl (by rfl) hS ?_
 intro W1 b2 aU
 let B1:List Value:=[jV p1.Kind,jV p1.Skier,jV p1.Index,.bool p1.Up]
 refine zn (cs:=B1) rfl rfl rfl rfl rfl rfl (by rfl) aU ?_
 intro W5 b6 a5
 let B2:List Value:=[jV 0,jV 0]
 refine zV (cs:=B2) Z Z Z Z Z zd Z a5 ?_
 intro W9 ah aQ
 refine zV (cs:=B2) Z Z Z Z Z zd Z aQ ?_
 intro aF ai aR
 refine eN (zL (zx zt [2,3,1,2,0,0] (.fl 1 (.fl 2 (.fx 0 (.fx 3 gAj .stop) .stop))) (by kernel_rfl) ?_))
 have an:=aR.drew
 generalize hw_W18:({ aF with drawn:=aF.drawn + 1 }:World)=aK at an ⊢
 refine oR Z (zF Z Z zk Z zC) (oL Z (an.ldB (j:=2) Z Z Z zG (v:=jV p1.Index) Z) (bnK hm fun aH aO a6=>zD 0 Z Z Z Z (zE Z Z yk zM Z) an (fun hs=>wCM aK φ hs aO) (.inr Z) ?_))
 rintro aJ a8 bj aG bh aS ⟨rfl,rfl⟩
 have aT:sW w φ aJ [.blk ai 123 B2,.blk ah 123 B2,.blk b6 93 B1,.blk b2 27 B0] aG:=aS
 refine bnK a6 fun aI aP a7=>zD 0 Z Z Z Z (zE Z Z Tryz.call70 (zB Z zM) Z) aT (fun hs=>wDU p1.Index aG aJ hs aP) (.inr Z) ?_
 rintro am a9 bm aL bi aV ⟨rfl,rfl⟩
 have aW:sW w φ am [.blk ai 123 B2,.blk ah 123 B2,.blk b6 93 B1,.blk b2 27 B0] aL:=aV
 let B3:List Value:=[jV aH.skier,jV aH.mat]
 refine zX (j:=1) (vs:=B3) Z Z Z Z aW Z Z Z Z zH (zA Z) Z Z Z ?_
 intro aM aX
 have aY:sW w φ am [.blk ai 123 B2,.blk ah 123 B3,.blk b6 93 B1,.blk b2 27 B0] aM:=aX
 let B4:List Value:=[jV aI.skier,jV aI.mat]
 refine zX (j:=0) (vs:=B4) Z Z Z Z aY Z Z Z Z zH (zA Z) Z Z Z ?_
 intro aN aZ
 have ao:sW w φ am [.blk ai 123 B4,.blk ah 123 B3,.blk b6 93 B1,.blk b2 27 B0] aN:=aZ
 refine eN (zO ?_)
 cases a7
 exact ⟨rfl,_,(wEk (rs:=[.cell 4 123,.cell 5 123]) (vs:=[.agg B3.toArray,.agg B4.toArray]) ⟨⟨_,rfl,(wBQ zl zH (ao.blkAt (k:=1) rfl) (vs:=B3) rfl rfl)⟩,⟨⟨_,rfl,(wBQ zl zH (ao.blkAt (k:=0) rfl) (vs:=B4) rfl rfl)⟩,trivial⟩⟩ rfl),am,_,(ao.pick [] _ (by decide) rfl),rfl,rfl⟩
theorem wIC (O:wAA) (ag:Option Addr) (aj:Nat) (ah:Option Addr) (ak:Nat) (ae:Option Addr) (af:Nat) (ai:Option Addr) (am:Nat) (p1:wAC) (w:World) (φ:PHeap) (hS:St0 w φ []) (aL:Sl φ 1 ag aj O.Starts.length (hD KL.encI O.Starts)) (aM:Sl φ 2 ah ak O.Splits.length (hD wAD O.Splits)) (ao:Sl φ 3 ae af O.Clocks.length (hD wAF O.Clocks)) (aN:Sl φ 4 ai am O.Readings.length (hD wAB O.Readings)) {r:Int × Int} (hm:wEU O p1=some r):Gv Tryz.prog 141 [.agg #[.slice ag O.Starts.length aj,.slice ah O.Splits.length ak,.slice ae O.Clocks.length af,.slice ai O.Readings.length am],.agg #[jV p1.Kind,jV p1.Skier,jV p1.Index,.bool p1.Up]] w (wCG w [] φ (fun φ_ L_ v=>v=.tuple #[jV r.1,jV r.2]/\L_=[])):=by
 unfold wEU at hm
 refine Gv.of Tryz.func141 rfl Tryz.ntmps141 Tryz.results141 rfl (sR gBf rfl (zn (cs:=[.slice ag O.Starts.length aj,.slice ah O.Splits.length ak,.slice ae O.Clocks.length af,.slice ai O.Readings.length am]) rfl rfl rfl rfl rfl rfl (by rfl) hS ?_))
 intro W1 b2 ay
 refine zn (cs:=[jV p1.Kind,jV p1.Skier,jV p1.Index,.bool p1.Up]) rfl rfl rfl rfl rfl rfl (by rfl) ay ?_
 intro W5 b6 az
 refine yP rfl rfl rfl rfl rfl rfl (yP rfl rfl rfl rfl rfl rfl (eN (zL (zx zt [3,1,3,1,3,3,3,1,3,3,1,3,1,3,3,3,1,3,3] fL19 (by kernel_rfl) ?_))))
 have ab:=az.drew
 generalize hw_W10:({ W5 with drawn:=W5.drawn + 1 }:World)=aG at ab ⊢
 refine oR Z (zF Z Z zT Z yQ) (oL Z (ab.ldB (j:=1) Z Z Z yZ (v:=.slice ae O.Clocks.length af) Z) (oR Z (zF Z Z zk Z zC) (oL Z (ab.ldB (j:=0) Z Z Z zG (v:=jV p1.Index) Z) (bnK hm fun ap ac aE=>?_))))
 have q:=ao.el (fun _=>rfl) (wAe ac)
 obtain ⟨aH,aO,aq,av⟩:=q
 refine oR Z (ZM Z Z aq Z Ze yE (wBV ac) (wBb ac)) (oR Z (zF Z Z yr Z zz) (oR Z (zF Z Z ZT Z zC) (oL Z (ab.ldC (f:=0) av (v:=jV ap.Offset.Lo) Z Z zG Z) (oR Z (YD Z Z) (oR Z (zF Z Z zT Z yQ) (oL Z (ab.ldB (j:=1) Z Z Z yZ (v:=.slice ae O.Clocks.length af) Z) (oR Z (zF Z Z zk Z zC) (oL Z (ab.ldB (j:=0) Z Z Z zG (v:=jV p1.Index) Z) ?_))))))))
 have q:=ao.el (fun _=>rfl) (wAe ac)
 obtain ⟨aI,aP,au,ax⟩:=q
 refine oR Z (ZM Z Z au Z Ze yE (wBV ac) (wBb ac)) (oR Z (zF Z Z yr Z zz) (oR Z (zF Z Z ZT Z zC) (oL Z (ab.ldC (f:=1) ax (v:=jV ap.Offset.Hi) Z Z zG Z) (oA Z Z (oA Z Z (eN (zO ?_)))))))
 cases aE
 exact ⟨rfl,_,(wDp rfl rfl),φ,_,(ab.pick [] _ (by decide) rfl),rfl,rfl⟩
end Go.Proofs.YtlnfbjphfoipaaaGreat
namespace Go.Proofs.YtlnfbjphfoipaaaGreat
open Go.KL
set_option maxHeartbeats 4000000
theorem wHZ (p0:wAA) (ag:Option Addr) (aj:Nat) (ah:Option Addr) (ak:Nat) (ai:Option Addr) (am:Nat) (ae:Option Addr) (af:Nat) (p1:wAC) (w:World) (φ:PHeap) (hS:St0 w φ []) (aL:Sl φ 1 ag aj p0.Starts.length (hD KL.encI p0.Starts)) (aM:Sl φ 2 ah ak p0.Splits.length (hD wAD p0.Splits)) (aN:Sl φ 3 ai am p0.Clocks.length (hD wAF p0.Clocks)) (aO:Sl φ 4 ae af p0.Readings.length (hD wAB p0.Readings)) {r:Bool} (hm:wDd p0 p1=some r):Gv Tryz.prog 142 [.agg #[.slice ag p0.Starts.length aj,.slice ah p0.Splits.length ak,.slice ai p0.Clocks.length am,.slice ae p0.Readings.length af],.agg #[jV p1.Kind,jV p1.Skier,jV p1.Index,.bool p1.Up]] w (wCG w [] φ (fun φ_ L_ v=>v=.bool r/\L_=[])):=by
 unfold wDd at hm
 refine Gv.of Tryz.func142 Z Tryz.ntmps142 Tryz.results142 Z (sR gAs Z ?_)
 let B0:List Value:=[.slice ag p0.Starts.length aj,.slice ah p0.Splits.length ak,.slice ai p0.Clocks.length am,.slice ae p0.Readings.length af]
 refine zn (cs:=B0) rfl rfl rfl rfl rfl rfl (by rfl) hS ?_
 intro W1 b2 aH
 let B1:List Value:=[jV p1.Kind,jV p1.Skier,jV p1.Index,.bool p1.Up]
 refine zn (cs:=B1) rfl rfl rfl rfl rfl rfl (by rfl) aH ?_
 intro W5 b6 ac
 refine oA Z Z (eN (sR (wLD gAx) Z (oR Z (zF Z Z zk Z zC) (oL Z (ac.ldB (j:=0) Z Z Z zG (v:=jV p1.Skier) Z) (oR Z (Zy Z Z Z) (oM Z Z ?_))))))
 by_cases O:p1.Skier=0
 have ap:=hm;rw [if_pos O] at ap;replace O:=zN O
 refine rU Z (wT Z O) (zF Z Z zk Z zC) (ZE Z Z Z (wT Z O) (ac.ldB (j:=0) Z Z Z zG (v:=jV p1.Index) Z) Z (rU Z (wT Z O) (zF Z Z zT Z Zr) (ZE Z Z Z (wT Z O) (ac.ldB (j:=1) Z Z Z yD (v:=.slice ae p0.Readings.length af) Z) Z (rU Z (wT Z O) (zi Z Z ZN) (rU Z (wT Z O) (yO Z Z Z) (bnK ap fun aR aE aI=>zD 0 Z Z Z (wT Z O) (zE Z Z yW (zB Z (zB Z (zB Z zM))) Z) ac (fun hs=>wCQ p1.Index 0 (w64 ((↑p0.Readings.length:Int) - 1)) W5 φ hs aE) (.inr Z) ?_))))))
 rintro au aJ aQ av aP aF ⟨rfl,rfl⟩
 have aG:sW w φ au [.blk b6 93 B1,.blk b2 27 B0] av:=aF
 refine oR Z (zR Z (Zd O.out) Z) (oA Z Z (eN (zO ?_)))
 have hE:=hH aI;first | subst r | cases hE
 exact ⟨rfl,_,(ZA rfl),au,_,(aG.pick [] _ (by decide) rfl),rfl,rfl⟩
 have aq:=hm;rw [if_neg O] at aq;replace O:=zN O
 refine oF Z O (oF Z O (oF Z O (oF Z O (oF Z O (oF Z O (ZC Z Z Z (zP Z Z (zu O.out) Z) (oR Z (zW Z (zu O.out) Z) (oA Z Z (eN (zO ?_))))))))))
 have hE:=hH aq;first | subst r | cases hE
 exact ⟨rfl,_,(ZA rfl),φ,_,(ac.pick [] _ (by decide) rfl),rfl,rfl⟩
theorem wHa (p0:wAA) (aT:Option Addr) (aW:Nat) (aU:Option Addr) (aX:Nat) (aV:Option Addr) (aY:Nat) (aE:Option Addr) (aF:Nat) (p1:wAC) (w:World) (φ:PHeap) (hS:St0 w φ []) (fC:Sl φ 1 aT aW p0.Starts.length (hD KL.encI p0.Starts)) (fD:Sl φ 2 aU aX p0.Splits.length (hD wAD p0.Splits)) (fE:Sl φ 3 aV aY p0.Clocks.length (hD wAF p0.Clocks)) (ek:Sl φ 4 aE aF p0.Readings.length (hD wAB p0.Readings)) {r:wAH × wAH} (hm:wEG p0 p1=some r):Gv Tryz.prog 143 [.agg #[.slice aT p0.Starts.length aW,.slice aU p0.Splits.length aX,.slice aV p0.Clocks.length aY,.slice aE p0.Readings.length aF],.agg #[jV p1.Kind,jV p1.Skier,jV p1.Index,.bool p1.Up]] w (wCG w [] φ (fun φ_ L_ v=>v=.tuple #[.agg #[jV r.1.skier,jV r.1.mat],.agg #[jV r.2.skier,jV r.2.mat]]/\L_=[])):=by
 unfold wEG at hm
 refine Gv.of Tryz.func143 Z Tryz.ntmps143 Tryz.results143 Z (sR gBe Z ?_)
 let B0:List Value:=[.slice aT p0.Starts.length aW,.slice aU p0.Splits.length aX,.slice aV p0.Clocks.length aY,.slice aE p0.Readings.length aF]
 refine zn (cs:=B0) rfl rfl rfl rfl rfl rfl (by rfl) hS ?_
 intro W1 b2 dW
 let B1:List Value:=[jV p1.Kind,jV p1.Skier,jV p1.Index,.bool p1.Up]
 refine zn (cs:=B1) rfl rfl rfl rfl rfl rfl (by rfl) dW ?_
 intro W5 b6 ej
 let B2:List Value:=[jV 0,jV 0]
 refine zV (cs:=B2) Z Z Z Z Z zd Z ej ?_
 intro W9 ac dD
 refine zV (cs:=B2) Z Z Z Z Z zd Z dD ?_
 intro eV ae ax
 refine eN (sR (wGE gAm) Z (oR Z (zF Z Z zT Z Zr) (oL Z (ax.ldB (j:=3) Z Z Z yD (v:=.slice aE p0.Readings.length aF) Z) (oR Z (zF Z Z zk Z zC) (oL Z (ax.ldB (j:=2) Z Z Z zG (v:=jV p1.Index) Z) (bnK hm fun aa aP en=>?_))))))
 have q:=ek.el (fun _=>rfl) (wAe aP)
 obtain ⟨fj,fH,dB,dC⟩:=q
 refine oR Z (ZM Z Z dB Z ZN Zb (wBV aP) (wBb aP)) (oL Z (ax.ldCA (f:=0) dC Z Z yf Zb (us:=[jV aa.Skier,jV aa.Mat,jV aa.Clock,jV aa.Time]) Z Z) (zV (cs:=[jV 0,jV 0,jV 0,jV 0]) Z Z Z Z Z yd Z ax ?_))
 intro e9 O dQ
 let B3:List Value:=[jV aa.Skier,jV aa.Mat,jV aa.Clock,jV aa.Time]
 refine zX (j:=0) (vs:=B3) Z Z Z Z dQ Z Z Z Z Zb (zA Z) Z Z Z ?_
 intro aH dV
 have dX:sW w φ φ [.blk O 115 B3,.blk ae 123 B2,.blk ac 123 B2,.blk b6 93 B1,.blk b2 27 B0] aH:=dV
 refine eN ?_
 have q:=bnd en
 obtain ⟨⟨eH,eI⟩,ep,bD⟩:=q
 try dsimp only at bD
 let B4:List Value:=[jV aa.Skier,jV aa.Mat]
 let B5:List Value:=[jV eH,jV eI]
 refine yX (fun σ_ w_=>∃ (φ_:PHeap),σ_ 4=.pointer (some ⟨ac,0,none⟩)/\σ_ 5=.pointer (some ⟨ae,0,none⟩)/\PHeap.Le φ φ_/\sW w φ φ_ [.blk O 115 B3,.blk ae 123 B4,.blk ac 123 B5,.blk b6 93 B1,.blk b2 27 B0] w_) ?_ ?_
 refine bnK ep fun bP av eo=>zx zt [3,1,2,3,2,3,2,3,0,0] (.fl 0 (.fl 1 (.fl 3 (.fl 5 (.fx 2 (.fx 4 gBm (.fx 6 gBn (.fx 8 (.fx 4 gAy (.fx 6 gAz .stop)) .stop))) (.fx 4 (.fx 2 gBm (.fx 6 gBh .stop)) (.fx 6 (.fx 2 gBn (.fx 4 gBh .stop)) .stop))))))) (by kernel_rfl) ?_
 have ao:=dX.drew
 generalize hw_W54:({ aH with drawn:=aH.drawn + 1 }:World)=aI at ao ⊢
 let B6:List Value:=[jV bP.skier,jV bP.mat]
 refine Zj (s:=.nil) (M:=fun σ_ w_=>∃ (φ_:PHeap),σ_ 4=.pointer (some ⟨ac,0,none⟩)/\σ_ 5=.pointer (some ⟨ae,0,none⟩)/\σ_ 6=.pointer (some ⟨O,0,none⟩)/\σ_ 13=.pointer (some ⟨O,2,none⟩)/\σ_ 14=jV aa.Clock/\σ_ 15=.agg B6.toArray/\σ_ 16=.pointer (some ⟨O,0,none⟩)/\σ_ 17=jV aa.Skier/\σ_ 18=.pointer (some ⟨O,1,none⟩)/\σ_ 19=jV aa.Mat/\σ_ 20=.agg B4.toArray/\PHeap.Le φ φ_/\sW w φ φ_ [.blk O 115 B3,.blk ae 123 B4,.blk ac 123 B6,.blk b6 93 B1,.blk b2 27 B0] w_) ?_ fun bE=>?_
 rintro fM eW ⟨eJ,cn,co,fk,fm,fq,ft,fu,fy,fz,fA,fB,eu,dE⟩
 refine zf ?_
 cases eo
 exact zJ ⟨Z,⟨eJ,cn,co,eu,dE⟩⟩
 refine Zj (s:=.fx 9 .nil .stop) (M:=fun σ_ w_=>∃ (φ_:PHeap),σ_ 4=.pointer (some ⟨ac,0,none⟩)/\σ_ 5=.pointer (some ⟨ae,0,none⟩)/\σ_ 6=.pointer (some ⟨O,0,none⟩)/\σ_ 13=.pointer (some ⟨O,2,none⟩)/\σ_ 14=jV aa.Clock/\σ_ 15=.agg B6.toArray/\σ_ 16=.pointer (some ⟨O,0,none⟩)/\σ_ 17=jV aa.Skier/\σ_ 18=.pointer (some ⟨O,1,none⟩)/\σ_ 19=jV aa.Mat/\σ_ 20=.agg B4.toArray/\PHeap.Le φ φ_/\sW w φ φ_ [.blk O 115 B3,.blk ae 123 B2,.blk ac 123 B6,.blk b6 93 B1,.blk b2 27 B0] w_) ?_ fun bF=>?_
 rintro fN eX ⟨bQ,cp,a6,cq,cr,ct,cu,cw,cx,cy,cz,a7,ew,dF⟩
 refine zX (j:=1) (vs:=B4) Z Z Z Z dF Z a6 a7 Z zH (zA Z) Z Z Z ?_
 intro bX dG
 have dH:sW w φ bQ [.blk O 115 B3,.blk ae 123 B4,.blk ac 123 B6,.blk b6 93 B1,.blk b2 27 B0] bX:=dG
 exact bE _ _ ⟨bQ,cp,a6,cq,cr,ct,cu,cw,cx,cy,cz,a7,ew,dH⟩
 refine Zj (s:=gAn) (M:=fun σ_ w_=>∃ (φ_:PHeap),σ_ 4=.pointer (some ⟨ac,0,none⟩)/\σ_ 5=.pointer (some ⟨ae,0,none⟩)/\σ_ 6=.pointer (some ⟨O,0,none⟩)/\σ_ 13=.pointer (some ⟨O,2,none⟩)/\σ_ 14=jV aa.Clock/\σ_ 15=.agg B6.toArray/\σ_ 16=.pointer (some ⟨O,0,none⟩)/\σ_ 17=jV aa.Skier/\σ_ 18=.pointer (some ⟨O,1,none⟩)/\σ_ 19=jV aa.Mat/\σ_ 20=.agg B4.toArray/\PHeap.Le φ φ_/\sW w φ φ_ [.blk O 115 B3,.blk ae 123 B2,.blk ac 123 B2,.blk b6 93 B1,.blk b2 27 B0] w_) ?_ fun er=>?_
 rintro fO eY ⟨bR,a8,cA,cC,cD,cE,a9,cG,cH,cI,cJ,cK,ey,dI⟩
 refine zX (j:=2) (vs:=B6) Z Z Z Z dI Z a8 a9 Z zH (zA Z) Z Z Z ?_
 intro bY dJ
 have dK:sW w φ bR [.blk O 115 B3,.blk ae 123 B2,.blk ac 123 B6,.blk b6 93 B1,.blk b2 27 B0] bY:=dJ
 exact bF _ _ ⟨bR,a8,cA,cC,cD,cE,a9,cG,cH,cI,cJ,cK,ey,dK⟩
 refine Zj (s:=gAo) (M:=fun σ_ w_=>∃ (φ_:PHeap),σ_ 4=.pointer (some ⟨ac,0,none⟩)/\σ_ 5=.pointer (some ⟨ae,0,none⟩)/\σ_ 6=.pointer (some ⟨O,0,none⟩)/\σ_ 13=.pointer (some ⟨O,2,none⟩)/\σ_ 14=jV aa.Clock/\σ_ 15=.agg B6.toArray/\σ_ 16=.pointer (some ⟨O,0,none⟩)/\σ_ 17=jV aa.Skier/\σ_ 18=.pointer (some ⟨O,1,none⟩)/\σ_ 19=jV aa.Mat/\PHeap.Le φ φ_/\sW w φ φ_ [.blk O 115 B3,.blk ae 123 B2,.blk ac 123 B6,.blk b6 93 B1,.blk b2 27 B0] w_) ?_ fun bG=>?_
 rintro fP eZ ⟨bS,cL,ba,cM,cN,cO,cP,cQ,bb,cR,bc,ez,dL⟩
 refine oR Z (ZB (pv:=[(0,jV aa.Skier),(1,jV aa.Mat)]) (z:=B2) (cs:=B4) Z (wAG bb (wAG bc wAR)) zd wBv Z Z) (zX (j:=1) (vs:=B4) Z Z Z Z dL Z ba Z Z zH (zA Z) Z Z Z ?_)
 intro bZ dM
 have dN:sW w φ bS [.blk O 115 B3,.blk ae 123 B4,.blk ac 123 B6,.blk b6 93 B1,.blk b2 27 B0] bZ:=dM
 exact bE _ _ ⟨bS,cL,ba,cM,cN,cO,cP,cQ,bb,cR,bc,Z,ez,dN⟩
 refine Zj (s:=gAz) (M:=fun σ_ w_=>∃ (φ_:PHeap),σ_ 4=.pointer (some ⟨ac,0,none⟩)/\σ_ 5=.pointer (some ⟨ae,0,none⟩)/\σ_ 6=.pointer (some ⟨O,0,none⟩)/\σ_ 13=.pointer (some ⟨O,2,none⟩)/\σ_ 14=jV aa.Clock/\σ_ 15=.agg B6.toArray/\σ_ 16=.pointer (some ⟨O,0,none⟩)/\σ_ 18=.pointer (some ⟨O,1,none⟩)/\σ_ 19=jV aa.Mat/\PHeap.Le φ φ_/\sW w φ φ_ [.blk O 115 B3,.blk ae 123 B2,.blk ac 123 B6,.blk b6 93 B1,.blk b2 27 B0] w_) ?_ fun bH=>?_
 rintro fQ e6 ⟨eK,cS,cU,cV,cW,cX,cY,bd,cZ,c6,eA,bB⟩
 exact Zh Z Z Z Z (bB.ldB (j:=0) Z Z bd zG (v:=jV aa.Skier) Z) (bG _ _ ⟨eK,cS,cU,cV,cW,cX,cY,bd,Z,cZ,c6,eA,bB⟩)
 refine Zj (s:=gAy) (M:=fun σ_ w_=>∃ (φ_:PHeap),σ_ 4=.pointer (some ⟨ac,0,none⟩)/\σ_ 5=.pointer (some ⟨ae,0,none⟩)/\σ_ 6=.pointer (some ⟨O,0,none⟩)/\σ_ 13=.pointer (some ⟨O,2,none⟩)/\σ_ 14=jV aa.Clock/\σ_ 15=.agg B6.toArray/\σ_ 16=.pointer (some ⟨O,0,none⟩)/\σ_ 17=jV aa.Skier/\σ_ 18=.pointer (some ⟨O,1,none⟩)/\PHeap.Le φ φ_/\sW w φ φ_ [.blk O 115 B3,.blk ae 123 B2,.blk ac 123 B6,.blk b6 93 B1,.blk b2 27 B0] w_) ?_ fun bI=>?_
 rintro fR e8 ⟨eL,da,db,dd,de,df,dg,dh,di,be,eB,bC⟩
 exact Zh Z Z Z Z (bC.ldB (j:=0) Z Z be zG (v:=jV aa.Mat) Z) (bG _ _ ⟨eL,da,db,dd,de,df,dg,dh,di,be,Z,eB,bC⟩)
 refine Zj (s:=.fl 7 gAn) (M:=fun σ_ w_=>∃ (φ_:PHeap),σ_ 4=.pointer (some ⟨ac,0,none⟩)/\σ_ 5=.pointer (some ⟨ae,0,none⟩)/\σ_ 6=.pointer (some ⟨O,0,none⟩)/\σ_ 13=.pointer (some ⟨O,2,none⟩)/\σ_ 14=jV aa.Clock/\σ_ 15=.agg B6.toArray/\σ_ 16=.pointer (some ⟨O,0,none⟩)/\σ_ 17=jV aa.Skier/\σ_ 18=.pointer (some ⟨O,1,none⟩)/\σ_ 19=jV aa.Mat/\PHeap.Le φ φ_/\sW w φ φ_ [.blk O 115 B3,.blk ae 123 B2,.blk ac 123 B2,.blk b6 93 B1,.blk b2 27 B0] w_) ?_ fun bJ=>?_
 rintro fS fb ⟨bT,bf,dk,dl,dm,dp,bg,dq,bh,dr,bi,eC,dO⟩
 refine oR Z (ZB (pv:=[(0,jV aa.Skier),(1,jV aa.Mat)]) (z:=B2) (cs:=B4) Z (wAG bh (wAG bi wAR)) zd wBv Z Z) (zX (j:=2) (vs:=B6) Z Z Z Z dO Z bf bg Z zH (zA Z) Z Z Z ?_)
 intro b5 dP
 have dR:sW w φ bT [.blk O 115 B3,.blk ae 123 B2,.blk ac 123 B6,.blk b6 93 B1,.blk b2 27 B0] b5:=dP
 exact bF _ _ ⟨bT,bf,dk,dl,dm,dp,bg,dq,bh,dr,bi,Z,eC,dR⟩
 refine Zj (s:=gBh) (M:=fun σ_ w_=>∃ (φ_:PHeap),σ_ 4=.pointer (some ⟨ac,0,none⟩)/\σ_ 5=.pointer (some ⟨ae,0,none⟩)/\σ_ 6=.pointer (some ⟨O,0,none⟩)/\σ_ 13=.pointer (some ⟨O,2,none⟩)/\σ_ 14=jV aa.Clock/\σ_ 16=.pointer (some ⟨O,0,none⟩)/\σ_ 17=jV aa.Skier/\σ_ 18=.pointer (some ⟨O,1,none⟩)/\σ_ 19=jV aa.Mat/\PHeap.Le φ φ_/\sW w φ φ_ [.blk O 115 B3,.blk ae 123 B2,.blk ac 123 B2,.blk b6 93 B1,.blk b2 27 B0] w_) ?_ fun bK=>?_
 rintro fT ca ⟨eM,dt,du,dv,dw,bj,dx,bm,dy,bn,eD,dS⟩
 refine oR Z (ZB (pv:=[(0,jV aa.Skier),(1,jV aa.Mat)]) (z:=B2) (cs:=B4) Z (wAG bm (wAG bn wAR)) zd wBv Z Z) (zD 0 Z Z Z Z (zE Z Z Tryz.call70 (zB bj zM) Z) dS (fun hs=>wDU aa.Clock ca eM hs av) (.inr Z) ?_)
 rintro bU eP fI cb eE dT ⟨rfl,rfl⟩
 have dU:sW w φ bU [.blk O 115 B3,.blk ae 123 B2,.blk ac 123 B2,.blk b6 93 B1,.blk b2 27 B0] cb:=dT
 exact er _ _ ⟨bU,dt,du,dv,dw,bj,Z,dx,bm,dy,bn,Z,(eD.trans eE),dU⟩
 refine Zj (s:=gBn) (M:=fun σ_ w_=>∃ (φ_:PHeap),σ_ 4=.pointer (some ⟨ac,0,none⟩)/\σ_ 5=.pointer (some ⟨ae,0,none⟩)/\σ_ 6=.pointer (some ⟨O,0,none⟩)/\σ_ 13=.pointer (some ⟨O,2,none⟩)/\σ_ 14=jV aa.Clock/\σ_ 15=.agg B6.toArray/\σ_ 16=.pointer (some ⟨O,0,none⟩)/\σ_ 18=.pointer (some ⟨O,1,none⟩)/\σ_ 19=jV aa.Mat/\PHeap.Le φ φ_/\sW w φ φ_ [.blk O 115 B3,.blk ae 123 B2,.blk ac 123 B2,.blk b6 93 B1,.blk b2 27 B0] w_) ?_ fun bL=>?_
 rintro fU fc ⟨aZ,aJ,bo,bp,bq,br,aK,aL,bs,bt,bN,aQ⟩
 refine ZJ ?_ ?_
 exact Zh Z Z Z Z (aQ.ldB (j:=0) Z Z aL zG (v:=jV aa.Skier) Z) (bJ _ _ ⟨aZ,aJ,bo,bp,bq,br,aK,aL,Z,bs,bt,bN,aQ⟩)
 refine zX (j:=2) (vs:=B6) Z Z Z Z aQ Z aJ aK Z zH (zA Z) Z Z Z ?_
 intro cc dY
 have dZ:sW w φ aZ [.blk O 115 B3,.blk ae 123 B2,.blk ac 123 B6,.blk b6 93 B1,.blk b2 27 B0] cc:=dY
 exact bH _ _ ⟨aZ,aJ,bo,bp,bq,br,aK,aL,bs,bt,bN,dZ⟩
 refine Zj (s:=gBm) (M:=fun σ_ w_=>∃ (φ_:PHeap),σ_ 4=.pointer (some ⟨ac,0,none⟩)/\σ_ 5=.pointer (some ⟨ae,0,none⟩)/\σ_ 6=.pointer (some ⟨O,0,none⟩)/\σ_ 13=.pointer (some ⟨O,2,none⟩)/\σ_ 14=jV aa.Clock/\σ_ 15=.agg B6.toArray/\σ_ 16=.pointer (some ⟨O,0,none⟩)/\σ_ 17=jV aa.Skier/\σ_ 18=.pointer (some ⟨O,1,none⟩)/\PHeap.Le φ φ_/\sW w φ φ_ [.blk O 115 B3,.blk ae 123 B2,.blk ac 123 B2,.blk b6 93 B1,.blk b2 27 B0] w_) ?_ fun bM=>?_
 rintro fV fd ⟨a5,aM,bu,bv,bw,bx,aN,bz,bA,aO,bO,aR⟩
 refine ZJ ?_ ?_
 exact Zh Z Z Z Z (aR.ldB (j:=0) Z Z aO zG (v:=jV aa.Mat) Z) (bJ _ _ ⟨a5,aM,bu,bv,bw,bx,aN,bz,bA,aO,Z,bO,aR⟩)
 refine zX (j:=2) (vs:=B6) Z Z Z Z aR Z aM aN Z zH (zA Z) Z Z Z ?_
 intro cd d4
 have d5:sW w φ a5 [.blk O 115 B3,.blk ae 123 B2,.blk ac 123 B6,.blk b6 93 B1,.blk b2 27 B0] cd:=d4
 exact bI _ _ ⟨a5,aM,bu,bv,bw,bx,aN,bz,bA,aO,bO,d5⟩
 refine oR Z (zF Z Z Zp Z zC) (oL Z (ao.ldB (j:=0) Z Z Z zG (v:=jV aa.Clock) Z) (oR Z (zF Z Z Zp Z zC) (oR Z (zF Z Z Zp Z zC) (ZJ ?_ ?_))))
 refine zD 0 Z Z Z Z (zE Z Z Tryz.call70 (zB Z zM) Z) ao (fun hs=>wDU aa.Clock aI φ hs av) (.inr Z) ?_
 rintro aq eQ fJ cf az d6 ⟨rfl,rfl⟩
 have au:sW w φ aq [.blk O 115 B3,.blk ae 123 B2,.blk ac 123 B2,.blk b6 93 B1,.blk b2 27 B0] cf:=d6
 refine ZJ ?_ ?_
 exact Zh Z Z Z Z (au.ldB (j:=0) Z Z Z zG (v:=jV aa.Skier) Z) (bM _ _ ⟨aq,Z,Z,Z,Z,Z,Z,Z,Z,Z,az,au⟩)
 refine ZJ ?_ ?_
 exact Zh Z Z Z Z (au.ldB (j:=0) Z Z Z zG (v:=jV aa.Mat) Z) (bL _ _ ⟨aq,Z,Z,Z,Z,Z,Z,Z,Z,Z,az,au⟩)
 refine zX (j:=2) (vs:=B6) Z Z Z Z au Z Z Z Z zH (zA Z) Z Z Z ?_
 intro cg d7
 have ay:sW w φ aq [.blk O 115 B3,.blk ae 123 B2,.blk ac 123 B6,.blk b6 93 B1,.blk b2 27 B0] cg:=d7
 refine ZJ ?_ ?_
 exact Zh Z Z Z Z (ay.ldB (j:=0) Z Z Z zG (v:=jV aa.Skier) Z) (bI _ _ ⟨aq,Z,Z,Z,Z,Z,Z,Z,Z,Z,az,ay⟩)
 exact Zh Z Z Z Z (ay.ldB (j:=0) Z Z Z zG (v:=jV aa.Mat) Z) (bH _ _ ⟨aq,Z,Z,Z,Z,Z,Z,Z,Z,Z,az,ay⟩)
 refine ZJ ?_ ?_
 refine Zh Z Z Z Z (ao.ldB (j:=0) Z Z Z zG (v:=jV aa.Skier) Z) (ZJ ?_ ?_)
 refine zD 0 Z Z Z Z (zE Z Z Tryz.call70 (zB Z zM) Z) ao (fun hs=>wDU aa.Clock aI φ hs av) (.inr Z) ?_
 rintro bV eR fK cj eF d8 ⟨rfl,rfl⟩
 have d9:sW w φ bV [.blk O 115 B3,.blk ae 123 B2,.blk ac 123 B2,.blk b6 93 B1,.blk b2 27 B0] cj:=d8
 exact bM _ _ ⟨bV,Z,Z,Z,Z,Z,Z,Z,Z,Z,eF,d9⟩
 exact Zh Z Z Z Z (ao.ldB (j:=0) Z Z Z zG (v:=jV aa.Mat) Z) (bK _ _ ⟨φ,Z,Z,Z,Z,Z,Z,Z,Z,Z,(zS _),ao⟩)
 refine Zh Z Z Z Z (ao.ldB (j:=0) Z Z Z zG (v:=jV aa.Mat) Z) (ZJ ?_ ?_)
 refine zD 0 Z Z Z Z (zE Z Z Tryz.call70 (zB Z zM) Z) ao (fun hs=>wDU aa.Clock aI φ hs av) (.inr Z) ?_
 rintro bW eS fL cm eG eg ⟨rfl,rfl⟩
 have eh:sW w φ bW [.blk O 115 B3,.blk ae 123 B2,.blk ac 123 B2,.blk b6 93 B1,.blk b2 27 B0] cm:=eg
 exact bL _ _ ⟨bW,Z,Z,Z,Z,Z,Z,Z,Z,Z,eG,eh⟩
 exact Zh Z Z Z Z (ao.ldB (j:=0) Z Z Z zG (v:=jV aa.Skier) Z) (bK _ _ ⟨φ,Z,Z,Z,Z,Z,Z,Z,Z,Z,(zS _),ao⟩)
 rintro fW ff ⟨eO,dz,dA,fG,aS⟩
 refine zO ?_
 cases bD
 exact ⟨rfl,_,(wEk (rs:=[.cell 4 123,.cell 5 123]) (vs:=[.agg B5.toArray,.agg B4.toArray]) ⟨⟨_,dz,(wBQ zl zH (aS.blkAt (k:=2) rfl) (vs:=B5) rfl rfl)⟩,⟨⟨_,dA,(wBQ zl zH (aS.blkAt (k:=1) rfl) (vs:=B4) rfl rfl)⟩,trivial⟩⟩ rfl),eO,_,(aS.pick [] _ (by decide) rfl),rfl,rfl⟩
theorem wHb (O:wAA) (an:Option Addr) (ap:Nat) (ao:Option Addr) (aq:Nat) (af:Option Addr) (ag:Nat) (ai:Option Addr) (aj:Nat) (p1:wAC) (w:World) (φ:PHeap) (hS:St0 w φ []) (a6:Sl φ 1 an ap O.Starts.length (hD KL.encI O.Starts)) (a7:Sl φ 2 ao aq O.Splits.length (hD wAD O.Splits)) (ay:Sl φ 3 af ag O.Clocks.length (hD wAF O.Clocks)) (aR:Sl φ 4 ai aj O.Readings.length (hD wAB O.Readings)) {r:Int × Int} (hm:wEH O p1=some r):Gv Tryz.prog 144 [.agg #[.slice an O.Starts.length ap,.slice ao O.Splits.length aq,.slice af O.Clocks.length ag,.slice ai O.Readings.length aj],.agg #[jV p1.Kind,jV p1.Skier,jV p1.Index,.bool p1.Up]] w (wCG w [] φ (fun φ_ L_ v=>v=.tuple #[jV r.1,jV r.2]/\L_=[])):=by
 unfold wEH at hm
 refine Gv.of Tryz.func144 Z Tryz.ntmps144 Tryz.results144 Z (sR gBf Z ?_)
 let B0:List Value:=[.slice an O.Starts.length ap,.slice ao O.Splits.length aq,.slice af O.Clocks.length ag,.slice ai O.Readings.length aj]
 refine zn (cs:=B0) rfl rfl rfl rfl rfl rfl (by rfl) hS ?_
 intro W1 b2 aQ
 let B1:List Value:=[jV p1.Kind,jV p1.Skier,jV p1.Index,.bool p1.Up]
 refine zn (cs:=B1) rfl rfl rfl rfl rfl rfl (by rfl) aQ ?_
 intro W5 b6 ah
 refine oA Z Z (oA Z Z (eN (sR (wGE gAm) Z (oR Z (zF Z Z zT Z Zr) (oL Z (ah.ldB (j:=1) Z Z Z yD (v:=.slice ai O.Readings.length aj) Z) (oR Z (zF Z Z zk Z zC) (oL Z (ah.ldB (j:=0) Z Z Z zG (v:=jV p1.Index) Z) (bnK hm fun x9 am aS=>?_))))))))
 have q:=aR.el (fun _=>rfl) (wAe am)
 obtain ⟨aY,a8,aH,aK⟩:=q
 refine oR Z (ZM Z Z aH Z ZN Zb (wBV am) (wBb am)) (oL Z (ah.ldCA (f:=0) aK Z Z yf Zb (us:=[jV x9.Skier,jV x9.Mat,jV x9.Clock,jV x9.Time]) Z Z) (zV (cs:=[jV 0,jV 0,jV 0,jV 0]) Z Z Z Z Z yd Z ah ?_))
 intro aV aE aN
 let B2:List Value:=[jV x9.Skier,jV x9.Mat,jV x9.Clock,jV x9.Time]
 refine zX (j:=0) (vs:=B2) Z Z Z Z aN Z Z Z Z Zb (zA Z) Z Z Z ?_
 intro ak aO
 have aP:sW w φ φ [.blk aE 115 B2,.blk b6 93 B1,.blk b2 27 B0] ak:=aO
 refine eN (zL (zx zt [3,1,3,1,3,1,3,3,1,3,3,1,3,1,3,3,1,3,1,3,3,3] fL22 (by kernel_rfl) ?_))
 have ab:=aP.drew
 generalize hw_W24:({ ak with drawn:=ak.drawn + 1 }:World)=aW at ab ⊢
 refine oR Z (zF Z Z Zp Z zC) (oL Z (ab.ldB (j:=0) Z Z Z zG (v:=jV x9.Time) Z) (oR Z (zF Z Z zT Z yQ) (oL Z (ab.ldB (j:=2) Z Z Z yZ (v:=.slice af O.Clocks.length ag) Z) (oR Z (zF Z Z Zp Z zC) (oL Z (ab.ldB (j:=0) Z Z Z zG (v:=jV x9.Clock) Z) (bnK aS fun az ae aT=>?_))))))
 have q:=ay.el (fun _=>rfl) (wAe ae)
 obtain ⟨aZ,a9,aI,aL⟩:=q
 refine oR Z (ZM Z Z aI Z Ze yE (wBV ae) (wBb ae)) (oR Z (zF Z Z yr Z zC) (oL Z (ab.ldC (f:=2) aL (v:=jV az.Error) Z Z zG Z) (oR Z (zh Z Z Z) (oR Z (zF Z Z zT Z yQ) (oL Z (ab.ldB (j:=2) Z Z Z yZ (v:=.slice af O.Clocks.length ag) Z) (oR Z (zF Z Z Zp Z zC) (oL Z (ab.ldB (j:=0) Z Z Z zG (v:=jV x9.Clock) Z) ?_)))))))
 have q:=ay.el (fun _=>rfl) (wAe ae)
 obtain ⟨a5,ba,aJ,aM⟩:=q
 refine oR Z (ZM Z Z aJ Z Ze yE (wBV ae) (wBb ae)) (oR Z (zF Z Z yr Z zC) (oL Z (ab.ldC (f:=2) aM (v:=jV az.Error) Z Z zG Z) (oR Z (zF Z Z Zp Z zC) (oL Z (ab.ldB (j:=0) Z Z Z zG (v:=jV x9.Time) Z) (oR Z (yO Z Z Z) (oA Z Z (oA Z Z (eN (zO ?_)))))))))
 cases aT
 exact ⟨rfl,_,(wDp rfl rfl),φ,_,(ab.pick [] _ (by decide) rfl),rfl,rfl⟩
theorem wBT  (w:World) (φ:PHeap) (hS:St0 w φ [])  {r:Unit} (hm:wAo =some r):Gv Tryz.prog 127 [] w (wCG w [] φ (fun φ_ L_ v=>v=.agg #[.func (.func 133) #[] #[],.func (.func 134) #[] #[],.func (.func 135) #[] #[],.func (.func 136) #[] #[],.func (.func 137) #[] #[],.func (.func 138) #[] #[],.func (.func 139) #[] #[],.func (.func 140) #[] #[],.func (.func 141) #[] #[],.func (.func 142) #[] #[],.func (.func 143) #[] #[],.func (.func 144) #[] #[]]/\L_=[])):=by
 unfold wAo at hm
 refine Gv.of Tryz.func127 Z Tryz.ntmps127 Tryz.results127 Z (sR (.fx 0 .nil .stop) Z ?_)
 let B0:List Value:=[.nilFunc,.nilFunc,.nilFunc,.nilFunc,.nilFunc,.nilFunc,.nilFunc,.nilFunc,.nilFunc,.nilFunc,.nilFunc,.nilFunc]
 refine zV (cs:=B0) Z Z Z Z Z Tryz.zeroValue201 Z hS ?_
 intro W1 b2 ak
 refine eN (sR (wGD (.fx 5 .nil .stop)) Z ?_)
 let B1:List Value:=[.nilFunc,.nilFunc,.nilFunc]
 let B2:List Value:=[.func (.func 133) #[] #[],.func (.func 134) #[] #[],.func (.func 135) #[] #[]]
 refine oR Z (ZB (pv:=[(0,.func (.func 133) #[] #[]),(1,.func (.func 134) #[] #[]),(2,.func (.func 135) #[] #[])]) (z:=B1) (cs:=B2) Z (wAG Z (wAG Z (wAG Z wAR))) yH wGf Z Z) ?_
 let B3:List Value:=[.func (.func 136) #[] #[],.func (.func 137) #[] #[],.func (.func 138) #[] #[]]
 refine oR Z (ZB (pv:=[(0,.func (.func 136) #[] #[]),(1,.func (.func 137) #[] #[]),(2,.func (.func 138) #[] #[])]) (z:=B1) (cs:=B3) Z (wAG Z (wAG Z (wAG Z wAR))) yH wGf Z Z) ?_
 let B4:List Value:=[.func (.func 139) #[] #[],.func (.func 140) #[] #[],.func (.func 141) #[] #[]]
 refine oR Z (ZB (pv:=[(0,.func (.func 139) #[] #[]),(1,.func (.func 140) #[] #[]),(2,.func (.func 141) #[] #[])]) (z:=B1) (cs:=B4) Z (wAG Z (wAG Z (wAG Z wAR))) yH wGf Z Z) ?_
 let B5:List Value:=[.func (.func 142) #[] #[],.func (.func 143) #[] #[],.func (.func 144) #[] #[]]
 refine oR Z (ZB (pv:=[(0,.func (.func 142) #[] #[]),(1,.func (.func 143) #[] #[]),(2,.func (.func 144) #[] #[])]) (z:=B1) (cs:=B5) Z (wAG Z (wAG Z (wAG Z wAR))) yH wGf Z Z) ?_
 let O:List Value:=[.func (.func 133) #[] #[],.func (.func 134) #[] #[],.func (.func 135) #[] #[],.func (.func 136) #[] #[],.func (.func 137) #[] #[],.func (.func 138) #[] #[],.func (.func 139) #[] #[],.func (.func 140) #[] #[],.func (.func 141) #[] #[],.func (.func 142) #[] #[],.func (.func 143) #[] #[],.func (.func 144) #[] #[]]
 refine oR Z (Runs.buildA (pv:=[(0,.agg B2.toArray),(1,.agg B3.toArray),(2,.agg B4.toArray),(3,.agg B5.toArray)]) (z:=B0) (cs:=O) Z (wAG Z (wAG Z (wAG Z (wAG Z wAR)))) Tryz.zeroValue201 Zu ZY Z Z) (zX (j:=0) (vs:=O) Z Z Z Z ak Z Z Z Z Tryz.sizeOf201 (zA Z) Z Z Z ?_)
 intro W5 am
 have ah:sW w φ φ [.blk b2 201 O] W5:=am
 refine eN (zO ?_)
 cases hm
 exact ⟨rfl,_,(wHW (v:=.agg O.toArray) ⟨⟨_,rfl,(wBQ Tryz.isAgg201 Tryz.sizeOf201 (ah.blkAt (k:=0) rfl) (vs:=O) rfl rfl)⟩,trivial⟩),φ,_,(ah.pick [] _ (by decide) rfl),rfl,rfl⟩
theorem wCN (p0:wAA) (aZ:Option Addr) (a8:Nat) (a5:Option Addr) (a9:Nat) (a6:Option Addr) (ba:Nat) (a7:Option Addr) (bb:Nat) (O:wAC) (w:World) (φ:PHeap) (hS:St0 w φ []) (bV:Sl φ 1 aZ a8 p0.Starts.length (hD KL.encI p0.Starts)) (bW:Sl φ 2 a5 a9 p0.Splits.length (hD wAD p0.Splits)) (bX:Sl φ 3 a6 ba p0.Clocks.length (hD wAF p0.Clocks)) (bY:Sl φ 4 a7 bb p0.Readings.length (hD wAB p0.Readings)) {r:wAH × wAH × Int} (hm:wBW p0 O=some r):Gv Tryz.prog 107 [.agg #[.slice aZ p0.Starts.length a8,.slice a5 p0.Splits.length a9,.slice a6 p0.Clocks.length ba,.slice a7 p0.Readings.length bb],.agg #[jV O.Kind,jV O.Skier,jV O.Index,.bool O.Up]] w (wCG w [] φ (fun φ_ L_ v=>v=.tuple #[.agg #[jV r.1.skier,jV r.1.mat],.agg #[jV r.2.1.skier,jV r.2.1.mat],jV r.2.2]/\L_=[])):=by
 unfold wBW at hm
 refine Gv.of Tryz.func107 Z Tryz.ntmps107 Tryz.results107 Z ?_
 by_cases c1:O.Kind=0
 have eS:=hm;rw [if_pos c1] at eS
 refine sR gBo Z ?_
 let B0:List Value:=[.slice aZ p0.Starts.length a8,.slice a5 p0.Splits.length a9,.slice a6 p0.Clocks.length ba,.slice a7 p0.Readings.length bb]
 refine zn (cs:=B0) rfl rfl rfl rfl rfl rfl (by rfl) hS ?_
 intro W6 b7 lS
 let B1:List Value:=[jV O.Kind,jV O.Skier,jV O.Index,.bool O.Up]
 refine zn (cs:=B1) rfl rfl rfl rfl rfl rfl (by rfl) lS ?_
 intro mO aJ iE
 let B2:List Value:=[jV 0,jV 0]
 refine zV (cs:=B2) Z Z Z Z Z zd Z iE ?_
 intro mQ ax iO
 refine zV (cs:=B2) Z Z Z Z Z zd Z iO ?_
 intro dz aE iV
 refine oA Z Z (eN ?_)
 have q:=bnd eS
 obtain ⟨⟨⟩,l4,eI⟩:=q
 try dsimp only at eI
 let B3:List Value:=[.func (.func 133) #[] #[],.func (.func 134) #[] #[],.func (.func 135) #[] #[]]
 refine yX (fun σ_ w_=>∃ (φ_:PHeap) (bd:Nat),σ_ 2=.pointer (some ⟨b7,0,none⟩)/\σ_ 3=.pointer (some ⟨aJ,0,none⟩)/\σ_ 4=.pointer (some ⟨ax,0,none⟩)/\σ_ 5=.pointer (some ⟨aE,0,none⟩)/\σ_ 7=.pointer (some ⟨bd,0,none⟩)/\PHeap.Le φ φ_/\sW w φ φ_ [.blk aE 123 B2,.blk ax 123 B2,.blk aJ 93 B1,.blk b7 27 B0,.blk bd 200 B3] w_) ?_ ?_
 have q:=bnd l4
 obtain ⟨⟨⟩,d5,de⟩:=q
 try dsimp only at de
 refine zx zt [2,3,1,3,2,0] gBt (by kernel_rfl) ?_
 have bP:=iV.drew
 generalize hw_W45:({ dz with drawn:=dz.drawn + 1 }:World)=fY at bP ⊢
 refine oR Z (zF Z Z zk Z yJ) (oL Z (bP.ldB (j:=2) Z Z Z yS (v:=jV O.Kind) Z) (ZJ ?_ ?_))
 refine zD 0 Z Z Z Z (zE Z Z ya zM Z) bP (fun hs=>wBT fY φ hs d5) (.inr Z) ?_
 rintro dt mF oE ga mc j7 ⟨rfl,rfl⟩
 have j8:sW w φ dt [.blk aE 123 B2,.blk ax 123 B2,.blk aJ 93 B1,.blk b7 27 B0] ga:=j7
 refine za rfl rfl rfl rfl (fun _=>(yz (i:=0) rfl rfl (congrArg (jV) c1) Zu ZY (by decide) (by decide) (wDi yg ZY rfl))) (zV (cs:=[.nilFunc,.nilFunc,.nilFunc]) rfl rfl rfl rfl rfl yH rfl j8 ?_)
 intro n3 dJ lh
 refine zX (j:=0) (vs:=B3) Z Z Z Z lh Z Z Z Z ZY (zA Z) Z Z Z ?_
 intro gq lm
 have lu:sW w φ dt [.blk dJ 200 B3,.blk aE 123 B2,.blk ax 123 B2,.blk aJ 93 B1,.blk b7 27 B0] gq:=lm
 refine zf ?_
 cases de
 exact zJ ⟨rfl,⟨dt,dJ,rfl,rfl,rfl,rfl,rfl,mc,(lu.pick [1,2,3,4,0] _ (by decide) rfl)⟩⟩
 refine zV (cs:=[.nilFunc,.nilFunc,.nilFunc]) Z Z Z Z Z yH Z bP ?_
 intro gx cK lG
 refine zD 0 Z Z Z Z (zE Z Z ya zM Z) lG (fun hs=>wBT gx φ hs d5) (.inr Z) ?_
 rintro dw mK oO gG mf lO ⟨rfl,rfl⟩
 have lP:sW w φ dw [.blk cK 200 [.nilFunc,.nilFunc,.nilFunc],.blk aE 123 B2,.blk ax 123 B2,.blk aJ 93 B1,.blk b7 27 B0] gG:=lO
 refine za rfl rfl rfl rfl (fun _=>(yz (i:=0) rfl rfl (congrArg (jV) c1) Zu ZY (by decide) (by decide) (wDi yg ZY rfl))) (zX (j:=0) (vs:=B3) rfl rfl rfl rfl lP rfl rfl rfl rfl ZY (zA rfl) rfl rfl rfl ?_)
 intro gH lQ
 have lR:sW w φ dw [.blk cK 200 B3,.blk aE 123 B2,.blk ax 123 B2,.blk aJ 93 B1,.blk b7 27 B0] gH:=lQ
 refine zf ?_
 cases de
 exact zJ ⟨rfl,⟨dw,cK,rfl,rfl,rfl,rfl,rfl,mf,(lR.pick [1,2,3,4,0] _ (by decide) rfl)⟩⟩
 rintro o0 gI ⟨ms,bd,dU,cS,bt,bp,dV,cg,bU⟩
 refine sR (wEF (.fx 4 (wMI gAn) .stop)) Z (oR Z (zF Z dV yB Z Tryz.sizeOf197) (oL Z (bU.ldB (j:=4) Z Z Z Tryz.isAgg197 (v:=.func (.func 134) #[] #[]) Z) (oL Z (bU.ldBA (j:=3) Z Z dU zo zZ (vs:=B0) Z Z) (oL Z (bU.ldBA (j:=2) Z Z cS Zs ZK (vs:=B1) Z Z) ?_))))
 have er:=bV.le cg
 have eu:=bW.le cg
 have ew:=bX.le cg
 have ey:=bY.le cg
 have q:=bnd eI
 obtain ⟨⟨cr,ct⟩,iy,eZ⟩:=q
 try dsimp only at eZ
 refine zD 0 Z Z Z Z (zE Z Z Tryz.call134 (zB Z (zB Z zM)) Z) bU (fun hs=>wHv p0 aZ a8 a5 a9 a6 ba a7 bb O gI ms hs er eu ew ey iy) (.inr Z) ?_
 rintro cy mN oQ gJ bZ iz ⟨rfl,rfl⟩
 have iA:sW w φ cy [.blk aE 123 B2,.blk ax 123 B2,.blk aJ 93 B1,.blk b7 27 B0,.blk bd 200 B3] gJ:=iz
 refine oM Z Z (oR Z (zU Z Z (v:=.agg #[jV cr.skier,jV cr.mat]) Z) (oR Z (zU Z Z (v:=.agg #[jV ct.skier,jV ct.mat]) Z) ?_))
 let B4:List Value:=[jV cr.skier,jV cr.mat]
 refine zX (j:=1) (vs:=B4) Z Z Z Z iA Z bt Z Z zH (zA Z) Z Z Z ?_
 intro fh iB
 have iC:sW w φ cy [.blk aE 123 B2,.blk ax 123 B4,.blk aJ 93 B1,.blk b7 27 B0,.blk bd 200 B3] fh:=iB
 let B5:List Value:=[jV ct.skier,jV ct.mat]
 refine zX (j:=0) (vs:=B5) Z Z Z Z iC Z bp Z Z zH (zA Z) Z Z Z ?_
 intro dx iD
 have bI:sW w φ cy [.blk aE 123 B5,.blk ax 123 B4,.blk aJ 93 B1,.blk b7 27 B0,.blk bd 200 B3] dx:=iD
 refine eN (sR (wEF (.fx 4 (wIs (.nil)) .stop)) Z (oR Z (zF Z dV yB Z Tryz.sizeOf198) (oL Z (bI.ldB (j:=4) Z Z Z Tryz.isAgg198 (v:=.func (.func 135) #[] #[]) Z) (oL Z (bI.ldBA (j:=3) Z Z dU zo zZ (vs:=B0) Z Z) (oL Z (bI.ldBA (j:=2) Z Z cS Zs ZK (vs:=B1) Z Z) ?_)))))
 have gX:=er.le bZ
 have gY:=eu.le bZ
 have gZ:=ew.le bZ
 have g7:=ey.le bZ
 have q:=bnd eZ
 obtain ⟨⟨dh,fc⟩,g8,eD⟩:=q
 try dsimp only at eD
 refine zD 0 Z Z Z Z (zE Z Z Tryz.call135 (zB Z (zB Z zM)) Z) bI (fun hs=>wHw p0 aZ a8 a5 a9 a6 ba a7 bb O dx cy hs gX gY gZ g7 g8) (.inr Z) ?_
 rintro bg mu ou cC oe iF ⟨rfl,rfl⟩
 have bz:sW w φ bg [.blk aE 123 B5,.blk ax 123 B4,.blk aJ 93 B1,.blk b7 27 B0,.blk bd 200 B3] cC:=iF
 refine oM Z Z (oR Z (zU Z Z (v:=jV dh) Z) (oR Z (zU Z Z (v:=jV fc) Z) (oA Z Z (oA Z Z (eN (zL (sR fL3 Z (oR Z (zF Z cS zk Z YB) (oL Z (bz.ldB (j:=2) Z Z Z YE (v:=.bool O.Up) Z) (oR Z (Zk Z Z) (eN (ifc eD ?_ ?_))))))))))))
 intro cL lT
 refine zj (nC cL.out) (kN ?_)
 have q:=bnd lT
 obtain ⟨⟨⟩,e6,eE⟩:=q
 try dsimp only at eE
 refine yX (fun σ_ w_=>∃ (φ_:PHeap),σ_ 4=.pointer (some ⟨ax,0,none⟩)/\σ_ 5=.pointer (some ⟨aE,0,none⟩)/\σ_ 6=jV dh/\PHeap.Le bg φ_/\sW w φ φ_ [.blk aE 123 B5,.blk ax 123 B4,.blk aJ 93 B1,.blk b7 27 B0,.blk bd 200 B3] w_) ?_ ?_
 refine zx zt [1,2,3,0,0,3] gBu (by kernel_rfl) ?_
 have bA:=bz.drew
 generalize hw_W136:({ cC with drawn:=cC.drawn + 1 }:World)=mP at bA ⊢
 refine oL Z (bA.ldBA (j:=1) Z Z bt zl zH (vs:=B4) Z Z) (oM Z Z (ZJ ?_ ?_))
 refine Zh Z Z Z Z (bA.ldBA (j:=0) Z Z bp zl zH (vs:=B5) Z Z) (zX (j:=1) (vs:=B4) Z Z Z Z bA Z bt Z Z zH (zA Z) Z Z Z ?_)
 intro fj iG
 have iH:sW w φ bg [.blk aE 123 B5,.blk ax 123 B4,.blk aJ 93 B1,.blk b7 27 B0,.blk bd 200 B3] fj:=iG
 refine zX (j:=0) (vs:=B5) Z Z Z Z iH Z bp Z Z zH (zA Z) Z Z Z ?_
 intro fk iI
 have iJ:sW w φ bg [.blk aE 123 B5,.blk ax 123 B4,.blk aJ 93 B1,.blk b7 27 B0,.blk bd 200 B3] fk:=iI
 refine oA Z Z (zf ?_)
 cases e6
 exact zJ ⟨Z,⟨bg,bt,bp,Z,(zS _),iJ⟩⟩
 refine zX (j:=1) (vs:=B4) Z Z Z Z bA Z bt Z Z zH (zA Z) Z Z Z ?_
 intro fm iK
 have ez:sW w φ bg [.blk aE 123 B5,.blk ax 123 B4,.blk aJ 93 B1,.blk b7 27 B0,.blk bd 200 B3] fm:=iK
 refine Zh Z Z Z Z (ez.ldBA (j:=0) Z Z bp zl zH (vs:=B5) Z Z) (zX (j:=0) (vs:=B5) Z Z Z Z ez Z bp Z Z zH (zA Z) Z Z Z ?_)
 intro fq iL
 have iM:sW w φ bg [.blk aE 123 B5,.blk ax 123 B4,.blk aJ 93 B1,.blk b7 27 B0,.blk bd 200 B3] fq:=iL
 refine oA Z Z (zf ?_)
 cases e6
 exact zJ ⟨Z,⟨bg,bt,bp,Z,(zS _),iM⟩⟩
 rintro oS mR ⟨mg,gL,gM,gN,og,cU⟩
 refine zO ?_
 cases eE
 exact ⟨rfl,_,(wEk (rs:=[.cell 4 123,.cell 5 123,.tmp 6]) (vs:=[.agg B4.toArray,.agg B5.toArray,jV dh]) ⟨⟨_,gL,(wBQ zl zH (cU.blkAt (k:=1) rfl) (vs:=B4) rfl rfl)⟩,⟨⟨_,gM,(wBQ zl zH (cU.blkAt (k:=0) rfl) (vs:=B5) rfl rfl)⟩,⟨gN,trivial⟩⟩⟩ rfl),mg,_,(cU.pick [] _ (by decide) rfl),rfl,rfl⟩
 intro cL lU
 refine ZD (nF (cL.out)) (sR (wDK gBa) Z (oL Z (bz.ldBA (j:=0) Z Z bp zl zH (vs:=B5) Z Z) (oL Z (bz.ldBA (j:=1) Z Z bt zl zH (vs:=B4) Z Z) (oM Z Z (zX (j:=1) (vs:=B5) Z Z Z Z bz Z bt Z Z zH (zA Z) Z Z Z ?_)))))
 intro ft iN
 have iP:sW w φ bg [.blk aE 123 B5,.blk ax 123 B5,.blk aJ 93 B1,.blk b7 27 B0,.blk bd 200 B3] ft:=iN
 refine zX (j:=0) (vs:=B4) Z Z Z Z iP Z bp Z Z zH (zA Z) Z Z Z ?_
 intro fu iQ
 have cV:sW w φ bg [.blk aE 123 B4,.blk ax 123 B5,.blk aJ 93 B1,.blk b7 27 B0,.blk bd 200 B3] fu:=iQ
 refine oA Z Z (eN (zO (zQ ?_)))
 cases lU
 exact ⟨rfl,_,(wEk (rs:=[.cell 4 123,.cell 5 123,.tmp 6]) (vs:=[.agg B5.toArray,.agg B4.toArray,jV fc]) ⟨⟨_,bt,(wBQ zl zH (cV.blkAt (k:=1) rfl) (vs:=B5) rfl rfl)⟩,⟨⟨_,bp,(wBQ zl zH (cV.blkAt (k:=0) rfl) (vs:=B4) rfl rfl)⟩,⟨rfl,trivial⟩⟩⟩ rfl),bg,_,(cV.pick [] _ (by decide) rfl),rfl,rfl⟩
 by_cases c2:O.Kind=1
 have eF:=hm;rw [if_neg c1,if_pos c2] at eF
 refine sR gBo Z ?_
 let B6:List Value:=[.slice aZ p0.Starts.length a8,.slice a5 p0.Splits.length a9,.slice a6 p0.Clocks.length ba,.slice a7 p0.Readings.length bb]
 refine zn (cs:=B6) rfl rfl rfl rfl rfl rfl (by rfl) hS ?_
 intro mS aK iR
 let B7:List Value:=[jV O.Kind,jV O.Skier,jV O.Index,.bool O.Up]
 refine zn (cs:=B7) rfl rfl rfl rfl rfl rfl (by rfl) iR ?_
 intro mT aL iS
 let B8:List Value:=[jV 0,jV 0]
 refine zV (cs:=B8) Z Z Z Z Z zd Z iS ?_
 intro mU ay iT
 refine zV (cs:=B8) Z Z Z Z Z zd Z iT ?_
 intro dy az iU
 refine oA Z Z (eN ?_)
 have q:=bnd eF
 obtain ⟨⟨⟩,l3,eG⟩:=q
 try dsimp only at eG
 let B9:List Value:=[.func (.func 136) #[] #[],.func (.func 137) #[] #[],.func (.func 138) #[] #[]]
 refine yX (fun σ_ w_=>∃ (φ_:PHeap) (bc:Nat),σ_ 2=.pointer (some ⟨aK,0,none⟩)/\σ_ 3=.pointer (some ⟨aL,0,none⟩)/\σ_ 4=.pointer (some ⟨ay,0,none⟩)/\σ_ 5=.pointer (some ⟨az,0,none⟩)/\σ_ 7=.pointer (some ⟨bc,0,none⟩)/\PHeap.Le φ φ_/\sW w φ φ_ [.blk az 123 B8,.blk ay 123 B8,.blk aL 93 B7,.blk aK 27 B6,.blk bc 200 B9] w_) ?_ ?_
 have q:=bnd l3
 obtain ⟨⟨⟩,dW,db⟩:=q
 try dsimp only at db
 refine zx zt [2,3,1,3,2,0] gBt (by kernel_rfl) ?_
 have bJ:=iU.drew
 generalize hw_W204:({ dy with drawn:=dy.drawn + 1 }:World)=fy at bJ ⊢
 refine oR Z (zF Z Z zk Z yJ) (oL Z (bJ.ldB (j:=2) Z Z Z yS (v:=jV O.Kind) Z) (ZJ ?_ ?_))
 refine zD 0 Z Z Z Z (zE Z Z ya zM Z) bJ (fun hs=>wBT fy φ hs dW) (.inr Z) ?_
 rintro dm mw ov fz l7 iW ⟨rfl,rfl⟩
 have iX:sW w φ dm [.blk az 123 B8,.blk ay 123 B8,.blk aL 93 B7,.blk aK 27 B6] fz:=iW
 refine za rfl rfl rfl rfl (fun _=>(yz (i:=1) rfl rfl (congrArg (jV) c2) Zu ZY (by decide) (by decide) (wDi yg ZY rfl))) (zV (cs:=[.nilFunc,.nilFunc,.nilFunc]) rfl rfl rfl rfl rfl yH rfl iX ?_)
 intro mV dG iY
 refine zX (j:=0) (vs:=B9) Z Z Z Z iY Z Z Z Z ZY (zA Z) Z Z Z ?_
 intro fA iZ
 have i4:sW w φ dm [.blk dG 200 B9,.blk az 123 B8,.blk ay 123 B8,.blk aL 93 B7,.blk aK 27 B6] fA:=iZ
 refine zf ?_
 cases db
 exact zJ ⟨rfl,⟨dm,dG,rfl,rfl,rfl,rfl,rfl,l7,(i4.pick [1,2,3,4,0] _ (by decide) rfl)⟩⟩
 refine zV (cs:=[.nilFunc,.nilFunc,.nilFunc]) Z Z Z Z Z yH Z bJ ?_
 intro fB cH i6
 refine zD 0 Z Z Z Z (zE Z Z ya zM Z) i6 (fun hs=>wBT fB φ hs dW) (.inr Z) ?_
 rintro dp my ow fC l8 i8 ⟨rfl,rfl⟩
 have i9:sW w φ dp [.blk cH 200 [.nilFunc,.nilFunc,.nilFunc],.blk az 123 B8,.blk ay 123 B8,.blk aL 93 B7,.blk aK 27 B6] fC:=i8
 refine za rfl rfl rfl rfl (fun _=>(yz (i:=1) rfl rfl (congrArg (jV) c2) Zu ZY (by decide) (by decide) (wDi yg ZY rfl))) (zX (j:=0) (vs:=B9) rfl rfl rfl rfl i9 rfl rfl rfl rfl ZY (zA rfl) rfl rfl rfl ?_)
 intro fD ja
 have jb:sW w φ dp [.blk cH 200 B9,.blk az 123 B8,.blk ay 123 B8,.blk aL 93 B7,.blk aK 27 B6] fD:=ja
 refine zf ?_
 cases db
 exact zJ ⟨rfl,⟨dp,cH,rfl,rfl,rfl,rfl,rfl,l8,(jb.pick [1,2,3,4,0] _ (by decide) rfl)⟩⟩
 rintro oU fE ⟨mh,bc,dO,cP,bq,bm,dP,b5,bK⟩
 refine sR (wEF (.fx 4 (wMI gAn) .stop)) Z (oR Z (zF Z dP yB Z Tryz.sizeOf197) (oL Z (bK.ldB (j:=4) Z Z Z Tryz.isAgg197 (v:=.func (.func 137) #[] #[]) Z) (oL Z (bK.ldBA (j:=3) Z Z dO zo zZ (vs:=B6) Z Z) (oL Z (bK.ldBA (j:=2) Z Z cP Zs ZK (vs:=B7) Z Z) ?_))))
 have dX:=bV.le b5
 have dY:=bW.le b5
 have dZ:=bX.le b5
 have d4:=bY.le b5
 have q:=bnd eG
 obtain ⟨⟨cj,cm⟩,g9,eH⟩:=q
 try dsimp only at eH
 refine zD 0 Z Z Z Z (zE Z Z Tryz.call137 (zB Z (zB Z zM)) Z) bK (fun hs=>wHy p0 aZ a8 a5 a9 a6 ba a7 bb O fE mh hs dX dY dZ d4 g9) (.inr Z) ?_
 rintro cu mz ox fG ca jc ⟨rfl,rfl⟩
 have jd:sW w φ cu [.blk az 123 B8,.blk ay 123 B8,.blk aL 93 B7,.blk aK 27 B6,.blk bc 200 B9] fG:=jc
 refine oM Z Z (oR Z (zU Z Z (v:=.agg #[jV cj.skier,jV cj.mat]) Z) (oR Z (zU Z Z (v:=.agg #[jV cm.skier,jV cm.mat]) Z) ?_))
 let ai:List Value:=[jV cj.skier,jV cj.mat]
 refine zX (j:=1) (vs:=ai) Z Z Z Z jd Z bq Z Z zH (zA Z) Z Z Z ?_
 intro fH je
 have jf:sW w φ cu [.blk az 123 B8,.blk ay 123 ai,.blk aL 93 B7,.blk aK 27 B6,.blk bc 200 B9] fH:=je
 let ab:List Value:=[jV cm.skier,jV cm.mat]
 refine zX (j:=0) (vs:=ab) Z Z Z Z jf Z bm Z Z zH (zA Z) Z Z Z ?_
 intro dA jg
 have bL:sW w φ cu [.blk az 123 ab,.blk ay 123 ai,.blk aL 93 B7,.blk aK 27 B6,.blk bc 200 B9] dA:=jg
 refine eN (sR (wEF (.fx 4 (wIs (.nil)) .stop)) Z (oR Z (zF Z dP yB Z Tryz.sizeOf198) (oL Z (bL.ldB (j:=4) Z Z Z Tryz.isAgg198 (v:=.func (.func 138) #[] #[]) Z) (oL Z (bL.ldBA (j:=3) Z Z dO zo zZ (vs:=B6) Z Z) (oL Z (bL.ldBA (j:=2) Z Z cP Zs ZK (vs:=B7) Z Z) ?_)))))
 have ib:=dX.le ca
 have ic:=dY.le ca
 have ie:=dZ.le ca
 have ig:=d4.le ca
 have q:=bnd eH
 obtain ⟨⟨di,fd⟩,ii,eJ⟩:=q
 try dsimp only at eJ
 refine zD 0 Z Z Z Z (zE Z Z Tryz.call138 (zB Z (zB Z zM)) Z) bL (fun hs=>wHz p0 aZ a8 a5 a9 a6 ba a7 bb O dA cu hs ib ic ie ig ii) (.inr Z) ?_
 rintro bh mA oy cD oh jh ⟨rfl,rfl⟩
 have bB:sW w φ bh [.blk az 123 ab,.blk ay 123 ai,.blk aL 93 B7,.blk aK 27 B6,.blk bc 200 B9] cD:=jh
 refine oM Z Z (oR Z (zU Z Z (v:=jV di) Z) (oR Z (zU Z Z (v:=jV fd) Z) (oA Z Z (oA Z Z (eN (zL (sR fL3 Z (oR Z (zF Z cP zk Z YB) (oL Z (bB.ldB (j:=2) Z Z Z YE (v:=.bool O.Up) Z) (oR Z (Zk Z Z) (eN (ifc eJ ?_ ?_))))))))))))
 intro cM lV
 refine zj (nC cM.out) (kN ?_)
 have q:=bnd lV
 obtain ⟨⟨⟩,e8,eK⟩:=q
 try dsimp only at eK
 refine yX (fun σ_ w_=>∃ (φ_:PHeap),σ_ 4=.pointer (some ⟨ay,0,none⟩)/\σ_ 5=.pointer (some ⟨az,0,none⟩)/\σ_ 6=jV di/\PHeap.Le bh φ_/\sW w φ φ_ [.blk az 123 ab,.blk ay 123 ai,.blk aL 93 B7,.blk aK 27 B6,.blk bc 200 B9] w_) ?_ ?_
 refine zx zt [1,2,3,0,0,3] gBu (by kernel_rfl) ?_
 have bC:=bB.drew
 generalize hw_W295:({ cD with drawn:=cD.drawn + 1 }:World)=mW at bC ⊢
 refine oL Z (bC.ldBA (j:=1) Z Z bq zl zH (vs:=ai) Z Z) (oM Z Z (ZJ ?_ ?_))
 refine Zh Z Z Z Z (bC.ldBA (j:=0) Z Z bm zl zH (vs:=ab) Z Z) (zX (j:=1) (vs:=ai) Z Z Z Z bC Z bq Z Z zH (zA Z) Z Z Z ?_)
 intro fI ji
 have jj:sW w φ bh [.blk az 123 ab,.blk ay 123 ai,.blk aL 93 B7,.blk aK 27 B6,.blk bc 200 B9] fI:=ji
 refine zX (j:=0) (vs:=ab) Z Z Z Z jj Z bm Z Z zH (zA Z) Z Z Z ?_
 intro fJ jk
 have jl:sW w φ bh [.blk az 123 ab,.blk ay 123 ai,.blk aL 93 B7,.blk aK 27 B6,.blk bc 200 B9] fJ:=jk
 refine oA Z Z (zf ?_)
 cases e8
 exact zJ ⟨Z,⟨bh,bq,bm,Z,(zS _),jl⟩⟩
 refine zX (j:=1) (vs:=ai) Z Z Z Z bC Z bq Z Z zH (zA Z) Z Z Z ?_
 intro fK jm
 have eA:sW w φ bh [.blk az 123 ab,.blk ay 123 ai,.blk aL 93 B7,.blk aK 27 B6,.blk bc 200 B9] fK:=jm
 refine Zh Z Z Z Z (eA.ldBA (j:=0) Z Z bm zl zH (vs:=ab) Z Z) (zX (j:=0) (vs:=ab) Z Z Z Z eA Z bm Z Z zH (zA Z) Z Z Z ?_)
 intro fL jo
 have jp:sW w φ bh [.blk az 123 ab,.blk ay 123 ai,.blk aL 93 B7,.blk aK 27 B6,.blk bc 200 B9] fL:=jo
 refine oA Z Z (zf ?_)
 cases e8
 exact zJ ⟨Z,⟨bh,bq,bm,Z,(zS _),jp⟩⟩
 rintro oV mX ⟨mi,gO,gP,gQ,oi,cW⟩
 refine zO ?_
 cases eK
 exact ⟨rfl,_,(wEk (rs:=[.cell 4 123,.cell 5 123,.tmp 6]) (vs:=[.agg ai.toArray,.agg ab.toArray,jV di]) ⟨⟨_,gO,(wBQ zl zH (cW.blkAt (k:=1) rfl) (vs:=ai) rfl rfl)⟩,⟨⟨_,gP,(wBQ zl zH (cW.blkAt (k:=0) rfl) (vs:=ab) rfl rfl)⟩,⟨gQ,trivial⟩⟩⟩ rfl),mi,_,(cW.pick [] _ (by decide) rfl),rfl,rfl⟩
 intro cM lW
 refine ZD (nF (cM.out)) (sR (wDK gBa) Z (oL Z (bB.ldBA (j:=0) Z Z bm zl zH (vs:=ab) Z Z) (oL Z (bB.ldBA (j:=1) Z Z bq zl zH (vs:=ai) Z Z) (oM Z Z (zX (j:=1) (vs:=ab) Z Z Z Z bB Z bq Z Z zH (zA Z) Z Z Z ?_)))))
 intro fM jq
 have jr:sW w φ bh [.blk az 123 ab,.blk ay 123 ab,.blk aL 93 B7,.blk aK 27 B6,.blk bc 200 B9] fM:=jq
 refine zX (j:=0) (vs:=ai) Z Z Z Z jr Z bm Z Z zH (zA Z) Z Z Z ?_
 intro fN jt
 have cX:sW w φ bh [.blk az 123 ai,.blk ay 123 ab,.blk aL 93 B7,.blk aK 27 B6,.blk bc 200 B9] fN:=jt
 refine oA Z Z (eN (zO (zQ ?_)))
 cases lW
 exact ⟨rfl,_,(wEk (rs:=[.cell 4 123,.cell 5 123,.tmp 6]) (vs:=[.agg ab.toArray,.agg ai.toArray,jV fd]) ⟨⟨_,bq,(wBQ zl zH (cX.blkAt (k:=1) rfl) (vs:=ab) rfl rfl)⟩,⟨⟨_,bm,(wBQ zl zH (cX.blkAt (k:=0) rfl) (vs:=ai) rfl rfl)⟩,⟨rfl,trivial⟩⟩⟩ rfl),bh,_,(cX.pick [] _ (by decide) rfl),rfl,rfl⟩
 by_cases c3:O.Kind=2
 have eL:=hm;rw [if_neg c1,if_neg c2,if_pos c3] at eL
 refine sR gBo Z ?_
 let aj:List Value:=[.slice aZ p0.Starts.length a8,.slice a5 p0.Splits.length a9,.slice a6 p0.Clocks.length ba,.slice a7 p0.Readings.length bb]
 refine zn (cs:=aj) rfl rfl rfl rfl rfl rfl (by rfl) hS ?_
 intro mY aM ju
 let ak:List Value:=[jV O.Kind,jV O.Skier,jV O.Index,.bool O.Up]
 refine zn (cs:=ak) rfl rfl rfl rfl rfl rfl (by rfl) ju ?_
 intro mZ aN jv
 let aV:List Value:=[jV 0,jV 0]
 refine zV (cs:=aV) Z Z Z Z Z zd Z jv ?_
 intro m0 aF jw
 refine zV (cs:=aV) Z Z Z Z Z zd Z jw ?_
 intro dB aG jx
 refine oA Z Z (eN ?_)
 have q:=bnd eL
 obtain ⟨⟨⟩,l5,eM⟩:=q
 try dsimp only at eM
 let aR:List Value:=[.func (.func 139) #[] #[],.func (.func 140) #[] #[],.func (.func 141) #[] #[]]
 refine yX (fun σ_ w_=>∃ (φ_:PHeap) (be:Nat),σ_ 2=.pointer (some ⟨aM,0,none⟩)/\σ_ 3=.pointer (some ⟨aN,0,none⟩)/\σ_ 4=.pointer (some ⟨aF,0,none⟩)/\σ_ 5=.pointer (some ⟨aG,0,none⟩)/\σ_ 7=.pointer (some ⟨be,0,none⟩)/\PHeap.Le φ φ_/\sW w φ φ_ [.blk aG 123 aV,.blk aF 123 aV,.blk aN 93 ak,.blk aM 27 aj,.blk be 200 aR] w_) ?_ ?_
 have q:=bnd l5
 obtain ⟨⟨⟩,d6,dd⟩:=q
 try dsimp only at dd
 refine zx zt [2,3,1,3,2,0] gBt (by kernel_rfl) ?_
 have bM:=jx.drew
 generalize hw_W363:({ dB with drawn:=dB.drawn + 1 }:World)=fO at bM ⊢
 refine oR Z (zF Z Z zk Z yJ) (oL Z (bM.ldB (j:=2) Z Z Z yS (v:=jV O.Kind) Z) (ZJ ?_ ?_))
 refine zD 0 Z Z Z Z (zE Z Z ya zM Z) bM (fun hs=>wBT fO φ hs d6) (.inr Z) ?_
 rintro dq mB oz fP ma jy ⟨rfl,rfl⟩
 have jz:sW w φ dq [.blk aG 123 aV,.blk aF 123 aV,.blk aN 93 ak,.blk aM 27 aj] fP:=jy
 refine za rfl rfl rfl rfl (fun _=>(yz (i:=2) rfl rfl (congrArg (jV) c3) Zu ZY (by decide) (by decide) (wDi yg ZY rfl))) (zV (cs:=[.nilFunc,.nilFunc,.nilFunc]) rfl rfl rfl rfl rfl yH rfl jz ?_)
 intro m4 dH jA
 refine zX (j:=0) (vs:=aR) Z Z Z Z jA Z Z Z Z ZY (zA Z) Z Z Z ?_
 intro fQ jB
 have jC:sW w φ dq [.blk dH 200 aR,.blk aG 123 aV,.blk aF 123 aV,.blk aN 93 ak,.blk aM 27 aj] fQ:=jB
 refine zf ?_
 cases dd
 exact zJ ⟨rfl,⟨dq,dH,rfl,rfl,rfl,rfl,rfl,ma,(jC.pick [1,2,3,4,0] _ (by decide) rfl)⟩⟩
 refine zV (cs:=[.nilFunc,.nilFunc,.nilFunc]) Z Z Z Z Z yH Z bM ?_
 intro fR cI jD
 refine zD 0 Z Z Z Z (zE Z Z ya zM Z) jD (fun hs=>wBT fR φ hs d6) (.inr Z) ?_
 rintro dr mC oB fS mb jE ⟨rfl,rfl⟩
 have jF:sW w φ dr [.blk cI 200 [.nilFunc,.nilFunc,.nilFunc],.blk aG 123 aV,.blk aF 123 aV,.blk aN 93 ak,.blk aM 27 aj] fS:=jE
 refine za rfl rfl rfl rfl (fun _=>(yz (i:=2) rfl rfl (congrArg (jV) c3) Zu ZY (by decide) (by decide) (wDi yg ZY rfl))) (zX (j:=0) (vs:=aR) rfl rfl rfl rfl jF rfl rfl rfl rfl ZY (zA rfl) rfl rfl rfl ?_)
 intro fT jG
 have jH:sW w φ dr [.blk cI 200 aR,.blk aG 123 aV,.blk aF 123 aV,.blk aN 93 ak,.blk aM 27 aj] fT:=jG
 refine zf ?_
 cases dd
 exact zJ ⟨rfl,⟨dr,cI,rfl,rfl,rfl,rfl,rfl,mb,(jH.pick [1,2,3,4,0] _ (by decide) rfl)⟩⟩
 rintro oW fU ⟨mj,be,dQ,cQ,br,bn,dR,cb,bN⟩
 refine sR (wEF (.fx 4 (wMI gAn) .stop)) Z (oR Z (zF Z dR yB Z Tryz.sizeOf197) (oL Z (bN.ldB (j:=4) Z Z Z Tryz.isAgg197 (v:=.func (.func 140) #[] #[]) Z) (oL Z (bN.ldBA (j:=3) Z Z dQ zo zZ (vs:=aj) Z Z) (oL Z (bN.ldBA (j:=2) Z Z cQ Zs ZK (vs:=ak) Z Z) ?_))))
 have d7:=bV.le cb
 have d8:=bW.le cb
 have d9:=bX.le cb
 have eg:=bY.le cb
 have q:=bnd eM
 obtain ⟨⟨cn,co⟩,ij,eO⟩:=q
 try dsimp only at eO
 refine zD 0 Z Z Z Z (zE Z Z Tryz.call140 (zB Z (zB Z zM)) Z) bN (fun hs=>wIB p0 aZ a8 a5 a9 a6 ba a7 bb O fU mj hs d7 d8 d9 eg ij) (.inr Z) ?_
 rintro cw mD oC fV cc jI ⟨rfl,rfl⟩
 have jJ:sW w φ cw [.blk aG 123 aV,.blk aF 123 aV,.blk aN 93 ak,.blk aM 27 aj,.blk be 200 aR] fV:=jI
 refine oM Z Z (oR Z (zU Z Z (v:=.agg #[jV cn.skier,jV cn.mat]) Z) (oR Z (zU Z Z (v:=.agg #[jV co.skier,jV co.mat]) Z) ?_))
 let am:List Value:=[jV cn.skier,jV cn.mat]
 refine zX (j:=1) (vs:=am) Z Z Z Z jJ Z br Z Z zH (zA Z) Z Z Z ?_
 intro fW jK
 have jL:sW w φ cw [.blk aG 123 aV,.blk aF 123 am,.blk aN 93 ak,.blk aM 27 aj,.blk be 200 aR] fW:=jK
 let ac:List Value:=[jV co.skier,jV co.mat]
 refine zX (j:=0) (vs:=ac) Z Z Z Z jL Z bn Z Z zH (zA Z) Z Z Z ?_
 intro dC jM
 have bO:sW w φ cw [.blk aG 123 ac,.blk aF 123 am,.blk aN 93 ak,.blk aM 27 aj,.blk be 200 aR] dC:=jM
 refine eN (sR (wEF (.fx 4 (wIs (.nil)) .stop)) Z (oR Z (zF Z dR yB Z Tryz.sizeOf198) (oL Z (bO.ldB (j:=4) Z Z Z Tryz.isAgg198 (v:=.func (.func 141) #[] #[]) Z) (oL Z (bO.ldBA (j:=3) Z Z dQ zo zZ (vs:=aj) Z Z) (oL Z (bO.ldBA (j:=2) Z Z cQ Zs ZK (vs:=ak) Z Z) ?_)))))
 have ik:=d7.le cc
 have il:=d8.le cc
 have im:=d9.le cc
 have io:=eg.le cc
 have q:=bnd eO
 obtain ⟨⟨dk,ff⟩,ip,eP⟩:=q
 try dsimp only at eP
 refine zD 0 Z Z Z Z (zE Z Z Tryz.call141 (zB Z (zB Z zM)) Z) bO (fun hs=>wIC p0 aZ a8 a5 a9 a6 ba a7 bb O dC cw hs ik il im io ip) (.inr Z) ?_
 rintro bi mE oD cE oj jN ⟨rfl,rfl⟩
 have bD:sW w φ bi [.blk aG 123 ac,.blk aF 123 am,.blk aN 93 ak,.blk aM 27 aj,.blk be 200 aR] cE:=jN
 refine oM Z Z (oR Z (zU Z Z (v:=jV dk) Z) (oR Z (zU Z Z (v:=jV ff) Z) (oA Z Z (oA Z Z (eN (zL (sR fL3 Z (oR Z (zF Z cQ zk Z YB) (oL Z (bD.ldB (j:=2) Z Z Z YE (v:=.bool O.Up) Z) (oR Z (Zk Z Z) (eN (ifc eP ?_ ?_))))))))))))
 intro cN lX
 refine zj (nC cN.out) (kN ?_)
 have q:=bnd lX
 obtain ⟨⟨⟩,e9,eQ⟩:=q
 try dsimp only at eQ
 refine yX (fun σ_ w_=>∃ (φ_:PHeap),σ_ 4=.pointer (some ⟨aF,0,none⟩)/\σ_ 5=.pointer (some ⟨aG,0,none⟩)/\σ_ 6=jV dk/\PHeap.Le bi φ_/\sW w φ φ_ [.blk aG 123 ac,.blk aF 123 am,.blk aN 93 ak,.blk aM 27 aj,.blk be 200 aR] w_) ?_ ?_
 refine zx zt [1,2,3,0,0,3] gBu (by kernel_rfl) ?_
 have bE:=bD.drew
 generalize hw_W454:({ cE with drawn:=cE.drawn + 1 }:World)=m5 at bE ⊢
 refine oL Z (bE.ldBA (j:=1) Z Z br zl zH (vs:=am) Z Z) (oM Z Z (ZJ ?_ ?_))
 refine Zh Z Z Z Z (bE.ldBA (j:=0) Z Z bn zl zH (vs:=ac) Z Z) (zX (j:=1) (vs:=am) Z Z Z Z bE Z br Z Z zH (zA Z) Z Z Z ?_)
 intro fZ jO
 have jP:sW w φ bi [.blk aG 123 ac,.blk aF 123 am,.blk aN 93 ak,.blk aM 27 aj,.blk be 200 aR] fZ:=jO
 refine zX (j:=0) (vs:=ac) Z Z Z Z jP Z bn Z Z zH (zA Z) Z Z Z ?_
 intro f4 jQ
 have jR:sW w φ bi [.blk aG 123 ac,.blk aF 123 am,.blk aN 93 ak,.blk aM 27 aj,.blk be 200 aR] f4:=jQ
 refine oA Z Z (zf ?_)
 cases e9
 exact zJ ⟨Z,⟨bi,br,bn,Z,(zS _),jR⟩⟩
 refine zX (j:=1) (vs:=am) Z Z Z Z bE Z br Z Z zH (zA Z) Z Z Z ?_
 intro f5 jS
 have eB:sW w φ bi [.blk aG 123 ac,.blk aF 123 am,.blk aN 93 ak,.blk aM 27 aj,.blk be 200 aR] f5:=jS
 refine Zh Z Z Z Z (eB.ldBA (j:=0) Z Z bn zl zH (vs:=ac) Z Z) (zX (j:=0) (vs:=ac) Z Z Z Z eB Z bn Z Z zH (zA Z) Z Z Z ?_)
 intro f6 jT
 have jU:sW w φ bi [.blk aG 123 ac,.blk aF 123 am,.blk aN 93 ak,.blk aM 27 aj,.blk be 200 aR] f6:=jT
 refine oA Z Z (zf ?_)
 cases e9
 exact zJ ⟨Z,⟨bi,br,bn,Z,(zS _),jU⟩⟩
 rintro oX m6 ⟨ml,gR,gS,gT,ol,cY⟩
 refine zO ?_
 cases eQ
 exact ⟨rfl,_,(wEk (rs:=[.cell 4 123,.cell 5 123,.tmp 6]) (vs:=[.agg am.toArray,.agg ac.toArray,jV dk]) ⟨⟨_,gR,(wBQ zl zH (cY.blkAt (k:=1) rfl) (vs:=am) rfl rfl)⟩,⟨⟨_,gS,(wBQ zl zH (cY.blkAt (k:=0) rfl) (vs:=ac) rfl rfl)⟩,⟨gT,trivial⟩⟩⟩ rfl),ml,_,(cY.pick [] _ (by decide) rfl),rfl,rfl⟩
 intro cN lY
 refine ZD (nF (cN.out)) (sR (wDK gBa) Z (oL Z (bD.ldBA (j:=0) Z Z bn zl zH (vs:=ac) Z Z) (oL Z (bD.ldBA (j:=1) Z Z br zl zH (vs:=am) Z Z) (oM Z Z (zX (j:=1) (vs:=ac) Z Z Z Z bD Z br Z Z zH (zA Z) Z Z Z ?_)))))
 intro f8 jW
 have jX:sW w φ bi [.blk aG 123 ac,.blk aF 123 ac,.blk aN 93 ak,.blk aM 27 aj,.blk be 200 aR] f8:=jW
 refine zX (j:=0) (vs:=am) Z Z Z Z jX Z bn Z Z zH (zA Z) Z Z Z ?_
 intro f9 jY
 have cZ:sW w φ bi [.blk aG 123 am,.blk aF 123 ac,.blk aN 93 ak,.blk aM 27 aj,.blk be 200 aR] f9:=jY
 refine oA Z Z (eN (zO (zQ ?_)))
 cases lY
 exact ⟨rfl,_,(wEk (rs:=[.cell 4 123,.cell 5 123,.tmp 6]) (vs:=[.agg ac.toArray,.agg am.toArray,jV ff]) ⟨⟨_,br,(wBQ zl zH (cZ.blkAt (k:=1) rfl) (vs:=ac) rfl rfl)⟩,⟨⟨_,bn,(wBQ zl zH (cZ.blkAt (k:=0) rfl) (vs:=am) rfl rfl)⟩,⟨rfl,trivial⟩⟩⟩ rfl),bi,_,(cZ.pick [] _ (by decide) rfl),rfl,rfl⟩
 by_cases c4:O.Kind=3
 have eR:=hm;rw [if_neg c1,if_neg c2,if_neg c3,if_pos c4] at eR
 refine sR gBo Z ?_
 let an:List Value:=[.slice aZ p0.Starts.length a8,.slice a5 p0.Splits.length a9,.slice a6 p0.Clocks.length ba,.slice a7 p0.Readings.length bb]
 refine zn (cs:=an) rfl rfl rfl rfl rfl rfl (by rfl) hS ?_
 intro m7 aO jZ
 let ao:List Value:=[jV O.Kind,jV O.Skier,jV O.Index,.bool O.Up]
 refine zn (cs:=ao) rfl rfl rfl rfl rfl rfl (by rfl) jZ ?_
 intro m8 aP j0
 let aX:List Value:=[jV 0,jV 0]
 refine zV (cs:=aX) Z Z Z Z Z zd Z j0 ?_
 intro m9 aH j5
 refine zV (cs:=aX) Z Z Z Z Z zd Z j5 ?_
 intro dD aI j6
 refine oA Z Z (eN ?_)
 have q:=bnd eR
 obtain ⟨⟨⟩,l6,eU⟩:=q
 try dsimp only at eU
 let aS:List Value:=[.func (.func 142) #[] #[],.func (.func 143) #[] #[],.func (.func 144) #[] #[]]
 refine yX (fun σ_ w_=>∃ (φ_:PHeap) (bf:Nat),σ_ 2=.pointer (some ⟨aO,0,none⟩)/\σ_ 3=.pointer (some ⟨aP,0,none⟩)/\σ_ 4=.pointer (some ⟨aH,0,none⟩)/\σ_ 5=.pointer (some ⟨aI,0,none⟩)/\σ_ 7=.pointer (some ⟨bf,0,none⟩)/\PHeap.Le φ φ_/\sW w φ φ_ [.blk aI 123 aX,.blk aH 123 aX,.blk aP 93 ao,.blk aO 27 an,.blk bf 200 aS] w_) ?_ ?_
 have q:=bnd l6
 obtain ⟨⟨⟩,eh,df⟩:=q
 try dsimp only at df
 refine zx zt [2,3,1,3,2,0] gBt (by kernel_rfl) ?_
 have bQ:=j6.drew
 generalize hw_W522:({ dD with drawn:=dD.drawn + 1 }:World)=ge at bQ ⊢
 refine oR Z (zF Z Z zk Z yJ) (oL Z (bQ.ldB (j:=2) Z Z Z yS (v:=jV O.Kind) Z) (ZJ ?_ ?_))
 refine zD 0 Z Z Z Z (zE Z Z ya zM Z) bQ (fun hs=>wBT ge φ hs eh) (.inr Z) ?_
 rintro du mG oG gg md j9 ⟨rfl,rfl⟩
 have k5:sW w φ du [.blk aI 123 aX,.blk aH 123 aX,.blk aP 93 ao,.blk aO 27 an] gg:=j9
 refine za rfl rfl rfl rfl (fun _=>(yz (i:=3) rfl rfl (congrArg (jV) c4) Zu ZY (by decide) (by decide) (wDi yg ZY rfl))) (zV (cs:=[.nilFunc,.nilFunc,.nilFunc]) rfl rfl rfl rfl rfl yH rfl k5 ?_)
 intro n4 dI k6
 refine zX (j:=0) (vs:=aS) Z Z Z Z k6 Z Z Z Z ZY (zA Z) Z Z Z ?_
 intro gh k7
 have k8:sW w φ du [.blk dI 200 aS,.blk aI 123 aX,.blk aH 123 aX,.blk aP 93 ao,.blk aO 27 an] gh:=k7
 refine zf ?_
 cases df
 exact zJ ⟨rfl,⟨du,dI,rfl,rfl,rfl,rfl,rfl,md,(k8.pick [1,2,3,4,0] _ (by decide) rfl)⟩⟩
 refine zV (cs:=[.nilFunc,.nilFunc,.nilFunc]) Z Z Z Z Z yH Z bQ ?_
 intro gi cJ lb
 refine zD 0 Z Z Z Z (zE Z Z ya zM Z) lb (fun hs=>wBT gi φ hs eh) (.inr Z) ?_
 rintro dv mH oH gj me lf ⟨rfl,rfl⟩
 have lg:sW w φ dv [.blk cJ 200 [.nilFunc,.nilFunc,.nilFunc],.blk aI 123 aX,.blk aH 123 aX,.blk aP 93 ao,.blk aO 27 an] gj:=lf
 refine za rfl rfl rfl rfl (fun _=>(yz (i:=3) rfl rfl (congrArg (jV) c4) Zu ZY (by decide) (by decide) (wDi yg ZY rfl))) (zX (j:=0) (vs:=aS) rfl rfl rfl rfl lg rfl rfl rfl rfl ZY (zA rfl) rfl rfl rfl ?_)
 intro gk li
 have lj:sW w φ dv [.blk cJ 200 aS,.blk aI 123 aX,.blk aH 123 aX,.blk aP 93 ao,.blk aO 27 an] gk:=li
 refine zf ?_
 cases df
 exact zJ ⟨rfl,⟨dv,cJ,rfl,rfl,rfl,rfl,rfl,me,(lj.pick [1,2,3,4,0] _ (by decide) rfl)⟩⟩
 rintro oY gp ⟨mo,bf,dS,cR,bs,bo,dT,cd,bR⟩
 refine sR (wEF (.fx 4 (wMI gAn) .stop)) Z (oR Z (zF Z dT yB Z Tryz.sizeOf197) (oL Z (bR.ldB (j:=4) Z Z Z Tryz.isAgg197 (v:=.func (.func 143) #[] #[]) Z) (oL Z (bR.ldBA (j:=3) Z Z dS zo zZ (vs:=an) Z Z) (oL Z (bR.ldBA (j:=2) Z Z cR Zs ZK (vs:=ao) Z Z) ?_))))
 have ej:=bV.le cd
 have ek:=bW.le cd
 have en:=bX.le cd
 have eo:=bY.le cd
 have q:=bnd eU
 obtain ⟨⟨cp,cq⟩,iq,eV⟩:=q
 try dsimp only at eV
 refine zD 0 Z Z Z Z (zE Z Z Tryz.call143 (zB Z (zB Z zM)) Z) bR (fun hs=>wHa p0 aZ a8 a5 a9 a6 ba a7 bb O gp mo hs ej ek en eo iq) (.inr Z) ?_
 rintro cx mI oI gt cf lk ⟨rfl,rfl⟩
 have ll:sW w φ cx [.blk aI 123 aX,.blk aH 123 aX,.blk aP 93 ao,.blk aO 27 an,.blk bf 200 aS] gt:=lk
 refine oM Z Z (oR Z (zU Z Z (v:=.agg #[jV cp.skier,jV cp.mat]) Z) (oR Z (zU Z Z (v:=.agg #[jV cq.skier,jV cq.mat]) Z) ?_))
 let ap:List Value:=[jV cp.skier,jV cp.mat]
 refine zX (j:=1) (vs:=ap) Z Z Z Z ll Z bs Z Z zH (zA Z) Z Z Z ?_
 intro gu ln
 have lp:sW w φ cx [.blk aI 123 aX,.blk aH 123 ap,.blk aP 93 ao,.blk aO 27 an,.blk bf 200 aS] gu:=ln
 let ae:List Value:=[jV cq.skier,jV cq.mat]
 refine zX (j:=0) (vs:=ae) Z Z Z Z lp Z bo Z Z zH (zA Z) Z Z Z ?_
 intro dE ls
 have bS:sW w φ cx [.blk aI 123 ae,.blk aH 123 ap,.blk aP 93 ao,.blk aO 27 an,.blk bf 200 aS] dE:=ls
 refine eN (sR (wEF (.fx 4 (wIs (.nil)) .stop)) Z (oR Z (zF Z dT yB Z Tryz.sizeOf198) (oL Z (bS.ldB (j:=4) Z Z Z Tryz.isAgg198 (v:=.func (.func 144) #[] #[]) Z) (oL Z (bS.ldBA (j:=3) Z Z dS zo zZ (vs:=an) Z Z) (oL Z (bS.ldBA (j:=2) Z Z cR Zs ZK (vs:=ao) Z Z) ?_)))))
 have ir:=ej.le cf
 have it:=ek.le cf
 have iu:=en.le cf
 have iv:=eo.le cf
 have q:=bnd eV
 obtain ⟨⟨dl,fg⟩,iw,eW⟩:=q
 try dsimp only at eW
 refine zD 0 Z Z Z Z (zE Z Z Tryz.call144 (zB Z (zB Z zM)) Z) bS (fun hs=>wHb p0 aZ a8 a5 a9 a6 ba a7 bb O dE cx hs ir it iu iv iw) (.inr Z) ?_
 rintro bj mJ oJ cG om lv ⟨rfl,rfl⟩
 have bF:sW w φ bj [.blk aI 123 ae,.blk aH 123 ap,.blk aP 93 ao,.blk aO 27 an,.blk bf 200 aS] cG:=lv
 refine oM Z Z (oR Z (zU Z Z (v:=jV dl) Z) (oR Z (zU Z Z (v:=jV fg) Z) (oA Z Z (oA Z Z (eN (zL (sR fL3 Z (oR Z (zF Z cR zk Z YB) (oL Z (bF.ldB (j:=2) Z Z Z YE (v:=.bool O.Up) Z) (oR Z (Zk Z Z) (eN (ifc eW ?_ ?_))))))))))))
 intro cO lZ
 refine zj (nC cO.out) (kN ?_)
 have q:=bnd lZ
 obtain ⟨⟨⟩,fb,eX⟩:=q
 try dsimp only at eX
 refine yX (fun σ_ w_=>∃ (φ_:PHeap),σ_ 4=.pointer (some ⟨aH,0,none⟩)/\σ_ 5=.pointer (some ⟨aI,0,none⟩)/\σ_ 6=jV dl/\PHeap.Le bj φ_/\sW w φ φ_ [.blk aI 123 ae,.blk aH 123 ap,.blk aP 93 ao,.blk aO 27 an,.blk bf 200 aS] w_) ?_ ?_
 refine zx zt [1,2,3,0,0,3] gBu (by kernel_rfl) ?_
 have bG:=bF.drew
 generalize hw_W613:({ cG with drawn:=cG.drawn + 1 }:World)=n6 at bG ⊢
 refine oL Z (bG.ldBA (j:=1) Z Z bs zl zH (vs:=ap) Z Z) (oM Z Z (ZJ ?_ ?_))
 refine Zh Z Z Z Z (bG.ldBA (j:=0) Z Z bo zl zH (vs:=ae) Z Z) (zX (j:=1) (vs:=ap) Z Z Z Z bG Z bs Z Z zH (zA Z) Z Z Z ?_)
 intro gv lw
 have lx:sW w φ bj [.blk aI 123 ae,.blk aH 123 ap,.blk aP 93 ao,.blk aO 27 an,.blk bf 200 aS] gv:=lw
 refine zX (j:=0) (vs:=ae) Z Z Z Z lx Z bo Z Z zH (zA Z) Z Z Z ?_
 intro gw ly
 have lz:sW w φ bj [.blk aI 123 ae,.blk aH 123 ap,.blk aP 93 ao,.blk aO 27 an,.blk bf 200 aS] gw:=ly
 refine oA Z Z (zf ?_)
 cases fb
 exact zJ ⟨Z,⟨bj,bs,bo,Z,(zS _),lz⟩⟩
 refine zX (j:=1) (vs:=ap) Z Z Z Z bG Z bs Z Z zH (zA Z) Z Z Z ?_
 intro gy lA
 have eC:sW w φ bj [.blk aI 123 ae,.blk aH 123 ap,.blk aP 93 ao,.blk aO 27 an,.blk bf 200 aS] gy:=lA
 refine Zh Z Z Z Z (eC.ldBA (j:=0) Z Z bo zl zH (vs:=ae) Z Z) (zX (j:=0) (vs:=ae) Z Z Z Z eC Z bo Z Z zH (zA Z) Z Z Z ?_)
 intro gz lB
 have lC:sW w φ bj [.blk aI 123 ae,.blk aH 123 ap,.blk aP 93 ao,.blk aO 27 an,.blk bf 200 aS] gz:=lB
 refine oA Z Z (zf ?_)
 cases fb
 exact zJ ⟨Z,⟨bj,bs,bo,Z,(zS _),lC⟩⟩
 rintro oZ n7 ⟨mp,gU,gV,gW,oo,c6⟩
 refine zO ?_
 cases eX
 exact ⟨rfl,_,(wEk (rs:=[.cell 4 123,.cell 5 123,.tmp 6]) (vs:=[.agg ap.toArray,.agg ae.toArray,jV dl]) ⟨⟨_,gU,(wBQ zl zH (c6.blkAt (k:=1) rfl) (vs:=ap) rfl rfl)⟩,⟨⟨_,gV,(wBQ zl zH (c6.blkAt (k:=0) rfl) (vs:=ae) rfl rfl)⟩,⟨gW,trivial⟩⟩⟩ rfl),mp,_,(c6.pick [] _ (by decide) rfl),rfl,rfl⟩
 intro cO l0
 refine ZD (nF (cO.out)) (sR (wDK gBa) Z (oL Z (bF.ldBA (j:=0) Z Z bo zl zH (vs:=ae) Z Z) (oL Z (bF.ldBA (j:=1) Z Z bs zl zH (vs:=ap) Z Z) (oM Z Z (zX (j:=1) (vs:=ae) Z Z Z Z bF Z bs Z Z zH (zA Z) Z Z Z ?_)))))
 intro gA lD
 have lE:sW w φ bj [.blk aI 123 ae,.blk aH 123 ae,.blk aP 93 ao,.blk aO 27 an,.blk bf 200 aS] gA:=lD
 refine zX (j:=0) (vs:=ap) Z Z Z Z lE Z bo Z Z zH (zA Z) Z Z Z ?_
 intro gB lF
 have da:sW w φ bj [.blk aI 123 ap,.blk aH 123 ae,.blk aP 93 ao,.blk aO 27 an,.blk bf 200 aS] gB:=lF
 refine oA Z Z (eN (zO (zQ ?_)))
 cases l0
 exact ⟨rfl,_,(wEk (rs:=[.cell 4 123,.cell 5 123,.tmp 6]) (vs:=[.agg ae.toArray,.agg ap.toArray,jV fg]) ⟨⟨_,bs,(wBQ zl zH (da.blkAt (k:=1) rfl) (vs:=ae) rfl rfl)⟩,⟨⟨_,bo,(wBQ zl zH (da.blkAt (k:=0) rfl) (vs:=ap) rfl rfl)⟩,⟨rfl,trivial⟩⟩⟩ rfl),bj,_,(da.pick [] _ (by decide) rfl),rfl,rfl⟩
 have eY:=hm;rw [if_neg c1,if_neg c2,if_neg c3,if_neg c4] at eY
 refine sR gBo Z ?_
 let cz:List Value:=[.slice aZ p0.Starts.length a8,.slice a5 p0.Splits.length a9,.slice a6 p0.Clocks.length ba,.slice a7 p0.Readings.length bb]
 refine zn (cs:=cz) rfl rfl rfl rfl rfl rfl (by rfl) hS ?_
 intro n8 dK lH
 let cA:List Value:=[jV O.Kind,jV O.Skier,jV O.Index,.bool O.Up]
 refine zn (cs:=cA) rfl rfl rfl rfl rfl rfl (by rfl) lH ?_
 intro n9 dL lI
 let bv:List Value:=[jV 0,jV 0]
 refine zV (cs:=bv) Z Z Z Z Z zd Z lI ?_
 intro oa dM lJ
 refine zV (cs:=bv) Z Z Z Z Z zd Z lJ ?_
 intro dF dN lK
 refine oA Z Z (eN (zL ?_))
 have q:=bnd eY
 obtain ⟨⟨⟩,ep,dg⟩:=q
 try dsimp only at dg
 refine zx zt [2,3,1,3,2,0] gBt (by kernel_rfl) ?_
 have bT:=lK.drew
 generalize hw_W669:({ dF with drawn:=dF.drawn + 1 }:World)=gC at bT ⊢
 refine oR Z (zF Z Z zk Z yJ) (oL Z (bT.ldB (j:=2) Z Z Z yS (v:=jV O.Kind) Z) (ZJ ?_ ?_))
 refine zD 0 Z Z Z Z (zE Z Z ya zM Z) bT (fun hs=>wBT gC φ hs ep) (.inr Z) ?_
 rintro mq mL oK gD oq lL ⟨rfl,rfl⟩
 have oc:sW w φ mq [.blk dN 123 bv,.blk dM 123 bv,.blk dL 93 cA,.blk dK 27 cz] gD:=lL
 cases dg
 refine zV (cs:=[.nilFunc,.nilFunc,.nilFunc]) Z Z Z Z Z yH Z bT ?_
 intro gE gK lM
 refine zD 0 Z Z Z Z (zE Z Z ya zM Z) lM (fun hs=>wBT gE φ hs ep) (.inr Z) ?_
 rintro mr mM oP gF ot lN ⟨rfl,rfl⟩
 have od:sW w φ mr [.blk gK 200 [.nilFunc,.nilFunc,.nilFunc],.blk dN 123 bv,.blk dM 123 bv,.blk dL 93 cA,.blk dK 27 cz] gF:=lN
 cases dg
end Go.Proofs.YtlnfbjphfoipaaaGreat
namespace Go.Proofs.YtlnfbjphfoipaaaGreat
open Go.KL
set_option maxHeartbeats 4000000
theorem wGg (O:wAA) (af:Option Addr) (aj:Nat) (ag:Option Addr) (ak:Nat) (ah:Option Addr) (am:Nat) (ai:Option Addr) (an:Nat) (w:World) (φ:PHeap) (hS:St0 w φ []) (py:Sl φ 1 af aj O.Starts.length (hD KL.encI O.Starts)) (pz:Sl φ 2 ag ak O.Splits.length (hD wAD O.Splits)) (pC:Sl φ 3 ah am O.Clocks.length (hD wAF O.Clocks)) (pD:Sl φ 4 ai an O.Readings.length (hD wAB O.Readings)) {r:wAg} (hm:wDk O=some r):Gv Tryz.prog 124 [.agg #[.slice af O.Starts.length aj,.slice ag O.Splits.length ak,.slice ah O.Clocks.length am,.slice ai O.Readings.length an]] w (wCG w [] φ (fun φ_ L_ v=>∃ (b0:Nat) (A0p00:Option Addr) (c0p00:Nat) (A0p01:Option Addr) (c0p01:Nat) (A0p02:Option Addr) (c0p02:Nat) (A0p03:Option Addr) (c0p03:Nat) (m0p1:Nat) (es0p1:Array MapEntry) (ck0p1:Nat) (A0p2:Option Addr) (c0p2:Nat),v=.pointer (some ⟨b0,0,none⟩)/\L_=[.blk b0 139 [.slice A0p00 r.Race.Starts.length c0p00,.slice A0p01 r.Race.Splits.length c0p01,.slice A0p02 r.Race.Clocks.length c0p02,.slice A0p03 r.Race.Readings.length c0p03,.map (some m0p1),.slice A0p2 r.edges.length c0p2],.obj m0p1 (.map es0p1 ck0p1),.row A0p2 c0p2 184 7 (hD wAP r.edges)]/\Sl φ_ 1 A0p00 c0p00 r.Race.Starts.length (hD KL.encI r.Race.Starts)/\Sl φ_ 2 A0p01 c0p01 r.Race.Splits.length (hD wAD r.Race.Splits)/\Sl φ_ 3 A0p02 c0p02 r.Race.Clocks.length (hD wAF r.Race.Clocks)/\Sl φ_ 4 A0p03 c0p03 r.Race.Readings.length (hD wAB r.Race.Readings)/\MpR es0p1 wBU wBc r.number)):=by
 unfold wDk at hm
 refine Go.KX.Gv.ofM Tryz.func124 Z Tryz.ntmps124 Tryz.results124 (zA Z) (sR gAf Z ?_)
 let B0:List Value:=[.slice af O.Starts.length aj,.slice ag O.Splits.length ak,.slice ah O.Clocks.length am,.slice ai O.Readings.length an]
 refine zn (cs:=B0) rfl rfl rfl rfl rfl rfl (by rfl) hS ?_
 intro W1 b2 oz
 refine oA Z Z (eN (bnK hm fun ib pZ pH=>yX (fun σ_ w_=>∃ (φ_:PHeap) (b6:Nat) (b8:Nat) (ae:Nat) (bK:Array MapEntry) (cx:Nat),σ_ 1=.pointer (some ⟨b2,0,none⟩)/\σ_ 3=.pointer (some ⟨b6,0,none⟩)/\PHeap.Le φ φ_/\sW w φ φ_ [.blk b2 27 B0,.blk b6 118 [.pointer (some ⟨b8,0,none⟩)],.blk b8 139 [.slice af O.Starts.length aj,.slice ag O.Splits.length ak,.slice ah O.Clocks.length am,.slice ai O.Readings.length an,.map (some ae),.slice none 0 0],.obj ae (.map bK cx)] w_/\MpR bK wBU wBc ib) ?_ ?_))
 refine bnK pZ fun ac aW pM=>zx zt [2,2,2,0,3,3,2,2,0] (.fx 0 (.fx 1 gBy (.fx 2 gBz (.fx 7 gCa .stop))) (.fx 1 (.fx 0 gBy (.fx 2 gCd (.fx 7 gCb .stop))) (.fx 2 (.fx 0 gBz (.fx 1 gCd (.fx 7 gCc .stop))) (.fx 7 (.fx 0 gCa (.fx 1 gCb (.fx 2 gCc .stop))) .stop)))) (by kernel_rfl) ?_
 have aY:=oz.drew
 generalize hw_W51:({ W1 with drawn:=W1.drawn + 1 }:World)=eW at aY ⊢
 refine Zj (s:=.nil) (M:=fun σ_ w_=>∃ (φ_:PHeap) (cd:Nat) (bz:Nat) (a5:Nat) (cI:Array MapEntry) (dA:Nat),σ_ 1=.pointer (some ⟨b2,0,none⟩)/\σ_ 3=.pointer (some ⟨cd,0,none⟩)/\σ_ 12=.agg B0.toArray/\σ_ 13=.map (some a5)/\σ_ 14=.agg #[jV ac.skier,jV ac.mat]/\σ_ 15=.map (some a5)/\σ_ 16=.agg #[.slice af O.Starts.length aj,.slice ag O.Splits.length ak,.slice ah O.Clocks.length am,.slice ai O.Readings.length an,.map (some a5),.slice none 0 0]/\σ_ 17=.pointer (some ⟨bz,0,none⟩)/\PHeap.Le φ φ_/\sW w φ φ_ [.blk b2 27 B0,.blk cd 118 [.pointer (some ⟨bz,0,none⟩)],.blk bz 139 [.slice af O.Starts.length aj,.slice ag O.Splits.length ak,.slice ah O.Clocks.length am,.slice ai O.Readings.length an,.map (some a5),.slice none 0 0],.obj a5 (.map cI dA)] w_/\MpR cI wBU wBc (wGu ([]:List (wAH × Int)) ac 0)) ?_ fun p7=>?_
 rintro sJ rq ⟨qB,cd,bz,a5,cI,dA,k7,k8,sa,sb,sc,sd,se,sf,qj,oB,mh⟩
 refine zf ?_
 cases pM
 exact zJ ⟨Z,⟨qB,cd,bz,a5,cI,dA,k7,k8,qj,oB,mh⟩⟩
 refine Zj (s:=.fx 8 .nil .stop) (M:=fun σ_ w_=>∃ (φ_:PHeap) (bA:Nat) (aU:Nat) (bM:Array MapEntry) (cz:Nat) (bf:Nat),σ_ 1=.pointer (some ⟨b2,0,none⟩)/\σ_ 3=.pointer (some ⟨bA,0,none⟩)/\σ_ 12=.agg B0.toArray/\σ_ 13=.map (some aU)/\σ_ 14=.agg #[jV ac.skier,jV ac.mat]/\σ_ 15=.map (some aU)/\σ_ 16=.agg #[.slice af O.Starts.length aj,.slice ag O.Splits.length ak,.slice ah O.Clocks.length am,.slice ai O.Readings.length an,.map (some aU),.slice none 0 0]/\σ_ 17=.pointer (some ⟨bf,0,none⟩)/\PHeap.Le φ φ_/\sW w φ φ_ [.blk b2 27 B0,.blk bA 118 [.pointer none],.obj aU (.map bM cz),.blk bf 139 [.slice af O.Starts.length aj,.slice ag O.Splits.length ak,.slice ah O.Clocks.length am,.slice ai O.Readings.length an,.map (some aU),.slice none 0 0]] w_/\MpR bM wBU wBc (wGu ([]:List (wAH × Int)) ac 0)) ?_ fun db=>?_
 rintro sK rv ⟨iD,bA,aU,bM,cz,bf,lb,fK,lf,lg,lh,li,lj,fL,qk,oC,mi⟩
 let B1:List Value:=[.pointer (some ⟨bf,0,none⟩)]
 refine zX (j:=1) (vs:=B1) Z Z Z Z oC Z fK fL Z Tryz.sizeOf118 (zA Z) Z Z Z ?_
 intro jk oD
 have oE:sW w φ iD [.blk b2 27 B0,.blk bA 118 B1,.obj aU (.map bM cz),.blk bf 139 [.slice af O.Starts.length aj,.slice ag O.Splits.length ak,.slice ah O.Clocks.length am,.slice ai O.Readings.length an,.map (some aU),.slice none 0 0]] jk:=oD
 exact p7 _ _ ⟨iD,bA,bf,aU,bM,cz,lb,fK,lf,lg,lh,li,lj,fL,qk,(oE.pick [0,1,3,2] _ (by decide) rfl),mi⟩
 refine Zj (s:=gAr) (M:=fun σ_ w_=>∃ (φ_:PHeap) (cf:Nat) (a6:Nat) (cJ:Array MapEntry) (dB:Nat),σ_ 1=.pointer (some ⟨b2,0,none⟩)/\σ_ 3=.pointer (some ⟨cf,0,none⟩)/\σ_ 12=.agg B0.toArray/\σ_ 13=.map (some a6)/\σ_ 14=.agg #[jV ac.skier,jV ac.mat]/\σ_ 15=.map (some a6)/\σ_ 16=.agg #[.slice af O.Starts.length aj,.slice ag O.Splits.length ak,.slice ah O.Clocks.length am,.slice ai O.Readings.length an,.map (some a6),.slice none 0 0]/\PHeap.Le φ φ_/\sW w φ φ_ [.blk b2 27 B0,.blk cf 118 [.pointer none],.obj a6 (.map cJ dB)] w_/\MpR cJ wBU wBc (wGu ([]:List (wAH × Int)) ac 0)) ?_ fun gW=>?_
 rintro sL rx ⟨qC,cf,a6,cJ,dB,lk,ll,lm,ln,lp,ls,fM,qm,oG,mj⟩
 refine zn (cs:=[.slice af O.Starts.length aj,.slice ag O.Splits.length ak,.slice ah O.Clocks.length am,.slice ai O.Readings.length an,.map (some a6),.slice none 0 0]) rfl rfl rfl rfl rfl fM (by rfl) oG ?_
 intro ry jI oH
 exact db _ _ ⟨qC,cf,a6,cJ,dB,jI,lk,ll,lm,ln,lp,ls,fM,rfl,qm,(oH.pick [1,2,3,0] _ (by decide) rfl),mj⟩
 refine Zj (s:=gAq) (M:=fun σ_ w_=>∃ (φ_:PHeap) (a7:Nat) (cK:Array MapEntry) (dC:Nat) (cg:Nat),σ_ 1=.pointer (some ⟨b2,0,none⟩)/\σ_ 12=.agg B0.toArray/\σ_ 13=.map (some a7)/\σ_ 14=.agg #[jV ac.skier,jV ac.mat]/\σ_ 15=.map (some a7)/\σ_ 16=.agg #[.slice af O.Starts.length aj,.slice ag O.Splits.length ak,.slice ah O.Clocks.length am,.slice ai O.Readings.length an,.map (some a7),.slice none 0 0]/\σ_ 17=.pointer (some ⟨cg,0,none⟩)/\PHeap.Le φ φ_/\sW w φ φ_ [.blk b2 27 B0,.obj a7 (.map cK dC),.blk cg 139 [.slice af O.Starts.length aj,.slice ag O.Splits.length ak,.slice ah O.Clocks.length am,.slice ai O.Readings.length an,.map (some a7),.slice none 0 0]] w_/\MpR cK wBU wBc (wGu ([]:List (wAH × Int)) ac 0)) ?_ fun gX=>?_
 rintro sM rz ⟨qD,a7,cK,dC,cg,lu,lv,lw,lx,ly,lz,lA,qn,oI,ml⟩
 refine zV (cs:=[.pointer none]) Z Z Z Z Z yK Z oI ?_
 intro rA jJ oJ
 exact db _ _ ⟨qD,jJ,a7,cK,dC,cg,lu,rfl,lv,lw,lx,ly,lz,lA,qn,(oJ.pick [1,0,2,3] _ (by decide) rfl),ml⟩
 refine Zj (s:=.fl 5 gAr) (M:=fun σ_ w_=>∃ (φ_:PHeap) (cj:Nat) (a8:Nat) (cL:Array MapEntry) (dD:Nat),σ_ 1=.pointer (some ⟨b2,0,none⟩)/\σ_ 3=.pointer (some ⟨cj,0,none⟩)/\σ_ 12=.agg B0.toArray/\σ_ 13=.map (some a8)/\σ_ 14=.agg #[jV ac.skier,jV ac.mat]/\σ_ 15=.map (some a8)/\PHeap.Le φ φ_/\sW w φ φ_ [.blk b2 27 B0,.blk cj 118 [.pointer none],.obj a8 (.map cL dD)] w_/\MpR cL wBU wBc (wGu ([]:List (wAH × Int)) ac 0)) ?_ fun gY=>?_
 rintro sN rC ⟨qE,cj,a8,cL,dD,lB,lC,fN,lD,lE,fO,qo,oK,mo⟩
 let B2:List Value:=[.slice af O.Starts.length aj,.slice ag O.Splits.length ak,.slice ah O.Clocks.length am,.slice ai O.Readings.length an,.map (some a8),.slice none 0 0]
 refine za rfl rfl rfl rfl (fun _=>ZB (pv:=[(0,.agg B0.toArray),(1,.map (some a8))]) (z:=[.slice none 0 0,.slice none 0 0,.slice none 0 0,.slice none 0 0,.map none,.slice none 0 0]) (cs:=B2) rfl (wAG fN (wAG fO wAR)) Tryz.zeroValue139 wGe rfl rfl) (zn (cs:=B2) rfl rfl rfl rfl rfl rfl (by rfl) oK ?_)
 intro rD jK oO
 exact db _ _ ⟨qE,cj,a8,cL,dD,jK,lB,lC,fN,lD,lE,fO,rfl,rfl,qo,(oO.pick [1,2,3,0] _ (by decide) rfl),mo⟩
 refine Zj (s:=gBj) (M:=fun σ_ w_=>∃ (φ_:PHeap) (cm:Nat) (bB:Nat) (cM:Array MapEntry) (dE:Nat),σ_ 1=.pointer (some ⟨b2,0,none⟩)/\σ_ 3=.pointer (some ⟨cm,0,none⟩)/\σ_ 13=.map (some bB)/\σ_ 14=.agg #[jV ac.skier,jV ac.mat]/\σ_ 15=.map (some bB)/\PHeap.Le φ φ_/\sW w φ φ_ [.blk b2 27 B0,.blk cm 118 [.pointer none],.obj bB (.map cM dE)] w_/\MpR cM wBU wBc (wGu ([]:List (wAH × Int)) ac 0)) ?_ fun p8=>?_
 rintro sO rE ⟨qF,cm,bB,cM,dE,fP,lF,lG,lH,lI,qp,gJ,mp⟩
 exact Zh Z Z Z Z (gJ.ldBA (j:=0) Z Z fP zo zZ (vs:=B0) Z Z) (gY _ _ ⟨qF,cm,bB,cM,dE,fP,lF,Z,lG,lH,lI,qp,gJ,mp⟩)
 refine Zj (s:=gBp) (M:=fun σ_ w_=>∃ (φ_:PHeap) (aV:Nat) (bN:Array MapEntry) (cA:Nat),σ_ 1=.pointer (some ⟨b2,0,none⟩)/\σ_ 12=.agg B0.toArray/\σ_ 13=.map (some aV)/\σ_ 14=.agg #[jV ac.skier,jV ac.mat]/\σ_ 15=.map (some aV)/\PHeap.Le φ φ_/\sW w φ φ_ [.blk b2 27 B0,.obj aV (.map bN cA)] w_/\MpR bN wBU wBc (wGu ([]:List (wAH × Int)) ac 0)) ?_ fun p9=>?_
 rintro sP rF ⟨iE,aV,bN,cA,fQ,dL,fR,fS,dM,ii,gK,gx⟩
 let B3:List Value:=[.slice af O.Starts.length aj,.slice ag O.Splits.length ak,.slice ah O.Clocks.length am,.slice ai O.Readings.length an,.map (some aV),.slice none 0 0]
 refine oR Z (ZB (pv:=[(0,.agg B0.toArray),(1,.map (some aV))]) (z:=[.slice none 0 0,.slice none 0 0,.slice none 0 0,.slice none 0 0,.map none,.slice none 0 0]) (cs:=B3) Z (wAG dL (wAG dM wAR)) Tryz.zeroValue139 wGe Z Z) (ZJ ?_ ?_)
 refine zn (cs:=B3) rfl rfl rfl rfl rfl rfl (by rfl) gK ?_
 intro rG jL oP
 exact gX _ _ ⟨iE,aV,bN,cA,jL,fQ,dL,fR,fS,dM,rfl,rfl,ii,(oP.pick [1,2,0] _ (by decide) rfl),gx⟩
 refine zV (cs:=[.pointer none]) Z Z Z Z Z yK Z gK ?_
 intro rH jM oQ
 exact gW _ _ ⟨iE,jM,aV,bN,cA,fQ,rfl,dL,fR,fS,dM,rfl,ii,(oQ.pick [1,0,2] _ (by decide) rfl),gx⟩
 refine Zj (s:=gBi) (M:=fun σ_ w_=>∃ (φ_:PHeap) (cn:Nat) (bg:Nat) (cN:Array MapEntry) (dF:Nat),σ_ 1=.pointer (some ⟨b2,0,none⟩)/\σ_ 3=.pointer (some ⟨cn,0,none⟩)/\σ_ 12=.agg B0.toArray/\σ_ 13=.map (some bg)/\σ_ 14=.agg #[jV ac.skier,jV ac.mat]/\PHeap.Le φ φ_/\sW w φ φ_ [.blk b2 27 B0,.blk cn 118 [.pointer none],.obj bg (.map cN dF)] w_/\MpR cN wBU wBc (wGu ([]:List (wAH × Int)) ac 0)) ?_ fun qa=>?_
 rintro sQ rI ⟨qG,cn,bg,cN,dF,lJ,lK,fT,fU,lL,qq,oS,mq⟩
 refine oM Z fU ?_
 let B4:List Value:=[.slice af O.Starts.length aj,.slice ag O.Splits.length ak,.slice ah O.Clocks.length am,.slice ai O.Readings.length an,.map (some bg),.slice none 0 0]
 refine za rfl rfl rfl rfl (fun _=>ZB (pv:=[(0,.agg B0.toArray),(1,.map (some bg))]) (z:=[.slice none 0 0,.slice none 0 0,.slice none 0 0,.slice none 0 0,.map none,.slice none 0 0]) (cs:=B4) rfl (wAG fT (wAG rfl wAR)) Tryz.zeroValue139 wGe rfl rfl) (zn (cs:=B4) rfl rfl rfl rfl rfl rfl (by rfl) oS ?_)
 intro rJ jN oU
 exact db _ _ ⟨qG,cn,bg,cN,dF,jN,lJ,lK,fT,fU,lL,rfl,rfl,rfl,qq,(oU.pick [1,2,3,0] _ (by decide) rfl),mq⟩
 refine Zj (s:=.fl 4 gBj) (M:=fun σ_ w_=>∃ (φ_:PHeap) (co:Nat) (cp:Nat) (cO:Array MapEntry) (dG:Nat),σ_ 1=.pointer (some ⟨b2,0,none⟩)/\σ_ 3=.pointer (some ⟨co,0,none⟩)/\σ_ 13=.map (some cp)/\σ_ 14=.agg #[jV ac.skier,jV ac.mat]/\PHeap.Le φ φ_/\sW w φ φ_ [.blk b2 27 B0,.blk co 118 [.pointer none],.obj cp (.map cO dG)] w_/\MpR cO wBU wBc (wGu ([]:List (wAH × Int)) ac 0)) ?_ fun qb=>?_
 rintro sS rK ⟨qH,co,cp,cO,dG,fV,lM,fW,lN,qr,gL,mr⟩
 exact oM Z fW (Zh Z Z Z Z (gL.ldBA (j:=0) Z Z fV zo zZ (vs:=B0) Z Z) (gY _ _ ⟨qH,co,cp,cO,dG,fV,lM,Z,fW,lN,Z,qr,gL,mr⟩))
 refine Zj (s:=gBq) (M:=fun σ_ w_=>∃ (φ_:PHeap) (bC:Nat) (bD:Nat) (dJ:Array MapEntry) (e9:Nat),σ_ 1=.pointer (some ⟨b2,0,none⟩)/\σ_ 3=.pointer (some ⟨bC,0,none⟩)/\σ_ 12=.agg B0.toArray/\σ_ 13=.map (some bD)/\σ_ 14=.agg #[jV ac.skier,jV ac.mat]/\PHeap.Le φ φ_/\sW w φ φ_ [.blk b2 27 B0,.blk bC 118 [.pointer none],.obj bD (.map dJ e9)] w_/\MpR dJ wBU wBc ([]:List (wAH × Int))) ?_ fun dd=>?_
 rintro sT rL ⟨iF,bC,bD,dJ,e9,lO,lP,lQ,fY,fZ,qs,oV,ms⟩
 refine OKS.mapPut (x:=.tmp 13) (y:=.tmp 14) (j:=2) (mk:=wBU) (mv:=wBc) (a:=ac) (v:=0) rfl rfl rfl (by first | exact .inl rfl | exact .inr rfl) oV rfl fY fZ rfl (wBj ZS) wDF ms rfl ?_
 intro fh fb jl pS oW
 have oX:sW w φ iF [.blk b2 27 B0,.blk bC 118 [.pointer none],.obj bD (.map fh fb)] jl:=oW
 exact qa _ _ ⟨iF,bC,bD,fh,fb,lO,lP,lQ,fY,fZ,qs,oX,pS⟩
 refine Zj (s:=.fl 4 gBp) (M:=fun σ_ w_=>∃ (φ_:PHeap) (ba:Nat) (bO:Array MapEntry) (cC:Nat),σ_ 1=.pointer (some ⟨b2,0,none⟩)/\σ_ 12=.agg B0.toArray/\σ_ 13=.map (some ba)/\σ_ 14=.agg #[jV ac.skier,jV ac.mat]/\PHeap.Le φ φ_/\sW w φ φ_ [.blk b2 27 B0,.obj ba (.map bO cC)] w_/\MpR bO wBU wBc (wGu ([]:List (wAH × Int)) ac 0)) ?_ fun qc=>?_
 rintro sU rM ⟨iG,ba,bO,cC,f4,dN,dO,f5,ij,gM,gy⟩
 refine oM Z dO ?_
 let B5:List Value:=[.slice af O.Starts.length aj,.slice ag O.Splits.length ak,.slice ah O.Clocks.length am,.slice ai O.Readings.length an,.map (some ba),.slice none 0 0]
 refine oR Z (ZB (pv:=[(0,.agg B0.toArray),(1,.map (some ba))]) (z:=[.slice none 0 0,.slice none 0 0,.slice none 0 0,.slice none 0 0,.map none,.slice none 0 0]) (cs:=B5) Z (wAG dN (wAG Z wAR)) Tryz.zeroValue139 wGe Z Z) (ZJ ?_ ?_)
 refine zn (cs:=B5) rfl rfl rfl rfl rfl rfl (by rfl) gM ?_
 intro rN jO oY
 exact gX _ _ ⟨iG,ba,bO,cC,jO,f4,dN,dO,f5,rfl,rfl,rfl,ij,(oY.pick [1,2,0] _ (by decide) rfl),gy⟩
 refine zV (cs:=[.pointer none]) Z Z Z Z Z yK Z gM ?_
 intro rO jP oZ
 exact gW _ _ ⟨iG,jP,ba,bO,cC,f4,rfl,dN,dO,f5,rfl,rfl,ij,(oZ.pick [1,0,2] _ (by decide) rfl),gy⟩
 refine Zj (s:=gBx) (M:=fun σ_ w_=>∃ (φ_:PHeap) (bh:Nat) (bi:Nat) (cP:Array MapEntry) (dH:Nat),σ_ 1=.pointer (some ⟨b2,0,none⟩)/\σ_ 3=.pointer (some ⟨bh,0,none⟩)/\σ_ 13=.map (some bi)/\σ_ 14=.agg #[jV ac.skier,jV ac.mat]/\PHeap.Le φ φ_/\sW w φ φ_ [.blk b2 27 B0,.blk bh 118 [.pointer none],.obj bi (.map cP dH)] w_/\MpR cP wBU wBc ([]:List (wAH × Int))) ?_ fun ew=>?_
 rintro sV rP ⟨eF,bh,bi,cP,dH,dP,f6,dQ,dR,ik,eh,gz⟩
 refine ZJ ?_ ?_
 exact Zh Z Z Z Z (eh.ldBA (j:=0) Z Z dP zo zZ (vs:=B0) Z Z) (dd _ _ ⟨eF,bh,bi,cP,dH,dP,f6,Z,dQ,dR,ik,eh,gz⟩)
 refine OKS.mapPut (x:=.tmp 13) (y:=.tmp 14) (j:=2) (mk:=wBU) (mv:=wBc) (a:=ac) (v:=0) rfl rfl rfl (by first | exact .inl rfl | exact .inr rfl) eh rfl dQ dR rfl (wBj ZS) wDF gz rfl ?_
 intro fj fc jm pT o0
 have o3:sW w φ eF [.blk b2 27 B0,.blk bh 118 [.pointer none],.obj bi (.map fj fc)] jm:=o0
 exact qb _ _ ⟨eF,bh,bi,fj,fc,dP,f6,dQ,dR,ik,o3,pT⟩
 refine Zj (s:=gBw) (M:=fun σ_ w_=>∃ (φ_:PHeap) (bE:Nat) (bP:Array MapEntry) (cD:Nat),σ_ 1=.pointer (some ⟨b2,0,none⟩)/\σ_ 13=.map (some bE)/\σ_ 14=.agg #[jV ac.skier,jV ac.mat]/\PHeap.Le φ φ_/\sW w φ φ_ [.blk b2 27 B0,.obj bE (.map bP cD)] w_/\MpR bP wBU wBc (wGu ([]:List (wAH × Int)) ac 0)) ?_ fun qd=>?_
 rintro sX rQ ⟨iH,bE,bP,cD,dS,dT,f8,il,ej,gA⟩
 refine oM Z dT (ZJ ?_ ?_)
 exact Zh Z Z Z Z (ej.ldBA (j:=0) Z Z dS zo zZ (vs:=B0) Z Z) (p9 _ _ ⟨iH,bE,bP,cD,dS,Z,dT,f8,Z,il,ej,gA⟩)
 refine zV (cs:=[.pointer none]) Z Z Z Z Z yK Z ej ?_
 intro rS jQ o5
 exact p8 _ _ ⟨iH,jQ,bE,bP,cD,dS,rfl,dT,f8,rfl,il,(o5.pick [1,0,2] _ (by decide) rfl),gA⟩
 refine Zj (s:=gBs) (M:=fun σ_ w_=>∃ (φ_:PHeap) (cq:Nat),σ_ 1=.pointer (some ⟨b2,0,none⟩)/\σ_ 3=.pointer (some ⟨cq,0,none⟩)/\σ_ 12=.agg B0.toArray/\σ_ 14=.agg #[jV ac.skier,jV ac.mat]/\PHeap.Le φ φ_/\sW w φ φ_ [.blk b2 27 B0,.blk cq 118 [.pointer none]] w_) ?_ fun ey=>?_
 rintro sY rT ⟨qI,cq,lR,lS,lT,lU,qt,o6⟩
 refine OKS.makeMap Z Z Z Z Z o6 ?_
 intro rV jR o7
 have pU:=MpR.nil wBU wBc
 exact dd _ _ ⟨qI,cq,jR,#[],0,lR,lS,lT,rfl,lU,qt,(o7.pick [1,2,0] _ (by decide) rfl),pU⟩
 refine Zj (s:=gBr) (M:=fun σ_ w_=>∃ (φ_:PHeap) (bF:Nat) (bG:Nat) (bQ:Array MapEntry) (cE:Nat),σ_ 1=.pointer (some ⟨b2,0,none⟩)/\σ_ 3=.pointer (some ⟨bF,0,none⟩)/\σ_ 12=.agg B0.toArray/\σ_ 13=.map (some bG)/\PHeap.Le φ φ_/\sW w φ φ_ [.blk b2 27 B0,.blk bF 118 [.pointer none],.obj bG (.map bQ cE)] w_/\MpR bQ wBU wBc ([]:List (wAH × Int))) ?_ fun ez=>?_
 rintro sZ jo ⟨qJ,bF,bG,bQ,cE,lV,lW,lX,lY,qu,o8,mu⟩
 refine zD 0 Z Z Z Z (zE Z Z yk zM Z) o8 (fun hs=>wCM jo qJ hs aW) (.inr Z) ?_
 rintro iI qT sv jp qv o9 ⟨rfl,rfl⟩
 have pd:sW w φ iI [.blk b2 27 B0,.blk bF 118 [.pointer none],.obj bG (.map bQ cE)] jp:=o9
 exact dd _ _ ⟨iI,bF,bG,bQ,cE,lV,lW,lX,lY,Z,(qu.trans qv),pd,mu⟩
 refine Zj (s:=gBv) (M:=fun σ_ w_=>∃ (φ_:PHeap) (bj:Nat) (cQ:Array MapEntry) (dI:Nat),σ_ 1=.pointer (some ⟨b2,0,none⟩)/\σ_ 12=.agg B0.toArray/\σ_ 13=.map (some bj)/\σ_ 14=.agg #[jV ac.skier,jV ac.mat]/\PHeap.Le φ φ_/\sW w φ φ_ [.blk b2 27 B0,.obj bj (.map cQ dI)] w_/\MpR cQ wBU wBc ([]:List (wAH × Int))) ?_ fun eA=>?_
 rintro s3 rW ⟨eG,bj,cQ,dI,f9,ga,dU,dV,im,gN,gB⟩
 refine ZJ ?_ ?_
 refine OKS.mapPut (x:=.tmp 13) (y:=.tmp 14) (j:=1) (mk:=wBU) (mv:=wBc) (a:=ac) (v:=0) rfl rfl rfl (by first | exact .inl rfl | exact .inr rfl) gN rfl dU dV rfl (wBj ZS) wDF gB rfl ?_
 intro fk fd jq pV pe
 have pf:sW w φ eG [.blk b2 27 B0,.obj bj (.map fk fd)] jq:=pe
 exact qc _ _ ⟨eG,bj,fk,fd,f9,ga,dU,dV,im,pf,pV⟩
 refine zV (cs:=[.pointer none]) Z Z Z Z Z yK Z gN ?_
 intro rX jS pg
 exact dd _ _ ⟨eG,jS,bj,cQ,dI,f9,rfl,ga,dU,dV,im,(pg.pick [1,0,2] _ (by decide) rfl),gB⟩
 refine Zj (s:=gCc) (M:=fun σ_ w_=>∃ (φ_:PHeap) (bH:Nat),σ_ 1=.pointer (some ⟨b2,0,none⟩)/\σ_ 3=.pointer (some ⟨bH,0,none⟩)/\σ_ 14=.agg #[jV ac.skier,jV ac.mat]/\PHeap.Le φ φ_/\sW w φ φ_ [.blk b2 27 B0,.blk bH 118 [.pointer none]] w_) ?_ fun gZ=>?_
 rintro s4 rY ⟨iJ,bH,dW,ge,gg,io,ek⟩
 refine ZJ ?_ ?_
 exact Zh Z Z Z Z (ek.ldBA (j:=0) Z Z dW zo zZ (vs:=B0) Z Z) (ey _ _ ⟨iJ,bH,dW,ge,Z,gg,io,ek⟩)
 refine OKS.makeMap Z Z Z Z Z ek ?_
 intro rZ jT ph
 have pW:=MpR.nil wBU wBc
 exact ew _ _ ⟨iJ,bH,jT,#[],0,dW,ge,rfl,gg,io,(ph.pick [1,2,0] _ (by decide) rfl),pW⟩
 refine Zj (s:=gCb) (M:=fun σ_ w_=>∃ (φ_:PHeap) (bm:Nat) (bn:Nat) (br:Array MapEntry) (bJ:Nat),σ_ 1=.pointer (some ⟨b2,0,none⟩)/\σ_ 3=.pointer (some ⟨bm,0,none⟩)/\σ_ 13=.map (some bn)/\PHeap.Le φ φ_/\sW w φ φ_ [.blk b2 27 B0,.blk bm 118 [.pointer none],.obj bn (.map br bJ)] w_/\MpR br wBU wBc ([]:List (wAH × Int))) ?_ fun g7=>?_
 rintro s5 jr ⟨iK,bm,bn,br,bJ,dX,gh,gi,ip,en,gC⟩
 refine ZJ ?_ ?_
 exact Zh Z Z Z Z (en.ldBA (j:=0) Z Z dX zo zZ (vs:=B0) Z Z) (ez _ _ ⟨iK,bm,bn,br,bJ,dX,gh,Z,gi,ip,en,gC⟩)
 refine zD 0 Z Z Z Z (zE Z Z yk zM Z) en (fun hs=>wCM jr iK hs aW) (.inr Z) ?_
 rintro iL qU sw jt qw pj ⟨rfl,rfl⟩
 have pk:sW w φ iL [.blk b2 27 B0,.blk bm 118 [.pointer none],.obj bn (.map br bJ)] jt:=pj
 exact ew _ _ ⟨iL,bm,bn,br,bJ,dX,gh,gi,Z,(ip.trans qw),pk,gC⟩
 refine Zj (s:=gCd) (M:=fun σ_ w_=>∃ (φ_:PHeap) (bb:Nat) (bR:Array MapEntry) (cG:Nat),σ_ 1=.pointer (some ⟨b2,0,none⟩)/\σ_ 13=.map (some bb)/\σ_ 14=.agg #[jV ac.skier,jV ac.mat]/\PHeap.Le φ φ_/\sW w φ φ_ [.blk b2 27 B0,.obj bb (.map bR cG)] w_/\MpR bR wBU wBc ([]:List (wAH × Int))) ?_ fun g8=>?_
 rintro s6 r0 ⟨dq,bb,bR,cG,cR,cS,cU,eC,c6,d8⟩
 refine ZJ ?_ ?_
 exact Zh Z Z Z Z (c6.ldBA (j:=0) Z Z cR zo zZ (vs:=B0) Z Z) (eA _ _ ⟨dq,bb,bR,cG,cR,Z,cS,cU,eC,c6,d8⟩)
 refine ZJ ?_ ?_
 refine OKS.mapPut (x:=.tmp 13) (y:=.tmp 14) (j:=1) (mk:=wBU) (mv:=wBc) (a:=ac) (v:=0) rfl rfl rfl (by first | exact .inl rfl | exact .inr rfl) c6 rfl cS cU rfl (wBj ZS) wDF d8 rfl ?_
 intro fm ff ju pX pm
 have pn:sW w φ dq [.blk b2 27 B0,.obj bb (.map fm ff)] ju:=pm
 exact qd _ _ ⟨dq,bb,fm,ff,cR,cS,cU,eC,pn,pX⟩
 refine zV (cs:=[.pointer none]) Z Z Z Z Z yK Z c6 ?_
 intro r6 jU po
 exact ew _ _ ⟨dq,jU,bb,bR,cG,cR,rfl,cS,cU,eC,(po.pick [1,0,2] _ (by decide) rfl),d8⟩
 refine Zj (s:=gCa) (M:=fun σ_ w_=>∃ (φ_:PHeap) (bo:Nat),σ_ 1=.pointer (some ⟨b2,0,none⟩)/\σ_ 3=.pointer (some ⟨bo,0,none⟩)/\σ_ 12=.agg B0.toArray/\PHeap.Le φ φ_/\sW w φ φ_ [.blk b2 27 B0,.blk bo 118 [.pointer none]] w_) ?_ fun g9=>?_
 rintro s7 jv ⟨iM,bo,gj,gk,gp,iq,gO⟩
 refine ZJ ?_ ?_
 refine OKS.makeMap Z Z Z Z Z gO ?_
 intro r7 jW pp
 have pY:=MpR.nil wBU wBc
 exact ez _ _ ⟨iM,bo,jW,#[],0,gj,gk,gp,rfl,iq,(pp.pick [1,2,0] _ (by decide) rfl),pY⟩
 refine zD 0 Z Z Z Z (zE Z Z yk zM Z) gO (fun hs=>wCM jv iM hs aW) (.inr Z) ?_
 rintro iN qV sA jw qx pq ⟨rfl,rfl⟩
 have mA:sW w φ iN [.blk b2 27 B0,.blk bo 118 [.pointer none]] jw:=pq
 exact ey _ _ ⟨iN,bo,gj,gk,gp,Z,(iq.trans qx),mA⟩
 refine Zj (s:=gBz) (M:=fun σ_ w_=>∃ (φ_:PHeap),σ_ 1=.pointer (some ⟨b2,0,none⟩)/\σ_ 12=.agg B0.toArray/\σ_ 14=.agg #[jV ac.skier,jV ac.mat]/\PHeap.Le φ φ_/\sW w φ φ_ [.blk b2 27 B0] w_) ?_ fun gU=>?_
 rintro sE qW ⟨iv,fq,ft,fu,ic,gD⟩
 refine ZJ ?_ ?_
 refine OKS.makeMap Z Z Z Z Z gD ?_
 intro qX jx mB
 have pN:=MpR.nil wBU wBc
 exact eA _ _ ⟨iv,jx,#[],0,fq,ft,rfl,fu,ic,(mB.pick [1,0] _ (by decide) rfl),pN⟩
 refine zV (cs:=[.pointer none]) Z Z Z Z Z yK Z gD ?_
 intro qY jy mC
 exact ey _ _ ⟨iv,jy,fq,rfl,ft,fu,ic,(mC.pick [1,0] _ (by decide) rfl)⟩
 refine Zj (s:=gBy) (M:=fun σ_ w_=>∃ (φ_:PHeap) (be:Nat) (bq:Array MapEntry) (bI:Nat),σ_ 1=.pointer (some ⟨b2,0,none⟩)/\σ_ 12=.agg B0.toArray/\σ_ 13=.map (some be)/\PHeap.Le φ φ_/\sW w φ φ_ [.blk b2 27 B0,.obj be (.map bq bI)] w_/\MpR bq wBU wBc ([]:List (wAH × Int))) ?_ fun gV=>?_
 rintro sF iP ⟨iw,be,bq,bI,fy,fz,fA,ie,gE,gq⟩
 refine ZJ ?_ ?_
 refine zD 0 Z Z Z Z (zE Z Z yk zM Z) gE (fun hs=>wCM iP iw hs aW) (.inr Z) ?_
 rintro iy qK sm iQ qe mD ⟨rfl,rfl⟩
 have mE:sW w φ iy [.blk b2 27 B0,.obj be (.map bq bI)] iQ:=mD
 exact eA _ _ ⟨iy,be,bq,bI,fy,fz,fA,Z,(ie.trans qe),mE,gq⟩
 refine zV (cs:=[.pointer none]) Z Z Z Z Z yK Z gE ?_
 intro qZ jz mF
 exact ez _ _ ⟨iw,jz,be,bq,bI,fy,rfl,fz,fA,ie,(mF.pick [1,0,2] _ (by decide) rfl),gq⟩
 refine ZJ ?_ ?_
 refine Zh Z Z Z Z (aY.ldBA (j:=0) Z Z Z zo zZ (vs:=B0) Z Z) (ZJ ?_ ?_)
 refine OKS.makeMap Z Z Z Z Z aY ?_
 intro q0 jA mG
 have pO:=MpR.nil wBU wBc
 exact gV _ _ ⟨φ,jA,#[],0,rfl,rfl,rfl,(zS _),(mG.pick [1,0] _ (by decide) rfl),pO⟩
 refine ZJ ?_ ?_
 refine zD 0 Z Z Z Z (zE Z Z yk zM Z) aY (fun hs=>wCM eW φ hs aW) (.inr Z) ?_
 rintro iz qL sn iR qf mH ⟨rfl,rfl⟩
 have mI:sW w φ iz [.blk b2 27 B0] iR:=mH
 exact gU _ _ ⟨iz,Z,Z,Z,qf,mI⟩
 refine zV (cs:=[.pointer none]) Z Z Z Z Z yK Z aY ?_
 intro q6 jB mJ
 exact g9 _ _ ⟨φ,jB,rfl,rfl,rfl,(zS _),(mJ.pick [1,0] _ (by decide) rfl)⟩
 refine ZJ ?_ ?_
 refine OKS.makeMap Z Z Z Z Z aY ?_
 intro iS cb cX
 have eu:=MpR.nil wBU wBc
 refine ZJ ?_ ?_
 exact Zh rfl rfl rfl rfl (cX.ldBA (j:=1) rfl rfl rfl zo zZ (vs:=B0) rfl rfl) (gV _ _ ⟨φ,cb,#[],0,rfl,rfl,rfl,(zS _),(cX.pick [1,0] _ (by decide) rfl),eu⟩)
 refine ZJ ?_ ?_
 refine zD 0 Z Z Z Z (zE Z Z yk zM Z) cX (fun hs=>wCM iS φ hs aW) (.inr Z) ?_
 rintro iA qM so iT qh mK ⟨rfl,rfl⟩
 have mL:sW w φ iA [.obj cb (.map #[] 0),.blk b2 27 B0] iT:=mK
 exact g8 _ _ ⟨iA,cb,#[],0,rfl,rfl,rfl,qh,(mL.pick [1,0] _ (by decide) rfl),eu⟩
 refine zV (cs:=[.pointer none]) Z Z Z Z Z yK Z cX ?_
 intro q7 jC mM
 exact g7 _ _ ⟨φ,jC,cb,#[],0,rfl,rfl,rfl,(zS _),(mM.pick [2,0,1] _ (by decide) rfl),eu⟩
 refine ZJ ?_ ?_
 refine zD 0 Z Z Z Z (zE Z Z yk zM Z) aY (fun hs=>wCM eW φ hs aW) (.inr Z) ?_
 rintro dm qN sq iU eB mN ⟨rfl,rfl⟩
 have cY:sW w φ dm [.blk b2 27 B0] iU:=mN
 refine ZJ ?_ ?_
 exact Zh Z Z Z Z (cY.ldBA (j:=0) Z Z Z zo zZ (vs:=B0) Z Z) (gU _ _ ⟨dm,Z,Z,Z,eB,cY⟩)
 refine ZJ ?_ ?_
 refine OKS.makeMap Z Z Z Z Z cY ?_
 intro q8 jD mO
 have pP:=MpR.nil wBU wBc
 exact g8 _ _ ⟨dm,jD,#[],0,rfl,rfl,rfl,eB,(mO.pick [1,0] _ (by decide) rfl),pP⟩
 refine zV (cs:=[.pointer none]) Z Z Z Z Z yK Z cY ?_
 intro q9 jE mP
 exact gZ _ _ ⟨dm,jE,rfl,rfl,rfl,eB,(mP.pick [1,0] _ (by decide) rfl)⟩
 refine zV (cs:=[.pointer none]) Z Z Z Z Z yK Z aY ?_
 intro iV cc cZ
 refine ZJ ?_ ?_
 exact Zh rfl rfl rfl rfl (cZ.ldBA (j:=1) rfl rfl rfl zo zZ (vs:=B0) rfl rfl) (g9 _ _ ⟨φ,cc,rfl,rfl,rfl,(zS _),(cZ.pick [1,0] _ (by decide) rfl)⟩)
 refine ZJ ?_ ?_
 refine OKS.makeMap Z Z Z Z Z cZ ?_
 intro rc jF mQ
 have pQ:=MpR.nil wBU wBc
 exact g7 _ _ ⟨φ,cc,jF,#[],0,rfl,rfl,rfl,(zS _),(mQ.pick [2,1,0] _ (by decide) rfl),pQ⟩
 refine zD 0 Z Z Z Z (zE Z Z yk zM Z) cZ (fun hs=>wCM iV φ hs aW) (.inr Z) ?_
 rintro iB qO sr iW qi mR ⟨rfl,rfl⟩
 have mS:sW w φ iB [.blk cc 118 [.pointer none],.blk b2 27 B0] iW:=mR
 exact gZ _ _ ⟨iB,cc,rfl,rfl,rfl,qi,(mS.pick [1,0] _ (by decide) rfl)⟩
 rintro sG iX ⟨qA,b6,b8,ae,bK,cx,fB,jZ,de,gF,l0⟩
 refine zL (sR gAi Z (oL Z (gF.ldBA (j:=0) Z Z fB zo zZ (vs:=B0) Z Z) ?_))
 have gt:=py.le de
 have gu:=pz.le de
 have gv:=pC.le de
 have gw:=pD.le de
 have q:=bnd pH
 obtain ⟨⟨⟩,l3,gR⟩:=q
 try dsimp only at gR
 refine zD 0 Z Z Z Z (zE Z Z Tryz.call106 (zB Z zM) Z) gF (fun hs=>wHA O af aj ag ak ah am ai an iX qA hs gt gu gv gw l3) (.inr Z) ?_
 rintro iC qP ss iY df mT ⟨eY,rfl,rfl,l4⟩
 let B6:Res:=.blk b6 118 [.pointer (some ⟨b8,0,none⟩)]
 have mU:sW w φ iC [.blk b2 27 B0,B6,.blk b8 139 [.slice af O.Starts.length aj,.slice ag O.Splits.length ak,.slice ah O.Clocks.length am,.slice ai O.Readings.length an,.map (some ae),.slice none 0 0],.obj ae (.map bK cx)] iY:=mT
 refine eN (zY (yR fun dl da=>?_))
 have j0:dl 1=.pointer (some ⟨b2,0,none⟩):=(da 1).trans fB
 have fC:dl 3=.pointer (some ⟨b6,0,none⟩):=(da 3).trans jZ
 have j5:dl 19=.func (.func 126) #[] #[.pointer (some ⟨eY,0,none⟩)]:=(da 19).trans rfl
 clear da
 have mV:=mU.nilrow 184 7
 refine bnK gR fun it pG gS=>?_
 have dY:=gt.le df
 have dZ:=gu.le df
 have d4:=gv.le df
 have d5:=gw.le df
 refine CK.rangeY (S:=(List wAX) × (List (wAH × Int))) (E:=Empty) (ar:=wMU) (PY:=(fun (s_:(List wAX) × (List (wAH × Int))) (φ_:PHeap) (L_:List Res)=>match s_ with | (l1591,l1595)=>∃ (bd:Option Addr) (bp:Nat) (aS:Array MapEntry) (aT:Nat),L_=[.blk b2 27 B0,B6,.row bd bp 184 7 (hD wAP l1591),.blk b8 139 [.slice af O.Starts.length aj,.slice ag O.Splits.length ak,.slice ah O.Clocks.length am,.slice ai O.Readings.length an,.map (some ae),.slice bd l1591.length bp],.obj ae (.map aS aT)]/\MpR aS wBU wBc l1595)) (PE:=(fun (_:Empty) _ _=>False)) (exO:=Empty.elim) (s0:=([],ib)) (rr:=it) j5 Tryz.call126 (mV.pick [1,2,0,3,4] _ (by decide) rfl) (by decide) (fun _ _ _ h=>by obtain rfl:=h;rfl) (fun e=>nomatch e) ⟨none,0,bK,cx,rfl,l0⟩ (fun l w1 L1 PY' PE' mz mw pu=>wGP PY' PE' _ l _ O eY af aj ag ak ah am ai an w1 L1 iC mz mw pu l4 dY dZ d4 d5 pG) ?_ ?_
 rintro ay sl sg ⟨l1591,l1595⟩ ao sB sk di qQ qz eD aG dg mW my pB gP dk bt
 obtain ⟨bd,bp,aS,aT,rfl,l5⟩:=my
 obtain rfl:=pB
 replace bt:∀ t,dk t=upd dl 20 (.agg #[jV ao.Kind,jV ao.Skier,jV ao.Index,.bool ao.Up]) t:=bt
 have j6:dk 20=.agg #[jV ao.Kind,jV ao.Skier,jV ao.Index,.bool ao.Up]:=(bt 20).trans (wFq _ _ _)
 have fD:dk 1=.pointer (some ⟨b2,0,none⟩):=(bt 1).trans ((wGT _ _ (by decide)).trans j0)
 have j7:dk 3=.pointer (some ⟨b6,0,none⟩):=(bt 3).trans ((wGT _ _ (by decide)).trans fC)
 clear bt
 let B7:Res:=.blk b8 139 [.slice af O.Starts.length aj,.slice ag O.Splits.length ak,.slice ah O.Clocks.length am,.slice ai O.Readings.length an,.map (some ae),.slice bd l1591.length bp]
 let B8:Res:=.row bd bp 184 7 (hD wAP l1591)
 have mX:St aG di [.obj ay eD,.blk b2 27 B0,B6,B8,B7,.obj ae (.map aS aT)] qz:=mW
 try dsimp only at gP
 refine rR (.fx 0 (.fx 1 .nil .stop) .stop) Z (zV (cs:=[jV 0,jV 0,jV 0,.bool false]) Z Z Z Z Z Zv Z mX ?_)
 intro rd ax mY
 let B9:List Value:=[jV ao.Kind,jV ao.Skier,jV ao.Index,.bool ao.Up]
 refine zX (j:=0) (vs:=B9) Z Z Z Z mY Z Z j6 Z ZK (zA Z) Z Z Z ?_
 intro iZ mZ
 have m0:St aG di [.blk ax 93 B9,.obj ay eD,.blk b2 27 B0,B6,B8,B7,.obj ae (.map aS aT)] iZ:=mZ
 refine zf ⟨rfl,rfl,_,_,(m0.pick [1,0,2,3,4,5,6] [.obj ay eD,.blk ax 93 B9,.blk b2 27 B0,B6,B8,B7,.obj ae (.map aS aT)] (by decide) rfl),fun eS aK m4=>?_⟩
 have d9:St aG di [.obj ay aK,.blk ax 93 B9,.blk b2 27 B0,B6,B8,B7,.obj ae (.map aS aT)] eS:=m4
 refine zY (sR (.fl 0 (.fl 1 (.fx 2 (wMH (.fx 7 (.fx 8 (.fx 9 (.fx 10 (.fl 11 .nil) .stop) .stop) .stop) .stop)) .stop))) Z (oL Z (d9.ldBA (j:=2) Z Z fD zo zZ (vs:=B0) Z Z) (oL Z (d9.ldBA (j:=1) Z Z Z Zs ZK (vs:=B9) Z Z) ?_)))
 have l6:=dY.le dg
 have l7:=dZ.le dg
 have l8:=d4.le dg
 have ma:=d5.le dg
 have q:=bnd gP
 obtain ⟨⟨az,aE,aO⟩,mb,gT⟩:=q
 try dsimp only at gT
 refine zD 0 Z Z Z Z (zE Z Z Tryz.call107 (zB Z (zB Z zM)) Z) d9 (fun hs=>wCN O af aj ag ak ah am ai an ao eS di hs l6 l7 l8 ma mb) (.inr Z) ?_
 rintro bX qR su i4 sh m5 ⟨rfl,rfl⟩
 have m6:St aG bX [.obj ay aK,.blk ax 93 B9,.blk b2 27 B0,B6,B8,B7,.obj ae (.map aS aT)] i4:=m5
 refine oM Z Z (oR Z (zU Z Z (v:=.agg #[jV az.skier,jV az.mat]) Z) (oR Z (zU Z Z (v:=.agg #[jV aE.skier,jV aE.mat]) Z) (oR Z (zU Z Z (v:=jV aO) Z) ?_)))
 let ca:List Value:=[jV 0,jV 0]
 refine zV (cs:=ca) Z Z Z Z Z zd Z m6 ?_
 intro rf aL m7
 refine zV (cs:=ca) Z Z Z Z Z zd Z m7 ?_
 intro rh aM m8
 let aF:List Value:=[jV az.skier,jV az.mat]
 refine zX (j:=1) (vs:=aF) Z Z Z Z m8 Z Z Z Z zH (zA Z) Z Z Z ?_
 intro i6 m9
 have n3:St aG bX [.blk aM 123 ca,.blk aL 123 aF,.obj ay aK,.blk ax 93 B9,.blk b2 27 B0,B6,B8,B7,.obj ae (.map aS aT)] i6:=m9
 let aH:List Value:=[jV aE.skier,jV aE.mat]
 refine zX (j:=0) (vs:=aH) Z Z Z Z n3 Z Z Z Z zH (zA Z) Z Z Z ?_
 intro i8 n4
 have eg:St aG bX [.blk aM 123 aH,.blk aL 123 aF,.obj ay aK,.blk ax 93 B9,.blk b2 27 B0,B6,B8,B7,.obj ae (.map aS aT)] i8:=n4
 refine oA Z Z (eN (zL (sR fL4 Z (oL Z (eg.ldBA (j:=1) Z Z Z zl zH (vs:=aF) Z Z) (oL Z (eg.ldBA (j:=0) Z Z Z zl zH (vs:=aH) Z Z) ?_)))))
 let eI:List Value:=[jV az.skier,jV az.mat,jV aE.skier,jV aE.mat]
 refine oR Z (Runs.buildA (pv:=[(0,.agg aF.toArray),(1,.agg aH.toArray)]) (z:=[jV 0,jV 0,jV 0,jV 0]) (cs:=eI) Z (wAG Z (wAG Z wAR)) Tryz.zeroValue210 Tryz.runUnderlying210 zH Z Z) (oM Z Z (eN (zY (bnK gT fun av pE pI=>?_))))
 have q:=wCC pE
 obtain ⟨ep,pF⟩:=q
 replace ep:=zN ep
 refine CK.forN' (fun bV bW σ_ w_=>∃ (φ_:PHeap) (bL:Array MapEntry) (cy:Nat),σ_ 31=jV (↑bV:Int)/\σ_ 1=.pointer (some ⟨b2,0,none⟩)/\σ_ 3=.pointer (some ⟨b6,0,none⟩)/\σ_ 4=.pointer (some ⟨ax,0,none⟩)/\σ_ 5=.pointer (some ⟨aL,0,none⟩)/\σ_ 6=.pointer (some ⟨aM,0,none⟩)/\σ_ 7=jV aO/\σ_ 30=.agg eI.toArray/\PHeap.Le bX φ_/\St aG φ_ [.blk aM 123 aH,.blk aL 123 aF,.obj ay aK,.blk ax 93 B9,.blk b2 27 B0,B6,B8,B7,.obj ae (.map bL cy)] w_/\MpR bL wBU wBc bW) pF ?_ ?_ ?_
 exact ⟨bX,aS,aT,Z,fD,j7,Z,Z,Z,Z,Z,(zS _),eg,l5⟩
 rintro bV bW sC sH ri eo ⟨dp,bL,cy,cV,fE,bS,fG,fH,fI,fJ,dK,ig,n5,cW⟩ p6
 have e6:Hid ((↑bV:Int) < 2):=zN (wBO eo)
 replace eo:=zN eo
 have gQ:Hid (w64 ((↑bV:Int) + 1)=(↑(bV + 1):Int)):=zN (by have h1:=ep.out;have h2:=e6.out;rw [wAb] <;> omega)
 refine sR fL1 Z (oR Z (ze Z cV Z) (eN (zL (cT Z e6 (kN (zL (zY (sR (.fl 0 (.fx 1 (.fx 2 .nil .stop) .stop)) Z (bnK p6 fun bu d6 pJ=>oR Z (yz (cs:=hD wCP ([az,aE]:List wAH)) Z dK cV Tryz.runUnderlying210 zH (wBV d6) (wBb d6) (wDi zl zH (wJE (sz:=2) (fun _=>Z) _ _ (wAe d6)))) (zV (cs:=ca) Z Z Z Z Z zd Z n5 ?_))))))))))
 intro rk eZ n6
 let bv:List Value:=[jV bu.skier,jV bu.mat]
 refine zX (j:=0) (vs:=bv) Z Z Z Z n6 Z Z Z Z zH (zA Z) Z Z Z ?_
 intro dx n7
 have n8:St aG dp [.blk eZ 123 bv,.blk aM 123 aH,.blk aL 123 aF,.obj ay aK,.blk ax 93 B9,.blk b2 27 B0,B6,B8,B7,.obj ae (.map bL cy)] dx:=n7
 refine eN (zL (zx zt [1,3,3,1,1,1,3,3,3,3,3] fL11 (by kernel_rfl) ?_))
 have bc:=n8.drew
 generalize hw_W1729:({ dx with drawn:=dx.drawn + 1 }:World)=eU at bc ⊢
 refine oL Z (bc.ldB (j:=6) Z Z bS yl (v:=.pointer (some ⟨b8,0,none⟩)) Z) (oR Z (Zt Z Z) (oR Z (zF Z Z ZH Z Zw) (oL Z (bc.ldB (j:=8) Z Z Z yC (v:=.map (some ae)) Z) (oL Z (bc.ldBA (j:=0) Z Z Z zl zH (vs:=bv) Z Z) (oL Z (bc.lookup2 (j:=9) (mk:=wBU) (mv:=wBc) (a:=bu) (z:=0) Z Z Z Z (wBj ZS) wDF ZG cW) (oM Z Z (oR Z (zU Z Z (v:=jV (wBP bW bu 0)) Z) (oR Z (zU Z Z (v:=.bool (wLF bW bu)) Z) (oA Z Z (oA Z Z (eN (sR fL2 Z (oM Z Z (oR Z (Zk Z Z) (eN (ifc pJ ?_ ?_))))))))))))))))
 intro dy pK
 refine zj (nC dy.out) (Zf (zm (zJ (rR fL2 Z (oR Z (ZU (zh Z cV Z) (congrArg (jV) gQ.out)) (oM Z Z (zf ?_)))))))
 cases pK
 exact zJ ⟨rfl,⟨dp,bL,cy,rfl,fE,bS,fG,fH,fI,fJ,dK,ig,(bc.pick [1,2,3,4,5,6,7,8,9] _ (by decide) rfl),cW⟩⟩
 intro dy pL
 refine ZD (nF (dy.out)) (zx zt [1,3,3,1,1,1,3,3,1,1,0] (wLD (.fx 10 .nil .stop)) (by kernel_rfl) ?_)
 have aX:=bc.drew
 generalize hw_W1737:({ eU with drawn:=eU.drawn + 1 }:World)=rn at aX ⊢
 refine ZE rfl rfl rfl rfl (aX.ldB (j:=6) rfl rfl bS yl (v:=.pointer (some ⟨b8,0,none⟩)) rfl) rfl (za rfl rfl rfl rfl (fun _=>Zt rfl rfl) (za rfl rfl rfl rfl (fun _=>zF rfl rfl ZH rfl Zw) (ZE rfl rfl rfl rfl (aX.ldB (j:=8) rfl rfl rfl yC (v:=.map (some ae)) rfl) rfl (ZE rfl rfl rfl rfl (aX.ldBA (j:=0) rfl rfl rfl zl zH (vs:=bv) rfl rfl) rfl (ZE rfl rfl rfl rfl (aX.ldB (j:=6) rfl rfl bS yl (v:=.pointer (some ⟨b8,0,none⟩)) rfl) rfl (za rfl rfl rfl rfl (fun _=>Zt rfl rfl) (za rfl rfl rfl rfl (fun _=>zF rfl rfl ZH rfl Zw) (ZE rfl rfl rfl rfl (aX.ldB (j:=8) rfl rfl rfl yC (v:=.map (some ae)) rfl) rfl (ZE rfl rfl rfl rfl (aX.lenM (j:=9) (mk:=wBU) (mv:=wBc) rfl rfl rfl (wBj ZS) cW) rfl (OKS.mapPut (x:=.tmp 48) (y:=.tmp 49) (z:=.tmp 54) (j:=9) (mk:=wBU) (mv:=wBc) (a:=bu) (v:=(↑(bW.length):Int)) rfl rfl rfl (by first | exact .inl rfl | exact .inr rfl) aX rfl rfl rfl rfl (wBj ZS) wDF cW rfl ?_))))))))))
 intro fg e8 i9 pR n9
 have oa:St aG dp [.blk eZ 123 bv,.blk aM 123 aH,.blk aL 123 aF,.obj ay aK,.blk ax 93 B9,.blk b2 27 B0,B6,B8,B7,.obj ae (.map fg e8)] i9:=n9
 refine zf (zm (zJ (rR fL2 Z (oR Z (ZU (zh Z cV Z) (congrArg (jV) gQ.out)) (oM Z Z (zf ?_))))))
 cases pL
 exact zJ ⟨rfl,⟨dp,fg,e8,rfl,fE,bS,fG,fH,fI,fJ,dK,ig,(oa.pick [1,2,3,4,5,6,7,8,9] _ (by decide) rfl),pR⟩⟩
 rintro sI eV ⟨aZ,aR,aQ,lZ,r8,bs,j8,j9,k5,k6,r9,sj,oc,bT⟩
 have jX:Hid (¬ ((↑((2:Int) - 0).toNat:Int) < 2)):=zN (wAq)
 refine sR fL1 rfl (za rfl rfl rfl rfl (fun _=>ze rfl lZ rfl) (eN (zL (cF Z jX (Za (zq (zq (ZW (zJ (bnK pI fun aP d7 er=>zx zt [2,1,3,3,1,1,1,3,3,1,1,1,1,3,3,1,1,1,3,3,2,0,3,3,0] (wPP (.fx 0 (.fx 20 gBk .stop) (.fx 20 (.fx 0 gBk (.fx 21 (.fx 0 gBb .stop) .stop)) .stop))) (by kernel_rfl) ?_))))))))))
 have aJ:=oc.drew
 generalize hw_W1786:({ eV with drawn:=eV.drawn + 1 }:World)=rp at aJ ⊢
 refine oL Z (aJ.ldB (j:=5) Z Z bs yl (v:=.pointer (some ⟨b8,0,none⟩)) Z) (oR Z (Zt Z Z) (oR Z (zF Z Z ZH Z yn) (oL Z (aJ.ldB (j:=7) Z Z Z Tryz.isAgg137 (v:=.slice bd l1591.length bp) Z) (oL Z (aJ.ldBA (j:=3) Z Z j8 Zs ZK (vs:=B9) Z Z) (oL Z (aJ.ldB (j:=5) Z Z bs yl (v:=.pointer (some ⟨b8,0,none⟩)) Z) (oR Z (Zt Z Z) (oR Z (zF Z Z ZH Z Zw) (oL Z (aJ.ldB (j:=7) Z Z Z yC (v:=.map (some ae)) Z) (oL Z (aJ.ldBA (j:=1) Z Z j9 zl zH (vs:=aF) Z Z) (oL Z (aJ.lookup1 (j:=8) (mk:=wBU) (mv:=wBc) (a:=az) (z:=0) Z Z Z Z (wBj ZS) wDF ZG bT) (oL Z (aJ.ldB (j:=5) Z Z bs yl (v:=.pointer (some ⟨b8,0,none⟩)) Z) (oR Z (Zt Z Z) (oR Z (zF Z Z ZH Z Zw) (oL Z (aJ.ldB (j:=7) Z Z Z yC (v:=.map (some ae)) Z) (oL Z (aJ.ldBA (j:=0) Z Z k5 zl zH (vs:=aH) Z Z) (oL Z (aJ.lookup1 (j:=8) (mk:=wBU) (mv:=wBc) (a:=aE) (z:=0) Z Z Z Z (wBj ZS) wDF ZG bT) (oM Z k6 ?_)))))))))))))))))
 let bw:List Value:=[jV ao.Kind,jV ao.Skier,jV ao.Index,.bool ao.Up,jV (wBP av az 0),jV (wBP av aE 0),jV aO]
 let dt:List Value:=[jV 0,jV 0,jV 0,.bool false,jV 0,jV 0,jV 0]
 refine oR Z (ZB (pv:=[(0,.agg B9.toArray),(1,jV (wBP av az 0)),(2,jV (wBP av aE 0)),(3,jV aO)]) (z:=dt) (cs:=bw) Z (wAG Z (wAG Z (wAG Z (wAG Z wAR)))) Tryz.zeroValue184 wLZ Z Z) (ZJ ?_ ?_)
 refine Zh Z Z Z Z (aJ.ldB (j:=5) Z Z bs yl (v:=.pointer (some ⟨b8,0,none⟩)) Z) (ZR (pv:=[(0,.agg bw.toArray)]) (zs:=dt) (cs:=bw) Z Z Z Z Z (wAG Z wAR) yt yu Tryz.zeroValue184 Z Z Z Z Z aJ ?_)
 intro ja jG od
 let du:Res:=.row (some ⟨jG,0,none⟩) 1 184 7 (hD wAP [(⟨ao,(wBP av az 0),(wBP av aE 0),aO⟩:wAX)])
 have gG:St aG aZ [du,.blk aM 123 aH,.blk aL 123 aF,.obj ay aK,.blk ax 93 B9,.blk b2 27 B0,B6,B8,B7,.obj ae (.map aR aQ)] ja:=od
 refine yb (j:=7) (enc:=wAP) (xs:=l1591) (ys:=[(⟨ao,(wBP av az 0),(wBP av aE 0),aO⟩:wAX)]) (zs:=aP) rfl rfl rfl rfl rfl Tryz.underlying137 wJp rfl rfl rfl rfl rfl rfl gG rfl rfl rfl (gG.srcR (j:=0) rfl (by decide) (wAE (f:=wAP) (sz:=7) (fun _=>rfl) [(⟨ao,(wBP av az 0),(wBP av aE 0),aO⟩:wAX)])) (fun _=>rfl) (fun _=>rfl) d7 rfl ?_
 intro bY cr jb oe
 let eJ:Res:=.row bY cr 184 7 (hD wAP aP)
 have og:St aG aZ [du,.blk aM 123 aH,.blk aL 123 aF,.obj ay aK,.blk ax 93 B9,.blk b2 27 B0,B6,eJ,B7,.obj ae (.map aR aQ)] jb:=oe
 refine oR Z (Zt Z Z) (oR Z (zF Z Z ZH Z yn) (zX (j:=8) (vs:=[.slice bY aP.length cr]) Z Z Z Z og Z Z Z Z yn (zA Z) Z Z Z ?_))
 intro jc oh
 have oi:St aG aZ [du,.blk aM 123 aH,.blk aL 123 aF,.obj ay aK,.blk ax 93 B9,.blk b2 27 B0,B6,eJ,.blk b8 139 [.slice af O.Starts.length aj,.slice ag O.Splits.length ak,.slice ah O.Clocks.length am,.slice ai O.Readings.length an,.map (some ae),.slice bY aP.length cr],.obj ae (.map aR aQ)] jc:=oh
 refine zf (zm ?_)
 have q:=hH er
 obtain rfl:=q
 exact ⟨_,_,(oi.pick [3,5,6,7,8,9] _ (by decide) rfl),rfl,⟨bY,cr,aR,aQ,rfl,bT⟩⟩
 refine ZR (pv:=[(0,.agg bw.toArray)]) (zs:=dt) (cs:=bw) Z Z Z Z Z (wAG Z wAR) yt yu Tryz.zeroValue184 Z Z Z Z Z aJ ?_
 intro jd jH oj
 let bx:Res:=.row (some ⟨jH,0,none⟩) 1 184 7 (hD wAP [(⟨ao,(wBP av az 0),(wBP av aE 0),aO⟩:wAX)])
 have bU:St aG aZ [bx,.blk aM 123 aH,.blk aL 123 aF,.obj ay aK,.blk ax 93 B9,.blk b2 27 B0,B6,B8,B7,.obj ae (.map aR aQ)] jd:=oj
 refine ZJ ?_ ?_
 refine Zh rfl rfl rfl rfl (bU.ldB (j:=6) rfl rfl bs yl (v:=.pointer (some ⟨b8,0,none⟩)) rfl) (yb (j:=7) (enc:=wAP) (xs:=l1591) (ys:=[(⟨ao,(wBP av az 0),(wBP av aE 0),aO⟩:wAX)]) (zs:=aP) rfl rfl rfl rfl rfl Tryz.underlying137 wJp rfl rfl rfl rfl rfl rfl bU rfl rfl rfl (bU.srcR (j:=0) rfl (by decide) (wAE (f:=wAP) (sz:=7) (fun _=>rfl) [(⟨ao,(wBP av az 0),(wBP av aE 0),aO⟩:wAX)])) (fun _=>rfl) (fun _=>rfl) d7 rfl ?_)
 intro bZ ct je ol
 let eL:Res:=.row bZ ct 184 7 (hD wAP aP)
 have om:St aG aZ [bx,.blk aM 123 aH,.blk aL 123 aF,.obj ay aK,.blk ax 93 B9,.blk b2 27 B0,B6,eL,B7,.obj ae (.map aR aQ)] je:=ol
 refine oR Z (Zt Z Z) (oR Z (zF Z Z ZH Z yn) (zX (j:=8) (vs:=[.slice bZ aP.length ct]) Z Z Z Z om Z Z Z Z yn (zA Z) Z Z Z ?_))
 intro jf oo
 have oq:St aG aZ [bx,.blk aM 123 aH,.blk aL 123 aF,.obj ay aK,.blk ax 93 B9,.blk b2 27 B0,B6,eL,.blk b8 139 [.slice af O.Starts.length aj,.slice ag O.Splits.length ak,.slice ah O.Clocks.length am,.slice ai O.Readings.length an,.map (some ae),.slice bZ aP.length ct],.obj ae (.map aR aQ)] jf:=oo
 refine zf (zm ?_)
 have q:=hH er
 obtain rfl:=q
 exact ⟨_,_,(oq.pick [3,5,6,7,8,9] _ (by decide) rfl),rfl,⟨bZ,ct,aR,aQ,rfl,bT⟩⟩
 refine yb (j:=7) (enc:=wAP) (xs:=l1591) (ys:=[(⟨ao,(wBP av az 0),(wBP av aE 0),aO⟩:wAX)]) (zs:=aP) rfl rfl rfl rfl rfl Tryz.underlying137 wJp rfl rfl rfl rfl rfl rfl bU rfl rfl rfl (bU.srcR (j:=0) rfl (by decide) (wAE (f:=wAP) (sz:=7) (fun _=>rfl) [(⟨ao,(wBP av az 0),(wBP av aE 0),aO⟩:wAX)])) (fun _=>rfl) (fun _=>rfl) d7 rfl ?_
 intro b5 cu jg ot
 let eM:Res:=.row b5 cu 184 7 (hD wAP aP)
 have gH:St aG aZ [bx,.blk aM 123 aH,.blk aL 123 aF,.obj ay aK,.blk ax 93 B9,.blk b2 27 B0,B6,eM,B7,.obj ae (.map aR aQ)] jg:=ot
 refine Zh Z Z Z Z (gH.ldB (j:=6) Z Z bs yl (v:=.pointer (some ⟨b8,0,none⟩)) Z) (oR Z (Zt Z Z) (oR Z (zF Z Z ZH Z yn) (zX (j:=8) (vs:=[.slice b5 aP.length cu]) Z Z Z Z gH Z Z Z Z yn (zA Z) Z Z Z ?_)))
 intro jh ou
 have ov:St aG aZ [bx,.blk aM 123 aH,.blk aL 123 aF,.obj ay aK,.blk ax 93 B9,.blk b2 27 B0,B6,eM,.blk b8 139 [.slice af O.Starts.length aj,.slice ag O.Splits.length ak,.slice ah O.Clocks.length am,.slice ai O.Readings.length an,.map (some ae),.slice b5 aP.length cu],.obj ae (.map aR aQ)] jh:=ou
 refine zf (zm ?_)
 have q:=hH er
 obtain rfl:=q
 exact ⟨_,_,(ov.pick [3,5,6,7,8,9] _ (by decide) rfl),rfl,⟨b5,cu,aR,aQ,rfl,bT⟩⟩
 rintro ir eE qS ji dh ow
 rcases it with ⟨iu,sD⟩ | jY
 try dsimp only at gS
 rintro ⟨dr,dz,cH,cw,rfl,mc⟩
 let dv:Res:=.blk b8 139 [.slice af O.Starts.length aj,.slice ag O.Splits.length ak,.slice ah O.Clocks.length am,.slice ai O.Readings.length an,.map (some ae),.slice dr iu.length dz]
 let dw:Res:=.row dr dz 184 7 (hD wAP iu)
 have gI:sW w φ eE [.blk b2 27 B0,B6,dw,dv,.obj ae (.map cH cw),.obj ir (.deferred (some []))] ji:=ow
 refine zm (zJ (sR fL2 Z (oL Z (gI.ldB (j:=1) Z Z fC yl (v:=.pointer (some ⟨b8,0,none⟩)) Z) (oA Z Z (eN (zO ?_))))))
 have md:=dY.le dh
 have me:=dZ.le dh
 have mf:=d4.le dh
 have mg:=d5.le dh
 refine wNU (by first | exact .inl rfl | exact .inr rfl) (rbs:=[ir]) (L:=[.blk b2 27 B0,B6,dw,dv,.obj ae (.map cH cw)]) gI fun jj ox=>?_
 have oy:sW w φ eE [.blk b2 27 B0,B6,dw,dv,.obj ae (.map cH cw)] jj:=ox
 cases gS
 exact ⟨_,(ZA rfl),eE,_,(oy.pick [3,4,2] _ (by decide) rfl),b8,af,aj,ag,ak,ah,am,ai,an,ae,cH,cw,dr,dz,rfl,rfl,md,me,mf,mg,mc⟩
 exact jY.elim
end Go.Proofs.YtlnfbjphfoipaaaGreat
