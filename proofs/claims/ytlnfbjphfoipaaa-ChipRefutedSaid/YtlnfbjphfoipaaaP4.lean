import Derived.Test.YtlnfbjphfoipaaaP3
set_option linter.all false
open List renaming flatMap->hD,getElem_cons_succ->nD,getElem_cons_zero->nE,getElem_toArray->nH
open Go.Value renaming bool->hH
open Option.some renaming inj->hJ
open Bool renaming eq_false_iff->hU
open Prod.mk renaming injEq->nA
open Nat renaming blt->nB,le_of_ble_eq_true->nG
namespace Go.Proofs.Ytlnfbjphfoipaaa
open Go.KL
def gAa:Sch:=.fl 1 (.fl 2 .nil)
def gAb:Sch:=.fl 2 (.fl 3 .nil)
def gAc:Sch:=.fl 3 (.fl 4 .nil)
def gAd:Sch:=.fl 4 (.fl 5 .nil)
def gAe:Sch:=.fl 7 (.fl 8 .nil)
def gAf:Sch:=.fl 15 (.fl 16 .nil)
def gAg:Sch:=.fx 1 (.fl 2 .nil) .stop
def gAh:Sch:=.fx 2 (.fx 3 .nil .stop) .stop
def gAi:Sch:=.fx 3 (.fl 4 .nil) .stop
def gAj:Sch:=.fx 17 (.fl 18 .nil) .stop
def gAk:Sch:=.fx 0 (.fx 1 .nil .stop) .stop
def gAl:Sch:=.fl 0 (.fx 1 .nil .stop)
def gAm:Sch:=.fx 0 (.fl 1 .nil) .stop
def gAn:Sch:=.fx 4 (.fx 5 .nil .stop) .stop
def gAo:Sch:=.fl 10 (.fx 12 .nil .stop)
def gAp:Sch:=.fx 6 gAe .stop
def gAq:Sch:=.fx 1 gAb .stop
def gAr:Sch:=.fl 0 gAg
def gAs:Sch:=.fx 15 gAj .stop
def gAt:Sch:=.fx 15 (.fl 16 (.fx 18 .nil .stop)) .stop
def gAu:Sch:=.fx 3 gAd .stop
def gAv:Sch:=.fx 0 gAg .stop
def gAw:Sch:=.fx 13 (.fl 14 (.fl 15 .nil)) .stop
def gAx:Sch:=.fx 14 gAf .stop
def gAy:Sch:=.fl 10 (.fx 11 (.fx 12 .nil .stop) .stop)
def gAz:Sch:=.fx 6 gAo .stop
def gBa:Sch:=.fl 0 (.fl 1 (.fx 2 (.fl 3 .nil) .stop))
def gBb:Sch:=.fl 0 (.fl 1 gAh)
def gBc:Sch:=.fx 14 gAs .stop
def gBd:Sch:=.fx 10 gAt .stop
def gBe:Sch:=.fx 0 (.fx 1 gAh .stop) .stop
def gBf:Sch:=.fx 0 gAq .stop
def gBg:Sch:=.fx 8 (.fl 9 gAo) .stop
def gBh:Sch:=.fl 0 (.fl 1 (.fx 2 gAi .stop))
def gBi:Sch:=.fx 13 gBc .stop
def gBj:Sch:=.fl 0 (.fl 1 (.fx 2 gAc .stop))
def gBk:Sch:=.fx 12 gBi .stop
def gBl:Sch:=.fx 9 gBi .stop
def gBm:Sch:=.fx 4 (.fl 16 gBi) .stop
def gBn:Sch:=.fx 3 gBm .stop
def gBo:Sch:=.fx 4 (.fl 16 gBk) (.fx 12 gBm .stop)
def gBp:Sch:=.fx 4 (.fl 16 gBl) (.fx 9 gBm .stop)
set_option maxHeartbeats 4000000
theorem Z {α:Type} {a:α}:a=a:=rfl
section
variable {r:Option Nat} {N:Nat} {P:Program} {l:List Oper} {Q:wEG} {D:List Deferred} {ks:List Nat} {σ:Env} {w:World} {i d j e:Nat} {s:Sch} {o:Oper} {b:Bool} {x:Operand} {v:Value} {p:Prop} {inst:Decidable p} {K:List Deferred->Env->World->Prop} {c1 c2:Code}
abbrev jV (n:Int):Value:=.int .i64 n
abbrev SW (w:World) (X:List Res) (φ φ':PHeap) (L:List Res) (w':World):Prop:=St ⟨w,X,φ⟩ φ' L w'
abbrev sW (w:World) (φ φ':PHeap) (L:List Res) (w':World):Prop:=St ⟨w,[],φ⟩ φ' L w'
abbrev St0 (w:World) (φ:PHeap) (L:List Res):Prop:=St ⟨w,L,φ⟩ φ L w
theorem ifc {α:Type} {G p:Prop} {inst:Decidable p} {a b r:α} (h:@ite α p inst a b=r) (h1:Hid p->a=r->G) (h2:Hid (¬ p)->b=r->G):G:=by
 by_cases c:p
 rw [if_pos c] at h;exact h1 ⟨c⟩ h
 rw [if_neg c] at h;exact h2 ⟨c⟩ h
theorem bnK {α β:Type} {G:Prop} {o:Option α} {f:α->Option β} {r:β} (h:o.bind f=some r) (k:∀ x,o=some x->f x=some r->G):G:=by
 obtain ⟨x,h1,h2⟩:=bnd h
 exact k x h1 h2
theorem oR (h:(l[i]?,o.dst,nB d N,wanted l σ o)=(some o,some d,true,true)) (hr:∀ {w'},Runs P σ w' o v w') (k:OKS N P l Q D ks s (upd σ d v) w):OKS N P l Q D ks (.fl i s) σ w:=by
 simp only [nA] at h;exact OKS.r h.1 h.2.1 h.2.2.1 h.2.2.2 (fun _=>hr) k
theorem oL (h:(l[i]?,o.dst,nB d N,wanted l σ o,wMP (kOf ks i))=(some o,some d,true,true,false)) (hr:wFS P σ w o v) (k:OKS N P l Q D ks s (upd σ d v) w):OKS N P l Q D ks (.fl i s) σ w:=by
 simp only [nA] at h;exact OKS.m h.1 h.2.1 h.2.2.1 h.2.2.2.1 hr h.2.2.2.2 k
theorem oM (h:(l[i]?,o.dst,nB d N,wanted l σ o,o.op)=(some o,some d,true,true,.move x)) (hx:ev σ x=v) (k:OKS N P l Q D ks s (upd σ d v) w):OKS N P l Q D ks (.fl i s) σ w:=by
 simp only [nA] at h;exact OKS.rm h.1 h.2.1 h.2.2.1 h.2.2.2.1 h.2.2.2.2 hx k
theorem oA (h:(l[i]?,o.dst,nB d N,wanted l σ o,o.op)=(some o,some d,true,true,.assign x)) (hx:ev σ x=v) (k:OKS N P l Q D ks s (upd σ d v) w):OKS N P l Q D ks (.fl i s) σ w:=by
 simp only [nA] at h;exact OKS.ra h.1 h.2.1 h.2.2.1 h.2.2.2.1 h.2.2.2.2 hx k
theorem oF (h:(l[i]?,o.dst,nB d N,o.guard,(l[j]?).bind (·.dst),σ e,false == b)=(some o,some d,true,some (j,b),some e,.bool (decide p),false)) (c:Hid (¬ p)) (k:OKS N P l Q D ks s (upd σ d undef) w):OKS N P l Q D ks (.fl i s) σ w:=by
 simp only [nA] at h;exact OKS.p h.1 h.2.1 h.2.2.1 (wGT h.2.2.2.1 h.2.2.2.2.1 (h.2.2.2.2.2.1.trans (wMN c.out)) h.2.2.2.2.2.2) k
theorem oT (h:(l[i]?,o.dst,nB d N,o.guard,(l[j]?).bind (·.dst),σ e,true == b)=(some o,some d,true,some (j,b),some e,.bool (decide p),false)) (c:Hid p) (k:OKS N P l Q D ks s (upd σ d undef) w):OKS N P l Q D ks (.fl i s) σ w:=by
 simp only [nA] at h;exact OKS.p h.1 h.2.1 h.2.2.1 (wGT h.2.2.2.1 h.2.2.2.2.1 (h.2.2.2.2.2.1.trans (wMM c.out)) h.2.2.2.2.2.2) k
theorem oN {b2:Bool} (h:(l[i]?,o.dst,nB d N,o.guard,(l[j]?).bind (·.dst),σ e,b2 == b)=(some o,some d,true,some (j,b),some e,.bool b2,false)) (k:OKS N P l Q D ks s (upd σ d undef) w):OKS N P l Q D ks (.fl i s) σ w:=by
 simp only [nA] at h;exact OKS.p h.1 h.2.1 h.2.2.1 (wGT h.2.2.2.1 h.2.2.2.2.1 h.2.2.2.2.2.1 h.2.2.2.2.2.2) k
theorem nC {a b:Bool} (h:a=b):hH (!a)=hH (!b):=h ▸ rfl
theorem nF {a:Bool} (h:¬ a=true):hH (!a)=hH (!false):=nC (hU.2 h)
theorem wT (h:(o.guard,(l[j]?).bind (·.dst),σ e)=(some (j,true),some e,.bool (decide p))) (c:Hid p):wanted l σ o=true:=by
 simp only [nA] at h;exact wHO h.1 h.2.1 (h.2.2.trans (wMM c.out))
theorem wF (h:(o.guard,(l[j]?).bind (·.dst),σ e)=(some (j,false),some e,.bool (decide p))) (c:Hid (¬ p)):wanted l σ o=true:=by
 simp only [nA] at h;exact wHO h.1 h.2.1 (h.2.2.trans (wMN c.out))
theorem rU (h:(l[i]?,o.dst,nB d N)=(some o,some d,true)) (hw:wanted l σ o=true) (hr:∀ {w'},Runs P σ w' o v w') (k:OKS N P l Q D ks s (upd σ d v) w):OKS N P l Q D ks (.fl i s) σ w:=by
 simp only [nA] at h;exact OKS.r h.1 h.2.1 h.2.2 hw (fun _=>hr) k
theorem sR {id:Nat} (s:Sch) (hs:inOrder 0 s l.length=true) (h:OKS N P l (wFN (fun D σ w=>CK r N P c2 Q D σ w) Q) D [] s σ w):CK r N P (.seq (.region id l.toArray false) c2) Q D σ w:=CK.seq (CK.reg s hs h)
theorem rR {id:Nat} (s:Sch) (hs:inOrder 0 s l.length=true) (h:OKS N P l Q D [] s σ w):CK r N P (.region id l.toArray false) Q D σ w:=CK.reg s hs h
theorem eN (h:K D σ w):OKS N P l (wFN K Q) D ks .nil σ w:=OKS.e (wHK h)
theorem cT (hz:ev σ x=.bool (decide p)) (c:Hid p) (h:CK r N P c1 Q D σ w):CK r N P (.cond x c1 c2) Q D σ w:=CK.condT (hz.trans (wMM c.out)) h
theorem cF (hz:ev σ x=.bool (decide p)) (c:Hid (¬ p)) (h:CK r N P c2 Q D σ w):CK r N P (.cond x c1 c2) Q D σ w:=CK.condF (hz.trans (wMN c.out)) h
theorem kN (h:K D σ w):CK r N P .skip (wFN K Q) D σ w:=CK.skip (wHK h)
end
def fL1:Sch:=.fl 0 .nil
def fL2:Sch:=.fl 0 (.fl 1 .nil)
def fL3:Sch:=.fl 0 gAa
def fL4:Sch:=.fl 0 (.fl 1 gAb)
def fL5:Sch:=.fl 0 (.fl 1 (.fl 2 gAc))
def fL6:Sch:=.fl 0 (.fl 1 (.fl 2 (.fl 3 gAd)))
def fL7:Sch:=.fl 0 (.fl 1 (.fl 2 (.fl 3 (.fl 4 (.fl 5 (.fl 6 .nil))))))
def fL8:Sch:=.fl 0 (.fl 1 (.fl 2 (.fl 3 (.fl 4 (.fl 5 (.fl 6 (.fl 7 .nil)))))))
def fL9:Sch:=.fl 0 (.fl 1 (.fl 2 (.fl 3 (.fl 4 (.fl 5 (.fl 6 gAe))))))
def fL10:Sch:=.fl 0 (.fl 1 (.fl 2 (.fl 3 (.fl 4 (.fl 5 (.fl 6 (.fl 7 (.fl 8 (.fl 9 .nil)))))))))
def wMw:Sch:=.fl 0 (.fl 1 (.fl 2 (.fl 3 (.fl 4 (.fl 5 (.fl 6 (.fl 7 (.fl 8 (.fl 9 (.fl 10 .nil))))))))))
def fL14:Sch:=.fl 0 (.fl 1 (.fl 2 (.fl 3 (.fl 4 (.fl 5 (.fl 6 (.fl 7 (.fl 8 (.fl 9 (.fl 10 (.fl 11 (.fl 12 (.fl 13 .nil)))))))))))))
def fL15:Sch:=.fl 0 (.fl 1 (.fl 2 (.fl 3 (.fl 4 (.fl 5 (.fl 6 (.fl 7 (.fl 8 (.fl 9 (.fl 10 (.fl 11 (.fl 12 (.fl 13 (.fl 14 .nil))))))))))))))
def fL17:Sch:=.fl 0 (.fl 1 (.fl 2 (.fl 3 (.fl 4 (.fl 5 (.fl 6 (.fl 7 (.fl 8 (.fl 9 (.fl 10 (.fl 11 (.fl 12 (.fl 13 (.fl 14 gAf))))))))))))))
def fL18:Sch:=.fl 0 (.fl 1 (.fl 2 (.fl 3 (.fl 4 (.fl 5 (.fl 6 (.fl 7 (.fl 8 (.fl 9 (.fl 10 (.fl 11 (.fl 12 (.fl 13 (.fl 14 (.fl 15 (.fl 16 (.fl 17 .nil)))))))))))))))))
def fL19:Sch:=.fl 0 (.fl 1 (.fl 2 (.fl 3 (.fl 4 (.fl 5 (.fl 6 (.fl 7 (.fl 8 (.fl 9 (.fl 10 (.fl 11 (.fl 12 (.fl 13 (.fl 14 (.fl 15 (.fl 16 (.fl 17 (.fl 18 .nil))))))))))))))))))
def fL21:Sch:=.fl 0 (.fl 1 (.fl 2 (.fl 3 (.fl 4 (.fl 5 (.fl 6 (.fl 7 (.fl 8 (.fl 9 (.fl 10 (.fl 11 (.fl 12 (.fl 13 (.fl 14 (.fl 15 (.fl 16 (.fl 17 (.fl 18 (.fl 19 (.fl 20 .nil))))))))))))))))))))
def fL22:Sch:=.fl 0 (.fl 1 (.fl 2 (.fl 3 (.fl 4 (.fl 5 (.fl 6 (.fl 7 (.fl 8 (.fl 9 (.fl 10 (.fl 11 (.fl 12 (.fl 13 (.fl 14 (.fl 15 (.fl 16 (.fl 17 (.fl 18 (.fl 19 (.fl 20 (.fl 21 .nil)))))))))))))))))))))
def fL26:Sch:=.fl 0 (.fl 1 (.fl 2 (.fl 3 (.fl 4 (.fl 5 (.fl 6 (.fl 7 (.fl 8 (.fl 9 (.fl 10 (.fl 11 (.fl 12 (.fl 13 (.fl 14 (.fl 15 (.fl 16 (.fl 17 (.fl 18 (.fl 19 (.fl 20 (.fl 21 (.fl 22 (.fl 23 (.fl 24 (.fl 25 .nil)))))))))))))))))))))))))
def fL30:Sch:=.fl 0 (.fl 1 (.fl 2 (.fl 3 (.fl 4 (.fl 5 (.fl 6 (.fl 7 (.fl 8 (.fl 9 (.fl 10 (.fl 11 (.fl 12 (.fl 13 (.fl 14 (.fl 15 (.fl 16 (.fl 17 (.fl 18 (.fl 19 (.fl 20 (.fl 21 (.fl 22 (.fl 23 (.fl 24 (.fl 25 (.fl 26 (.fl 27 (.fl 28 (.fl 29 .nil)))))))))))))))))))))))))))))
def fL31:Sch:=.fl 0 (.fl 1 (.fl 2 (.fl 3 (.fl 4 (.fl 5 (.fl 6 (.fl 7 (.fl 8 (.fl 9 (.fl 10 (.fl 11 (.fl 12 (.fl 13 (.fl 14 (.fl 15 (.fl 16 (.fl 17 (.fl 18 (.fl 19 (.fl 20 (.fl 21 (.fl 22 (.fl 23 (.fl 24 (.fl 25 (.fl 26 (.fl 27 (.fl 28 (.fl 29 (.fl 30 .nil))))))))))))))))))))))))))))))
def fL40:Sch:=.fl 0 (.fl 1 (.fl 2 (.fl 3 (.fl 4 (.fl 5 (.fl 6 (.fl 7 (.fl 8 (.fl 9 (.fl 10 (.fl 11 (.fl 12 (.fl 13 (.fl 14 (.fl 15 (.fl 16 (.fl 17 (.fl 18 (.fl 19 (.fl 20 (.fl 21 (.fl 22 (.fl 23 (.fl 24 (.fl 25 (.fl 26 (.fl 27 (.fl 28 (.fl 29 (.fl 30 (.fl 31 (.fl 32 (.fl 33 (.fl 34 (.fl 35 (.fl 36 (.fl 37 (.fl 38 (.fl 39 .nil)))))))))))))))))))))))))))))))))))))))
def wCa (s:Sch):Sch:=.fl 0 (.fl 1 (.fl 2 (s)))
def wEI (s:Sch):Sch:=.fl 0 (.fl 1 (.fl 2 (.fl 3 (s))))
def wIJ (s:Sch):Sch:=.fl 0 (.fl 1 (.fl 2 (.fl 3 (.fl 4 (s)))))
def wHd (s:Sch):Sch:=.fl 0 (.fl 1 (.fl 2 (.fl 3 (.fl 4 (.fl 5 (s))))))
def wKy (s:Sch):Sch:=.fl 0 (.fl 1 (.fl 2 (.fl 3 (.fl 4 (.fl 5 (.fl 6 (s)))))))
def fC0_7 (s:Sch):Sch:=.fl 0 (.fl 1 (.fl 2 (.fl 3 (.fl 4 (.fl 5 (.fl 6 (.fl 7 (s))))))))
def fC0_8 (s:Sch):Sch:=.fl 0 (.fl 1 (.fl 2 (.fl 3 (.fl 4 (.fl 5 (.fl 6 (.fl 7 (.fl 8 (s)))))))))
def wKz (s:Sch):Sch:=.fl 0 (.fl 1 (.fl 2 (.fl 3 (.fl 4 (.fl 5 (.fl 6 (.fl 7 (.fl 8 (.fl 9 (s))))))))))
def wMx (s:Sch):Sch:=.fl 0 (.fl 1 (.fl 2 (.fl 3 (.fl 4 (.fl 5 (.fl 6 (.fl 7 (.fl 8 (.fl 9 (.fl 10 (s)))))))))))
def wMy (s:Sch):Sch:=.fl 0 (.fl 1 (.fl 2 (.fl 3 (.fl 4 (.fl 5 (.fl 6 (.fl 7 (.fl 8 (.fl 9 (.fl 10 (.fl 11 (s))))))))))))
def wLR (s:Sch):Sch:=.fl 0 (.fl 1 (.fl 2 (.fl 3 (.fl 4 (.fl 5 (.fl 6 (.fl 7 (.fl 8 (.fl 9 (.fl 10 (.fl 11 (.fl 12 (s)))))))))))))
def wMz (s:Sch):Sch:=.fl 0 (.fl 1 (.fl 2 (.fl 3 (.fl 4 (.fl 5 (.fl 6 (.fl 7 (.fl 8 (.fl 9 (.fl 10 (.fl 11 (.fl 12 (.fl 13 (s))))))))))))))
def wNA (s:Sch):Sch:=.fl 0 (.fl 1 (.fl 2 (.fl 3 (.fl 4 (.fl 5 (.fl 6 (.fl 7 (.fl 8 (.fl 9 (.fl 10 (.fl 11 (.fl 12 (.fl 13 (.fl 14 (s)))))))))))))))
def wNB (s:Sch):Sch:=.fl 0 (.fl 1 (.fl 2 (.fl 3 (.fl 4 (.fl 5 (.fl 6 (.fl 7 (.fl 8 (.fl 9 (.fl 10 (.fl 11 (.fl 12 (.fl 13 (.fl 14 (.fl 15 (s))))))))))))))))
def wLS (s:Sch):Sch:=.fl 0 (.fl 1 (.fl 2 (.fl 3 (.fl 4 (.fl 5 (.fl 6 (.fl 7 (.fl 8 (.fl 9 (.fl 10 (.fl 11 (.fl 12 (.fl 13 (.fl 14 (.fl 15 (.fl 16 (.fl 17 (.fl 18 (s)))))))))))))))))))
def wNC (s:Sch):Sch:=.fl 0 (.fl 1 (.fl 2 (.fl 3 (.fl 4 (.fl 5 (.fl 6 (.fl 7 (.fl 8 (.fl 9 (.fl 10 (.fl 11 (.fl 12 (.fl 13 (.fl 14 (.fl 15 (.fl 16 (.fl 17 (.fl 18 (.fl 19 (s))))))))))))))))))))
def wND (s:Sch):Sch:=.fl 0 (.fl 1 (.fl 2 (.fl 3 (.fl 4 (.fl 5 (.fl 6 (.fl 7 (.fl 8 (.fl 9 (.fl 10 (.fl 11 (.fl 12 (.fl 13 (.fl 14 (.fl 15 (.fl 16 (.fl 17 (.fl 18 (.fl 19 (.fl 20 (.fl 21 (s))))))))))))))))))))))
def wNE (s:Sch):Sch:=.fl 0 (.fl 1 (.fl 2 (.fl 3 (.fl 4 (.fl 5 (.fl 6 (.fl 7 (.fl 8 (.fl 9 (.fl 10 (.fl 11 (.fl 12 (.fl 13 (.fl 14 (.fl 15 (.fl 16 (.fl 17 (.fl 18 (.fl 19 (.fl 20 (.fl 21 (.fl 22 (.fl 23 (.fl 24 (.fl 25 (.fl 26 (.fl 27 (.fl 28 (.fl 29 (.fl 30 (.fl 31 (.fl 32 (.fl 33 (.fl 34 (.fl 35 (.fl 36 (.fl 37 (.fl 38 (.fl 39 (.fl 40 (.fl 41 (.fl 42 (.fl 43 (.fl 44 (s)))))))))))))))))))))))))))))))))))))))))))))
def fC1_3 (s:Sch):Sch:=.fl 1 (.fl 2 (.fl 3 (s)))
def fC1_4 (s:Sch):Sch:=.fl 1 (.fl 2 (.fl 3 (.fl 4 (s))))
def fC1_5 (s:Sch):Sch:=.fl 1 (.fl 2 (.fl 3 (.fl 4 (.fl 5 (s)))))
def wNF (s:Sch):Sch:=.fl 1 (.fl 2 (.fl 3 (.fl 4 (.fl 5 (.fl 6 (.fl 7 (.fl 8 (.fl 9 (.fl 10 (.fl 11 (.fl 12 (.fl 13 (.fl 14 (.fl 15 (.fl 16 (.fl 17 (.fl 18 (.fl 19 (s)))))))))))))))))))
def wKV (s:Sch):Sch:=.fl 2 (.fl 3 (.fl 4 (.fl 5 (s))))
def wFy (s:Sch):Sch:=.fl 2 (.fl 3 (.fl 4 (.fl 5 (.fl 6 (s)))))
def wLA (s:Sch):Sch:=.fl 2 (.fl 3 (.fl 4 (.fl 5 (.fl 6 (.fl 7 (.fl 8 (s)))))))
def wMD (s:Sch):Sch:=.fl 3 (.fl 4 (.fl 5 (s)))
def wKW (s:Sch):Sch:=.fl 3 (.fl 4 (.fl 5 (.fl 6 (s))))
def wME (s:Sch):Sch:=.fl 3 (.fl 4 (.fl 5 (.fl 6 (.fl 7 (s)))))
def wNG (s:Sch):Sch:=.fl 3 (.fl 4 (.fl 5 (.fl 6 (.fl 7 (.fl 8 (.fl 9 (.fl 10 (.fl 11 (s)))))))))
def wNH (s:Sch):Sch:=.fl 4 (.fl 5 (.fl 6 (s)))
def fC4_7 (s:Sch):Sch:=.fl 4 (.fl 5 (.fl 6 (.fl 7 (s))))
def wNI (s:Sch):Sch:=.fl 4 (.fl 5 (.fl 6 (.fl 7 (.fl 8 (s)))))
def wNJ (s:Sch):Sch:=.fl 4 (.fl 5 (.fl 6 (.fl 7 (.fl 8 (.fl 9 (.fl 10 (.fl 11 (.fl 12 (.fl 13 (.fl 14 (.fl 15 (.fl 16 (.fl 17 (.fl 18 (.fl 19 (.fl 20 (.fl 21 (.fl 22 (.fl 23 (s))))))))))))))))))))
def wLB (s:Sch):Sch:=.fl 5 (.fl 6 (.fl 7 (s)))
def wHD (s:Sch):Sch:=.fl 5 (.fl 6 (.fl 7 (.fl 8 (s))))
def wJg (s:Sch):Sch:=.fl 5 (.fl 6 (.fl 7 (.fl 8 (.fl 9 (s)))))
def wLT (s:Sch):Sch:=.fl 5 (.fl 6 (.fl 7 (.fl 8 (.fl 9 (.fl 10 (.fl 11 (.fl 12 (.fl 13 (.fl 14 (.fl 15 (s)))))))))))
def fC6_8 (s:Sch):Sch:=.fl 6 (.fl 7 (.fl 8 (s)))
def wNK (s:Sch):Sch:=.fl 6 (.fl 7 (.fl 8 (.fl 9 (.fl 10 (s)))))
def wLU (s:Sch):Sch:=.fl 6 (.fl 7 (.fl 8 (.fl 9 (.fl 10 (.fl 11 (.fl 12 (s)))))))
def fC7_9 (s:Sch):Sch:=.fl 7 (.fl 8 (.fl 9 (s)))
def wLV (s:Sch):Sch:=.fl 7 (.fl 8 (.fl 9 (.fl 10 (.fl 11 (s)))))
def wLW (s:Sch):Sch:=.fl 7 (.fl 8 (.fl 9 (.fl 10 (.fl 11 (.fl 12 (s))))))
def wLX (s:Sch):Sch:=.fl 7 (.fl 8 (.fl 9 (.fl 10 (.fl 11 (.fl 12 (.fl 13 (s)))))))
def wLY (s:Sch):Sch:=.fl 8 (.fl 9 (.fl 10 (s)))
def wIK (s:Sch):Sch:=.fl 8 (.fl 9 (.fl 10 (.fl 11 (s))))
def wNL (s:Sch):Sch:=.fl 9 (.fl 10 (.fl 11 (.fl 12 (s))))
def wMF (s:Sch):Sch:=.fl 10 (.fl 11 (.fl 12 (.fl 13 (s))))
def wKX (s:Sch):Sch:=.fl 11 (.fl 12 (.fl 13 (.fl 14 (s))))
def wMG (s:Sch):Sch:=.fl 20 (.fl 21 (.fl 22 (s)))
def wMH (s:Sch):Sch:=.fl 22 (.fl 23 (.fl 24 (s)))
def wMI (s:Sch):Sch:=.fl 47 (.fl 48 (.fl 49 (.fl 50 (s))))
theorem zA:type_of% @nG:=@nG
theorem zB:type_of% @wJl:=@wJl
theorem zC:type_of% @Try.sizeOf3:=@Try.sizeOf3
theorem zD:type_of% @Enters.mk:=@Enters.mk
theorem zE:type_of% @Try.runUnderlying23:=@Try.runUnderlying23
theorem zF:type_of% @OKS.callH:=@OKS.callH
theorem zG:type_of% @Runs.fa:=@Runs.fa
theorem zH:type_of% @wHK:=@wHK
theorem zI:type_of% @Try.sizeOf104:=@Try.sizeOf104
theorem zJ:type_of% @Try.isAgg3:=@Try.isAgg3
theorem zK:type_of% @Try.runUnderlying28:=@Try.runUnderlying28
theorem zL:type_of% @CK.seq:=@CK.seq
theorem zM:type_of% @Hid.mk:=@Hid.mk
theorem zN:type_of% @wLC:=@wLC
theorem zO:type_of% @PHeap.Le.refl:=@PHeap.Le.refl
theorem zP:type_of% @Runs.pickT:=@Runs.pickT
theorem zQ:type_of% @wHO:=@wHO
theorem zR:type_of% @wJk:=@wJk
theorem zS:type_of% @CK.ret:=@CK.ret
theorem zT:type_of% @wGT:=@wGT
theorem zU:type_of% @Runs.ext:=@Runs.ext
theorem zV:type_of% @OKS.alloc:=@OKS.alloc
theorem zW:type_of% @OKS.st:=@OKS.st
theorem zX:type_of% @Try.sizeOf28:=@Try.sizeOf28
theorem zY:type_of% @CK.block:=@CK.block
theorem zZ:type_of% @Runs.pickF:=@Runs.pickF
theorem za:type_of% @Runs.addw:=@Runs.addw
theorem zb:type_of% @OKS.e:=@OKS.e
theorem zc:type_of% @Runs.lss:=@Runs.lss
theorem zd:type_of% @Try.zeroValue104:=@Try.zeroValue104
theorem ze:type_of% @wIo:=@wIo
theorem zf:type_of% @Try.isAgg28:=@Try.isAgg28
theorem zg:type_of% @OKS.r:=@OKS.r
theorem zh:type_of% @Try.isAgg104:=@Try.isAgg104
theorem zi:type_of% @wJj:=@wJj
theorem zj:type_of% @Try.runUnderlying78:=@Try.runUnderlying78
theorem zk:type_of% @OKS.rm:=@OKS.rm
theorem zl:type_of% @Runs.build:=@Runs.build
theorem zm:type_of% @OKS.buildSlice:=@OKS.buildSlice
theorem zn:type_of% @Try.runUnderlying26:=@Try.runUnderlying26
theorem zo:type_of% @wIm:=@wIm
theorem zq:type_of% @Runs.len:=@Runs.len
theorem zr:type_of% @OKS.both:=@OKS.both
theorem zt:type_of% @CK.condF:=@CK.condF
theorem zu:type_of% @OKS.box:=@OKS.box
theorem zw:type_of% @wMN:=@wMN
theorem zx:type_of% @Try.runUnderlying39:=@Try.runUnderlying39
theorem zy:type_of% @Try.sizeOf23:=@Try.sizeOf23
theorem zz:type_of% @Try.zeroValue3:=@Try.zeroValue3
theorem ZA:type_of% @Try.sizeOf41:=@Try.sizeOf41
theorem ZB:type_of% @OKS.px:=@OKS.px
theorem ZC:type_of% @Try.sizeOf39:=@Try.sizeOf39
theorem ZD:type_of% @OKS.p:=@OKS.p
theorem ZE:type_of% @CK.anyOrd:=@CK.anyOrd
theorem ZF:type_of% @Try.mixed:=@Try.mixed
theorem ZG:type_of% @Runs.to:=@Runs.to
theorem ZH:type_of% @Try.sizeOf26:=@Try.sizeOf26
theorem ZI:type_of% @Try.runUnderlying124:=@Try.runUnderlying124
theorem ZJ:type_of% @OKS.m:=@OKS.m
theorem ZK:type_of% @Try.isAgg23:=@Try.isAgg23
theorem ZL:type_of% @CK.condT:=@CK.condT
theorem ZM:type_of% @res1:=@res1
theorem ZN:type_of% @Try.sizeOf78:=@Try.sizeOf78
theorem ZO:type_of% @Try.runUnderlying121:=@Try.runUnderlying121
theorem ZP:type_of% @Try.runUnderlying24:=@Try.runUnderlying24
theorem ZQ:type_of% @wIn:=@wIn
theorem ZR:type_of% @OKS.mx2:=@OKS.mx2
theorem ZS:type_of% @Try.zeroValue41:=@Try.zeroValue41
theorem ZT:type_of% @OKS.cutD:=@OKS.cutD
theorem ZU:type_of% @Try.runUnderlying118:=@Try.runUnderlying118
theorem ZV:type_of% @Try.runUnderlying25:=@Try.runUnderlying25
theorem ZW:type_of% @Try.sizeOf169:=@Try.sizeOf169
theorem ZX:type_of% @Try.runUnderlying41:=@Try.runUnderlying41
theorem ZY:type_of% @Runs.iaI:=@Runs.iaI
theorem ZZ:type_of% @Runs.neq:=@Runs.neq
theorem Za:type_of% @CK.exit:=@CK.exit
theorem Zb:type_of% @Try.zeroValue39:=@Try.zeroValue39
theorem Zc:type_of% @Runs.iaN:=@Runs.iaN
theorem Zd:type_of% @Runs.nilp:=@Runs.nilp
theorem Ze:type_of% @Runs.notT:=@Runs.notT
theorem Zf:type_of% @Try.sizeOf45:=@Try.sizeOf45
theorem Zg:type_of% @Try.runUnderlying69:=@Try.runUnderlying69
theorem Zh:type_of% @CK.skip:=@CK.skip
theorem Zi:type_of% @Try.isAgg26:=@Try.isAgg26
theorem Zj:type_of% @wMM:=@wMM
theorem Zk:type_of% @Try.zeroValue118:=@Try.zeroValue118
theorem Zl:type_of% @Try.sizeOf25:=@Try.sizeOf25
theorem Zm:type_of% @OKS.append:=@OKS.append
theorem Zn:type_of% @Try.zeroValue78:=@Try.zeroValue78
theorem Zo:type_of% @Try.runUnderlying170:=@Try.runUnderlying170
theorem Zp:type_of% @Try.isAgg78:=@Try.isAgg78
theorem Zq:type_of% @Try.sizeOf43:=@Try.sizeOf43
theorem Zr:type_of% @Try.runUnderlying43:=@Try.runUnderlying43
theorem Zs:type_of% @Runs.eql:=@Runs.eql
theorem Zt:type_of% @Try.runUnderlying169:=@Try.runUnderlying169
theorem Zu:type_of% @Try.runUnderlying112:=@Try.runUnderlying112
theorem Zv:type_of% @Try.runUnderlying94:=@Try.runUnderlying94
theorem Zw:type_of% @Try.zeroValue28:=@Try.zeroValue28
theorem Zx:type_of% @Try.sizeOf121:=@Try.sizeOf121
theorem Zy:type_of% @Try.sizeOf118:=@Try.sizeOf118
theorem Zz:type_of% @Try.call32:=@Try.call32
theorem yA:type_of% @Try.isAgg41:=@Try.isAgg41
theorem yB:type_of% @Try.zeroValue169:=@Try.zeroValue169
theorem yC:type_of% @Try.sizeOf24:=@Try.sizeOf24
theorem yD:type_of% @Try.isAgg121:=@Try.isAgg121
theorem yE:type_of% @Try.isAgg25:=@Try.isAgg25
theorem yF:type_of% @Try.isAgg45:=@Try.isAgg45
theorem yG:type_of% @Try.zeroValue45:=@Try.zeroValue45
theorem yH:type_of% @CK.forN:=@CK.forN
theorem yI:type_of% @Try.isAgg39:=@Try.isAgg39
theorem yJ:type_of% @Runs.subw:=@Runs.subw
theorem yK:type_of% @OKS.ra:=@OKS.ra
theorem yL:type_of% @Try.sizeOf74:=@Try.sizeOf74
theorem yM:type_of% @Try.zeroValue99:=@Try.zeroValue99
theorem yN:type_of% @Try.runUnderlying130:=@Try.runUnderlying130
theorem yO:type_of% @CK.cut:=@CK.cut
theorem yP:type_of% @Try.call75:=@Try.call75
theorem yQ:type_of% @Try.isAgg24:=@Try.isAgg24
theorem yR:type_of% @Try.isAgg74:=@Try.isAgg74
theorem yS:type_of% @Try.call103:=@Try.call103
theorem yU:type_of% @Try.runUnderlying29:=@Try.runUnderlying29
theorem yV:type_of% @Try.zeroValue43:=@Try.zeroValue43
theorem yW:type_of% @Try.isAgg169:=@Try.isAgg169
theorem yX:type_of% @Try.call48:=@Try.call48
theorem yY:type_of% @Try.sizeOf122:=@Try.sizeOf122
theorem yZ:type_of% @Try.runUnderlying3:=@Try.runUnderlying3
theorem ya:type_of% @Try.isAgg99:=@Try.isAgg99
theorem yb:type_of% @Runs.gtr:=@Runs.gtr
theorem yc:type_of% @Try.runUnderlying122:=@Try.runUnderlying122
theorem yd:type_of% @Try.sizeOf130:=@Try.sizeOf130
theorem ye:type_of% @CK.fresh:=@CK.fresh
theorem yf:type_of% @Try.underlying23:=@Try.underlying23
theorem yg:type_of% @Try.underlying26:=@Try.underlying26
theorem yh:type_of% @Runs.ixA:=@Runs.ixA
theorem yi:type_of% @Try.call31:=@Try.call31
theorem yj:type_of% @OKS.callHT:=@OKS.callHT
theorem yk:type_of% @OKS.stR:=@OKS.stR
theorem yl:type_of% @Runs.mkf:=@Runs.mkf
theorem ym:type_of% @Try.call49:=@Try.call49
end Go.Proofs.Ytlnfbjphfoipaaa
namespace Go.Proofs.Ytlnfbjphfoipaaa
open Go.KL
set_option maxHeartbeats 4000000
theorem wDT (p0:List Int) (ab:Option Addr) (ac:Nat) (w:World) (φ:PHeap) (hS:St0 w φ []) (ai:Sl φ 1 ab ac p0.length (hD KL.encB8 p0)) {r:wAH} (hm:wBh p0=some r):Gv Try.prog 9 [.slice ab p0.length ac] w (wCF w [] φ (fun φ_ L_ v=>∃ (b0:Nat) (A0p0:Option Addr) (c0p0:Nat),v=.pointer (some ⟨b0,0,none⟩)/\L_=[.blk b0 94 [.slice A0p0 r.bytes.length c0p0,jV r.next,.int .u32 r.state]]/\Sl φ_ 1 A0p0 c0p0 r.bytes.length (hD KL.encB8 r.bytes))):=by
 unfold wBh at hm
 refine Gv.of Try.func9 Z Try.ntmps9 Try.results9 Z (sR fL1 Z (oA Z Z (eN (sR gBa Z (oM Z Z ?_)))))
 let B0:List Value:=[.slice ab p0.length ac,jV 0,.int .u32 17]
 refine zg rfl rfl rfl rfl (fun _=>zl (pv:=[(0,.slice ab p0.length ac),(2,.int .u32 17)]) (z:=[.slice none 0 0,jV 0,.int .u32 0]) (cs:=B0) rfl (wAG rfl (wAG rfl wAN)) Try.zeroValue94 wKj rfl rfl) (zu (cs:=B0) rfl rfl rfl rfl rfl rfl (by rfl) hS ?_)
 intro W1 b2 ah
 refine oA Z Z (eN (zS ?_))
 cases hm
 exact ⟨Z,_,(ZM Z),φ,_,ah,b2,ab,ac,Z,Z,ai⟩
theorem wAR (p0:wAH) (ag:Nat) (ac:Option Addr) (ae:Nat) (p1:Int) (w:World) (φ:PHeap) (hS:St0 w φ [.blk ag 94 [.slice ac p0.bytes.length ae,jV p0.next,.int .u32 p0.state]]) (ai:Sl φ 1 ac ae p0.bytes.length (hD KL.encB8 p0.bytes)) {r:Int × wAH} (hm:wAL p0 p1=some r):Gv Try.prog 32 [.pointer (some ⟨ag,0,none⟩),jV p1] w (wCF w [.blk ag 94 [.slice ac p0.bytes.length ae,jV p0.next,.int .u32 p0.state]] φ (fun φ_ L_ v=>∃ (az:Option Addr) (aE:Nat),v=jV r.1/\L_=[.blk ag 94 [.slice az r.2.bytes.length aE,jV r.2.next,.int .u32 r.2.state]]/\Sl φ_ 1 az aE r.2.bytes.length (hD KL.encB8 r.2.bytes))):=by
 unfold wAL at hm
 refine Gv.of Try.func32 Z Try.ntmps32 Try.results32 Z (sR fL1 Z (oA Z Z (eN (zL (sR fL10 Z (oM Z Z (oR Z (Runs.leq Z Z Z) (oM Z Z ?_))))))))
 by_cases c2:p1 <= 1
 have aH:=hm;rw [if_pos c2] at aH;replace c2:=zM c2
 refine oT Z c2 (oT Z c2 (oT Z c2 (oT Z c2 (oT Z c2 (oT Z c2 (oR Z (zP Z (Zj c2.out) Z) (eN (ZL Z (sR fL1 Z (oA Z Z (eN (zS (zR ?_)))))))))))))
 cases aH
 exact ⟨Z,_,(ZM Z),φ,_,hS,ac,ae,Z,Z,ai⟩
 have aI:=hm;rw [if_neg c2] at aI;replace c2:=zM c2
 refine zk Z Z Z (wF Z c2) Z Z (rU Z (wF Z c2) (Zd Z Z) (rU Z (wF Z c2) (zG Z Z Zv Z Try.sizeOf22) (ZJ Z Z Z (wF Z c2) (hS.ldB (j:=0) Z Z Z Try.isAgg22 (v:=.slice ac p0.bytes.length ae) Z) Z (rU Z (wF Z c2) (zq Z Z Try.runUnderlying22) (rU Z (wF Z c2) (Zs Z Z Z) (oR Z (zZ Z (zw c2.out) Z) (eN (ifc aI ?_ ?_))))))))
 intro c5 bc
 refine cT Z c5 (sR fL1 Z (oA Z Z (eN (zS (zR ?_)))))
 cases bc
 exact ⟨Z,_,(ZM Z),φ,_,hS,ac,ae,Z,Z,ai⟩
 intro c5 bd
 refine cF Z c5 (kN (zL (ZE ZF [3,3,3,1,3,3,3,1,3,3,3,1,3,3,3,1,3,3,3,3,1,3,3,3,1,3,3,3,3,3] fL30 (by kernel_rfl) ?_)))
 have af:=hS.drew
 generalize hw_W9:({ w with drawn:=w.drawn + 1 }:World)=W9 at af ⊢
 refine oM Z Z (oR Z (Zd Z Z) (oR Z (zG Z Z Zv Z Try.sizeOf22) (oL Z (af.ldB (j:=0) Z Z Z Try.isAgg22 (v:=.slice ac p0.bytes.length ae) Z) (oM Z Z (oR Z (Zd Z Z) (oR Z (zG Z Z Zv Z zC) (oL Z (af.ldB (j:=0) Z Z Z zJ (v:=jV p0.next) Z) (oM Z Z (oR Z (Zd Z Z) (oR Z (zG Z Z Zv Z Try.sizeOf22) (oL Z (af.ldB (j:=0) Z Z Z Try.isAgg22 (v:=.slice ac p0.bytes.length ae) Z) (oR Z (zq Z Z Try.runUnderlying22) (bnK bd fun bi aM aW=>oR Z (Runs.rem Z Z Z aM) (bnK aW fun aJ ay aX=>?_))))))))))))))
 have q:=ai.el (fun _=>rfl) (wAX ay)
 obtain ⟨bg,bh,aS,aT⟩:=q
 refine oR Z (ZY Z Z aS Z Try.runUnderlying22 Try.sizeOf5 (wCG ay) (wCI ay)) (oL Z (af.ldC (f:=0) aT (v:=.int .u8 aJ) Z Z Try.isAgg5 Z) (oR Z (Runs.cvu Z Z Try.runUnderlying5 Try.runUnderlying92 Z Z) (oM Z Z (oR Z (Zd Z Z) (oR Z (zG Z Z Zv Z zC) (oL Z (af.ldB (j:=0) Z Z Z zJ (v:=jV p0.next) Z) (oM Z Z (oR Z (Zd Z Z) (oR Z (zG Z Z Zv Z Try.sizeOf22) (oL Z (af.ldB (j:=0) Z Z Z Try.isAgg22 (v:=.slice ac p0.bytes.length ae) Z) (oR Z (zq Z Z Try.runUnderlying22) (bnK aX fun be aN aY=>oR Z (Runs.quo Z Z Z aN) (oR Z (Runs.cvu Z Z yZ Try.runUnderlying92 Z Z) (oA Z Z (oA Z Z (eN (zL (ye fun au am=>?_))))))))))))))))))
 have aj:au 0=.pointer (some ⟨ag,0,none⟩):=(am 0).trans rfl
 have an:au 1=jV p1:=(am 1).trans rfl
 have ao:au 5=.int .u32 (wEm aJ):=(am 5).trans rfl
 have aF:au 6=.int .u32 (wEm be):=(am 6).trans rfl
 clear am
 refine rR (wKy (.fx 7 .nil .stop)) Z (oM Z aj (oR Z (Zd Z Z) (oR Z (zG Z Z Zv Z zC) (oL Z (af.ldB (j:=0) Z Z Z zJ (v:=jV p0.next) Z) (oR Z (za Z Z Z) (oR Z (Zd Z Z) (oR Z (zG Z Z Zv Z zC) (zW (j:=0) (vs:=[jV (w64 (p0.next + 1))]) Z Z Z Z af Z Z Z Z zC (zA Z) Z Z Z ?_))))))))
 intro aK aU
 let B0:Res:=.blk ag 94 [.slice ac p0.bytes.length ae,jV p0.next,.int .u32 p0.state]
 have aG:SW w [B0] φ φ [.blk ag 94 [.slice ac p0.bytes.length ae,jV (w64 (p0.next + 1)),.int .u32 p0.state]] aK:=aU
 refine eN (sR (wNA (.fx 15 .nil .stop)) Z (oM Z aj (oM Z aj (oR Z (Zd Z Z) (oR Z (zG Z Z Zv Z Try.sizeOf92) (oL Z (aG.ldB (j:=0) Z Z Z Try.isAgg92 (v:=.int .u32 p0.state) Z) (oR Z (Runs.mulu Z Z Z) (oM Z ao (oR Z (Runs.addu Z Z Z) (oM Z aF (oR Z (Runs.mulu Z Z Z) (oR Z (Runs.addu Z Z Z) (oR Z (Runs.addu Z Z Z) (bnK aY fun aq aO aZ=>oR Z (Runs.rem Z Z Z aO) (oR Z (Zd Z Z) (oR Z (zG Z Z Zv Z Try.sizeOf92) (zW (j:=0) (vs:=[.int .u32 aq]) Z Z Z Z aG Z Z Z Z Try.sizeOf92 (zA Z) Z Z Z ?_)))))))))))))))))
 intro aL aV
 have ak:SW w [B0] φ φ [.blk ag 94 [.slice ac p0.bytes.length ae,jV (w64 (p0.next + 1)),.int .u32 aq]] aL:=aV
 refine eN (zL (sR fL6 Z (oM Z aF (oR Z (Zs Z Z Z) (oM Z Z (ifc aZ ?_ ?_))))))
 intro ah a5
 refine zk Z Z Z (wT Z ah) Z an (rU Z (wT Z ah) (Runs.leq Z Z Z) (oR Z (zP Z (Zj ah.out) Z) (eN (ifc a5 ?_ ?_))))
 intro av a6
 refine cT Z av (sR fL5 Z (oM Z ao (oR Z (Runs.cvw Z Z Try.runUnderlying92 yZ Z Z) (oM Z an (bnK a6 fun bj aP a7=>oR Z (Runs.rem Z Z Z aP) (oA Z Z (eN (zS (zR ?_)))))))))
 cases a7
 exact ⟨Z,_,(ZM Z),φ,_,ak,ac,ae,Z,Z,ai⟩
 intro av a8
 refine cF Z av (kN (sR wMw Z (oM Z aj (oR Z (Zd Z Z) (oR Z (zG Z Z Zv Z Try.sizeOf92) (oL Z (ak.ldB (j:=0) Z Z Z Try.isAgg92 (v:=.int .u32 aq) Z) (oR Z (Runs.mulu Z Z Z) (oM Z ao (oR Z (Runs.addu Z Z Z) (oR Z (Runs.cvw Z Z Try.runUnderlying92 yZ Z Z) (oM Z an (bnK a8 fun bm aQ a9=>oR Z (Runs.rem Z Z Z aQ) (oA Z Z (eN (zS ?_)))))))))))))))
 cases a9
 exact ⟨Z,_,(ZM Z),φ,_,ak,ac,ae,Z,Z,ai⟩
 intro ah ba
 refine oF Z ah (oF Z ah (oR Z (zZ Z (zw ah.out) Z) (eN (zt Z (kN (sR wMw Z (oM Z aj (oR Z (Zd Z Z) (oR Z (zG Z Z Zv Z Try.sizeOf92) (oL Z (ak.ldB (j:=0) Z Z Z Try.isAgg92 (v:=.int .u32 aq) Z) (oR Z (Runs.mulu Z Z Z) (oM Z ao (oR Z (Runs.addu Z Z Z) (oR Z (Runs.cvw Z Z Try.runUnderlying92 yZ Z Z) (oM Z an (bnK ba fun bn aR bb=>oR Z (Runs.rem Z Z Z aR) (oA Z Z (eN (zS ?_)))))))))))))))))))
 cases bb
 exact ⟨Z,_,(ZM Z),φ,_,ak,ac,ae,Z,Z,ai⟩
theorem wAa (p0:wAH) (ab:Nat) (ac:Option Addr) (ae:Nat) (p1:Int) (p2:Int) (w:World) (φ:PHeap) (hS:St0 w φ [.blk ab 94 [.slice ac p0.bytes.length ae,jV p0.next,.int .u32 p0.state]]) (ay:Sl φ 1 ac ae p0.bytes.length (hD KL.encB8 p0.bytes)) {r:Int × wAH} (hm:wAO p0 p1 p2=some r):Gv Try.prog 31 [.pointer (some ⟨ab,0,none⟩),jV p1,jV p2] w (wCF w [.blk ab 94 [.slice ac p0.bytes.length ae,jV p0.next,.int .u32 p0.state]] φ (fun φ_ L_ v=>∃ (aj:Option Addr) (am:Nat),v=jV r.1/\L_=[.blk ab 94 [.slice aj r.2.bytes.length am,jV r.2.next,.int .u32 r.2.state]]/\Sl φ_ 1 aj am r.2.bytes.length (hD KL.encB8 r.2.bytes))):=by
 unfold wAO at hm
 refine Gv.of Try.func31 Z Try.ntmps31 Try.results31 Z (sR fL1 Z (oA Z Z (eN (sR (wHd gAp) Z (oM Z Z (oM Z Z (oM Z Z (oM Z Z (oR Z (yJ Z Z Z) (oR Z (za Z Z Z) ?_))))))))))
 have q:=bnd hm
 obtain ⟨⟨x2,x3⟩,h4,an⟩:=q
 try dsimp only at an
 refine zF 1 Z Z Z Z (zD Z Z Zz (zB Z (zB Z zN)) Z) hS (fun hs=>wAR p0 ab ac ae (w64 ((w64 (p2 - p1)) + 1)) w φ hs ay h4) (.inl Z) ?_
 rintro ao L7 v8 W9 aD av ⟨ai,ak,rfl,rfl,aq⟩
 have ax:SW w [.blk ab 94 [.slice ac p0.bytes.length ae,jV p0.next,.int .u32 p0.state]] φ ao [.blk ab 94 [.slice ai x3.bytes.length ak,jV x3.next,.int .u32 x3.state]] W9:=av
 refine oR Z (za Z Z Z) (oA Z Z (eN (zS ?_)))
 cases an
 exact ⟨Z,_,(ZM Z),ao,_,ax,ai,ak,Z,Z,aq⟩
theorem wFG (p0:wAH) (ab:Nat) (dX:Option Addr) (dY:Nat) (p1:Int) (p2:Int) (p3:Int) (w:World) (φ:PHeap) (hS:St0 w φ [.blk ab 94 [.slice dX p0.bytes.length dY,jV p0.next,.int .u32 p0.state]]) (C6:Sl φ 1 dX dY p0.bytes.length (hD KL.encB8 p0.bytes)) {r:wAC × (List (List Int)) × (List Int) × wAH} (hm:wBb p0 p1 p2 p3=some r):Gv Try.prog 8 [.pointer (some ⟨ab,0,none⟩),jV p1,jV p2,jV p3] w (wCF w [.blk ab 94 [.slice dX p0.bytes.length dY,jV p0.next,.int .u32 p0.state]] φ (fun φ_ L_ v=>∃ (jg:Option Addr) (lD:Nat) (jh:Option Addr) (lE:Nat) (ji:Option Addr) (lF:Nat) (jj:Option Addr) (lG:Nat) (A1:Option Addr) (c1:Nat) (A2:Option Addr) (c2:Nat) (jQ:Option Addr) (mo:Nat),v=.tuple #[.agg #[.slice jg r.1.Starts.length lD,.slice jh r.1.Splits.length lE,.slice ji r.1.Clocks.length lF,.slice jj r.1.Readings.length lG],.slice A1 r.2.1.length c1,.slice A2 r.2.2.1.length c2]/\L_=[.row jg lD 3 1 (hD KL.encI r.1.Starts),.row jh lE 41 2 (hD wAE r.1.Splits),.row ji lF 43 3 (hD wAB r.1.Clocks),.row jj lG 39 4 (hD wAA r.1.Readings),.row A2 c2 3 1 (hD KL.encI r.2.2.1),.blk ab 94 [.slice jQ r.2.2.2.bytes.length mo,jV r.2.2.2.next,.int .u32 r.2.2.2.state]]/\SlR φ_ wIs A1 c1 r.2.1/\Sl φ_ 1 jQ mo r.2.2.2.bytes.length (hD KL.encB8 r.2.2.2.bytes))):=by
 unfold wBb at hm
 refine Gv.of Try.func8 Z Try.ntmps8 Try.results8 Z (sR (.fx 0 gAa .stop) Z ?_)
 let B0:List Value:=[.slice none 0 0,.slice none 0 0,.slice none 0 0,.slice none 0 0]
 refine zV (cs:=B0) Z Z Z Z Z Zw Z hS ?_
 intro W2 b3 Ci
 refine oA Z Z (oA Z Z (eN (sR (.fx 0 .nil .stop) Z (zV (cs:=B0) Z Z Z Z Z Zw Z Ci ?_))))
 intro W6 b7 CE
 refine eN (sR fL1 Z (oA Z Z (eN (sR fL1 Z (oA Z Z (eN (zL (sR gBa Z (oM Z Z (oM Z Z ?_))))))))))
 have q:=bnd hm
 obtain ⟨⟨fQ,iL⟩,xi,pn⟩:=q
 try dsimp only at pn
 let B1:Res:=.blk ab 94 [.slice dX p0.bytes.length dY,jV p0.next,.int .u32 p0.state]
 have AC:SW w [B1] φ φ [B1,.blk b7 28 B0,.blk b3 28 B0] W6:=CE.pick [2,0,1] _ (by decide) rfl
 refine zF 1 Z Z Z Z (zD Z Z yi (zB Z (zB Z (zB Z zN))) Z) AC (fun hs=>wAa p0 ab dX dY 1 p1 W6 φ hs C6 xi) (.inl Z) ?_
 rintro i4 E4 Gp q8 Gc Bv ⟨jE,l3,rfl,rfl,xV⟩
 have BW:SW w [B1] φ i4 [.blk ab 94 [.slice jE iL.bytes.length l3,jV iL.next,.int .u32 iL.state],.blk b7 28 B0,.blk b3 28 B0] q8:=Bv
 refine oM Z Z (eN (zY ?_))
 have q:=bnd pn
 obtain ⟨⟨EL,EM,EN,ax⟩,Df,pJ⟩:=q
 try dsimp only at pJ
 have q:=wBL Df
 obtain ⟨iF,Dg⟩:=q
 replace iF:=zM iF
 refine CK.forN' (fun dQ (dU,iV,iW,bY) σ_ w_=>∃ (φ_:PHeap) (eI:Option Addr) (ft:Nat) (cn:Option Addr) (cz:Nat),σ_ 28=jV (↑dQ:Int)/\σ_ 0=.pointer (some ⟨ab,0,none⟩)/\σ_ 2=jV p2/\σ_ 3=jV p3/\σ_ 8=.pointer (some ⟨b3,0,none⟩)/\σ_ 11=.pointer (some ⟨b7,0,none⟩)/\σ_ 12=.slice none 0 0/\σ_ 13=.slice none 0 0/\σ_ 27=jV fQ/\PHeap.Le i4 φ_/\SW w [B1] φ φ_ [.blk ab 94 [.slice eI dU.length ft,jV iV,.int .u32 iW],.row cn cz 3 1 (hD KL.encI bY),.blk b7 28 [.slice cn bY.length cz,.slice none 0 0,.slice none 0 0,.slice none 0 0],.blk b3 28 B0] w_/\Sl φ_ 1 eI ft dU.length (hD KL.encB8 dU)) Dg ?_ ?_ ?_
 have CA:=BW.nilrow 3 1
 exact ⟨i4,jE,l3,none,0,rfl,rfl,rfl,rfl,rfl,rfl,rfl,rfl,rfl,(zO _),(CA.pick [1,0,2,3] _ (by decide) rfl),xV⟩
 rintro dQ ⟨dU,iV,iW,bY⟩ GP Hj lu iz ⟨EZ,eI,ft,cn,cz,oK,g8,w5,w6,w7,g9,w8,w9,oI,Eu,CJ,Ad⟩ pW
 try dsimp only at pW
 have ml:Hid ((↑dQ:Int) < fQ):=zM (wAs iz)
 replace iz:=zM iz
 have Ds:Hid (w64 ((↑dQ:Int) + 1)=(↑(dQ + 1):Int)):=zM (by have h1:=iF.out;have h2:=ml.out;rw [wAT] <;> omega)
 refine sR fL1 rfl (zg rfl rfl rfl rfl (fun _=>zc rfl oK oI) (eN (zL (cT Z ml (kN (zL (zY (ZE ZF [3,1004,3,1005,3,3,1005,3,2,0,3,0,ab] (wCa (.fl 5 (.fx 3 (.fl 4 (.fx 6 (.fl 7 (.fx 8 (.fx 9 (.fl 10 (.fx 11 .nil .stop)) .stop) .stop)) .stop)) .stop))) (by kernel_rfl) ?_))))))))
 have im:=CJ.drew
 generalize hw_W140:({ lu with drawn:=lu.drawn + 1 }:World)=qQ at im ⊢
 refine oR Z (zG Z g9 zK Z zy) ?_
 let B2:Res:=.blk b7 28 [.slice cn bY.length cz,.slice none 0 0,.slice none 0 0,.slice none 0 0]
 let B3:Res:=.row cn cz 3 1 (hD KL.encI bY)
 refine OKS.mt (T:=[ab]) [0] [1,2,3] [B3,B2,.blk b3 28 B0] rfl rfl rfl rfl im rfl ⟨⟨0,by decide,_,rfl,rfl⟩,trivial⟩ (by decide) rfl (by decide) (fun _ CU=>(CU.ldB (j:=1) rfl rfl rfl ZK (v:=.slice cn bY.length cz) rfl)) rfl (zk rfl rfl rfl rfl rfl g8 (zk rfl rfl rfl rfl rfl g8 ?_))
 have q:=bnd pW
 obtain ⟨⟨dZ,fR⟩,xp,po⟩:=q
 try dsimp only at po
 refine yj 1 rfl rfl rfl rfl (zD rfl rfl Zz (zB rfl (zB rfl zN)) rfl) im (fun hs=>wAR (⟨dU,iV,iW⟩:wAH) ab eI ft 4 qQ EZ hs Ad xp) rfl (T:=[ab]) rfl ⟨fun b h=>(by cases h;exact .head _),trivial⟩ ?_
 rintro qw E3 Gl lb D8 AG ⟨jq,lM,rfl,rfl,xq⟩
 have AJ:SW w [B1] φ qw [.blk ab 94 [.slice jq fR.bytes.length lM,jV fR.next,.int .u32 fR.state],B3,B2,.blk b3 28 B0] lb:=AG
 refine oR Z (Runs.mulw Z Z Z) ?_
 have q:=bnd po
 obtain ⟨⟨d5,iM⟩,xr,pp⟩:=q
 try dsimp only at pp
 refine yj 1 rfl rfl rfl rfl (zD rfl rfl Zz (zB rfl (zB rfl zN)) rfl) AJ (fun hs=>wAR fR ab jq lM 3 lb qw hs xq xr) rfl (T:=[ab]) rfl ⟨fun b h=>(by cases h;exact .head _),trivial⟩ ?_
 rintro ej E5 Gm qZ D9 AV ⟨ju,lP,rfl,rfl,xw⟩
 let B4:Res:=.blk ab 94 [.slice ju iM.bytes.length lP,jV iM.next,.int .u32 iM.state]
 have AZ:SW w [B1] φ ej [B4,B3,B2,.blk b3 28 B0] qZ:=AV
 refine oR Z (za Z Z Z) (zm (pv:=[(0,jV (w64 ((w64 (300 * dZ)) + d5)))]) (zs:=[jV 0]) (cs:=[jV (w64 ((w64 (300 * dZ)) + d5))]) Z Z Z Z Z (wAG Z wAN) zE zC zz Z Z Z Z Z AZ ?_)
 intro q7 rY A5
 let B5:Res:=.row (some ⟨rY,0,none⟩) 1 3 1 (hD KL.encI [w64 ((w64 (300 * dZ)) + d5)])
 have o7:SW w [B1] φ ej [B5,B4,B3,B2,.blk b3 28 B0] q7:=A5
 refine bnK pp fun fS xC Dt=>Zm (j:=2) (enc:=KL.encI) (xs:=bY) (ys:=[w64 ((w64 (300 * dZ)) + d5)]) (zs:=fS) rfl rfl rfl rfl rfl yf wHr rfl rfl rfl rfl rfl rfl o7 rfl rfl rfl (o7.srcR (j:=0) rfl (by decide) (wAD (f:=KL.encI) (sz:=1) (fun _=>rfl) [w64 ((w64 (300 * dZ)) + d5)])) (fun _=>rfl) (fun _=>rfl) xC rfl ?_
 intro eB fg q9 A9
 let B6:Res:=.row eB fg 3 1 (hD KL.encI fS)
 have Ba:SW w [B1] φ ej [B5,B4,B6,B2,.blk b3 28 B0] q9:=A9
 refine oR Z (zG Z g9 zK Z zy) (zW (j:=3) (vs:=[.slice eB fS.length fg]) Z Z Z Z Ba Z Z Z Z zy (zA Z) Z Z Z ?_)
 intro rc Bb
 have Bc:SW w [B1] φ ej [B5,B4,B6,.blk b7 28 [.slice eB fS.length fg,.slice none 0 0,.slice none 0 0,.slice none 0 0],.blk b3 28 B0] rc:=Bb
 refine zb (zo (zH (rR fL2 Z (oR Z (ZG (za Z oK Z) (congrArg (jV) Ds.out)) (oM Z Z (zb ?_))))))
 cases Dt
 exact zH ⟨rfl,⟨ej,ju,lP,eB,fg,rfl,g8,w5,w6,w7,g9,w8,w9,oI,((Eu.trans D8).trans D9),(Bc.pick [1,2,3,4] _ (by decide) rfl),xw⟩⟩
 rintro G9 ri ⟨EW,qI,sd,aK,aL,xb,ou,v3,v4,v5,v7,v9,wa,wb,Gd,BJ,xP⟩
 have sf:Hid (¬ ((↑((fQ:Int) - 0).toNat:Int) < fQ)):=zM (wAc)
 refine sR fL1 Z (oR Z (zc Z xb wb) (eN (zL (cF Z sf (Za (zi (zi (ZQ (zH (zL (sR gBa Z (oM Z ou (oM Z v3 ?_)))))))))))))
 have q:=bnd pJ
 obtain ⟨⟨fV,iP⟩,xS,pC⟩:=q
 try dsimp only at pC
 refine zF 1 Z Z Z Z (zD Z Z Zz (zB Z (zB Z zN)) Z) BJ (fun hs=>wAR (⟨EL,EM,EN⟩:wAH) ab qI sd p2 ri EW hs xP xS) (.inl Z) ?_
 rintro jc Fh GB rE Ge BU ⟨jG,l5,rfl,rfl,xW⟩
 let B7:Res:=.row aK aL 3 1 (hD KL.encI ax)
 have BV:SW w [B1] φ jc [.blk ab 94 [.slice jG iP.bytes.length l5,jV iP.next,.int .u32 iP.state],B7,.blk b7 28 [.slice aK ax.length aL,.slice none 0 0,.slice none 0 0,.slice none 0 0],.blk b3 28 B0] rE:=BU
 refine oM Z Z (eN (zY ?_))
 have q:=bnd pC
 obtain ⟨⟨GR,GS,GT,ay⟩,C9,pD⟩:=q
 try dsimp only at pD
 have q:=wBL C9
 obtain ⟨iC,Da⟩:=q
 replace iC:=zM iC
 refine CK.forN' (fun dP (dR,iQ,iR,bX) σ_ w_=>∃ (φ_:PHeap) (eF:Option Addr) (fk:Nat) (cm:Option Addr) (cy:Nat),σ_ 45=jV (↑dP:Int)/\σ_ 0=.pointer (some ⟨ab,0,none⟩)/\σ_ 3=jV p3/\σ_ 8=.pointer (some ⟨b3,0,none⟩)/\σ_ 11=.pointer (some ⟨b7,0,none⟩)/\σ_ 12=.slice none 0 0/\σ_ 13=.slice none 0 0/\σ_ 44=jV fV/\PHeap.Le jc φ_/\SW w [B1] φ φ_ [.blk ab 94 [.slice eF dR.length fk,jV iQ,.int .u32 iR],B7,.row cm cy 41 2 (hD wAE bX),.blk b7 28 [.slice aK ax.length aL,.slice cm bX.length cy,.slice none 0 0,.slice none 0 0],.blk b3 28 B0] w_/\Sl φ_ 1 eF fk dR.length (hD KL.encB8 dR)) Da ?_ ?_ ?_
 have BX:=BV.nilrow 41 2
 exact ⟨jc,jG,l5,none,0,rfl,ou,v4,v5,v7,v9,wa,rfl,(zO _),(BX.pick [1,2,0,3,4] _ (by decide) rfl),xW⟩
 rintro dP ⟨dR,iQ,iR,bX⟩ GM Hc rF iv ⟨EX,eF,fk,cm,cy,oJ,g6,wh,wi,g7,wj,wk,ox,Em,BY,xX⟩ pT
 try dsimp only at pT
 have l6:Hid ((↑dP:Int) < fV):=zM (wAs iv)
 replace iv:=zM iv
 have Do:Hid (w64 ((↑dP:Int) + 1)=(↑(dP + 1):Int)):=zM (by have h1:=iC.out;have h2:=l6.out;rw [wAT] <;> omega)
 refine sR fL1 Z (oR Z (zc Z oJ ox) (eN (zL (cT Z l6 (kN (zL (zY (sR (.fl 0 gAq) Z (oM Z g6 ?_)))))))))
 have q:=bnd pT
 obtain ⟨⟨bm,fW⟩,xY,pE⟩:=q
 try dsimp only at pE
 refine zF 1 Z Z Z Z (zD Z Z yi (zB Z (zB Z (zB Z zN))) Z) BY (fun hs=>wAa (⟨dR,iQ,iR⟩:wAH) ab eF fk 3 9 rF EX hs xX xY) (.inl Z) ?_
 rintro qD Fi GC gG En BZ ⟨jH,l7,rfl,rfl,xZ⟩
 let B8:Res:=.blk b7 28 [.slice aK ax.length aL,.slice cm bX.length cy,.slice none 0 0,.slice none 0 0]
 let B9:Res:=.row cm cy 41 2 (hD wAE bX)
 have Ca:SW w [B1] φ qD [.blk ab 94 [.slice jH fW.bytes.length l7,jV fW.next,.int .u32 fW.state],B7,B9,B8,.blk b3 28 B0] gG:=BZ
 refine zg rfl rfl rfl rfl (fun _=>Runs.mulw rfl rfl rfl) (yK rfl rfl rfl rfl rfl rfl (eN (ZE ZF [3,1004,3,3,3,1005,3,3,3,2,0,3,0,ab] (wIJ (.fx 5 (fC6_8 (.fx 9 (.fx 10 (.fl 11 (.fx 12 .nil .stop)) .stop) .stop)) .stop)) (by kernel_rfl) ?_)))
 have io:=Ca.drew
 generalize hw_W351:({ gG with drawn:=gG.drawn + 1 }:World)=rG at io ⊢
 refine zg rfl rfl rfl rfl (fun _=>zG rfl g7 zK rfl yC) (OKS.mt (T:=[ab]) [0] [1,2,3,4] [B7,B9,B8,.blk b3 28 B0] rfl rfl rfl rfl io rfl ⟨⟨0,by decide,_,rfl,rfl⟩,trivial⟩ (by decide) rfl (by decide) (fun _ C5=>(C5.ldB (j:=2) rfl rfl rfl yQ (v:=.slice cm bX.length cy) rfl)) rfl (zk rfl rfl rfl rfl rfl rfl (zk rfl rfl rfl rfl rfl rfl (zk rfl rfl rfl rfl rfl g6 ?_))))
 have q:=bnd pE
 obtain ⟨⟨ef,iS⟩,x8,pF⟩:=q
 try dsimp only at pF
 refine yj 1 rfl rfl rfl rfl (zD rfl rfl Zz (zB rfl (zB rfl zN)) rfl) io (fun hs=>wAR fW ab jH l7 30 rG qD hs xZ x8) rfl (T:=[ab]) rfl ⟨fun b h=>(by cases h;exact .head _),trivial⟩ ?_
 rintro ek Fj GD rH Eo Cb ⟨jI,l8,rfl,rfl,yn⟩
 let eK:Res:=.blk ab 94 [.slice jI iS.bytes.length l8,jV iS.next,.int .u32 iS.state]
 have Cc:SW w [B1] φ ek [eK,B7,B9,B8,.blk b3 28 B0] rH:=Cb
 refine oR Z (Runs.mulw Z Z Z) (oR Z (za Z Z Z) ?_)
 let gv:List Value:=[jV (w64 (100 * bm)),jV (w64 ((w64 (100 * bm)) + (w64 (10 * ef))))]
 refine oR Z (zl (pv:=[(0,jV (w64 (100 * bm))),(1,jV (w64 ((w64 (100 * bm)) + (w64 (10 * ef)))))]) (z:=[jV 0,jV 0]) (cs:=gv) Z (wAG Z (wAG Z wAN)) ZS wCN Z Z) (zm (pv:=[(0,.agg gv.toArray)]) (zs:=[jV 0,jV 0]) (cs:=gv) Z Z Z Z Z (wAG Z wAN) ZP ZA ZS Z Z Z Z Z Cc ?_)
 intro rI r8 Cd
 let gw:Res:=.row (some ⟨r8,0,none⟩) 1 41 2 (hD wAE [(⟨w64 (100 * bm),w64 ((w64 (100 * bm)) + (w64 (10 * ef)))⟩:wAK)])
 have pg:SW w [B1] φ ek [gw,eK,B7,B9,B8,.blk b3 28 B0] rI:=Cd
 refine bnK pF fun fY yo DD=>Zm (j:=3) (enc:=wAE) (xs:=bX) (ys:=[(⟨w64 (100 * bm),w64 ((w64 (100 * bm)) + (w64 (10 * ef)))⟩:wAK)]) (zs:=fY) rfl rfl rfl rfl rfl Try.underlying24 wJz rfl rfl rfl rfl rfl rfl pg rfl rfl rfl (pg.srcR (j:=0) rfl (by decide) (wAD (f:=wAE) (sz:=2) (fun _=>rfl) [(⟨w64 (100 * bm),w64 ((w64 (100 * bm)) + (w64 (10 * ef)))⟩:wAK)])) (fun _=>rfl) (fun _=>rfl) yo rfl ?_
 intro eG fm rJ Ce
 let jR:Res:=.row eG fm 41 2 (hD wAE fY)
 have Cf:SW w [B1] φ ek [gw,eK,B7,jR,B8,.blk b3 28 B0] rJ:=Ce
 refine oR Z (zG Z g7 zK Z yC) (zW (j:=4) (vs:=[.slice eG fY.length fm]) Z Z Z Z Cf Z Z Z Z yC (zA Z) Z Z Z ?_)
 intro rK Cg
 have Ch:SW w [B1] φ ek [gw,eK,B7,jR,.blk b7 28 [.slice aK ax.length aL,.slice eG fY.length fm,.slice none 0 0,.slice none 0 0],.blk b3 28 B0] rK:=Cg
 refine zb (zo (zH (rR fL2 Z (oR Z (ZG (za Z oJ Z) (congrArg (jV) Do.out)) (oM Z Z (zb ?_))))))
 cases DD
 exact zH ⟨rfl,⟨ek,jI,l8,eG,fm,rfl,g6,wh,wi,g7,wj,wk,ox,((Em.trans En).trans Eo),(Ch.pick [1,2,3,4,5] _ (by decide) rfl),yn⟩⟩
 rintro Hd FG ⟨qE,qJ,sh,aQ,aR,xd,wl,wm,wn,oy,wo,wp,wq,Gf,ph,yp⟩
 have sj:Hid (¬ ((↑((fV:Int) - 0).toNat:Int) < fV)):=zM (wAc)
 refine sR fL1 Z (oR Z (zc Z xd wq) (eN (zL (cF Z sj (Za (zi (zi (ZQ (zH (zL (sR fL4 Z (oR Z (zG Z oy zK Z zy) (oL Z (ph.ldB (j:=3) Z Z Z ZK (v:=.slice aK ax.length aL) Z) (oR Z (zq Z Z zE) (oM Z Z (eN (zY ?_)))))))))))))))))
 have q:=bnd pD
 obtain ⟨⟨EF,EG,EH,aV⟩,Db,pG⟩:=q
 try dsimp only at pG
 have q:=wBL Db
 obtain ⟨iD,Dc⟩:=q
 replace iD:=zM iD
 let a9:Res:=.blk b7 28 [.slice aK ax.length aL,.slice aQ ay.length aR,.slice none 0 0,.slice none 0 0]
 refine CK.forN' (fun bv (dS,iT,iU,dT) σ_ w_=>∃ (φ_:PHeap) (db:Option Addr) (dG:Nat) (dd:Option Addr) (dH:Nat) (fw:List Value),σ_ 66=jV (↑bv:Int)/\σ_ 0=.pointer (some ⟨ab,0,none⟩)/\σ_ 3=jV p3/\σ_ 8=.pointer (some ⟨b3,0,none⟩)/\σ_ 11=.pointer (some ⟨b7,0,none⟩)/\σ_ 12=.slice dd dT.length dH/\σ_ 13=.slice none 0 0/\σ_ 64=.slice aK ax.length aL/\σ_ 65=jV (↑ax.length:Int)/\PHeap.Le qE φ_/\SW w [B1] φ φ_ [.blk ab 94 [.slice db dS.length dG,jV iT,.int .u32 iU],.row aK aL 3 1 (hD KL.encI ax),.row aQ aR 41 2 (hD wAE ay),a9,.blk b3 28 B0,.row dd dH 23 1 fw] w_/\Sl φ_ 1 db dG dS.length (hD KL.encB8 dS)/\RlL φ_ wIs dT fw) Dc ?_ ?_ ?_
 have Cj:=ph.nilrow 23 1
 exact ⟨qE,qJ,sh,none,0,[],rfl,wl,wm,wn,oy,wo,wp,rfl,rfl,(zO _),(Cj.pick [1,2,3,4,5,0] _ (by decide) rfl),yp,RlL.nil⟩
 rintro bv ⟨dS,iT,iU,dT⟩ GN He FH iw ⟨jd,db,dG,dd,dH,fw,ib,ws,wt,wu,oz,wv,ww,oB,oC,Ep,ip,yq,yr⟩ pU
 try dsimp only at pU
 have ma:Hid ((↑bv:Int) < (↑ax.length:Int)):=zM (wAs iw)
 replace iw:=zM iw
 have Dp:Hid (w64 ((↑bv:Int) + 1)=(↑(bv + 1):Int)):=zM (by have h1:=iD.out;have h2:=ma.out;rw [wAT] <;> omega)
 refine sR fL1 Z (oR Z (zc Z ib oC) (eN (zL (cT Z ma (kN (zL (zY (sR fL3 Z (bnK pU fun _ ii DE=>?_)))))))))
 obtain ⟨FQ,oY⟩:=ip.rowSome (j:=1) rfl (by rw [wAD (f:=KL.encI) (sz:=1) (fun _=>rfl) ax];have hz:=wAY ii;omega)
 refine oR Z (Zc Z oB oY ib zE zC (wAY ii)) ?_
 have Dm:=wBr (xs:=ax) (wAY ii)
 refine ZJ rfl rfl rfl rfl (ip.ldR (j:=1) rfl oY rfl rfl zJ (wAj (sz:=1) (fun _=>rfl) _ _ 0 _ Dm (by first | omega | rfl | simp) rfl)) rfl (yK rfl rfl rfl rfl rfl rfl (eN (sR gAr rfl (zk rfl rfl rfl rfl rfl rfl (zm (pv:=[(0,jV (gd ax bv))]) (zs:=[jV 0]) (cs:=[jV (gd ax bv)]) rfl rfl rfl rfl rfl (wAG rfl wAN) zE zC zz rfl rfl rfl rfl rfl ip ?_)))))
 intro rL lC Ck
 let bg:Res:=.row aQ aR 41 2 (hD wAE ay)
 let bo:Res:=.row dd dH 23 1 fw
 have pj:SW w [B1] φ jd [.row (some ⟨lC,0,none⟩) 1 3 1 (hD KL.encI [(gd ax bv)]),.blk ab 94 [.slice db dS.length dG,jV iT,.int .u32 iU],B7,bg,a9,.blk b3 28 B0,bo] rL:=Ck
 refine oA Z Z (eN (zL (sR fL4 Z (oR Z (zG Z oz zK Z yC) (oL Z (pj.ldB (j:=4) Z Z Z yQ (v:=.slice aQ ay.length aR) Z) (oR Z (zq Z Z ZP) (oM Z Z (eN (zY ?_)))))))))
 have q:=bnd DE
 obtain ⟨⟨EI,EJ,EK,GU,cc⟩,Dd,pH⟩:=q
 try dsimp only at pH
 have q:=wBL Dd
 obtain ⟨iE,De⟩:=q
 replace iE:=zM iE
 refine CK.forN' (fun be (cH,fZ,f4,ca,dV) σ_ w_=>∃ (φ_:PHeap) (de:Option Addr) (dI:Nat) (eH:Option Addr) (fq:Nat),σ_ 75=jV (↑be:Int)/\σ_ 0=.pointer (some ⟨ab,0,none⟩)/\σ_ 3=jV p3/\σ_ 8=.pointer (some ⟨b3,0,none⟩)/\σ_ 11=.pointer (some ⟨b7,0,none⟩)/\σ_ 12=.slice dd dT.length dH/\σ_ 13=.slice none 0 0/\σ_ 16=jV ca/\σ_ 17=.slice eH dV.length fq/\σ_ 64=.slice aK ax.length aL/\σ_ 65=jV (↑ax.length:Int)/\σ_ 66=jV (↑bv:Int)/\σ_ 73=.slice aQ ay.length aR/\σ_ 74=jV (↑ay.length:Int)/\PHeap.Le jd φ_/\SW w [B1] φ φ_ [.blk ab 94 [.slice de cH.length dI,jV fZ,.int .u32 f4],B7,bg,a9,.blk b3 28 B0,bo,.row eH fq 3 1 (hD KL.encI dV)] w_/\Sl φ_ 1 de dI cH.length (hD KL.encB8 cH)) De ?_ ?_ ?_
 exact ⟨jd,db,dG,(some ⟨lC,0,none⟩),1,rfl,ws,wt,wu,oz,wv,ww,rfl,rfl,oB,oC,ib,rfl,rfl,(zO _),(pj.pick [1,2,3,4,5,6,0] _ (by decide) rfl),yq⟩
 rintro be ⟨cH,fZ,f4,ca,dV⟩ GO Hf FI iy ⟨je,de,dI,eH,fq,ic,oD,wx,wy,wz,wA,wB,wC,wD,wE,wG,wH,oE,oG,Er,iq,yt⟩ pV
 try dsimp only at pV
 have mb:Hid ((↑be:Int) < (↑ay.length:Int)):=zM (wAs iy)
 replace iy:=zM iy
 have Dq:Hid (w64 ((↑be:Int) + 1)=(↑(be + 1):Int)):=zM (by have h1:=iE.out;have h2:=mb.out;rw [wAT] <;> omega)
 refine sR fL1 Z (oR Z (zc Z ic oG) (eN (zL (cT Z mb (kN (zL (zY (sR gBb Z (bnK pV fun _ ij DF=>?_)))))))))
 obtain ⟨FR,oZ⟩:=iq.rowSome (j:=2) rfl (by rw [wAD (f:=wAE) (sz:=2) (fun _=>rfl) ay];have hz:=wAY ij;omega)
 refine oR Z (Zc Z oE oZ ic ZP ZA (wAY ij)) ?_
 have Dn:=wBr (xs:=ay) (wAY ij)
 let bM:List Value:=[jV ((gd ay be).Lo),jV ((gd ay be).Hi)]
 refine ZJ rfl rfl rfl rfl (iq.ldRA (j:=2) rfl oZ rfl rfl yA ZA (vs:=bM) (wEX (sz:=2) (fun _=>rfl) _ _ _ Dn (by first | omega | rfl | simp) rfl) rfl) rfl (zV (cs:=[jV 0,jV 0]) rfl rfl rfl rfl rfl ZS rfl iq ?_)
 intro FJ dm Cm
 refine zW (j:=0) (vs:=bM) Z Z Z Z Cm Z Z Z Z ZA (zA Z) Z Z Z ?_
 intro gH Cn
 let eL:Res:=.row eH fq 3 1 (hD KL.encI dV)
 let jS:Res:=.blk ab 94 [.slice de cH.length dI,jV fZ,.int .u32 f4]
 have ir:SW w [B1] φ je [.blk dm 41 bM,jS,B7,bg,a9,.blk b3 28 B0,bo,eL] gH:=Cn
 refine eN (sR (wHd gAp) Z (oM Z wC (oM Z oD (oR Z (zG Z Z ZX Z zC) (oL Z (ir.ldB (j:=0) Z Z Z zJ (v:=jV ((gd ay be).Lo)) Z) (oR Z (zG Z Z ZX Z zC) (oL Z (ir.ldB (j:=0) Z Z Z zJ (v:=jV ((gd ay be).Hi)) Z) ?_)))))))
 have q:=bnd DF
 obtain ⟨⟨eg,iX⟩,yu,pI⟩:=q
 try dsimp only at pI
 have Co:SW w [B1] φ je [jS,.blk dm 41 bM,B7,bg,a9,.blk b3 28 B0,bo,eL] gH:=ir.pick [1,0,2,3,4,5,6,7] _ (by decide) rfl
 refine zF 1 Z Z Z Z (zD Z Z yi (zB Z (zB Z (zB Z zN))) Z) Co (fun hs=>wAa (⟨cH,fZ,f4⟩:wAH) ab de dI ((gd ay be).Lo) ((gd ay be).Hi) gH je hs yt yu) (.inl Z) ?_
 rintro ge Fk GE rM Es Cp ⟨jJ,mc,rfl,rfl,yv⟩
 let gx:Res:=.blk ab 94 [.slice jJ iX.bytes.length mc,jV iX.next,.int .u32 iX.state]
 have Cq:SW w [B1] φ ge [gx,.blk dm 41 bM,B7,bg,a9,.blk b3 28 B0,bo,eL] rM:=Cp
 refine oR Z (za Z Z Z) (oA Z Z (eN (rR gBh Z (oM Z wD (oM Z Z (zm (pv:=[(0,jV (w64 (ca + eg)))]) (zs:=[jV 0]) (cs:=[jV (w64 (ca + eg))]) Z Z Z Z Z (wAG Z wAN) zE zC zz Z Z Z Z Z Cq ?_))))))
 intro rN r9 Cr
 let jT:Res:=.row (some ⟨r9,0,none⟩) 1 3 1 (hD KL.encI [w64 (ca + eg)])
 have pk:SW w [B1] φ ge [jT,gx,.blk dm 41 bM,B7,bg,a9,.blk b3 28 B0,bo,eL] rN:=Cr
 refine bnK pI fun qm yw DG=>Zm (j:=8) (enc:=KL.encI) (xs:=dV) (ys:=[w64 (ca + eg)]) (zs:=qm) rfl rfl rfl rfl rfl yf wHr rfl rfl rfl rfl rfl rfl pk rfl rfl rfl (pk.srcR (j:=0) rfl (by decide) (wAD (f:=KL.encI) (sz:=1) (fun _=>rfl) [w64 (ca + eg)])) (fun _=>rfl) (fun _=>rfl) yw rfl ?_
 intro jK md rO Cs
 have Ct:SW w [B1] φ ge [jT,gx,.blk dm 41 bM,B7,bg,a9,.blk b3 28 B0,bo,.row jK md 3 1 (hD KL.encI qm)] rO:=Cs
 refine oA Z Z (zb (zo (zH (rR fL2 Z (oR Z (ZG (za Z ic Z) (congrArg (jV) Dq.out)) (oM Z Z (zb ?_)))))))
 cases DG
 exact zH ⟨rfl,⟨ge,jJ,mc,jK,md,rfl,oD,wx,wy,wz,wA,wB,rfl,rfl,wE,wG,wH,oE,oG,(Er.trans Es),(Ct.pick [1,3,4,5,6,7,8] _ (by decide) rfl),yv⟩⟩
 rintro Hg rP ⟨Hl,jL,me,gt,gQ,xe,wI,wJ,wK,wL,wM,wN,F9,wO,wP,wQ,wR,Ga,wS,qd,Cu,yy⟩
 have sk:Hid (¬ ((↑(((↑ay.length:Int):Int) - 0).toNat:Int) < (↑ay.length:Int))):=zM (wAc)
 refine sR fL1 Z (oR Z (zc Z xe wS) (eN (zL (cF Z sk (Za (zi (zi (ZQ (zH (rR gBh Z (oM Z wM (oM Z wO ?_))))))))))))
 have q:=Cu.freezeR (k:=6) (n:=cc.length) rfl (wAD (f:=KL.encI) (sz:=1) (fun _=>rfl) cc) (by decide)
 obtain ⟨en,iJ,DN,Cw⟩:=q
 let gy:Res:=.blk ab 94 [.slice jL EI.length me,jV EJ,.int .u32 EK]
 have Cx:SW w [B1] φ en [gy,B7,bg,a9,.blk b3 28 B0,bo] rP:=Cw
 let eM:List Value:=[.slice gt cc.length gQ]
 refine zm (pv:=[(0,.slice gt cc.length gQ)]) (zs:=[.slice none 0 0]) (cs:=eM) Z Z Z Z Z (wAG Z wAN) yU zy Try.zeroValue23 Z Z Z Z Z Cx ?_
 intro rQ sa Cv
 have pQ:RlL en wIs [cc] eM:=(RlL.cons (R:=wIs) (x:=cc) (vs:=eM) ⟨gt,gQ,rfl,DN⟩ RlL.nil)
 let jU:Res:=.row (some ⟨sa,0,none⟩) 1 23 1 eM
 have pm:SW w [B1] φ en [jU,gy,B7,bg,a9,.blk b3 28 B0,bo] rQ:=Cv
 refine bnK pH fun EB yz DH=>?_
 have y4:=yr.le qd
 have y5:=y4.le iJ
 refine OKS.appendR (R:=wIs) (j:=6) (xs:=dT) (ys:=[cc]) (zs:=EB) rfl rfl rfl rfl rfl Try.underlying29 wLL rfl rfl rfl rfl rfl rfl rfl pm rfl rfl rfl y5 pQ (pm.srcR (j:=0) rfl (by decide) (RlL.len pQ)) yz rfl ?_
 intro jM mf mp rS Cy DM
 have Cz:SW w [B1] φ en [jU,gy,B7,bg,a9,.blk b3 28 B0,.row jM mf 23 1 mp] rS:=Cy
 refine oA Z Z (zb (zo (zH (rR fL2 Z (oR Z (ZG (za Z wR Z) (congrArg (jV) Dp.out)) (oM Z Z (zb ?_)))))))
 cases DH
 have y6:=yy.le iJ
 exact zH ⟨rfl,⟨en,jL,me,jM,mf,mp,rfl,wI,wJ,wK,wL,rfl,wN,wP,wQ,((Ep.trans qd).trans iJ),(Cz.pick [1,2,3,4,5,6] _ (by decide) rfl),y6,DM⟩⟩
 rintro Hh rT ⟨EY,qK,sl,aO,aP,sm,xf,oH,wU,wV,wW,wX,wY,Gb,wZ,Gg,CB,y7,y8⟩
 have so:Hid (¬ ((↑(((↑ax.length:Int):Int) - 0).toNat:Int) < (↑ax.length:Int))):=zM (wAc)
 refine sR fL1 Z (oR Z (zc Z xf wZ) (eN (zL (cF Z so (Za (zi (zi (ZQ (zH (zL (sR gAr Z (oM Z oH ?_))))))))))))
 have q:=bnd pG
 obtain ⟨⟨aX,iY⟩,y9,pK⟩:=q
 try dsimp only at pK
 refine zF 1 Z Z Z Z (zD Z Z yi (zB Z (zB Z (zB Z zN))) Z) CB (fun hs=>wAa (⟨EF,EG,EH⟩:wAH) ab qK sl 1 3 rT EY hs y7 y9) (.inl Z) ?_
 rintro jf Fm GF rV Et CC ⟨jN,mg,rfl,rfl,z5⟩
 let ai:Res:=.row aQ aR 41 2 (hD wAE ay)
 let ap:Res:=.row aO aP 23 1 sm
 have CD:SW w [B1] φ jf [.blk ab 94 [.slice jN iY.bytes.length mg,jV iY.next,.int .u32 iY.state],B7,ai,a9,.blk b3 28 B0,ap] rV:=CC
 refine oM Z Z (eN (zY ?_))
 have q:=bnd pK
 obtain ⟨⟨EO,EP,EQ,aW,a5⟩,Dh,pL⟩:=q
 try dsimp only at pL
 have q:=wBL Dh
 obtain ⟨iG,Di⟩:=q
 replace iG:=zM iG
 refine CK.forN' (fun aS (dW,iZ,i3,aZ,aH) σ_ w_=>∃ (φ_:PHeap) (eJ:Option Addr) (fu:Nat) (bf:Option Addr) (bh:Nat) (aI:Option Addr) (aJ:Nat),σ_ 99=jV (↑aS:Int)/\σ_ 0=.pointer (some ⟨ab,0,none⟩)/\σ_ 3=jV p3/\σ_ 8=.pointer (some ⟨b3,0,none⟩)/\σ_ 11=.pointer (some ⟨b7,0,none⟩)/\σ_ 12=.slice aO aV.length aP/\σ_ 13=.slice aI aH.length aJ/\σ_ 98=jV aX/\PHeap.Le jf φ_/\SW w [B1] φ φ_ [.blk ab 94 [.slice eJ dW.length fu,jV iZ,.int .u32 i3],B7,ai,.row bf bh 43 3 (hD wAB aZ),.blk b7 28 [.slice aK ax.length aL,.slice aQ ay.length aR,.slice bf aZ.length bh,.slice none 0 0],.blk b3 28 B0,ap,.row aI aJ 3 1 (hD KL.encI aH)] w_/\Sl φ_ 1 eJ fu dW.length (hD KL.encB8 dW)) Di ?_ ?_ ?_
 have CF:=CD.nilrow 43 3
 have CG:=CF.nilrow 3 1
 exact ⟨jf,jN,mg,none,0,none,0,rfl,oH,wU,wV,wW,wX,wY,rfl,(zO _),(CG.pick [2,3,4,1,5,6,7,0] _ (by decide) rfl),z5⟩
 rintro aS ⟨dW,iZ,i3,aZ,aH⟩ GQ Hk rW iA ⟨E0,eJ,fu,bf,bh,aI,aJ,bt,bb,bE,bF,bi,bG,br,bs,Ev,CH,z6⟩ pX
 try dsimp only at pX
 have mh:Hid ((↑aS:Int) < aX):=zM (wAs iA)
 replace iA:=zM iA
 have Dr:Hid (w64 ((↑aS:Int) + 1)=(↑(aS + 1):Int)):=zM (by have h1:=iG.out;have h2:=mh.out;rw [wAT] <;> omega)
 refine sR fL1 Z (oR Z (zc Z bt bs) (eN (zL (cT Z mh (kN (zL (zY (sR gAr Z (oM Z bb ?_)))))))))
 have q:=bnd pX
 obtain ⟨⟨aa,f6⟩,z7,pM⟩:=q
 try dsimp only at pM
 refine zF 1 Z Z Z Z (zD Z Z yi (zB Z (zB Z (zB Z zN))) Z) CH (fun hs=>wAa (⟨dW,iZ,i3⟩:wAH) ab eJ fu (-60) 20 rW E0 hs z6 z7) (.inl Z) ?_
 rintro qF Fo GG lv Ew CL ⟨jO,mi,rfl,rfl,z8⟩
 let az:Res:=.blk b7 28 [.slice aK ax.length aL,.slice aQ ay.length aR,.slice bf aZ.length bh,.slice none 0 0]
 let aF:Res:=.row aI aJ 3 1 (hD KL.encI aH)
 let ba:Res:=.row bf bh 43 3 (hD wAB aZ)
 have CM:SW w [B1] φ qF [.blk ab 94 [.slice jO f6.bytes.length mi,jV f6.next,.int .u32 f6.state],B7,ai,ba,az,.blk b3 28 B0,ap,aF] lv:=CL
 refine oA Z Z (eN (sR (wCa (.fx 3 (wNH (.fx 7 (.fl 8 (.fx 9 (.fx 10 .nil .stop) .stop)) .stop)) .stop)) Z (oM Z Z (oM Z Z (oM Z bb ?_)))))
 have q:=bnd pM
 obtain ⟨⟨aj,f7⟩,z9,pN⟩:=q
 try dsimp only at pN
 refine zF 1 Z Z Z Z (zD Z Z Zz (zB Z (zB Z zN)) Z) CM (fun hs=>wAR f6 ab jO mi 50 lv qF hs z8 z9) (.inl Z) ?_
 rintro qG Fp GH lw Ex CN ⟨jP,mj,rfl,rfl,Aa⟩
 have CO:SW w [B1] φ qG [.blk ab 94 [.slice jP f7.bytes.length mj,jV f7.next,.int .u32 f7.state],B7,ai,ba,az,.blk b3 28 B0,ap,aF] lw:=CN
 refine oR Z (za Z Z Z) ?_
 let jW:List Value:=[jV aa,jV (w64 (aa + aj))]
 refine oR Z (zl (pv:=[(0,jV aa),(1,jV (w64 (aa + aj)))]) (z:=[jV 0,jV 0]) (cs:=jW) Z (wAG Z (wAG Z wAN)) ZS wCN Z Z) (oM Z bb ?_)
 have q:=bnd pN
 obtain ⟨⟨an,eh⟩,Ab,pO⟩:=q
 try dsimp only at pO
 refine zF 1 Z Z Z Z (zD Z Z Zz (zB Z (zB Z zN)) Z) CO (fun hs=>wAR f7 ab jP mj 6 lw qG hs Aa Ab) (.inl Z) ?_
 rintro aG Fq GI rX Ey CP ⟨gu,gR,rfl,rfl,oV⟩
 let aM:Res:=.blk ab 94 [.slice gu eh.bytes.length gR,jV eh.next,.int .u32 eh.state]
 have CQ:SW w [B1] φ aG [aM,B7,ai,ba,az,.blk b3 28 B0,ap,aF] rX:=CP
 let am:List Value:=[jV aa,jV (w64 (aa + aj)),jV an]
 let co:List Value:=[jV 0,jV 0,jV 0]
 refine oR Z (zl (pv:=[(0,.agg jW.toArray),(1,jV an)]) (z:=co) (cs:=am) Z (wAG Z (wAG Z wAN)) yV wIu Z Z) (zV (cs:=co) Z Z Z Z Z yV Z CQ ?_)
 intro FK af CR
 refine zW (j:=0) (vs:=am) Z Z Z Z CR Z Z Z Z Zq (zA Z) Z Z Z ?_
 intro gI CS
 have CT:SW w [B1] φ aG [.blk af 43 am,aM,B7,ai,ba,az,.blk b3 28 B0,ap,aF] gI:=CS
 refine eN (bnK pO fun av fG DI=>?_)
 have q:=bnd DI
 obtain ⟨⟨aU,ao⟩,oW,pP⟩:=q
 try dsimp only at pP
 refine bnK pP fun cb Ac DJ=>ZE ZF [3,1,1,2,0,3,3,3,3,2,3,3,2,0,2,0,3,0,3] (wCa (wHD (.fl 10 (.fl 11 (.fx 3 (.fx 4 (.fl 16 (.fx 9 gBk (.fx 12 gBl .stop))) (.fx 9 gBo (.fx 12 gBp .stop))) (.fx 9 (.fx 3 gBo (.fx 12 gBn .stop)) (.fx 12 (.fx 3 gBp (.fx 9 gBn .stop)) .stop))))))) (by kernel_rfl) ?_
 have bc:=CT.drew
 generalize hw_W923:({ gI with drawn:=gI.drawn + 1 }:World)=FL at bc ⊢
 refine ZT (s:=.fl 18 .nil) (M:=fun σ_ w_=>∃ (φ_:PHeap) (eo:Option Addr) (eX:Nat) (cK:Option Addr) (dn:Nat) (gg:Option Addr) (gJ:Nat) (gh:Option Addr) (gK:Nat) (ep:Option Addr) (eY:Nat),σ_ 0=.pointer (some ⟨ab,0,none⟩)/\σ_ 3=jV p3/\σ_ 8=.pointer (some ⟨b3,0,none⟩)/\σ_ 11=.pointer (some ⟨b7,0,none⟩)/\σ_ 12=.slice aO aV.length aP/\σ_ 21=.pointer (some ⟨af,0,none⟩)/\σ_ 98=jV aX/\σ_ 99=jV (↑aS:Int)/\σ_ 112=.pointer (some ⟨b7,2,none⟩)/\σ_ 114=.agg am.toArray/\σ_ 115=.slice gg ([(⟨(⟨aa,w64 (aa + aj)⟩:wAK),an⟩:wAM)].length) gJ/\σ_ 116=.slice cK av.length dn/\σ_ 118=.pointer (some ⟨ab,0,none⟩)/\σ_ 119=.pointer (some ⟨af,0,none⟩)/\σ_ 120=.pointer (some ⟨af,0,none⟩)/\σ_ 121=jV aa/\σ_ 122=.pointer (some ⟨af,0,none⟩)/\σ_ 123=.pointer (some ⟨af,1,none⟩)/\σ_ 124=jV (w64 (aa + aj))/\σ_ 125=jV aU/\σ_ 126=.slice gh ([aU].length) gK/\σ_ 127=.slice ep cb.length eY/\σ_ 128=.pointer (some ⟨b7,2,none⟩)/\PHeap.Le aG φ_/\SW w [B1] φ φ_ [.blk ab 94 [.slice eo ao.bytes.length eX,jV ao.next,.int .u32 ao.state],.blk af 43 am,B7,ai,.row cK dn 43 3 (hD wAB av),.blk b7 28 [.slice aK ax.length aL,.slice aQ ay.length aR,.slice cK av.length dn,.slice none 0 0],.blk b3 28 B0,ap,.row gg gJ 43 3 (hD wAB [(⟨(⟨aa,w64 (aa + aj)⟩:wAK),an⟩:wAM)]),.row gh gK 3 1 (hD KL.encI [aU]),.row ep eY 3 1 (hD KL.encI cb)] w_/\Sl φ_ 1 eo eX ao.bytes.length (hD KL.encB8 ao.bytes)) ?_ fun DP=>?_
 rintro GV Fr ⟨ER,eo,eX,cK,dn,gg,gJ,gh,gK,ep,eY,sq,sr,ss,su,sv,FS,sw,sA,FT,FU,FV,FW,FX,FY,FZ,F0,F1,F2,F3,F4,F5,sB,F6,DV,Ak,xg⟩
 refine oA Z sB (zb (zo (zH (rR fL2 Z (oR Z (ZG (za Z sA Z) (congrArg (jV) Dr.out)) (oM Z Z (zb ?_)))))))
 cases DJ
 exact zH ⟨rfl,⟨ER,eo,eX,cK,dn,ep,eY,rfl,sq,sr,ss,su,sv,rfl,sw,((((Ev.trans Ew).trans Ex).trans Ey).trans DV),(Ak.pick [0,2,3,4,5,6,7,10] _ (by decide) rfl),xg⟩⟩
 refine ZT (s:=gAj) (M:=fun σ_ w_=>∃ (φ_:PHeap) (cL:Option Addr) (dp:Nat) (cM:Option Addr) (dq:Nat) (bL:Option Addr) (bP:Nat) (cN:Option Addr) (dr:Nat) (cO:Option Addr) (dt:Nat),σ_ 0=.pointer (some ⟨ab,0,none⟩)/\σ_ 3=jV p3/\σ_ 8=.pointer (some ⟨b3,0,none⟩)/\σ_ 11=.pointer (some ⟨b7,0,none⟩)/\σ_ 12=.slice aO aV.length aP/\σ_ 21=.pointer (some ⟨af,0,none⟩)/\σ_ 98=jV aX/\σ_ 99=jV (↑aS:Int)/\σ_ 112=.pointer (some ⟨b7,2,none⟩)/\σ_ 114=.agg am.toArray/\σ_ 115=.slice cM ([(⟨(⟨aa,w64 (aa + aj)⟩:wAK),an⟩:wAM)].length) dq/\σ_ 116=.slice bL av.length bP/\σ_ 118=.pointer (some ⟨ab,0,none⟩)/\σ_ 119=.pointer (some ⟨af,0,none⟩)/\σ_ 120=.pointer (some ⟨af,0,none⟩)/\σ_ 121=jV aa/\σ_ 122=.pointer (some ⟨af,0,none⟩)/\σ_ 123=.pointer (some ⟨af,1,none⟩)/\σ_ 124=jV (w64 (aa + aj))/\σ_ 125=jV aU/\σ_ 126=.slice cN ([aU].length) dr/\σ_ 127=.slice cO cb.length dt/\σ_ 128=.pointer (some ⟨b7,2,none⟩)/\PHeap.Le aG φ_/\SW w [B1] φ φ_ [.blk ab 94 [.slice cL ao.bytes.length dp,jV ao.next,.int .u32 ao.state],.blk af 43 am,B7,ai,az,.blk b3 28 B0,ap,.row cM dq 43 3 (hD wAB [(⟨(⟨aa,w64 (aa + aj)⟩:wAK),an⟩:wAM)]),.row bL bP 43 3 (hD wAB av),.row cN dr 3 1 (hD KL.encI [aU]),.row cO dt 3 1 (hD KL.encI cb)] w_/\Sl φ_ 1 cL dp ao.bytes.length (hD KL.encB8 ao.bytes)) ?_ fun DQ=>?_
 rintro GW Fs ⟨qo,cL,dp,cM,dq,bL,bP,cN,dr,cO,dt,sC,sD,sE,sF,sG,sH,sI,sJ,sK,sL,sM,mq,sN,sO,sP,sQ,sS,sT,sU,sV,sX,sY,mr,DW,Al,xh⟩
 refine zW (j:=4) (vs:=[.slice bL av.length bP]) Z Z Z Z Al Z mr mq Z Zl (zA Z) Z Z Z ?_
 intro qL Am
 have An:SW w [B1] φ qo [.blk ab 94 [.slice cL ao.bytes.length dp,jV ao.next,.int .u32 ao.state],.blk af 43 am,B7,ai,.blk b7 28 [.slice aK ax.length aL,.slice aQ ay.length aR,.slice bL av.length bP,.slice none 0 0],.blk b3 28 B0,ap,.row cM dq 43 3 (hD wAB [(⟨(⟨aa,w64 (aa + aj)⟩:wAK),an⟩:wAM)]),.row bL bP 43 3 (hD wAB av),.row cN dr 3 1 (hD KL.encI [aU]),.row cO dt 3 1 (hD KL.encI cb)] qL:=Am
 exact DP _ _ ⟨qo,cL,dp,bL,bP,cM,dq,cN,dr,cO,dt,sC,sD,sE,sF,sG,sH,sI,sJ,sK,sL,sM,mq,sN,sO,sP,sQ,sS,sT,sU,sV,sX,sY,mr,DW,(An.pick [0,1,2,3,8,4,5,6,7,9,10] _ (by decide) rfl),xh⟩
 refine ZT (s:=gAs) (M:=fun σ_ w_=>∃ (φ_:PHeap) (cP:Option Addr) (du:Nat) (cQ:Option Addr) (dv:Nat) (cR:Option Addr) (dw:Nat) (cS:Option Addr) (dx:Nat),σ_ 0=.pointer (some ⟨ab,0,none⟩)/\σ_ 3=jV p3/\σ_ 8=.pointer (some ⟨b3,0,none⟩)/\σ_ 11=.pointer (some ⟨b7,0,none⟩)/\σ_ 12=.slice aO aV.length aP/\σ_ 13=.slice aI aH.length aJ/\σ_ 21=.pointer (some ⟨af,0,none⟩)/\σ_ 98=jV aX/\σ_ 99=jV (↑aS:Int)/\σ_ 112=.pointer (some ⟨b7,2,none⟩)/\σ_ 114=.agg am.toArray/\σ_ 115=.slice cQ ([(⟨(⟨aa,w64 (aa + aj)⟩:wAK),an⟩:wAM)].length) dv/\σ_ 116=.slice cR av.length dw/\σ_ 117=.slice aI aH.length aJ/\σ_ 118=.pointer (some ⟨ab,0,none⟩)/\σ_ 119=.pointer (some ⟨af,0,none⟩)/\σ_ 120=.pointer (some ⟨af,0,none⟩)/\σ_ 121=jV aa/\σ_ 122=.pointer (some ⟨af,0,none⟩)/\σ_ 123=.pointer (some ⟨af,1,none⟩)/\σ_ 124=jV (w64 (aa + aj))/\σ_ 125=jV aU/\σ_ 126=.slice cS ([aU].length) dx/\σ_ 128=.pointer (some ⟨b7,2,none⟩)/\PHeap.Le aG φ_/\SW w [B1] φ φ_ [.blk ab 94 [.slice cP ao.bytes.length du,jV ao.next,.int .u32 ao.state],.blk af 43 am,B7,ai,az,.blk b3 28 B0,ap,aF,.row cQ dv 43 3 (hD wAB [(⟨(⟨aa,w64 (aa + aj)⟩:wAK),an⟩:wAM)]),.row cR dw 43 3 (hD wAB av),.row cS dx 3 1 (hD KL.encI [aU])] w_/\Sl φ_ 1 cP du ao.bytes.length (hD KL.encB8 ao.bytes)) ?_ fun DR=>?_
 rintro GX Ft ⟨qp,cP,du,cQ,dv,cR,dw,cS,dx,sZ,s3,s4,s5,s6,F7,s7,s8,s9,ta,tb,tc,td,te,tf,tg,th,tj,tk,tm,tn,tp,ms,tq,DX,o0,xj⟩
 refine Zm (j:=7) (enc:=KL.encI) (xs:=aH) (ys:=[aU]) (zs:=cb) rfl rfl rfl rfl rfl yf wHr rfl rfl rfl rfl rfl rfl o0 rfl te ms (o0.srcR (j:=10) rfl (by decide) (wAD (f:=KL.encI) (sz:=1) (fun _=>rfl) [aU])) (fun _=>rfl) (fun _=>rfl) Ac rfl ?_
 intro jl lI qM Ao
 have Ap:SW w [B1] φ qp [.blk ab 94 [.slice cP ao.bytes.length du,jV ao.next,.int .u32 ao.state],.blk af 43 am,B7,ai,az,.blk b3 28 B0,ap,.row jl lI 3 1 (hD KL.encI cb),.row cQ dv 43 3 (hD wAB [(⟨(⟨aa,w64 (aa + aj)⟩:wAK),an⟩:wAM)]),.row cR dw 43 3 (hD wAB av),.row cS dx 3 1 (hD KL.encI [aU])] qM:=Ao
 exact DQ _ _ ⟨qp,cP,du,cQ,dv,cR,dw,cS,dx,jl,lI,sZ,s3,s4,s5,s6,s7,s8,s9,ta,tb,tc,td,tf,tg,th,tj,tk,tm,tn,tp,ms,rfl,tq,DX,(Ap.pick [0,1,2,3,4,5,6,8,9,10,7] _ (by decide) rfl),xj⟩
 refine ZT (s:=gBc) (M:=fun σ_ w_=>∃ (φ_:PHeap) (cU:Option Addr) (dy:Nat) (cV:Option Addr) (dz:Nat) (cW:Option Addr) (dA:Nat),σ_ 0=.pointer (some ⟨ab,0,none⟩)/\σ_ 3=jV p3/\σ_ 8=.pointer (some ⟨b3,0,none⟩)/\σ_ 11=.pointer (some ⟨b7,0,none⟩)/\σ_ 12=.slice aO aV.length aP/\σ_ 13=.slice aI aH.length aJ/\σ_ 21=.pointer (some ⟨af,0,none⟩)/\σ_ 98=jV aX/\σ_ 99=jV (↑aS:Int)/\σ_ 112=.pointer (some ⟨b7,2,none⟩)/\σ_ 114=.agg am.toArray/\σ_ 115=.slice cV ([(⟨(⟨aa,w64 (aa + aj)⟩:wAK),an⟩:wAM)].length) dz/\σ_ 116=.slice cW av.length dA/\σ_ 117=.slice aI aH.length aJ/\σ_ 118=.pointer (some ⟨ab,0,none⟩)/\σ_ 119=.pointer (some ⟨af,0,none⟩)/\σ_ 120=.pointer (some ⟨af,0,none⟩)/\σ_ 121=jV aa/\σ_ 122=.pointer (some ⟨af,0,none⟩)/\σ_ 123=.pointer (some ⟨af,1,none⟩)/\σ_ 124=jV (w64 (aa + aj))/\σ_ 125=jV aU/\σ_ 128=.pointer (some ⟨b7,2,none⟩)/\PHeap.Le aG φ_/\SW w [B1] φ φ_ [.blk ab 94 [.slice cU ao.bytes.length dy,jV ao.next,.int .u32 ao.state],.blk af 43 am,B7,ai,az,.blk b3 28 B0,ap,aF,.row cV dz 43 3 (hD wAB [(⟨(⟨aa,w64 (aa + aj)⟩:wAK),an⟩:wAM)]),.row cW dA 43 3 (hD wAB av)] w_/\Sl φ_ 1 cU dy ao.bytes.length (hD KL.encB8 ao.bytes)) ?_ fun pY=>?_
 rintro GY Fu ⟨qq,cU,dy,cV,dz,cW,dA,tr,tu,tv,tw,tx,tz,tA,tB,tC,tD,tE,tF,tG,tH,tI,tJ,tK,tL,tM,tN,tO,mu,tP,DY,Aq,xk⟩
 refine zm (pv:=[(0,jV aU)]) (zs:=[jV 0]) (cs:=[jV aU]) Z Z Z Z Z (wAG mu wAN) zE zC zz Z Z Z Z Z Aq ?_
 intro qN lx Ar
 have As:SW w [B1] φ qq [.row (some ⟨lx,0,none⟩) 1 3 1 (hD KL.encI [aU]),.blk ab 94 [.slice cU ao.bytes.length dy,jV ao.next,.int .u32 ao.state],.blk af 43 am,B7,ai,az,.blk b3 28 B0,ap,aF,.row cV dz 43 3 (hD wAB [(⟨(⟨aa,w64 (aa + aj)⟩:wAK),an⟩:wAM)]),.row cW dA 43 3 (hD wAB av)] qN:=Ar
 exact DR _ _ ⟨qq,cU,dy,cV,dz,cW,dA,(some ⟨lx,0,none⟩),1,tr,tu,tv,tw,tx,tz,tA,tB,tC,tD,tE,tF,tG,tH,tI,tJ,tK,tL,tM,tN,tO,mu,rfl,tP,DY,(As.pick [1,2,3,4,5,6,7,8,9,10,0] _ (by decide) rfl),xk⟩
 refine ZT (s:=gBi) (M:=fun σ_ w_=>∃ (φ_:PHeap) (cX:Option Addr) (dB:Nat) (cY:Option Addr) (dC:Nat),σ_ 0=.pointer (some ⟨ab,0,none⟩)/\σ_ 3=jV p3/\σ_ 8=.pointer (some ⟨b3,0,none⟩)/\σ_ 11=.pointer (some ⟨b7,0,none⟩)/\σ_ 12=.slice aO aV.length aP/\σ_ 13=.slice aI aH.length aJ/\σ_ 21=.pointer (some ⟨af,0,none⟩)/\σ_ 98=jV aX/\σ_ 99=jV (↑aS:Int)/\σ_ 112=.pointer (some ⟨b7,2,none⟩)/\σ_ 114=.agg am.toArray/\σ_ 115=.slice cX ([(⟨(⟨aa,w64 (aa + aj)⟩:wAK),an⟩:wAM)].length) dB/\σ_ 116=.slice cY av.length dC/\σ_ 117=.slice aI aH.length aJ/\σ_ 118=.pointer (some ⟨ab,0,none⟩)/\σ_ 119=.pointer (some ⟨af,0,none⟩)/\σ_ 120=.pointer (some ⟨af,0,none⟩)/\σ_ 121=jV aa/\σ_ 122=.pointer (some ⟨af,0,none⟩)/\σ_ 123=.pointer (some ⟨af,1,none⟩)/\σ_ 124=jV (w64 (aa + aj))/\σ_ 128=.pointer (some ⟨b7,2,none⟩)/\PHeap.Le aG φ_/\SW w [B1] φ φ_ [.blk af 43 am,aM,B7,ai,az,.blk b3 28 B0,ap,aF,.row cX dB 43 3 (hD wAB [(⟨(⟨aa,w64 (aa + aj)⟩:wAK),an⟩:wAM)]),.row cY dC 43 3 (hD wAB av)] w_) ?_ fun fK=>?_
 rintro GZ k8 ⟨qr,cX,dB,cY,dC,tQ,tR,tS,tT,tU,tV,tW,tX,tY,tZ,t5,t6,t7,t8,mw,t9,ua,mx,ub,ud,my,ue,p8,Au⟩
 have xl:=oV.le p8
 let jX:Res:=.row cX dB 43 3 (hD wAB [(⟨(⟨aa,w64 (aa + aj)⟩:wAK),an⟩:wAM)])
 let jY:Res:=.row cY dC 43 3 (hD wAB av)
 have Av:SW w [B1] φ qr [aM,.blk af 43 am,B7,ai,az,.blk b3 28 B0,ap,aF,jX,jY] k8:=Au.pick [1,0,2,3,4,5,6,7,8,9] _ (by decide) rfl
 refine zF 1 Z Z Z Z (zD Z Z yi (zB mw (zB mx (zB my zN))) Z) Av (fun hs=>wAa eh ab gu gR aa (w64 (aa + aj)) k8 qr hs xl oW) (.inl Z) ?_
 rintro qs E1 Gj qO DZ Aw ⟨jm,lJ,rfl,rfl,xm⟩
 have Ax:SW w [B1] φ qs [.blk ab 94 [.slice jm ao.bytes.length lJ,jV ao.next,.int .u32 ao.state],.blk af 43 am,B7,ai,az,.blk b3 28 B0,ap,aF,jX,jY] qO:=Aw
 exact pY _ _ ⟨qs,jm,lJ,cX,dB,cY,dC,tQ,tR,tS,tT,tU,tV,tW,tX,tY,tZ,t5,t6,t7,t8,mw,t9,ua,mx,ub,ud,my,Z,ue,(p8.trans DZ),Ax,xm⟩
 refine ZT (s:=.fl 16 gBi) (M:=fun σ_ w_=>∃ (φ_:PHeap) (cZ:Option Addr) (dD:Nat) (c6:Option Addr) (dE:Nat),σ_ 0=.pointer (some ⟨ab,0,none⟩)/\σ_ 3=jV p3/\σ_ 8=.pointer (some ⟨b3,0,none⟩)/\σ_ 11=.pointer (some ⟨b7,0,none⟩)/\σ_ 12=.slice aO aV.length aP/\σ_ 13=.slice aI aH.length aJ/\σ_ 21=.pointer (some ⟨af,0,none⟩)/\σ_ 98=jV aX/\σ_ 99=jV (↑aS:Int)/\σ_ 112=.pointer (some ⟨b7,2,none⟩)/\σ_ 114=.agg am.toArray/\σ_ 115=.slice cZ ([(⟨(⟨aa,w64 (aa + aj)⟩:wAK),an⟩:wAM)].length) dD/\σ_ 116=.slice c6 av.length dE/\σ_ 117=.slice aI aH.length aJ/\σ_ 118=.pointer (some ⟨ab,0,none⟩)/\σ_ 119=.pointer (some ⟨af,0,none⟩)/\σ_ 120=.pointer (some ⟨af,0,none⟩)/\σ_ 121=jV aa/\σ_ 122=.pointer (some ⟨af,0,none⟩)/\σ_ 123=.pointer (some ⟨af,1,none⟩)/\σ_ 124=jV (w64 (aa + aj))/\PHeap.Le aG φ_/\SW w [B1] φ φ_ [.blk af 43 am,aM,B7,ai,az,.blk b3 28 B0,ap,aF,.row cZ dD 43 3 (hD wAB [(⟨(⟨aa,w64 (aa + aj)⟩:wAK),an⟩:wAM)]),.row c6 dE 43 3 (hD wAB av)] w_) ?_ fun DS=>?_
 rintro G0 k9 ⟨qt,cZ,dD,c6,dE,uf,ug,uh,mz,ui,uj,uk,um,un,uo,up,uq,ur,uu,mA,uv,uw,mB,ux,uy,mC,p9,Ay⟩
 refine oR Z (zG Z mz zK Z Zl) ?_
 have xn:=oV.le p9
 let jZ:Res:=.row cZ dD 43 3 (hD wAB [(⟨(⟨aa,w64 (aa + aj)⟩:wAK),an⟩:wAM)])
 let j0:Res:=.row c6 dE 43 3 (hD wAB av)
 have Az:SW w [B1] φ qt [aM,.blk af 43 am,B7,ai,az,.blk b3 28 B0,ap,aF,jZ,j0] k9:=Ay.pick [1,0,2,3,4,5,6,7,8,9] _ (by decide) rfl
 refine zF 1 Z Z Z Z (zD Z Z yi (zB mA (zB mB (zB mC zN))) Z) Az (fun hs=>wAa eh ab gu gR aa (w64 (aa + aj)) k9 qt hs xn oW) (.inl Z) ?_
 rintro qu E2 Gk qP D0 AA ⟨jo,lK,rfl,rfl,xo⟩
 have AB:SW w [B1] φ qu [.blk ab 94 [.slice jo ao.bytes.length lK,jV ao.next,.int .u32 ao.state],.blk af 43 am,B7,ai,az,.blk b3 28 B0,ap,aF,jZ,j0] qP:=AA
 exact pY _ _ ⟨qu,jo,lK,cZ,dD,c6,dE,uf,ug,uh,mz,ui,uj,uk,um,un,uo,up,uq,ur,uu,mA,uv,uw,mB,ux,uy,mC,Z,Z,(p9.trans D0),AB,xo⟩
 refine ZT (s:=.fl 16 gBl) (M:=fun σ_ w_=>∃ (φ_:PHeap) (er:Option Addr) (eZ:Nat) (eu:Option Addr) (fb:Nat),σ_ 0=.pointer (some ⟨ab,0,none⟩)/\σ_ 3=jV p3/\σ_ 8=.pointer (some ⟨b3,0,none⟩)/\σ_ 11=.pointer (some ⟨b7,0,none⟩)/\σ_ 12=.slice aO aV.length aP/\σ_ 13=.slice aI aH.length aJ/\σ_ 21=.pointer (some ⟨af,0,none⟩)/\σ_ 98=jV aX/\σ_ 99=jV (↑aS:Int)/\σ_ 112=.pointer (some ⟨b7,2,none⟩)/\σ_ 114=.agg am.toArray/\σ_ 115=.slice er ([(⟨(⟨aa,w64 (aa + aj)⟩:wAK),an⟩:wAM)].length) eZ/\σ_ 116=.slice eu av.length fb/\σ_ 117=.slice aI aH.length aJ/\σ_ 118=.pointer (some ⟨ab,0,none⟩)/\σ_ 119=.pointer (some ⟨af,0,none⟩)/\σ_ 120=.pointer (some ⟨af,0,none⟩)/\σ_ 122=.pointer (some ⟨af,0,none⟩)/\σ_ 123=.pointer (some ⟨af,1,none⟩)/\σ_ 124=jV (w64 (aa + aj))/\PHeap.Le aG φ_/\SW w [B1] φ φ_ [.blk af 43 am,aM,B7,ai,az,.blk b3 28 B0,ap,aF,.row er eZ 43 3 (hD wAB [(⟨(⟨aa,w64 (aa + aj)⟩:wAK),an⟩:wAM)]),.row eu fb 43 3 (hD wAB av)] w_) ?_ fun DT=>?_
 rintro G1 Fv ⟨ES,er,eZ,eu,fb,uz,uA,uB,mD,uC,uD,uE,uF,uG,uH,uI,uJ,uK,uL,uM,uN,mE,uO,uP,uQ,D1,o3⟩
 exact oR Z (zG Z mD zK Z Zl) (ZR Z Z Z Z (o3.ldB (j:=0) Z Z mE zJ (v:=jV aa) Z) (fK _ _ ⟨ES,er,eZ,eu,fb,uz,uA,uB,mD,uC,uD,uE,uF,uG,uH,uI,uJ,uK,uL,uM,uN,mE,Z,uO,uP,uQ,Z,D1,o3⟩))
 refine ZT (s:=gBm) (M:=fun σ_ w_=>∃ (φ_:PHeap) (da:Option Addr) (dF:Nat),σ_ 0=.pointer (some ⟨ab,0,none⟩)/\σ_ 3=jV p3/\σ_ 8=.pointer (some ⟨b3,0,none⟩)/\σ_ 11=.pointer (some ⟨b7,0,none⟩)/\σ_ 12=.slice aO aV.length aP/\σ_ 13=.slice aI aH.length aJ/\σ_ 21=.pointer (some ⟨af,0,none⟩)/\σ_ 98=jV aX/\σ_ 99=jV (↑aS:Int)/\σ_ 112=.pointer (some ⟨b7,2,none⟩)/\σ_ 113=.slice bf aZ.length bh/\σ_ 114=.agg am.toArray/\σ_ 115=.slice da ([(⟨(⟨aa,w64 (aa + aj)⟩:wAK),an⟩:wAM)].length) dF/\σ_ 117=.slice aI aH.length aJ/\σ_ 118=.pointer (some ⟨ab,0,none⟩)/\σ_ 119=.pointer (some ⟨af,0,none⟩)/\σ_ 120=.pointer (some ⟨af,0,none⟩)/\σ_ 121=jV aa/\σ_ 122=.pointer (some ⟨af,0,none⟩)/\σ_ 123=.pointer (some ⟨af,1,none⟩)/\σ_ 124=jV (w64 (aa + aj))/\PHeap.Le aG φ_/\SW w [B1] φ φ_ [.blk af 43 am,aM,B7,ai,ba,az,.blk b3 28 B0,ap,aF,.row da dF 43 3 (hD wAB [(⟨(⟨aa,w64 (aa + aj)⟩:wAK),an⟩:wAM)])] w_) ?_ fun iH=>?_
 rintro G2 Fw ⟨qv,da,dF,uR,uS,uT,uU,uV,uW,uX,uY,uZ,u3,u4,u5,mF,u6,u7,u9,va,vb,vc,vd,ve,D5,o5⟩
 refine Zm (j:=4) (enc:=wAB) (xs:=aZ) (ys:=[(⟨(⟨aa,w64 (aa + aj)⟩:wAK),an⟩:wAM)]) (zs:=av) rfl rfl rfl rfl rfl Try.underlying25 wHs rfl rfl rfl rfl rfl rfl o5 rfl u4 mF (o5.srcR (j:=9) rfl (by decide) (wAD (f:=wAB) (sz:=3) (fun _=>rfl) [(⟨(⟨aa,w64 (aa + aj)⟩:wAK),an⟩:wAM)])) (fun _=>rfl) (fun _=>rfl) fG rfl ?_
 intro jp lL qR AD
 have AE:SW w [B1] φ qv [.blk af 43 am,aM,B7,ai,.row jp lL 43 3 (hD wAB av),az,.blk b3 28 B0,ap,aF,.row da dF 43 3 (hD wAB [(⟨(⟨aa,w64 (aa + aj)⟩:wAK),an⟩:wAM)])] qR:=AD
 exact DS _ _ ⟨qv,da,dF,jp,lL,uR,uS,uT,uU,uV,uW,uX,uY,uZ,u3,u5,mF,rfl,u6,u7,u9,va,vb,vc,vd,ve,D5,(AE.pick [0,1,2,3,5,6,7,8,9,4] _ (by decide) rfl)⟩
 refine ZT (s:=.fl 16 gBk) (M:=fun σ_ w_=>∃ (φ_:PHeap) (ew:Option Addr) (fc:Nat) (ey:Option Addr) (fd:Nat),σ_ 0=.pointer (some ⟨ab,0,none⟩)/\σ_ 3=jV p3/\σ_ 8=.pointer (some ⟨b3,0,none⟩)/\σ_ 11=.pointer (some ⟨b7,0,none⟩)/\σ_ 12=.slice aO aV.length aP/\σ_ 13=.slice aI aH.length aJ/\σ_ 21=.pointer (some ⟨af,0,none⟩)/\σ_ 98=jV aX/\σ_ 99=jV (↑aS:Int)/\σ_ 112=.pointer (some ⟨b7,2,none⟩)/\σ_ 114=.agg am.toArray/\σ_ 115=.slice ew ([(⟨(⟨aa,w64 (aa + aj)⟩:wAK),an⟩:wAM)].length) fc/\σ_ 116=.slice ey av.length fd/\σ_ 117=.slice aI aH.length aJ/\σ_ 118=.pointer (some ⟨ab,0,none⟩)/\σ_ 119=.pointer (some ⟨af,0,none⟩)/\σ_ 120=.pointer (some ⟨af,0,none⟩)/\σ_ 121=jV aa/\σ_ 122=.pointer (some ⟨af,0,none⟩)/\σ_ 123=.pointer (some ⟨af,1,none⟩)/\PHeap.Le aG φ_/\SW w [B1] φ φ_ [.blk af 43 am,aM,B7,ai,az,.blk b3 28 B0,ap,aF,.row ew fc 43 3 (hD wAB [(⟨(⟨aa,w64 (aa + aj)⟩:wAK),an⟩:wAM)]),.row ey fd 43 3 (hD wAB av)] w_) ?_ fun DU=>?_
 rintro G3 Fx ⟨ET,ew,fc,ey,fd,vf,vg,vh,mG,vi,vj,vk,vl,vm,vn,vo,vp,vq,vr,vt,vu,vv,vw,vx,mH,D6,o6⟩
 exact oR Z (zG Z mG zK Z Zl) (ZR Z Z Z Z (o6.ldB (j:=0) Z Z mH zJ (v:=jV (w64 (aa + aj))) Z) (fK _ _ ⟨ET,ew,fc,ey,fd,vf,vg,vh,mG,vi,vj,vk,vl,vm,vn,vo,vp,vq,vr,vt,vu,vv,vw,vx,mH,Z,Z,D6,o6⟩))
 refine ZT (s:=gBn) (M:=fun σ_ w_=>∃ (φ_:PHeap),σ_ 0=.pointer (some ⟨ab,0,none⟩)/\σ_ 3=jV p3/\σ_ 8=.pointer (some ⟨b3,0,none⟩)/\σ_ 11=.pointer (some ⟨b7,0,none⟩)/\σ_ 12=.slice aO aV.length aP/\σ_ 13=.slice aI aH.length aJ/\σ_ 21=.pointer (some ⟨af,0,none⟩)/\σ_ 98=jV aX/\σ_ 99=jV (↑aS:Int)/\σ_ 112=.pointer (some ⟨b7,2,none⟩)/\σ_ 113=.slice bf aZ.length bh/\σ_ 114=.agg am.toArray/\σ_ 117=.slice aI aH.length aJ/\σ_ 118=.pointer (some ⟨ab,0,none⟩)/\σ_ 119=.pointer (some ⟨af,0,none⟩)/\σ_ 120=.pointer (some ⟨af,0,none⟩)/\σ_ 121=jV aa/\σ_ 122=.pointer (some ⟨af,0,none⟩)/\σ_ 123=.pointer (some ⟨af,1,none⟩)/\σ_ 124=jV (w64 (aa + aj))/\PHeap.Le aG φ_/\SW w [B1] φ φ_ [.blk af 43 am,aM,B7,ai,ba,az,.blk b3 28 B0,ap,aF] w_) ?_ fun pZ=>?_
 rintro G4 Fz ⟨qx,vy,vz,vA,vB,vC,vD,vE,vF,vG,vH,vI,mI,vJ,vK,vL,vM,vN,vO,vP,vQ,D7,AF⟩
 refine zm (pv:=[(0,.agg am.toArray)]) (zs:=co) (cs:=am) Z Z Z Z Z (wAG mI wAN) ZV Zq yV Z Z Z Z Z AF ?_
 intro qS ly AH
 have AI:SW w [B1] φ qx [.row (some ⟨ly,0,none⟩) 1 43 3 (hD wAB [(⟨(⟨aa,w64 (aa + aj)⟩:wAK),an⟩:wAM)]),.blk af 43 am,aM,B7,ai,ba,az,.blk b3 28 B0,ap,aF] qS:=AH
 exact iH _ _ ⟨qx,(some ⟨ly,0,none⟩),1,vy,vz,vA,vB,vC,vD,vE,vF,vG,vH,vI,mI,rfl,vJ,vK,vL,vM,vN,vO,vP,vQ,D7,(AI.pick [1,2,3,4,5,6,7,8,9,0] _ (by decide) rfl)⟩
 refine ZT (s:=gBp) (M:=fun σ_ w_=>∃ (φ_:PHeap) (cd:Option Addr) (ct:Nat),σ_ 0=.pointer (some ⟨ab,0,none⟩)/\σ_ 3=jV p3/\σ_ 8=.pointer (some ⟨b3,0,none⟩)/\σ_ 11=.pointer (some ⟨b7,0,none⟩)/\σ_ 12=.slice aO aV.length aP/\σ_ 13=.slice aI aH.length aJ/\σ_ 21=.pointer (some ⟨af,0,none⟩)/\σ_ 98=jV aX/\σ_ 99=jV (↑aS:Int)/\σ_ 112=.pointer (some ⟨b7,2,none⟩)/\σ_ 113=.slice bf aZ.length bh/\σ_ 114=.agg am.toArray/\σ_ 115=.slice cd ([(⟨(⟨aa,w64 (aa + aj)⟩:wAK),an⟩:wAM)].length) ct/\σ_ 117=.slice aI aH.length aJ/\σ_ 118=.pointer (some ⟨ab,0,none⟩)/\σ_ 119=.pointer (some ⟨af,0,none⟩)/\σ_ 120=.pointer (some ⟨af,0,none⟩)/\σ_ 122=.pointer (some ⟨af,0,none⟩)/\σ_ 123=.pointer (some ⟨af,1,none⟩)/\σ_ 124=jV (w64 (aa + aj))/\PHeap.Le aG φ_/\SW w [B1] φ φ_ [.blk af 43 am,aM,B7,ai,ba,az,.blk b3 28 B0,ap,aF,.row cd ct 43 3 (hD wAB [(⟨(⟨aa,w64 (aa + aj)⟩:wAK),an⟩:wAM)])] w_) ?_ fun p6=>?_
 rintro G5 FA ⟨i5,cd,ct,mJ,mK,mL,mM,mN,mO,mP,mQ,mR,mS,mT,mU,gS,mV,mW,mX,gT,mY,mZ,m4,qa,fI⟩
 refine zr ?_ ?_
 refine Zm (j:=4) (enc:=wAB) (xs:=aZ) (ys:=[(⟨(⟨aa,w64 (aa + aj)⟩:wAK),an⟩:wAM)]) (zs:=av) rfl rfl rfl rfl rfl Try.underlying25 wHs rfl rfl rfl rfl rfl rfl fI rfl mT gS (fI.srcR (j:=9) rfl (by decide) (wAD (f:=wAB) (sz:=3) (fun _=>rfl) [(⟨(⟨aa,w64 (aa + aj)⟩:wAK),an⟩:wAM)])) (fun _=>rfl) (fun _=>rfl) fG rfl ?_
 intro jr lN qT AK
 have AL:SW w [B1] φ i5 [.blk af 43 am,aM,B7,ai,.row jr lN 43 3 (hD wAB av),az,.blk b3 28 B0,ap,aF,.row cd ct 43 3 (hD wAB [(⟨(⟨aa,w64 (aa + aj)⟩:wAK),an⟩:wAM)])] qT:=AK
 exact DT _ _ ⟨i5,cd,ct,jr,lN,mJ,mK,mL,mM,mN,mO,mP,mQ,mR,mS,mU,gS,rfl,mV,mW,mX,gT,mY,mZ,m4,qa,(AL.pick [0,1,2,3,5,6,7,8,9,4] _ (by decide) rfl)⟩
 exact ZR Z Z Z Z (fI.ldB (j:=0) Z Z gT zJ (v:=jV aa) Z) (iH _ _ ⟨i5,cd,ct,mJ,mK,mL,mM,mN,mO,mP,mQ,mR,mS,mT,mU,gS,mV,mW,mX,gT,Z,mY,mZ,m4,qa,fI⟩)
 refine ZT (s:=gBo) (M:=fun σ_ w_=>∃ (φ_:PHeap) (cf:Option Addr) (cu:Nat),σ_ 0=.pointer (some ⟨ab,0,none⟩)/\σ_ 3=jV p3/\σ_ 8=.pointer (some ⟨b3,0,none⟩)/\σ_ 11=.pointer (some ⟨b7,0,none⟩)/\σ_ 12=.slice aO aV.length aP/\σ_ 13=.slice aI aH.length aJ/\σ_ 21=.pointer (some ⟨af,0,none⟩)/\σ_ 98=jV aX/\σ_ 99=jV (↑aS:Int)/\σ_ 112=.pointer (some ⟨b7,2,none⟩)/\σ_ 113=.slice bf aZ.length bh/\σ_ 114=.agg am.toArray/\σ_ 115=.slice cf ([(⟨(⟨aa,w64 (aa + aj)⟩:wAK),an⟩:wAM)].length) cu/\σ_ 117=.slice aI aH.length aJ/\σ_ 118=.pointer (some ⟨ab,0,none⟩)/\σ_ 119=.pointer (some ⟨af,0,none⟩)/\σ_ 120=.pointer (some ⟨af,0,none⟩)/\σ_ 121=jV aa/\σ_ 122=.pointer (some ⟨af,0,none⟩)/\σ_ 123=.pointer (some ⟨af,1,none⟩)/\PHeap.Le aG φ_/\SW w [B1] φ φ_ [.blk af 43 am,aM,B7,ai,ba,az,.blk b3 28 B0,ap,aF,.row cf cu 43 3 (hD wAB [(⟨(⟨aa,w64 (aa + aj)⟩:wAK),an⟩:wAM)])] w_) ?_ fun p7=>?_
 rintro G6 FB ⟨i6,cf,cu,m5,m6,m7,m8,m9,n3,n4,n5,n6,n7,n8,n9,gU,oa,oc,od,oe,og,oh,gV,qb,fJ⟩
 refine zr ?_ ?_
 refine Zm (j:=4) (enc:=wAB) (xs:=aZ) (ys:=[(⟨(⟨aa,w64 (aa + aj)⟩:wAK),an⟩:wAM)]) (zs:=av) rfl rfl rfl rfl rfl Try.underlying25 wHs rfl rfl rfl rfl rfl rfl fJ rfl n8 gU (fJ.srcR (j:=9) rfl (by decide) (wAD (f:=wAB) (sz:=3) (fun _=>rfl) [(⟨(⟨aa,w64 (aa + aj)⟩:wAK),an⟩:wAM)])) (fun _=>rfl) (fun _=>rfl) fG rfl ?_
 intro jt lO qU AM
 have AN:SW w [B1] φ i6 [.blk af 43 am,aM,B7,ai,.row jt lO 43 3 (hD wAB av),az,.blk b3 28 B0,ap,aF,.row cf cu 43 3 (hD wAB [(⟨(⟨aa,w64 (aa + aj)⟩:wAK),an⟩:wAM)])] qU:=AM
 exact DU _ _ ⟨i6,cf,cu,jt,lO,m5,m6,m7,m8,m9,n3,n4,n5,n6,n7,n9,gU,rfl,oa,oc,od,oe,og,oh,gV,qb,(AN.pick [0,1,2,3,5,6,7,8,9,4] _ (by decide) rfl)⟩
 exact ZR Z Z Z Z (fJ.ldB (j:=0) Z Z gV zJ (v:=jV (w64 (aa + aj))) Z) (iH _ _ ⟨i6,cf,cu,m5,m6,m7,m8,m9,n3,n4,n5,n6,n7,n8,n9,gU,oa,oc,od,oe,og,oh,gV,Z,qb,fJ⟩)
 refine oR Z (zG Z bi zK Z Zl) (oL Z (bc.ldB (j:=5) Z Z Z yE (v:=.slice bf aZ.length bh) Z) (oL Z (bc.ldBA (j:=0) Z Z Z Try.isAgg43 Zq (vs:=am) Z Z) (oM Z br (oM Z bb (oR Z (zG Z Z Zr Z ZA) (oR Z (zG Z Z ZX Z zC) (oR Z (zG Z Z Zr Z ZA) (oR Z (zG Z Z ZX Z zC) (zr ?_ ?_)))))))))
 refine zm (pv:=[(0,.agg am.toArray)]) (zs:=co) (cs:=am) Z Z Z Z Z (wAG Z wAN) ZV Zq yV Z Z Z Z Z bc ?_
 intro qV dk AO
 let j1:Res:=.row (some ⟨dk,0,none⟩) 1 43 3 (hD wAB [(⟨(⟨aa,w64 (aa + aj)⟩:wAK),an⟩:wAM)])
 have cD:SW w [B1] φ aG [j1,.blk af 43 am,aM,B7,ai,ba,az,.blk b3 28 B0,ap,aF] qV:=AO
 refine zr ?_ ?_
 refine Zm (j:=5) (enc:=wAB) (xs:=aZ) (ys:=[(⟨(⟨aa,w64 (aa + aj)⟩:wAK),an⟩:wAM)]) (zs:=av) rfl rfl rfl rfl rfl Try.underlying25 wHs rfl rfl rfl rfl rfl rfl cD rfl rfl rfl (cD.srcR (j:=0) rfl (by decide) (wAD (f:=wAB) (sz:=3) (fun _=>rfl) [(⟨(⟨aa,w64 (aa + aj)⟩:wAK),an⟩:wAM)])) (fun _=>rfl) (fun _=>rfl) fG rfl ?_
 intro gi gL qW AP
 have cE:SW w [B1] φ aG [j1,.blk af 43 am,aM,B7,ai,.row gi gL 43 3 (hD wAB av),az,.blk b3 28 B0,ap,aF] qW:=AP
 refine oR Z (zG Z bi zK Z Zl) (zr ?_ ?_)
 exact ZR rfl rfl rfl rfl (cE.ldB (j:=1) rfl rfl rfl zJ (v:=jV aa) rfl) (ZR rfl rfl rfl rfl (cE.ldB (j:=1) rfl rfl rfl zJ (v:=jV (w64 (aa + aj))) rfl) (fK _ _ ⟨aG,(some ⟨dk,0,none⟩),1,gi,gL,bb,bE,bF,bi,bG,br,rfl,bs,bt,rfl,rfl,rfl,rfl,rfl,rfl,rfl,rfl,rfl,rfl,rfl,rfl,rfl,(zO _),(cE.pick [1,2,3,4,6,7,8,9,0,5] _ (by decide) rfl)⟩))
 exact ZR rfl rfl rfl rfl (cE.ldB (j:=1) rfl rfl rfl zJ (v:=jV (w64 (aa + aj))) rfl) (ZR rfl rfl rfl rfl (cE.ldB (j:=1) rfl rfl rfl zJ (v:=jV aa) rfl) (fK _ _ ⟨aG,(some ⟨dk,0,none⟩),1,gi,gL,bb,bE,bF,bi,bG,br,rfl,bs,bt,rfl,rfl,rfl,rfl,rfl,rfl,rfl,rfl,rfl,rfl,rfl,rfl,rfl,(zO _),(cE.pick [1,2,3,4,6,7,8,9,0,5] _ (by decide) rfl)⟩))
 refine zr ?_ ?_
 exact ZR rfl rfl rfl rfl (cD.ldB (j:=1) rfl rfl rfl zJ (v:=jV aa) rfl) (p7 _ _ ⟨aG,(some ⟨dk,0,none⟩),1,bb,bE,bF,bi,bG,br,rfl,bs,bt,rfl,rfl,rfl,rfl,rfl,rfl,rfl,rfl,rfl,rfl,rfl,(zO _),(cD.pick [1,2,3,4,5,6,7,8,9,0] _ (by decide) rfl)⟩)
 exact ZR rfl rfl rfl rfl (cD.ldB (j:=1) rfl rfl rfl zJ (v:=jV (w64 (aa + aj))) rfl) (p6 _ _ ⟨aG,(some ⟨dk,0,none⟩),1,bb,bE,bF,bi,bG,br,rfl,bs,bt,rfl,rfl,rfl,rfl,rfl,rfl,rfl,rfl,rfl,rfl,rfl,(zO _),(cD.pick [1,2,3,4,5,6,7,8,9,0] _ (by decide) rfl)⟩)
 refine zr ?_ ?_
 refine ZR Z Z Z Z (bc.ldB (j:=0) Z Z Z zJ (v:=jV aa) Z) (zr ?_ ?_)
 refine zm (pv:=[(0,.agg am.toArray)]) (zs:=co) (cs:=am) Z Z Z Z Z (wAG Z wAN) ZV Zq yV Z Z Z Z Z bc ?_
 intro qX lz AQ
 have AS:SW w [B1] φ aG [.row (some ⟨lz,0,none⟩) 1 43 3 (hD wAB [(⟨(⟨aa,w64 (aa + aj)⟩:wAK),an⟩:wAM)]),.blk af 43 am,aM,B7,ai,ba,az,.blk b3 28 B0,ap,aF] qX:=AQ
 exact p7 _ _ ⟨aG,(some ⟨lz,0,none⟩),1,bb,bE,bF,bi,bG,br,rfl,bs,bt,rfl,rfl,rfl,rfl,rfl,rfl,rfl,rfl,rfl,rfl,rfl,(zO _),(AS.pick [1,2,3,4,5,6,7,8,9,0] _ (by decide) rfl)⟩
 exact ZR Z Z Z Z (bc.ldB (j:=0) Z Z Z zJ (v:=jV (w64 (aa + aj))) Z) (pZ _ _ ⟨aG,bb,bE,bF,bi,bG,br,Z,bs,bt,Z,Z,Z,Z,Z,Z,Z,Z,Z,Z,Z,(zO _),bc⟩)
 refine ZR Z Z Z Z (bc.ldB (j:=0) Z Z Z zJ (v:=jV (w64 (aa + aj))) Z) (zr ?_ ?_)
 refine zm (pv:=[(0,.agg am.toArray)]) (zs:=co) (cs:=am) Z Z Z Z Z (wAG Z wAN) ZV Zq yV Z Z Z Z Z bc ?_
 intro qY lA AT
 have AU:SW w [B1] φ aG [.row (some ⟨lA,0,none⟩) 1 43 3 (hD wAB [(⟨(⟨aa,w64 (aa + aj)⟩:wAK),an⟩:wAM)]),.blk af 43 am,aM,B7,ai,ba,az,.blk b3 28 B0,ap,aF] qY:=AT
 exact p6 _ _ ⟨aG,(some ⟨lA,0,none⟩),1,bb,bE,bF,bi,bG,br,rfl,bs,bt,rfl,rfl,rfl,rfl,rfl,rfl,rfl,rfl,rfl,rfl,rfl,(zO _),(AU.pick [1,2,3,4,5,6,7,8,9,0] _ (by decide) rfl)⟩
 exact ZR Z Z Z Z (bc.ldB (j:=0) Z Z Z zJ (v:=jV aa) Z) (pZ _ _ ⟨aG,bb,bE,bF,bi,bG,br,Z,bs,bt,Z,Z,Z,Z,Z,Z,Z,Z,Z,Z,Z,(zO _),bc⟩)
 rintro G7 q6 ⟨EU,qH,sb,bn,bp,cg,cw,xa,oi,vR,vS,vT,vU,vV,vW,Ea,AW,xt⟩
 have sc:Hid (¬ ((↑((aX:Int) - 0).toNat:Int) < aX)):=zM (wAc)
 refine sR fL1 Z (oR Z (zc Z xa vW) (eN (zL (cF Z sc (Za (zi (zi (ZQ (zH (zL (sR (wCa gAi) Z (oM Z oi (oM Z vR (oR Z (za Z Z Z) ?_))))))))))))))
 have q:=bnd pL
 obtain ⟨⟨cI,iN⟩,xu,pq⟩:=q
 try dsimp only at pq
 refine zF 1 Z Z Z Z (zD Z Z Zz (zB Z (zB Z zN)) Z) AW (fun hs=>wAR (⟨EO,EP,EQ⟩:wAH) ab qH sb (w64 (p3 + 1)) q6 EU hs xt xu) (.inl Z) ?_
 rintro EV E6 Gn lc Eb AX ⟨jv,lQ,rfl,rfl,xv⟩
 let aq:Res:=.row bn bp 43 3 (hD wAB aW)
 let au:Res:=.row cg cw 3 1 (hD KL.encI a5)
 let j2:Res:=.blk b7 28 [.slice aK ax.length aL,.slice aQ ay.length aR,.slice bn aW.length bp,.slice none 0 0]
 let j3:Res:=.blk ab 94 [.slice jv iN.bytes.length lQ,jV iN.next,.int .u32 iN.state]
 have AY:SW w [B1] φ EV [j3,B7,ai,aq,j2,.blk b3 28 B0,ap,au] lc:=AX
 refine oM Z Z (eN (zY ?_))
 have xx:=y8.le Et
 have xz:=xx.le Ea
 have xA:=xz.le Eb
 have q:=AY.freezeRR (R:=wIs) (k:=6) rfl xA rfl (by decide)
 obtain ⟨i7,Ec,pR,A3⟩:=q
 have A4:SW w [B1] φ i7 [j3,B7,ai,aq,j2,.blk b3 28 B0,au] lc:=A3
 have q:=bnd pq
 obtain ⟨⟨EC,ED,EE,qn⟩,C7,pt⟩:=q
 try dsimp only at pt
 have q:=wBL C7
 obtain ⟨iB,C8⟩:=q
 replace iB:=zM iB
 refine CK.forN' (fun bU (bV,d7,d9,bW) σ_ w_=>∃ (φ_:PHeap) (ci:Option Addr) (cx:Nat) (bB:Option Addr) (bD:Nat),σ_ 134=jV (↑bU:Int)/\σ_ 0=.pointer (some ⟨ab,0,none⟩)/\σ_ 8=.pointer (some ⟨b3,0,none⟩)/\σ_ 11=.pointer (some ⟨b7,0,none⟩)/\σ_ 12=.slice aO aV.length aP/\σ_ 13=.slice cg a5.length cw/\σ_ 133=jV cI/\PHeap.Le i7 φ_/\SW w [B1] φ φ_ [.blk ab 94 [.slice ci bV.length cx,jV d7,.int .u32 d9],B7,ai,aq,.row bB bD 39 4 (hD wAA bW),.blk b7 28 [.slice aK ax.length aL,.slice aQ ay.length aR,.slice bn aW.length bp,.slice bB bW.length bD],.blk b3 28 B0,au] w_/\Sl φ_ 1 ci cx bV.length (hD KL.encB8 bV)) C8 ?_ ?_ ?_
 have A6:=A4.nilrow 39 4
 have xB:=xv.le Ec
 exact ⟨i7,jv,lQ,none,0,rfl,oi,vS,vT,vU,vV,rfl,(zO _),(A6.pick [1,2,3,4,0,5,6,7] _ (by decide) rfl),xB⟩
 rintro bU ⟨bV,d7,d9,bW⟩ GL G8 lf iu ⟨f8,ci,cx,bB,bD,dM,bQ,fy,bR,fz,fA,dJ,fM,A8,oO⟩ pS
 try dsimp only at pS
 have lR:Hid ((↑bU:Int) < cI):=zM (wAs iu)
 replace iu:=zM iu
 have it:Hid (w64 ((↑bU:Int) + 1)=(↑(bU + 1):Int)):=zM (by have h1:=iB.out;have h2:=lR.out;rw [wAT] <;> omega)
 refine sR fL1 Z (oR Z (zc Z dM dJ) (eN (zL (cT Z lR (kN (zL (zY ?_)))))))
 have q:=bnd pS
 obtain ⟨⟨fL,qj,qk,bw,bZ,aT⟩,DO,pu⟩:=q
 try dsimp only at pu
 let aD:Res:=.blk b7 28 [.slice aK ax.length aL,.slice aQ ay.length aR,.slice bn aW.length bp,.slice bB bW.length bD]
 let aE:Res:=.row bB bD 39 4 (hD wAA bW)
 let bC:List Value:=[jV bw,jV bZ,jV aT,jV 0]
 refine yO (fun σ_ w_=>∃ (φ_:PHeap) (eA:Option Addr) (ff:Nat) (aY:Nat),σ_ 0=.pointer (some ⟨ab,0,none⟩)/\σ_ 8=.pointer (some ⟨b3,0,none⟩)/\σ_ 11=.pointer (some ⟨b7,0,none⟩)/\σ_ 12=.slice aO aV.length aP/\σ_ 13=.slice cg a5.length cw/\σ_ 22=.pointer (some ⟨aY,0,none⟩)/\σ_ 133=jV cI/\σ_ 134=jV (↑bU:Int)/\PHeap.Le f8 φ_/\SW w [B1] φ φ_ [.blk ab 94 [.slice eA fL.length ff,jV qj,.int .u32 qk],B7,ai,aq,aE,aD,.blk b3 28 B0,au,.blk aY 39 bC] w_/\Sl φ_ 1 eA ff fL.length (hD KL.encB8 fL)) ?_ ?_
 have q:=bnd DO
 obtain ⟨⟨bH,bx⟩,oP,py⟩:=q
 try dsimp only at py
 have q:=bnd py
 obtain ⟨⟨bI,a8⟩,ie,pz⟩:=q
 try dsimp only at pz
 have q:=bnd pz
 obtain ⟨⟨bJ,bd⟩,fD,dO⟩:=q
 try dsimp only at dO
 refine ZE ZF [3,3,1,3,1005,3,3,1004,3,3,1005,3,3,1004,3,0,3,2,0,ab] (wEI (wJg (wKX (.fx 4 (.fx 10 (.fx 15 (.fl 16 (.fx 17 (.fx 18 .nil .stop) .stop)) (.fx 17 gAt .stop)) (.fx 17 gBd .stop)) (.fx 17 (.fx 4 gBd .stop) .stop))))) (by kernel_rfl) ?_
 have cG:=A8.drew
 generalize hw_W1886:({ lf with drawn:=lf.drawn + 1 }:World)=rd at cG ⊢
 refine zk rfl rfl rfl rfl rfl bQ (zg rfl rfl rfl rfl (fun _=>zG rfl bR zK rfl zy) (ZJ rfl rfl rfl rfl (cG.ldB (j:=5) rfl rfl rfl ZK (v:=.slice aK ax.length aL) rfl) rfl (zg rfl rfl rfl rfl (fun _=>zq rfl rfl zE) (zk rfl rfl rfl rfl rfl bQ (zg rfl rfl rfl rfl (fun _=>zG rfl bR zK rfl yC) (OKS.mt (T:=[ab]) [0] [1,2,3,4,5,6,7] [B7,ai,aq,aE,aD,.blk b3 28 B0,au] rfl rfl rfl rfl cG rfl ⟨⟨0,by decide,_,rfl,rfl⟩,trivial⟩ (by decide) rfl (by decide) (fun _ CV=>(CV.ldB (j:=4) rfl rfl rfl yQ (v:=.slice aQ ay.length aR) rfl)) rfl (zg rfl rfl rfl rfl (fun _=>zq rfl rfl ZP) (zg rfl rfl rfl rfl (fun _=>za rfl rfl rfl) (zk rfl rfl rfl rfl rfl bQ (zg rfl rfl rfl rfl (fun _=>zG rfl bR zK rfl Zl) (OKS.mt (T:=[ab]) [0] [1,2,3,4,5,6,7] [B7,ai,aq,aE,aD,.blk b3 28 B0,au] rfl rfl rfl rfl cG rfl ⟨⟨0,by decide,_,rfl,rfl⟩,trivial⟩ (by decide) rfl (by decide) (fun _ CW=>(CW.ldB (j:=4) rfl rfl rfl yE (v:=.slice bn aW.length bp) rfl)) rfl (zg rfl rfl rfl rfl (fun _=>zq rfl rfl ZV) (zr ?_ ?_)))))))))))))
 refine yj 1 rfl rfl rfl rfl (zD rfl rfl Zz (zB rfl (zB rfl zN)) rfl) cG (fun hs=>wAR (⟨bV,d7,d9⟩:wAH) ab ci cx (↑ax.length:Int) rd f8 hs oO oP) rfl (T:=[ab]) rfl ⟨fun b h=>(by cases h;exact .head _),trivial⟩ ?_
 rintro f9 E7 Gq lg iI Bd ⟨gj,gM,rfl,rfl,oQ⟩
 let j4:Res:=.blk ab 94 [.slice gj bx.bytes.length gM,jV bx.next,.int .u32 bx.state]
 have o8:SW w [B1] φ f9 [j4,B7,ai,aq,aE,aD,.blk b3 28 B0,au] lg:=Bd
 refine zr ?_ ?_
 refine yj 1 rfl rfl rfl rfl (zD rfl rfl Zz (zB rfl (zB rfl zN)) rfl) o8 (fun hs=>wAR bx ab gj gM (w64 ((↑ay.length:Int) + 1)) lg f9 hs oQ ie) rfl (T:=[ab]) rfl ⟨fun b h=>(by cases h;exact .head _),trivial⟩ ?_
 rintro ga E8 Gr lh qc Be ⟨gp,gN,rfl,rfl,oS⟩
 let j5:Res:=.blk ab 94 [.slice gp a8.bytes.length gN,jV a8.next,.int .u32 a8.state]
 have o9:SW w [B1] φ ga [j5,B7,ai,aq,aE,aD,.blk b3 28 B0,au] lh:=Be
 refine zr ?_ ?_
 refine zF 1 Z Z Z Z (zD Z Z Zz (zB Z (zB Z zN)) Z) o9 (fun hs=>wAR a8 ab gp gN (↑aW.length:Int) lh ga hs oS fD) (.inl Z) ?_
 rintro i8 E9 Gs rf Ee Bf ⟨jw,lS,rfl,rfl,xD⟩
 let j6:Res:=.blk ab 94 [.slice jw bd.bytes.length lS,jV bd.next,.int .u32 bd.state]
 have Bg:SW w [B1] φ i8 [j6,B7,ai,aq,aE,aD,.blk b3 28 B0,au] rf:=Bf
 let gz:List Value:=[jV bH,jV bI,jV bJ,jV 0]
 let j7:List Value:=[jV 0,jV 0,jV 0,jV 0]
 refine oR Z (zl (pv:=[(0,jV bH),(1,jV bI),(2,jV bJ)]) (z:=j7) (cs:=gz) Z (wAG Z (wAG Z (wAG Z wAN))) Zb wEc Z Z) (zV (cs:=j7) Z Z Z Z Z Zb Z Bg ?_)
 intro FC lB Bh
 refine zW (j:=0) (vs:=gz) Z Z Z Z Bh Z Z Z Z ZC (zA Z) Z Z Z ?_
 intro rh Bi
 have Bj:SW w [B1] φ i8 [.blk lB 39 gz,j6,B7,ai,aq,aE,aD,.blk b3 28 B0,au] rh:=Bi
 refine zb ?_
 cases dO
 exact zH ⟨rfl,⟨i8,jw,lS,lB,bQ,fy,bR,fz,fA,rfl,dJ,dM,((iI.trans qc).trans Ee),(Bj.pick [1,2,3,4,5,6,7,8,0] _ (by decide) rfl),xD⟩⟩
 let eU:List Value:=[jV 0,jV 0,jV 0,jV 0]
 refine zV (cs:=eU) Z Z Z Z Z Zb Z o9 ?_
 intro li eW Bk
 have Bl:SW w [B1] φ ga [j5,.blk eW 39 eU,B7,ai,aq,aE,aD,.blk b3 28 B0,au] li:=Bk.pick [1,0,2,3,4,5,6,7,8] _ (by decide) rfl
 refine zF 1 Z Z Z Z (zD Z Z Zz (zB Z (zB Z zN)) Z) Bl (fun hs=>wAR a8 ab gp gN (↑aW.length:Int) li ga hs oS fD) (.inl Z) ?_
 rintro i9 Fa Gt rk Ef Bm ⟨jx,lT,rfl,rfl,xE⟩
 let j8:Res:=.blk ab 94 [.slice jx bd.bytes.length lT,jV bd.next,.int .u32 bd.state]
 have Bn:SW w [B1] φ i9 [j8,.blk eW 39 eU,B7,ai,aq,aE,aD,.blk b3 28 B0,au] rk:=Bm
 let gB:List Value:=[jV bH,jV bI,jV bJ,jV 0]
 refine oR Z (zl (pv:=[(0,jV bH),(1,jV bI),(2,jV bJ)]) (z:=eU) (cs:=gB) Z (wAG Z (wAG Z (wAG Z wAN))) Zb wEc Z Z) (zW (j:=1) (vs:=gB) Z Z Z Z Bn Z Z Z Z ZC (zA Z) Z Z Z ?_)
 intro rn Bo
 have Bp:SW w [B1] φ i9 [j8,.blk eW 39 gB,B7,ai,aq,aE,aD,.blk b3 28 B0,au] rn:=Bo
 refine zb ?_
 cases dO
 exact zH ⟨rfl,⟨i9,jx,lT,eW,bQ,fy,bR,fz,fA,rfl,dJ,dM,((iI.trans qc).trans Ef),(Bp.pick [0,2,3,4,5,6,7,8,1] _ (by decide) rfl),xE⟩⟩
 let dg:List Value:=[jV 0,jV 0,jV 0,jV 0]
 refine zV (cs:=dg) Z Z Z Z Z Zb Z o8 ?_
 intro lj dl Bq
 have Br:SW w [B1] φ f9 [j4,.blk dl 39 dg,B7,ai,aq,aE,aD,.blk b3 28 B0,au] lj:=Bq.pick [1,0,2,3,4,5,6,7,8] _ (by decide) rfl
 refine yj 1 rfl rfl rfl rfl (zD rfl rfl Zz (zB rfl (zB rfl zN)) rfl) Br (fun hs=>wAR bx ab gj gM (w64 ((↑ay.length:Int) + 1)) lj f9 hs oQ ie) rfl (T:=[ab]) rfl ⟨fun b h=>(by cases h;exact .head _),trivial⟩ ?_
 rintro qy Fb Gu lk Eg Bs ⟨jy,lU,rfl,rfl,xF⟩
 have Bt:SW w [B1] φ qy [.blk ab 94 [.slice jy a8.bytes.length lU,jV a8.next,.int .u32 a8.state],.blk dl 39 dg,B7,ai,aq,aE,aD,.blk b3 28 B0,au] lk:=Bs
 refine zF 1 Z Z Z Z (zD Z Z Zz (zB Z (zB Z zN)) Z) Bt (fun hs=>wAR a8 ab jy lU (↑aW.length:Int) lk qy hs xF fD) (.inl Z) ?_
 rintro ja Fc Gw rp Eh Bu ⟨jz,lV,rfl,rfl,xG⟩
 let j9:Res:=.blk ab 94 [.slice jz bd.bytes.length lV,jV bd.next,.int .u32 bd.state]
 have Bw:SW w [B1] φ ja [j9,.blk dl 39 dg,B7,ai,aq,aE,aD,.blk b3 28 B0,au] rp:=Bu
 let gC:List Value:=[jV bH,jV bI,jV bJ,jV 0]
 refine oR Z (zl (pv:=[(0,jV bH),(1,jV bI),(2,jV bJ)]) (z:=dg) (cs:=gC) Z (wAG Z (wAG Z (wAG Z wAN))) Zb wEc Z Z) (zW (j:=1) (vs:=gC) Z Z Z Z Bw Z Z Z Z ZC (zA Z) Z Z Z ?_)
 intro rq Bx
 have By:SW w [B1] φ ja [j9,.blk dl 39 gC,B7,ai,aq,aE,aD,.blk b3 28 B0,au] rq:=Bx
 refine zb ?_
 cases dO
 exact zH ⟨rfl,⟨ja,jz,lV,dl,bQ,fy,bR,fz,fA,rfl,dJ,dM,((iI.trans Eg).trans Eh),(By.pick [0,2,3,4,5,6,7,8,1] _ (by decide) rfl),xG⟩⟩
 let cp:List Value:=[jV 0,jV 0,jV 0,jV 0]
 refine zV (cs:=cp) Z Z Z Z Z Zb Z cG ?_
 intro lm cr Bz
 have BA:SW w [B1] φ f8 [.blk ab 94 [.slice ci bV.length cx,jV d7,.int .u32 d9],.blk cr 39 cp,B7,ai,aq,aE,aD,.blk b3 28 B0,au] lm:=Bz.pick [1,0,2,3,4,5,6,7,8] _ (by decide) rfl
 refine yj 1 rfl rfl rfl rfl (zD rfl rfl Zz (zB rfl (zB rfl zN)) rfl) BA (fun hs=>wAR (⟨bV,d7,d9⟩:wAH) ab ci cx (↑ax.length:Int) lm f8 hs oO oP) rfl (T:=[ab]) rfl ⟨fun b h=>(by cases h;exact .head _),trivial⟩ ?_
 rintro qz Fd Gx ln Ei BB ⟨jB,lX,rfl,rfl,xH⟩
 have BC:SW w [B1] φ qz [.blk ab 94 [.slice jB bx.bytes.length lX,jV bx.next,.int .u32 bx.state],.blk cr 39 cp,B7,ai,aq,aE,aD,.blk b3 28 B0,au] ln:=BB
 refine yj 1 rfl rfl rfl rfl (zD rfl rfl Zz (zB rfl (zB rfl zN)) rfl) BC (fun hs=>wAR bx ab jB lX (w64 ((↑ay.length:Int) + 1)) ln qz hs xH ie) rfl (T:=[ab]) rfl ⟨fun b h=>(by cases h;exact .head _),trivial⟩ ?_
 rintro qA Fe Gy lp Ej BD ⟨jC,lY,rfl,rfl,xI⟩
 have BE:SW w [B1] φ qA [.blk ab 94 [.slice jC a8.bytes.length lY,jV a8.next,.int .u32 a8.state],.blk cr 39 cp,B7,ai,aq,aE,aD,.blk b3 28 B0,au] lp:=BD
 refine zF 1 Z Z Z Z (zD Z Z Zz (zB Z (zB Z zN)) Z) BE (fun hs=>wAR a8 ab jC lY (↑aW.length:Int) lp qA hs xI fD) (.inl Z) ?_
 rintro jb Ff Gz rv Ek BF ⟨jD,lZ,rfl,rfl,xJ⟩
 let k5:Res:=.blk ab 94 [.slice jD bd.bytes.length lZ,jV bd.next,.int .u32 bd.state]
 have BG:SW w [B1] φ jb [k5,.blk cr 39 cp,B7,ai,aq,aE,aD,.blk b3 28 B0,au] rv:=BF
 let gD:List Value:=[jV bH,jV bI,jV bJ,jV 0]
 refine oR Z (zl (pv:=[(0,jV bH),(1,jV bI),(2,jV bJ)]) (z:=cp) (cs:=gD) Z (wAG Z (wAG Z (wAG Z wAN))) Zb wEc Z Z) (zW (j:=1) (vs:=gD) Z Z Z Z BG Z Z Z Z ZC (zA Z) Z Z Z ?_)
 intro rx BH
 have BI:SW w [B1] φ jb [k5,.blk cr 39 gD,B7,ai,aq,aE,aD,.blk b3 28 B0,au] rx:=BH
 refine zb ?_
 cases dO
 exact zH ⟨rfl,⟨jb,jD,lZ,cr,bQ,fy,bR,fz,fA,rfl,dJ,dM,((Ei.trans Ej).trans Ek),(BI.pick [0,2,3,4,5,6,7,8,1] _ (by decide) rfl),xJ⟩⟩
 rintro Ha lq ⟨qB,eA,ff,aY,oj,vX,om,oq,ot,cA,vY,vZ,fN,dN,xK⟩
 refine sR fL8 Z (oR Z (zG Z om zK Z Zl) (oL Z (dN.ldB (j:=5) Z Z Z yE (v:=.slice bn aW.length bp) Z) (oR Z (zG Z cA zx Z zC) (oL Z (dN.ldB (j:=8) Z Z Z zJ (v:=jV aT) Z) (bnK pu fun _ fE Du=>?_)))))
 obtain ⟨FM,oX⟩:=dN.rowSome (j:=3) rfl (by rw [wAD (f:=wAB) (sz:=3) (fun _=>rfl) aW];have hz:=wAY fE;omega)
 refine oR Z (ZY Z Z oX Z ZV Zq (wBm fE) (wBn fE)) (oR Z (zG Z Z Zr Z zC) ?_)
 have Dj:=wBr (xs:=aW) (wAY fE)
 refine ZJ rfl rfl rfl rfl (dN.ldR (j:=3) rfl oX rfl rfl zJ (wAj (sz:=3) (fun _=>rfl) _ _ 2 _ Dj (by first | omega | rfl | simp) rfl)) rfl (yK rfl rfl rfl rfl rfl rfl (eN (zL (ZE ZF [3,3,1004,3,1004,3,1004,3,1004,3,3,1004,3,1004,3,3,3,3,3,1005,3,3,3,0,ab] (wLS (.fx 19 (wMG (.fx 23 .nil .stop)) .stop)) (by kernel_rfl) ?_))))
 have bu:=dN.drew
 generalize hw_W2138:({ lq with drawn:=lq.drawn + 1 }:World)=ry at bu ⊢
 refine zk rfl rfl rfl rfl rfl oq (zg rfl rfl rfl rfl (fun _=>zG rfl cA zx rfl zC) (OKS.mt (T:=[ab]) [0] [1,2,3,4,5,6,7,8] [B7,ai,aq,aE,aD,.blk b3 28 B0,au,.blk aY 39 bC] rfl rfl rfl rfl bu rfl ⟨⟨0,by decide,_,rfl,rfl⟩,trivial⟩ (by decide) rfl (by decide) (fun _ CX=>(CX.ldB (j:=7) rfl rfl rfl zJ (v:=jV bw) rfl)) rfl (bnK Du fun fT cB Dv=>?_)))
 have xL:=pR.le fM
 have oU:=xL.le fN
 have q:=oU.el (wAX cB)
 obtain ⟨rZ,Ez,GJ,Ae,ik,DK⟩:=q
 obtain ⟨qe,qh,rfl,xM⟩:=DK
 replace ik:Cl qB rZ (Ez + bw.toNat * 1) [.slice qe fT.length qh]:=ik
 refine zg rfl rfl rfl rfl (fun _=>ZY rfl rfl Ae rfl yU zy (wCG cB) (wCI cB)) (OKS.mt (T:=[ab]) [0] [1,2,3,4,5,6,7,8] [B7,ai,aq,aE,aD,.blk b3 28 B0,au,.blk aY 39 bC] rfl rfl rfl rfl bu rfl ⟨⟨0,by decide,_,rfl,rfl⟩,trivial⟩ (by decide) rfl (by decide) (fun _ CY=>(CY.ldC (f:=0) ik (v:=.slice qe fT.length qh) rfl rfl ZK rfl)) rfl (zg rfl rfl rfl rfl (fun _=>zG rfl cA zx rfl zC) (OKS.mt (T:=[ab]) [0] [1,2,3,4,5,6,7,8] [B7,ai,aq,aE,aD,.blk b3 28 B0,au,.blk aY 39 bC] rfl rfl rfl rfl bu rfl ⟨⟨0,by decide,_,rfl,rfl⟩,trivial⟩ (by decide) rfl (by decide) (fun _ CZ=>(CZ.ldB (j:=7) rfl rfl rfl zJ (v:=jV bZ) rfl)) rfl (bnK Dv fun bK cC Dw=>?_))))
 have q:=xM.el (fun _=>rfl) (wAX cC)
 obtain ⟨FN,Gh,Af,Ai⟩:=q
 refine zg rfl rfl rfl rfl (fun _=>ZY rfl rfl Af rfl zE zC (wCG cC) (wCI cC)) (OKS.mt (T:=[ab]) [0] [1,2,3,4,5,6,7,8] [B7,ai,aq,aE,aD,.blk b3 28 B0,au,.blk aY 39 bC] rfl rfl rfl rfl bu rfl ⟨⟨0,by decide,_,rfl,rfl⟩,trivial⟩ (by decide) rfl (by decide) (fun _ C1=>(C1.ldC (f:=0) Ai (v:=jV bK) rfl rfl zJ rfl)) rfl (zk rfl rfl rfl rfl rfl ot (zg rfl rfl rfl rfl (fun _=>zG rfl cA zx rfl zC) (OKS.mt (T:=[ab]) [0] [1,2,3,4,5,6,7,8] [B7,ai,aq,aE,aD,.blk b3 28 B0,au,.blk aY 39 bC] rfl rfl rfl rfl bu rfl ⟨⟨0,by decide,_,rfl,rfl⟩,trivial⟩ (by decide) rfl (by decide) (fun _ C3=>(C3.ldB (j:=7) rfl rfl rfl zJ (v:=jV aT) rfl)) rfl (bnK Dw fun _ bS Dx=>?_)))))
 obtain ⟨FO,fH⟩:=bu.rowSome (j:=7) rfl (by rw [wAD (f:=KL.encI) (sz:=1) (fun _=>rfl) a5];have hz:=wAY bS;omega)
 refine oR Z (ZY Z Z fH Z zE zC (wBm bS) (wBn bS)) ?_
 have Dk:=wBr (xs:=a5) (wAY bS)
 refine OKS.mt (T:=[ab]) [0] [1,2,3,4,5,6,7,8] [B7,ai,aq,aE,aD,.blk b3 28 B0,au,.blk aY 39 bC] rfl rfl rfl rfl bu rfl ⟨⟨0,by decide,_,rfl,rfl⟩,trivial⟩ (by decide) rfl (by decide) (fun _ C4=>(C4.ldR (j:=6) rfl fH rfl rfl zJ (wAj (sz:=1) (fun _=>rfl) _ _ 0 _ Dk (by first | omega | rfl | simp) rfl))) rfl (zg rfl rfl rfl rfl (fun _=>za rfl rfl rfl) (zk rfl rfl rfl rfl rfl oj (zk rfl rfl rfl rfl rfl rfl (zg rfl rfl rfl rfl (fun _=>Runs.negw rfl rfl) (zk rfl rfl rfl rfl rfl rfl ?_)))))
 have q:=bnd Dx
 obtain ⟨⟨cJ,iO⟩,xN,pB⟩:=q
 try dsimp only at pB
 refine yj 1 rfl rfl rfl rfl (zD rfl rfl yi (zB rfl (zB rfl (zB rfl zN))) rfl) bu (fun hs=>wAa (⟨fL,qj,qk⟩:wAH) ab eA ff (w64 (-((gd aW aT.toNat).Error))) ((gd aW aT.toNat).Error) ry qB hs xK xN) rfl (T:=[ab]) rfl ⟨fun b h=>(by cases h;exact .head _),trivial⟩ ?_
 rintro bA Fg GA rz fO BK ⟨eD,fh,rfl,rfl,ig⟩
 let dh:Res:=.blk ab 94 [.slice eD iO.bytes.length fh,jV iO.next,.int .u32 iO.state]
 have BL:SW w [B1] φ bA [dh,B7,ai,aq,aE,aD,.blk b3 28 B0,au,.blk aY 39 bC] rz:=BK
 refine oR Z (za Z Z Z) (oR Z (Runs.max Z Z Z) (oR Z (zG Z cA zx Z zC) (zW (j:=8) (vs:=[jV (max 0 (w64 ((w64 (bK + (gd a5 aT.toNat))) + cJ)))]) Z Z Z Z BL Z Z Z Z zC (zA Z) Z Z Z ?_)))
 intro gF BM
 let bN:List Value:=[jV bw,jV bZ,jV aT,jV (max 0 (w64 ((w64 (bK + (gd a5 aT.toNat))) + cJ)))]
 have BN:SW w [B1] φ bA [dh,B7,ai,aq,aE,aD,.blk b3 28 B0,au,.blk aY 39 bN] gF:=BM
 refine eN (zL (ye fun bz bj=>?_))
 have gW:bz 0=.pointer (some ⟨ab,0,none⟩):=(bj 0).trans oj
 have gX:bz 8=.pointer (some ⟨b3,0,none⟩):=(bj 8).trans vX
 have dK:bz 11=.pointer (some ⟨b7,0,none⟩):=(bj 11).trans om
 have fB:bz 12=.slice aO aV.length aP:=(bj 12).trans oq
 have fC:bz 13=.slice cg a5.length cw:=(bj 13).trans ot
 have dL:bz 22=.pointer (some ⟨aY,0,none⟩):=(bj 22).trans cA
 have ov:bz 23=jV ((gd aW aT.toNat).Error):=(bj 23).trans rfl
 have gY:bz 133=jV cI:=(bj 133).trans vY
 have gZ:bz 134=jV (↑bU:Int):=(bj 134).trans vZ
 clear bj
 refine ZE ZF [3,1,3,3,1,3,1,3,1,3,1,3,3,3,1,3,1,3,3] fL19 (by kernel_rfl) ?_
 have a6:=BN.drew
 generalize hw_W2200:({ gF with drawn:=gF.drawn + 1 }:World)=FE at a6 ⊢
 refine oR Z (zG Z dL zx Z zC) (oL Z (a6.ldB (j:=8) Z Z Z zJ (v:=jV (max 0 (w64 ((w64 (bK + (gd a5 aT.toNat))) + cJ)))) Z) (oM Z fB (oR Z (zG Z dL zx Z zC) (oL Z (a6.ldB (j:=8) Z Z Z zJ (v:=jV bw) Z) ?_))))
 have xO:=oU.le fO
 have q:=xO.el (wAX cB)
 obtain ⟨r6,EA,GK,Ag,il,DL⟩:=q
 obtain ⟨qf,qi,rfl,xQ⟩:=DL
 replace il:Cl bA r6 (EA + bw.toNat * 1) [.slice qf fT.length qi]:=il
 refine oR Z (ZY Z Z Ag Z yU zy (wCG cB) (wCI cB)) (oL Z (a6.ldC (f:=0) il (v:=.slice qf fT.length qi) Z Z ZK Z) (oR Z (zG Z dL zx Z zC) (oL Z (a6.ldB (j:=8) Z Z Z zJ (v:=jV bZ) Z) ?_)))
 have q:=xQ.el (fun _=>rfl) (wAX cC)
 obtain ⟨FP,Gi,Ah,Aj⟩:=q
 refine oR Z (ZY Z Z Ah Z zE zC (wCG cC) (wCI cC)) (oL Z (a6.ldC (f:=0) Aj (v:=jV bK) Z Z zJ Z) (oR Z (yJ Z Z Z) (oM Z fC (oR Z (zG Z dL zx Z zC) (oL Z (a6.ldB (j:=8) Z Z Z zJ (v:=jV aT) Z) (oR Z (ZY Z Z fH Z zE zC (wBm bS) (wBn bS)) ?_))))))
 have Dl:=wBr (xs:=a5) (wAY bS)
 refine ZJ rfl rfl rfl rfl (a6.ldR (j:=7) rfl fH rfl rfl zJ (wAj (sz:=1) (fun _=>rfl) _ _ 0 _ Dl (by first | omega | rfl | simp) rfl)) rfl (zg rfl rfl rfl rfl (fun _=>yJ rfl rfl rfl) (yK rfl rfl rfl rfl rfl rfl (eN (sR fL9 rfl (zk rfl rfl rfl rfl rfl rfl (zk rfl rfl rfl rfl rfl ov (zg rfl rfl rfl rfl (fun _=>Runs.negw rfl rfl) (zg rfl rfl rfl rfl (fun _=>Runs.geq rfl rfl rfl) (zk rfl rfl rfl rfl rfl rfl (ifc pB ?_ ?_))))))))))
 intro bq Dy
 refine zk Z Z Z (wT Z bq) Z Z (zk Z Z Z (wT Z bq) Z ov (rU Z (wT Z bq) (Runs.leq Z Z Z) (oR Z (zP Z (Zj bq.out) Z) (eN (ifc Dy ?_ ?_)))))
 intro gO Dz
 refine cT Z gO (rR (wCa (.fx 3 (.fx 4 (.fl 5 (.fx 6 .nil .stop)) .stop) .stop)) Z (oR Z (zG Z dK zK Z ZH) (oL Z (a6.ldB (j:=5) Z Z Z Zi (v:=.slice bB bW.length bD) Z) (oL Z (a6.ldBA (j:=8) Z Z dL yI ZC (vs:=bN) Z Z) (zm (pv:=[(0,.agg bN.toArray)]) (zs:=[jV 0,jV 0,jV 0,jV 0]) (cs:=bN) Z Z Z Z Z (wAG Z wAN) zn ZC Zb Z Z Z Z Z a6 ?_)))))
 intro rA r7 BO
 let gE:Res:=.row (some ⟨r7,0,none⟩) 1 39 4 (hD wAA [(⟨bw,bZ,aT,max 0 (w64 ((w64 (bK + (gd a5 aT.toNat))) + cJ))⟩:wAI)])
 have pd:SW w [B1] φ bA [gE,dh,B7,ai,aq,aE,aD,.blk b3 28 B0,au,.blk aY 39 bN] rA:=BO
 refine bnK Dz fun fU xR DA=>Zm (j:=5) (enc:=wAA) (xs:=bW) (ys:=[(⟨bw,bZ,aT,max 0 (w64 ((w64 (bK + (gd a5 aT.toNat))) + cJ))⟩:wAI)]) (zs:=fU) rfl rfl rfl rfl rfl yg wGA rfl rfl rfl rfl rfl rfl pd rfl rfl rfl (pd.srcR (j:=0) rfl (by decide) (wAD (f:=wAA) (sz:=4) (fun _=>rfl) [(⟨bw,bZ,aT,max 0 (w64 ((w64 (bK + (gd a5 aT.toNat))) + cJ))⟩:wAI)])) (fun _=>rfl) (fun _=>rfl) xR rfl ?_
 intro eE fj rB BP
 let k7:Res:=.row eE fj 39 4 (hD wAA fU)
 have BQ:SW w [B1] φ bA [gE,dh,B7,ai,aq,k7,aD,.blk b3 28 B0,au,.blk aY 39 bN] rB:=BP
 refine oR Z (zG Z dK zK Z ZH) (zW (j:=6) (vs:=[.slice eE fU.length fj]) Z Z Z Z BQ Z Z Z Z ZH (zA Z) Z Z Z ?_)
 intro rC BR
 have BS:SW w [B1] φ bA [gE,dh,B7,ai,aq,k7,.blk b7 28 [.slice aK ax.length aL,.slice aQ ay.length aR,.slice bn aW.length bp,.slice eE fU.length fj],.blk b3 28 B0,au,.blk aY 39 bN] rC:=BR
 refine zb (zo (zH (rR fL2 Z (oR Z (ZG (za Z gZ Z) (congrArg (jV) it.out)) (oM Z Z (zb ?_))))))
 cases DA
 exact zH ⟨rfl,⟨bA,eD,fh,eE,fj,rfl,gW,gX,dK,fB,fC,gY,((fM.trans fN).trans fO),(BS.pick [1,2,3,4,5,6,7,8] _ (by decide) rfl),ig⟩⟩
 intro gO DB
 refine cF Z gO (Zh (zo (zH (rR fL2 Z (oR Z (ZG (za Z gZ Z) (congrArg (jV) it.out)) (oM Z Z (zb ?_)))))))
 cases DB
 exact zH ⟨rfl,⟨bA,eD,fh,bB,bD,rfl,gW,gX,dK,fB,fC,gY,((fM.trans fN).trans fO),(a6.pick [0,1,2,3,4,5,6,7] _ (by decide) rfl),ig⟩⟩
 intro bq DC
 refine oF Z bq (oF Z bq (oF Z bq (oR Z (zZ Z (zw bq.out) Z) (eN (zt Z (Zh (zo (zH (rR fL2 Z (oR Z (ZG (za Z gZ Z) (congrArg (jV) it.out)) (oM Z Z (zb ?_))))))))))))
 cases DC
 exact zH ⟨rfl,⟨bA,eD,fh,bB,bD,rfl,gW,gX,dK,fB,fC,gY,((fM.trans fN).trans fO),(a6.pick [0,1,2,3,4,5,6,7] _ (by decide) rfl),ig⟩⟩
 rintro Hb FF ⟨qC,jF,l4,gq,gP,xc,F8,ow,wc,wd,we,wg,El,pe,xT⟩
 have sg:Hid (¬ ((↑((cI:Int) - 0).toNat:Int) < cI)):=zM (wAc)
 refine sR fL1 Z (oR Z (zc Z xc wg) (eN (zL (cF Z sg (Za (zi (zi (ZQ (zH (sR (wCa gAu) Z ?_))))))))))
 let cq:List Value:=[.slice aK ax.length aL,.slice aQ ay.length aR,.slice bn aW.length bp,.slice gq qn.length gP]
 refine oL Z (pe.ldBA (j:=5) Z Z wc zf zX (vs:=cq) Z Z) (oM Z wd (oM Z we (zW (j:=6) (vs:=cq) Z Z Z Z pe Z ow Z Z zX (zA Z) Z Z Z ?_)))
 intro rD BT
 have pf:SW w [B1] φ qC [.blk ab 94 [.slice jF EC.length l4,jV ED,.int .u32 EE],B7,ai,aq,.row gq gP 39 4 (hD wAA qn),.blk b7 28 cq,.blk b3 28 cq,au] rD:=BT
 refine oA Z Z (oA Z Z (eN (zS ?_)))
 have xU:=pR.le El
 cases pt
 exact ⟨rfl,_,(wDy (rs:=[.cell 8 28,.tmp 9,.tmp 10]) (vs:=[.agg cq.toArray,.slice aO aV.length aP,.slice cg a5.length cw]) ⟨⟨_,ow,(wBA zf zX (pf.blkAt (k:=6) rfl) (vs:=cq) rfl rfl)⟩,⟨rfl,⟨rfl,trivial⟩⟩⟩ rfl),qC,_,(pf.pick [1,2,3,4,7,0] _ (by decide) rfl),aK,aL,aQ,aR,bn,bp,gq,gP,aO,aP,cg,cw,jF,l4,rfl,rfl,xU,xT⟩
end Go.Proofs.Ytlnfbjphfoipaaa
namespace Go.Proofs.Ytlnfbjphfoipaaa
open Go.KL
set_option maxHeartbeats 4000000
theorem wEj (p0:List Int) (ah:Option Addr) (ai:Nat) (w:World) (φ:PHeap) (hS:St0 w φ []) (aq:Sl φ 1 ah ai p0.length (hD KL.encI p0)) {r:(List Int)} (hm:wCB p0=some r):Gv Try.prog 42 [.slice ah p0.length ai] w (wCF w [] φ (fun φ_ L_ v=>∃ (A0:Option Addr) (c0:Nat),v=.slice A0 r.length c0/\L_=[.row A0 c0 3 1 (hD KL.encI r)])):=by
 unfold wCB at hm
 refine Gv.of Try.func42 Z Try.ntmps42 Try.results42 Z (sR fL1 Z (oA Z Z (eN (sR gAr Z (oM Z Z ?_)))))
 have an:=hS.nilrow 3 1
 have ag:sW w φ φ [.row none 0 3 1 (hD KL.encI ([]:List Int))] w:=an
 refine bnK hm fun x4 h5 au=>Zm (j:=0) (enc:=KL.encI) (xs:=([]:List Int)) (ys:=p0) (zs:=x4) Z Z Z Z Z yf wHr Z Z Z Z Z Z ag Z Z Z (ag.srcS aq) (fun _=>Z) (fun _=>Z) h5 Z ?_
 intro A7 c8 W9 ao
 have ap:sW w φ φ [.row A7 c8 3 1 (hD KL.encI x4)] W9:=ao
 refine oA Z Z (eN (zS ?_))
 have hE:=hJ au;first | subst r | cases hE
 exact ⟨Z,_,(ZM Z),φ,_,ap,A7,c8,Z,Z⟩
theorem wDz (p0:List wAK) (ah:Option Addr) (ai:Nat) (w:World) (φ:PHeap) (hS:St0 w φ []) (aq:Sl φ 2 ah ai p0.length (hD wAE p0)) {r:(List wAK)} (hm:wBS p0=some r):Gv Try.prog 43 [.slice ah p0.length ai] w (wCF w [] φ (fun φ_ L_ v=>∃ (A0:Option Addr) (c0:Nat),v=.slice A0 r.length c0/\L_=[.row A0 c0 41 2 (hD wAE r)])):=by
 unfold wBS at hm
 refine Gv.of Try.func43 Z Try.ntmps43 Try.results43 Z (sR fL1 Z (oA Z Z (eN (sR gAr Z (oM Z Z ?_)))))
 have an:=hS.nilrow 41 2
 have ag:sW w φ φ [.row none 0 41 2 (hD wAE ([]:List wAK))] w:=an
 refine bnK hm fun x4 h5 au=>Zm (j:=0) (enc:=wAE) (xs:=([]:List wAK)) (ys:=p0) (zs:=x4) Z Z Z Z Z Try.underlying24 wJz Z Z Z Z Z Z ag Z Z Z (ag.srcS aq) (fun _=>Z) (fun _=>Z) h5 Z ?_
 intro A7 c8 W9 ao
 have ap:sW w φ φ [.row A7 c8 41 2 (hD wAE x4)] W9:=ao
 refine oA Z Z (eN (zS ?_))
 have hE:=hJ au;first | subst r | cases hE
 exact ⟨Z,_,(ZM Z),φ,_,ap,A7,c8,Z,Z⟩
theorem wDr (p0:List wAM) (ah:Option Addr) (ai:Nat) (w:World) (φ:PHeap) (hS:St0 w φ []) (aq:Sl φ 3 ah ai p0.length (hD wAB p0)) {r:(List wAM)} (hm:wBM p0=some r):Gv Try.prog 44 [.slice ah p0.length ai] w (wCF w [] φ (fun φ_ L_ v=>∃ (A0:Option Addr) (c0:Nat),v=.slice A0 r.length c0/\L_=[.row A0 c0 43 3 (hD wAB r)])):=by
 unfold wBM at hm
 refine Gv.of Try.func44 Z Try.ntmps44 Try.results44 Z (sR fL1 Z (oA Z Z (eN (sR gAr Z (oM Z Z ?_)))))
 have an:=hS.nilrow 43 3
 have ag:sW w φ φ [.row none 0 43 3 (hD wAB ([]:List wAM))] w:=an
 refine bnK hm fun x4 h5 au=>Zm (j:=0) (enc:=wAB) (xs:=([]:List wAM)) (ys:=p0) (zs:=x4) Z Z Z Z Z Try.underlying25 wHs Z Z Z Z Z Z ag Z Z Z (ag.srcS aq) (fun _=>Z) (fun _=>Z) h5 Z ?_
 intro A7 c8 W9 ao
 have ap:sW w φ φ [.row A7 c8 43 3 (hD wAB x4)] W9:=ao
 refine oA Z Z (eN (zS ?_))
 have hE:=hJ au;first | subst r | cases hE
 exact ⟨Z,_,(ZM Z),φ,_,ap,A7,c8,Z,Z⟩
theorem wDc (p0:List wAI) (ah:Option Addr) (ai:Nat) (w:World) (φ:PHeap) (hS:St0 w φ []) (aq:Sl φ 4 ah ai p0.length (hD wAA p0)) {r:(List wAI)} (hm:wBB p0=some r):Gv Try.prog 45 [.slice ah p0.length ai] w (wCF w [] φ (fun φ_ L_ v=>∃ (A0:Option Addr) (c0:Nat),v=.slice A0 r.length c0/\L_=[.row A0 c0 39 4 (hD wAA r)])):=by
 unfold wBB at hm
 refine Gv.of Try.func45 Z Try.ntmps45 Try.results45 Z (sR fL1 Z (oA Z Z (eN (sR gAr Z (oM Z Z ?_)))))
 have an:=hS.nilrow 39 4
 have ag:sW w φ φ [.row none 0 39 4 (hD wAA ([]:List wAI))] w:=an
 refine bnK hm fun x4 h5 au=>Zm (j:=0) (enc:=wAA) (xs:=([]:List wAI)) (ys:=p0) (zs:=x4) Z Z Z Z Z yg wGA Z Z Z Z Z Z ag Z Z Z (ag.srcS aq) (fun _=>Z) (fun _=>Z) h5 Z ?_
 intro A7 c8 W9 ao
 have ap:sW w φ φ [.row A7 c8 39 4 (hD wAA x4)] W9:=ao
 refine oA Z Z (eN (zS ?_))
 have hE:=hJ au;first | subst r | cases hE
 exact ⟨Z,_,(ZM Z),φ,_,ap,A7,c8,Z,Z⟩
theorem wDA (p0:wAC) (aj:Option Addr) (ao:Nat) (ak:Option Addr) (ap:Nat) (am:Option Addr) (aq:Nat) (an:Option Addr) (au:Nat) (w:World) (φ:PHeap) (hS:St0 w φ []) (bD:Sl φ 1 aj ao p0.Starts.length (hD KL.encI p0.Starts)) (bE:Sl φ 2 ak ap p0.Splits.length (hD wAE p0.Splits)) (bF:Sl φ 3 am aq p0.Clocks.length (hD wAB p0.Clocks)) (bG:Sl φ 4 an au p0.Readings.length (hD wAA p0.Readings)) {r:wAC} (hm:wAu p0=some r):Gv Try.prog 13 [.agg #[.slice aj p0.Starts.length ao,.slice ak p0.Splits.length ap,.slice am p0.Clocks.length aq,.slice an p0.Readings.length au]] w (wCF w [] φ (fun φ_ L_ v=>∃ (aP:Option Addr) (aY:Nat) (aQ:Option Addr) (aZ:Nat) (aR:Option Addr) (a5:Nat) (aS:Option Addr) (a6:Nat),v=.agg #[.slice aP r.Starts.length aY,.slice aQ r.Splits.length aZ,.slice aR r.Clocks.length a5,.slice aS r.Readings.length a6]/\L_=[.row aP aY 3 1 (hD KL.encI r.Starts),.row aQ aZ 41 2 (hD wAE r.Splits),.row aR a5 43 3 (hD wAB r.Clocks),.row aS a6 39 4 (hD wAA r.Readings)])):=by
 unfold wAu at hm
 refine Gv.of Try.func13 Z Try.ntmps13 Try.results13 Z (sR gAk Z ?_)
 let B0:List Value:=[.slice aj p0.Starts.length ao,.slice ak p0.Splits.length ap,.slice am p0.Clocks.length aq,.slice an p0.Readings.length au]
 refine zu (cs:=B0) rfl rfl rfl rfl rfl rfl (by rfl) hS ?_
 intro W1 b2 bt
 let B1:List Value:=[.slice none 0 0,.slice none 0 0,.slice none 0 0,.slice none 0 0]
 refine zV (cs:=B1) Z Z Z Z Z Zw Z bt ?_
 intro W5 b6 bB
 refine eN (zL (ZE ZF [3,1,2,3,1,2,3,1,2,3,1,2,3,0] (.fl 0 (.fl 1 (.fl 3 (.fl 4 (.fl 6 (.fl 7 (.fl 9 (.fl 10 (.fx 2 (.fx 5 (.fx 8 (.fx 11 (.fl 12 (.fx 13 .nil .stop)) .stop) .stop) .stop) .stop))))))))) (by kernel_rfl) ?_))
 have ae:=bB.drew
 generalize hw_W10:({ W5 with drawn:=W5.drawn + 1 }:World)=bc at ae ⊢
 refine oR Z (zG Z Z zK Z zy) (oL Z (ae.ldB (j:=1) Z Z Z ZK (v:=.slice aj p0.Starts.length ao) Z) (oR Z (zG Z Z zK Z yC) (oL Z (ae.ldB (j:=1) Z Z Z yQ (v:=.slice ak p0.Splits.length ap) Z) (oR Z (zG Z Z zK Z Zl) (oL Z (ae.ldB (j:=1) Z Z Z yE (v:=.slice am p0.Clocks.length aq) Z) (oR Z (zG Z Z zK Z ZH) (oL Z (ae.ldB (j:=1) Z Z Z Zi (v:=.slice an p0.Readings.length au) Z) (bnK hm fun aK bf bH=>zF 0 Z Z Z Z (zD Z Z Try.call42 (zB Z zN) Z) ae (fun hs=>wEj p0.Starts aj ao bc φ hs bD bf) (.inr Z) ?_))))))))
 rintro a9 bM bU aU aJ br ⟨av,aE,rfl,rfl⟩
 let B2:Res:=.row av aE 3 1 (hD KL.encI aK)
 have bs:sW w φ a9 [B2,.blk b6 28 B1,.blk b2 28 B0] aU:=br
 have bg:=bE.le aJ
 refine bnK bH fun aL bh bI=>zF 0 Z Z Z Z (zD Z Z Try.call43 (zB Z zN) Z) bs (fun hs=>wDz p0.Splits ak ap aU a9 hs bg bh) (.inr Z) ?_
 rintro ba bN bV aV a8 bu ⟨ax,aF,rfl,rfl⟩
 let B3:Res:=.row ax aF 41 2 (hD wAE aL)
 have bv:sW w φ ba [B3,B2,.blk b6 28 B1,.blk b2 28 B0] aV:=bu
 have bi:=bF.le aJ
 have bj:=bi.le a8
 refine bnK bI fun aM bm bJ=>zF 0 Z Z Z Z (zD Z Z Try.call44 (zB Z zN) Z) bv (fun hs=>wDr p0.Clocks am aq aV ba hs bj bm) (.inr Z) ?_
 rintro bb bP bW aW bL bw ⟨ay,aG,rfl,rfl⟩
 let B4:Res:=.row ay aG 43 3 (hD wAB aM)
 have bx:sW w φ bb [B4,B3,B2,.blk b6 28 B1,.blk b2 28 B0] aW:=bw
 have bn:=bG.le aJ
 have bo:=bn.le a8
 have bp:=bo.le bL
 refine bnK bJ fun aN bq bK=>zF 0 Z Z Z Z (zD Z Z Try.call45 (zB Z zN) Z) bx (fun hs=>wDc p0.Readings an au aW bb hs bp bq) (.inr Z) ?_
 rintro aO bQ bX bd bS bz ⟨az,aH,rfl,rfl⟩
 let B5:Res:=.row az aH 39 4 (hD wAA aN)
 have bA:sW w φ aO [B5,B4,B3,B2,.blk b6 28 B1,.blk b2 28 B0] bd:=bz
 let B6:List Value:=[.slice av aK.length aE,.slice ax aL.length aF,.slice ay aM.length aG,.slice az aN.length aH]
 refine oR Z (zl (pv:=[(0,.slice av aK.length aE),(1,.slice ax aL.length aF),(2,.slice ay aM.length aG),(3,.slice az aN.length aH)]) (z:=B1) (cs:=B6) Z (wAG Z (wAG Z (wAG Z (wAG Z wAN)))) Zw wIt Z Z) (zW (j:=4) (vs:=B6) Z Z Z Z bA Z Z Z Z zX (zA Z) Z Z Z ?_)
 intro be bC
 have a7:sW w φ aO [B5,B4,B3,B2,.blk b6 28 B6,.blk b2 28 B0] be:=bC
 refine eN (zS ?_)
 cases bK
 exact ⟨rfl,_,(wGV (v:=.agg B6.toArray) ⟨⟨_,rfl,(wBA zf zX (a7.blkAt (k:=4) rfl) (vs:=B6) rfl rfl)⟩,trivial⟩),aO,_,(a7.pick [3,2,1,0] _ (by decide) rfl),av,aE,ax,aF,ay,aG,az,aH,rfl,rfl⟩
theorem wDY (p0:wAH) (ab:Nat) (ac:Option Addr) (ae:Nat) (p1:Int) (w:World) (φ:PHeap) (hS:St0 w φ [.blk ab 94 [.slice ac p0.bytes.length ae,jV p0.next,.int .u32 p0.state]]) (ax:Sl φ 1 ac ae p0.bytes.length (hD KL.encB8 p0.bytes)) {r:Bool × wAH} (hm:wAf p0 p1=some r):Gv Try.prog 33 [.pointer (some ⟨ab,0,none⟩),jV p1] w (wCF w [.blk ab 94 [.slice ac p0.bytes.length ae,jV p0.next,.int .u32 p0.state]] φ (fun φ_ L_ v=>∃ (ai:Option Addr) (ak:Nat),v=.bool r.1/\L_=[.blk ab 94 [.slice ai r.2.bytes.length ak,jV r.2.next,.int .u32 r.2.state]]/\Sl φ_ 1 ai ak r.2.bytes.length (hD KL.encB8 r.2.bytes))):=by
 unfold wAf at hm
 refine Gv.of Try.func33 Z Try.ntmps33 Try.results33 Z (sR fL1 Z (oA Z Z (eN (sR gBj Z (oM Z Z (oM Z Z ?_))))))
 have q:=bnd hm
 obtain ⟨⟨x2,x3⟩,h4,am⟩:=q
 try dsimp only at am
 refine zF 1 Z Z Z Z (zD Z Z Zz (zB Z (zB Z zN)) Z) hS (fun hs=>wAR p0 ab ac ae p1 w φ hs ax h4) (.inl Z) ?_
 rintro an L7 v8 W9 az au ⟨ah,aj,rfl,rfl,ap⟩
 have av:SW w [.blk ab 94 [.slice ac p0.bytes.length ae,jV p0.next,.int .u32 p0.state]] φ an [.blk ab 94 [.slice ah x3.bytes.length aj,jV x3.next,.int .u32 x3.state]] W9:=au
 refine oR Z (Zs Z Z Z) (oA Z Z (eN (zS ?_)))
 cases am
 exact ⟨Z,_,(ZM Z),an,_,av,ah,aj,Z,Z,ap⟩
theorem wDB (p0:wAH) (af:Nat) (aM:Option Addr) (aN:Nat) (p1:wAC) (aT:Option Addr) (aX:Nat) (aU:Option Addr) (aY:Nat) (aV:Option Addr) (aZ:Nat) (aW:Option Addr) (a5:Nat) (w:World) (φ:PHeap) (hS:St0 w φ [.blk af 94 [.slice aM p0.bytes.length aN,jV p0.next,.int .u32 p0.state]]) (cU:Sl φ 1 aM aN p0.bytes.length (hD KL.encB8 p0.bytes)) (cV:Sl φ 1 aT aX p1.Starts.length (hD KL.encI p1.Starts)) (cW:Sl φ 2 aU aY p1.Splits.length (hD wAE p1.Splits)) (cX:Sl φ 3 aV aZ p1.Clocks.length (hD wAB p1.Clocks)) (cY:Sl φ 4 aW a5 p1.Readings.length (hD wAA p1.Readings)) {r:wAC × wAH} (hm:wBq p0 p1=some r):Gv Try.prog 10 [.pointer (some ⟨af,0,none⟩),.agg #[.slice aT p1.Starts.length aX,.slice aU p1.Splits.length aY,.slice aV p1.Clocks.length aZ,.slice aW p1.Readings.length a5]] w (wCF w [.blk af 94 [.slice aM p0.bytes.length aN,jV p0.next,.int .u32 p0.state]] φ (fun φ_ L_ v=>∃ (bp:Option Addr) (bB:Nat) (bq:Option Addr) (bC:Nat) (br:Option Addr) (bD:Nat) (bs:Option Addr) (bE:Nat) (bv:Option Addr) (bI:Nat),v=.agg #[.slice bp r.1.Starts.length bB,.slice bq r.1.Splits.length bC,.slice br r.1.Clocks.length bD,.slice bs r.1.Readings.length bE]/\L_=[.row bp bB 3 1 (hD KL.encI r.1.Starts),.row bq bC 41 2 (hD wAE r.1.Splits),.row br bD 43 3 (hD wAB r.1.Clocks),.row bs bE 39 4 (hD wAA r.1.Readings),.blk af 94 [.slice bv r.2.bytes.length bI,jV r.2.next,.int .u32 r.2.state]]/\Sl φ_ 1 bv bI r.2.bytes.length (hD KL.encB8 r.2.bytes))):=by
 unfold wBq at hm
 refine Gv.of Try.func10 Z Try.ntmps10 Try.results10 Z (sR gAk Z ?_)
 let B0:List Value:=[.slice aT p1.Starts.length aX,.slice aU p1.Splits.length aY,.slice aV p1.Clocks.length aZ,.slice aW p1.Readings.length a5]
 refine zu (cs:=B0) rfl rfl rfl rfl rfl rfl (by rfl) hS ?_
 intro W2 b3 cM
 let B1:List Value:=[.slice none 0 0,.slice none 0 0,.slice none 0 0,.slice none 0 0]
 refine zV (cs:=B1) Z Z Z Z Z Zw Z cM ?_
 intro W6 b7 bS
 refine eN (sR (.fl 0 (.fx 1 (.fx 2 .nil .stop) .stop)) Z (oL Z (bS.ldBA (j:=1) Z Z Z zf zX (vs:=B0) Z Z) (bnK hm fun ab cu de=>zF 0 Z Z Z Z (zD Z Z Try.call13 (zB Z zN) Z) bS (fun hs=>wDA p1 aT aX aU aY aV aZ aW a5 W6 φ hs cV cW cX cY cu) (.inr Z) ?_)))
 rintro ba dn dy ci di cI ⟨au,az,av,aD,ax,aE,ag,ah,rfl,rfl⟩
 let B2:Res:=.blk af 94 [.slice aM p0.bytes.length aN,jV p0.next,.int .u32 p0.state]
 let B3:Res:=.row ax aE 43 3 (hD wAB ab.Clocks)
 let B4:Res:=.row av aD 41 2 (hD wAE ab.Splits)
 let B5:Res:=.row au az 3 1 (hD KL.encI ab.Starts)
 let B6:Res:=.row ag ah 39 4 (hD wAA ab.Readings)
 have cK:SW w [B2] φ ba [B5,B4,B3,B6,.blk b7 28 B1,.blk b3 28 B0,B2] ci:=cI
 let B7:List Value:=[.slice au ab.Starts.length az,.slice av ab.Splits.length aD,.slice ax ab.Clocks.length aE,.slice ag ab.Readings.length ah]
 refine zW (j:=5) (vs:=B7) Z Z Z Z cK Z Z Z Z zX (zA Z) Z Z Z ?_
 intro cn cL
 have bR:SW w [B2] φ ba [B5,B4,B3,B6,.blk b7 28 B1,.blk b3 28 B7,B2] cn:=cL
 refine eN (zL (sR fL4 Z (oR Z (zG Z Z zK Z ZH) (oL Z (bR.ldB (j:=5) Z Z Z Zi (v:=.slice ag ab.Readings.length ah) Z) (oR Z (zq Z Z zn) (oM Z Z (eN (zY ?_))))))))
 have q:=bnd de
 obtain ⟨⟨cb,dk,dl,dm⟩,cZ,bW⟩:=q
 try dsimp only at bW
 have q:=wBL cZ
 obtain ⟨bm,c6⟩:=q
 replace bm:=zM bm
 refine CK.forN' (fun ac (aa,aJ,a7,a8) σ_ w_=>∃ (φ_:PHeap) (aK:Option Addr) (aL:Nat),σ_ 11=jV (↑ac:Int)/\σ_ 0=.pointer (some ⟨af,0,none⟩)/\σ_ 3=.pointer (some ⟨b3,0,none⟩)/\σ_ 4=.pointer (some ⟨b7,0,none⟩)/\σ_ 10=jV (↑ab.Readings.length:Int)/\PHeap.Le ba φ_/\SW w [B2] φ φ_ [.blk b7 28 B1,B5,B4,B3,.row ag ah 39 4 (hD wAA aa),.blk b3 28 [.slice au ab.Starts.length az,.slice av ab.Splits.length aD,.slice ax ab.Clocks.length aE,.slice ag aa.length ah],.blk af 94 [.slice aK aJ.length aL,jV a7,.int .u32 a8]] w_/\aa.length=ab.Readings.length/\Sl φ_ 1 aK aL aJ.length (hD KL.encB8 aJ)) c6 ?_ ?_ ?_
 have cz:=cU.le di
 exact ⟨ba,aM,aN,rfl,rfl,rfl,rfl,rfl,(zO _),(bR.pick [4,0,1,2,3,5,6] _ (by decide) rfl),rfl,cz⟩
 rintro ac ⟨aa,aJ,a7,a8⟩ dC dE bA bj ⟨cd,aK,aL,aR,aP,aQ,bK,bi,bZ,cN,bM,cA⟩ bY
 try dsimp only at bY
 have bH:Hid ((↑ac:Int) < (↑ab.Readings.length:Int)):=zM (wAs bj)
 replace bj:=zM bj
 have bU:Hid (w64 ((↑ac:Int) + 1)=(↑(ac + 1):Int)):=zM (by have h1:=bm.out;have h2:=bH.out;rw [wAT] <;> omega)
 refine sR fL1 Z (oR Z (zc Z aR bi) (eN (zL (cT Z bH (kN (zL (zY (sR fL2 Z (oM Z aR (oA Z Z (eN (sR gAl Z (oM Z aP ?_)))))))))))))
 have q:=bnd bY
 obtain ⟨⟨dB,a9⟩,cB,bX⟩:=q
 try dsimp only at bX
 let B8:Res:=.blk b3 28 [.slice au ab.Starts.length az,.slice av ab.Splits.length aD,.slice ax ab.Clocks.length aE,.slice ag aa.length ah]
 let B9:Res:=.row ag ah 39 4 (hD wAA aa)
 have cO:SW w [B2] φ cd [.blk af 94 [.slice aK aJ.length aL,jV a7,.int .u32 a8],.blk b7 28 B1,B5,B4,B3,B9,B8] bA:=cN.pick [6,0,1,2,3,4,5] _ (by decide) rfl
 refine zF 1 Z Z Z Z (zD Z Z Try.call33 (zB Z (zB Z zN)) Z) cO (fun hs=>wDY (⟨aJ,a7,a8⟩:wAH) af aK aL 5 bA cd hs cA cB) (.inl Z) ?_
 rintro bo dq dA bf ca cP ⟨bc,bg,rfl,rfl,bL⟩
 have bN:SW w [B2] φ bo [.blk af 94 [.slice bc a9.bytes.length bg,jV a9.next,.int .u32 a9.state],.blk b7 28 B1,B5,B4,B3,B9,B8] bf:=cP
 refine eN (ifc bX ?_ ?_)
 intro bh dd
 refine ZL (congrArg hH bh.out) (ZE ZF [3,1004,3,3,1004,3,3,3,1004,3,1005,3,3,3,3,0,af] (wKz (.fx 10 (wKX (.fx 15 .nil .stop)) .stop)) (by kernel_rfl) ?_)
 have aI:=bN.drew
 generalize hw_W135:({ bf with drawn:=bf.drawn + 1 }:World)=cf at aI ⊢
 refine zg rfl rfl rfl rfl (fun _=>zG rfl aQ zK rfl ZH) (OKS.mt (T:=[af]) [0] [1,2,3,4,5,6] [.blk b7 28 B1,B5,B4,B3,B9,B8] rfl rfl rfl rfl aI rfl ⟨⟨0,by decide,_,rfl,rfl⟩,trivial⟩ (by decide) rfl (by decide) (fun _ cQ=>(cQ.ldB (j:=5) rfl rfl rfl Zi (v:=.slice ag aa.length ah) rfl)) rfl (zk rfl rfl rfl rfl rfl rfl (zg rfl rfl rfl rfl (fun _=>zG rfl aQ zK rfl ZH) (OKS.mt (T:=[af]) [0] [1,2,3,4,5,6] [.blk b7 28 B1,B5,B4,B3,B9,B8] rfl rfl rfl rfl aI rfl ⟨⟨0,by decide,_,rfl,rfl⟩,trivial⟩ (by decide) rfl (by decide) (fun _ cR=>(cR.ldB (j:=5) rfl rfl rfl Zi (v:=.slice ag aa.length ah) rfl)) rfl (zk rfl rfl rfl rfl rfl rfl (bnK dd fun _ aH df=>?_))))))
 obtain ⟨du,aS⟩:=aI.rowSome (j:=5) rfl (by rw [wAD (f:=wAA) (sz:=4) (fun _=>rfl) aa];have hz:=wAY aH;omega)
 refine oR Z (Zc Z Z aS Z zn ZC (wAY aH)) (oR Z (zG Z Z zx Z zC) ?_)
 have da:=wBr (xs:=aa) (wAY aH)
 refine OKS.mt (T:=[af]) [0] [1,2,3,4,5,6] [.blk b7 28 B1,B5,B4,B3,B9,B8] rfl rfl rfl rfl aI rfl ⟨⟨0,by decide,_,rfl,rfl⟩,trivial⟩ (by decide) rfl (by decide) (fun _ cS=>(cS.ldR (j:=4) rfl aS rfl rfl zJ (wAj (sz:=4) (fun _=>rfl) _ _ 3 _ da (by first | omega | rfl | simp) rfl))) rfl (zk rfl rfl rfl rfl rfl aP ?_)
 have q:=bnd df
 obtain ⟨⟨a6,bn⟩,cw,bV⟩:=q
 try dsimp only at bV
 refine yj 1 rfl rfl rfl rfl (zD rfl rfl yi (zB rfl (zB rfl (zB rfl zN))) rfl) aI (fun hs=>wAa a9 af bc bg (-400) 400 cf bo hs bL cw) rfl (T:=[af]) rfl ⟨fun b h=>(by cases h;exact .head _),trivial⟩ ?_
 rintro bb dp dz cg dh cC ⟨bt,bF,rfl,rfl,cx⟩
 let aO:Res:=.blk af 94 [.slice bt bn.bytes.length bF,jV bn.next,.int .u32 bn.state]
 have cD:SW w [B2] φ bb [aO,.blk b7 28 B1,B5,B4,B3,B9,B8] cg:=cC
 refine oR Z (za Z Z Z) (oR Z (Runs.max Z Z Z) (oR Z (Zc Z Z aS Z zn ZC (wAY aH)) (oR Z (zG Z Z zx Z zC) ?_)))
 have db:=wBr (xs:=aa) (wAY aH)
 refine yk (j:=5) (vs:=[jV (max 0 (w64 (((gd aa ac).Time) + a6)))]) (cs':=hD wAA (List.set aa ac (⟨(gd aa ac).Skier,(gd aa ac).Mat,(gd aa ac).Clock,max 0 (w64 (((gd aa ac).Time) + a6))⟩:wAI))) rfl rfl rfl rfl cD rfl aS rfl rfl rfl zC (by rw [wAD (f:=wAA) (sz:=4) (fun _=>rfl)];have hz:=wAY aH;show _ + 1 <= _;first | omega | (simp only [Int.toNat_natCast];omega) | (simp only [nH,nD,nE];omega)) rfl (wDJ (sz:=4) (fo:=3) (fun _=>rfl) _ _ _ _ db (by first | omega | (simp only [Int.toNat_natCast];omega) | (simp only [nH,nD,nE];omega)) (zA rfl) rfl) rfl ?_
 intro bz cE
 let be:Res:=.row ag ah 39 4 (hD wAA (List.set aa ac (⟨(gd aa ac).Skier,(gd aa ac).Mat,(gd aa ac).Clock,max 0 (w64 (((gd aa ac).Time) + a6))⟩:wAI)))
 have cG:SW w [B2] φ bb [aO,.blk b7 28 B1,B5,B4,B3,be,B8] bz:=cE
 have cH:SW w [B2] φ bb [aO,.blk b7 28 B1,B5,B4,B3,be,.blk b3 28 [.slice au ab.Starts.length az,.slice av ab.Splits.length aD,.slice ax ab.Clocks.length aE,.slice ag ((List.set aa ac (⟨(gd aa ac).Skier,(gd aa ac).Mat,(gd aa ac).Clock,max 0 (w64 (((gd aa ac).Time) + a6))⟩:wAI)).length) ah]] bz:=by simpa only [B1,aO,be,B2,B3,B4,B5,B8,List.length_set] using cG
 refine zb (zo (zH (rR fL2 Z (oR Z (ZG (za Z aR Z) (congrArg (jV) bU.out)) (oM Z Z (zb ?_))))))
 cases bV
 exact zH ⟨rfl,⟨bb,bt,bF,rfl,aP,aQ,bK,bi,((bZ.trans ca).trans dh),(cH.pick [1,2,3,4,5,6,0] _ (by decide) rfl),(List.length_set.trans bM),cx⟩⟩
 intro bh dg
 refine zt (congrArg hH (hU.2 bh.out)) (Zh (zo (zH (rR fL2 Z (oR Z (ZG (za Z aR Z) (congrArg (jV) bU.out)) (oM Z Z (zb ?_)))))))
 cases dg
 exact zH ⟨rfl,⟨bo,bc,bg,rfl,aP,aQ,bK,bi,(bZ.trans ca),(bN.pick [1,2,3,4,5,6,0] _ (by decide) rfl),bM,bL⟩⟩
 rintro dD dr ⟨cc,bu,bG,ct,dv,cq,bJ,cr,dx,bP,dw,cy⟩
 have cp:Hid (¬ ((↑(((↑ab.Readings.length:Int):Int) - 0).toNat:Int) < (↑ab.Readings.length:Int))):=zM (wAc)
 refine sR fL1 Z (oR Z (zc Z ct cr) (eN (zL (cF Z cp (Za (zi (zi (ZQ (zH (sR gAl Z ?_))))))))))
 let aF:List Value:=[.slice au ab.Starts.length az,.slice av ab.Splits.length aD,.slice ax ab.Clocks.length aE,.slice ag cb.length ah]
 refine oL Z (bP.ldBA (j:=5) Z Z cq zf zX (vs:=aF) Z Z) (zW (j:=0) (vs:=aF) Z Z Z Z bP Z bJ Z Z zX (zA Z) Z Z Z ?_)
 intro cm cJ
 have bQ:SW w [B2] φ cc [.blk b7 28 aF,B5,B4,B3,.row ag ah 39 4 (hD wAA cb),.blk b3 28 aF,.blk af 94 [.slice bu dk.length bG,jV dl,.int .u32 dm]] cm:=cJ
 refine eN (zS ?_)
 cases bW
 exact ⟨rfl,_,(wGV (v:=.agg aF.toArray) ⟨⟨_,bJ,(wBA zf zX (bQ.blkAt (k:=0) rfl) (vs:=aF) rfl rfl)⟩,trivial⟩),cc,_,(bQ.pick [1,2,3,4,6] _ (by decide) rfl),au,az,av,aD,ax,aE,ag,ah,bu,bG,rfl,rfl,cy⟩
theorem wBj (p0:Int) (p1:Int) (p2:Int) (w:World) (φ:PHeap) (hS:St0 w φ [])  {r:Bool} (hm:wBJ p0 p1 p2=some r):Gv Try.prog 75 [jV p0,jV p1,jV p2] w (wCF w [] φ (fun φ_ L_ v=>v=.bool r/\L_=[])):=by
 unfold wBJ at hm
 refine Gv.of Try.func75 Z Try.ntmps75 Try.results75 Z (sR fL1 Z (oA Z Z (eN (sR fL9 Z (oM Z Z (oM Z Z (oR Z (Runs.geq Z Z Z) (oM Z Z ?_))))))))
 by_cases c1:p1 <= p0
 have ab:=hm;rw [if_pos c1] at ab;replace c1:=zM c1
 refine zk Z Z Z (wT Z c1) Z Z (zk Z Z Z (wT Z c1) Z Z (rU Z (wT Z c1) (Runs.leq Z Z Z) (oR Z (zP Z (Zj c1.out) Z) (oA Z Z (eN (zS ?_))))))
 first | (obtain rfl:=hJ ab) | cases ab
 exact ⟨Z,_,(ZM Z),φ,_,hS,Z,Z⟩
 have af:=hm;rw [if_neg c1] at af;replace c1:=zM c1
 refine oF Z c1 (oF Z c1 (oF Z c1 (oR Z (zZ Z (zw c1.out) Z) (oA Z Z (eN (zS ?_))))))
 have hE:=hJ af;first | subst r | cases hE
 exact ⟨Z,_,(ZM Z),φ,_,hS,Z,Z⟩
theorem wFs (p0:List Int) (aj:Option Addr) (ak:Nat) (p1:(Int->Option Bool)) (am:Value) (w:World) (φ:PHeap) (hS:St0 w φ []) (aS:Sl φ 1 aj ak p0.length (hD KL.encI p0)) (aT:FnOK Try.prog φ am wMZ wMa p1) {r:Bool} (hm:wCQ p0 p1=some r):Gv Try.prog 79 [.slice aj p0.length ak,am] w (wCF w [] φ (fun φ_ L_ v=>v=.bool r/\L_=[])):=by
 unfold wCQ at hm
 refine Gv.of Try.func79 Z Try.ntmps79 Try.results79 Z (sR fL1 Z (oA Z Z (eN (zL (sR fL3 Z (oM Z Z (oR Z (zq Z Z zE) (oM Z Z (eN (zY ?_))))))))))
 have q:=wBa hm
 obtain ⟨r3,af⟩:=q
 have q:=wBZ af
 obtain ⟨ah,aW⟩:=q
 replace ah:=zM ah
 refine yH (fun k2 _ σ_ w_=>∃ (φ_:PHeap),σ_ 9=jV (↑k2:Int)/\σ_ 1=am/\σ_ 7=.slice aj p0.length ak/\σ_ 8=jV (↑p0.length:Int)/\PHeap.Le φ φ_/\sW w φ φ_ [] w_) aW ?_ ?_ ?_
 exact ⟨φ,Z,Z,Z,Z,(zO _),hS⟩
 rintro k2 ⟨⟩ bo bq W8 ag ⟨br,ae,ap,aq,au,ai,ax⟩ aD aU
 try dsimp only at aD
 have ao:Hid ((↑k2:Int) < (↑p0.length:Int)):=zM (wAs ag)
 replace ag:=zM ag
 have aX:Hid (w64 ((↑k2:Int) + 1)=(↑(k2 + 1):Int)):=zM (by have h1:=ah.out;have h2:=ao.out;rw [wAT] <;> omega)
 refine sR fL1 Z (oR Z (zc Z ae au) (eN (zL (cT Z ao (kN (zL (zY (sR fL3 Z (bnK aD fun aF av aY=>?_)))))))))
 have aL:=aS.le ai
 have q:=aL.el (fun _=>rfl) (wAX av)
 obtain ⟨be,bi,aO,aP⟩:=q
 refine oR Z (Zc Z aq aO ae zE zC (wBQ av)) (oL Z (ax.ldC (f:=0) aP (v:=jV aF) Z Z zJ Z) (oA Z Z (eN (sR gBa Z (oM Z ap (oM Z Z (bnK aY fun bn aM aZ=>?_)))))))
 have aN:=aT.le ai
 refine OKS.callV (a:=aF) Z Z Z Z Z Z (zB Z zN) ax aN Z aM ?_
 rintro an bb bm aG a8 aQ ⟨rfl,rfl⟩
 have ay:sW w φ an [] aG:=aQ
 refine oR Z (Ze Z Z) (eN (ifc aZ ?_ ?_))
 intro ac a5
 refine zt (nC ac.out) (Zh (zo (zH (rR fL2 Z (oR Z (ZG (za Z ae Z) (congrArg (jV) aX.out)) (oM Z Z (zb ?_)))))))
 have q:=hJ a5
 obtain rfl:=q
 exact zH ⟨Z,_,Z,⟨an,Z,ap,aq,au,(ai.trans a8),ay⟩⟩
 intro ac a6
 refine ZL (nF (ac.out)) (sR fL1 Z (oA Z Z (eN (zS (ze (zR ?_))))))
 have q:=wAZ a6
 obtain ⟨a9,a7,aI⟩:=q
 have q:=wBI hm af (aU a9 aI)
 obtain rfl:=q
 refine zR (ze (zR ?_))
 have hE:=hJ a7;first | subst r | cases hE
 exact ⟨Z,_,(ZM Z),an,_,ay,Z,Z⟩
 rintro ⟨⟩ bp bc ⟨ba,aK,bf,bg,aJ,bh,aR⟩ aV
 have az:=wCO hm af aV
 try dsimp only at az
 have aH:Hid (¬ ((↑(((↑p0.length:Int):Int) - 0).toNat:Int) < (↑p0.length:Int))):=zM (wAc)
 refine sR fL1 Z (oR Z (zc Z aK aJ) (eN (zL (cF Z aH (Za (zi (zi (ZQ (zH (sR fL1 Z (oA Z Z (eN (zS ?_)))))))))))))
 have hE:=hJ az;first | subst r | cases hE
 exact ⟨Z,_,(ZM Z),ba,_,aR,Z,Z⟩
theorem wGk (p0:Int) (w:World) (φ:PHeap) (hS:St0 w φ [])  {r:Bool} (hm:wCb p0=some r):Gv Try.prog 92 [jV p0] w (wCF w [] φ (fun φ_ L_ v=>v=.bool r/\L_=[])):=by
 unfold wCb at hm
 refine Gv.of Try.func92 Z Try.ntmps92 Try.results92 Z (sR fL1 Z (oA Z Z (eN (sR gAr Z (oM Z Z (bnK hm fun x1 h2 ah=>zF 0 Z Z Z Z (zD Z Z yP (zB Z (zB Z (zB Z zN))) Z) hS (fun hs=>wBj p0 0 360000 w φ hs h2) (.inr Z) ?_))))))
 rintro ab L5 v6 W7 aj ag ⟨rfl,rfl⟩
 have af:sW w φ ab [] W7:=ag
 refine oA Z Z (eN (zS ?_))
 have hE:=hJ ah;first | subst r | cases hE
 exact ⟨Z,_,(ZM Z),ab,_,af,Z,Z⟩
theorem wEk (p0:List wAK) (am:Option Addr) (an:Nat) (p1:(wAK->Option Bool)) (ao:Value) (w:World) (φ:PHeap) (hS:St0 w φ []) (aY:Sl φ 2 am an p0.length (hD wAE p0)) (aZ:FnOK Try.prog φ ao wMb wMc p1) {r:Bool} (hm:wBX p0 p1=some r):Gv Try.prog 93 [.slice am p0.length an,ao] w (wCF w [] φ (fun φ_ L_ v=>v=.bool r/\L_=[])):=by
 unfold wBX at hm
 refine Gv.of Try.func93 Z Try.ntmps93 Try.results93 Z (sR fL1 Z (oA Z Z (eN (zL (sR fL3 Z (oM Z Z (oR Z (zq Z Z ZP) (oM Z Z (eN (zY ?_))))))))))
 have q:=wBa hm
 obtain ⟨r3,ah⟩:=q
 have q:=wBZ ah
 obtain ⟨aj,a7⟩:=q
 replace aj:=zM aj
 refine yH (fun k2 _ σ_ w_=>∃ (φ_:PHeap),σ_ 9=jV (↑k2:Int)/\σ_ 1=ao/\σ_ 7=.slice am p0.length an/\σ_ 8=jV (↑p0.length:Int)/\PHeap.Le φ φ_/\sW w φ φ_ [] w_) a7 ?_ ?_ ?_
 exact ⟨φ,Z,Z,Z,Z,(zO _),hS⟩
 rintro k2 ⟨⟩ bw bz W8 ai ⟨bg,ag,av,ax,ay,ak,aD⟩ aH a5
 try dsimp only at aH
 have au:Hid ((↑k2:Int) < (↑p0.length:Int)):=zM (wAs ai)
 replace ai:=zM ai
 have a8:Hid (w64 ((↑k2:Int) + 1)=(↑(k2 + 1):Int)):=zM (by have h1:=aj.out;have h2:=au.out;rw [wAT] <;> omega)
 refine sR fL1 Z (oR Z (zc Z ag ay) (eN (zL (cT Z au (kN (zL (zY (sR gBb Z (bnK aH fun ac az a9=>?_)))))))))
 have aP:=aY.le ak
 have q:=aP.el (fun _=>rfl) (wAX az)
 obtain ⟨bo,bs,aS,aT⟩:=q
 refine oR Z (Zc Z ax aS ag ZP ZA (wBQ az)) (oL Z (aD.ldCA (f:=0) aT Z Z yA ZA (us:=[jV ac.Lo,jV ac.Hi]) Z Z) (zV (cs:=[jV 0,jV 0]) Z Z Z Z Z ZS Z aD ?_))
 intro bj aq aU
 let B0:List Value:=[jV ac.Lo,jV ac.Hi]
 refine zW (j:=0) (vs:=B0) Z Z Z Z aU Z Z Z Z ZA (zA Z) Z Z Z ?_
 intro aJ aV
 have aE:sW w φ bg [.blk aq 41 B0] aJ:=aV
 refine eN (sR gBa Z (oM Z av (oL Z (aE.ldBA (j:=0) Z Z Z yA ZA (vs:=B0) Z Z) (bnK a9 fun bv aQ ba=>?_))))
 have aR:=aZ.le ak
 refine OKS.callV (a:=ac) Z Z Z Z Z Z (zB Z zN) aE aR Z aQ ?_
 rintro ap bi bu aK be aW ⟨rfl,rfl⟩
 have aF:sW w φ ap [.blk aq 41 B0] aK:=aW
 refine oR Z (Ze Z Z) (eN (ifc ba ?_ ?_))
 intro af bb
 refine zt (nC af.out) (Zh (zo (zH (rR fL2 Z (oR Z (ZG (za Z ag Z) (congrArg (jV) a8.out)) (oM Z Z (zb ?_)))))))
 have q:=hJ bb
 obtain rfl:=q
 exact zH ⟨rfl,_,rfl,⟨ap,rfl,av,ax,ay,(ak.trans be),(aF.pick [] _ (by decide) rfl)⟩⟩
 intro af bc
 refine ZL (nF (af.out)) (sR fL1 Z (oA Z Z (eN (zS (ze (zR ?_))))))
 have q:=wAZ bc
 obtain ⟨bf,bd,aM⟩:=q
 have q:=wBI hm ah (a5 bf aM)
 obtain rfl:=q
 refine zR (ze (zR ?_))
 have hE:=hJ bd;first | subst r | cases hE
 exact ⟨rfl,_,(ZM rfl),ap,_,(aF.pick [] _ (by decide) rfl),rfl,rfl⟩
 rintro ⟨⟩ bx bm ⟨bh,aO,bp,bq,aN,br,aX⟩ a6
 have aG:=wCO hm ah a6
 try dsimp only at aG
 have aL:Hid (¬ ((↑(((↑p0.length:Int):Int) - 0).toNat:Int) < (↑p0.length:Int))):=zM (wAc)
 refine sR fL1 Z (oR Z (zc Z aO aN) (eN (zL (cF Z aL (Za (zi (zi (ZQ (zH (sR fL1 Z (oA Z Z (eN (zS ?_)))))))))))))
 have hE:=hJ aG;first | subst r | cases hE
 exact ⟨Z,_,(ZM Z),bh,_,aX,Z,Z⟩
theorem wFA (p0:wAK) (p1:Int) (p2:Int) (w:World) (φ:PHeap) (hS:St0 w φ [])  {r:Bool} (hm:wCc p0 p1 p2=some r):Gv Try.prog 95 [.agg #[jV p0.Lo,jV p0.Hi],jV p1,jV p2] w (wCF w [] φ (fun φ_ L_ v=>v=.bool r/\L_=[])):=by
 unfold wCc at hm
 refine Gv.of Try.func95 rfl Try.ntmps95 Try.results95 rfl (sR gAm rfl (zu (cs:=[jV p0.Lo,jV p0.Hi]) rfl rfl rfl rfl rfl rfl (by rfl) hS ?_))
 intro W1 b2 ae
 refine oA Z Z (eN (sR fL18 Z (oR Z (zG Z Z ZX Z zC) (oL Z (ae.ldB (j:=0) Z Z Z zJ (v:=jV p0.Lo) Z) (oR Z (zG Z Z ZX Z zC) (oL Z (ae.ldB (j:=0) Z Z Z zJ (v:=jV p0.Hi) Z) (oR Z (Runs.leq Z Z Z) (oM Z Z ?_))))))))
 by_cases c5:p0.Lo <= p0.Hi
 have ag:=hm;rw [if_pos c5] at ag;replace c5:=zM c5
 refine rU Z (wT Z c5) (zG Z Z ZX Z zC) (ZJ Z Z Z (wT Z c5) (ae.ldB (j:=0) Z Z Z zJ (v:=jV p0.Lo) Z) Z (zk Z Z Z (wT Z c5) Z Z (rU Z (wT Z c5) (Runs.geq Z Z Z) (oR Z (zP Z (Zj c5.out) Z) (oM Z Z (ifc ag ?_ ?_))))))
 intro c7 ah
 refine rU Z (wT Z c7) (zG Z Z ZX Z zC) (ZJ Z Z Z (wT Z c7) (ae.ldB (j:=0) Z Z Z zJ (v:=jV p0.Hi) Z) Z (zk Z Z Z (wT Z c7) Z Z (rU Z (wT Z c7) (Runs.leq Z Z Z) (oR Z (zP Z (Zj c7.out) Z) (oA Z Z (eN (zS ?_)))))))
 first | (obtain rfl:=hJ ah) | cases ah
 exact ⟨rfl,_,(ZM rfl),φ,_,(ae.pick [] _ (by decide) rfl),rfl,rfl⟩
 intro c7 ak
 refine oF Z c7 (oF Z c7 (oF Z c7 (oF Z c7 (oR Z (zZ Z (zw c7.out) Z) (oA Z Z (eN (zS ?_)))))))
 have hE:=hJ ak;first | subst r | cases hE
 exact ⟨rfl,_,(ZM rfl),φ,_,(ae.pick [] _ (by decide) rfl),rfl,rfl⟩
 have af:=hm;rw [if_neg c5] at af;replace c5:=zM c5
 refine oF Z c5 (oF Z c5 (oF Z c5 (oF Z c5 (oR Z (zZ Z (zw c5.out) Z) (oM Z Z (oN Z (oN Z (oN Z (oN Z (oR Z (zZ Z Z Z) (oA Z Z (eN (zS ?_)))))))))))))
 have hE:=hJ af;first | subst r | cases hE
 exact ⟨rfl,_,(ZM rfl),φ,_,(ae.pick [] _ (by decide) rfl),rfl,rfl⟩
theorem wGl (p0:wAK) (w:World) (φ:PHeap) (hS:St0 w φ [])  {r:Bool} (hm:wCd p0=some r):Gv Try.prog 94 [.agg #[jV p0.Lo,jV p0.Hi]] w (wCF w [] φ (fun φ_ L_ v=>v=.bool r/\L_=[])):=by
 unfold wCd at hm
 refine Gv.of Try.func94 Z Try.ntmps94 Try.results94 Z (sR gAm Z ?_)
 let B0:List Value:=[jV p0.Lo,jV p0.Hi]
 refine zu (cs:=B0) rfl rfl rfl rfl rfl rfl (by rfl) hS ?_
 intro W1 b2 ac
 refine oA Z Z (eN (sR gAr Z (oL Z (ac.ldBA (j:=0) Z Z Z yA ZA (vs:=B0) Z Z) (bnK hm fun x5 h6 am=>zF 0 Z Z Z Z (zD Z Z Try.call95 (zB Z (zB Z (zB Z zN))) Z) ac (fun hs=>wFA p0 0 360000 W1 φ hs h6) (.inr Z) ?_))))
 rintro ae L9 ap ag ao aj ⟨rfl,rfl⟩
 have ak:sW w φ ae [.blk b2 41 B0] ag:=aj
 refine oA Z Z (eN (zS ?_))
 have hE:=hJ am;first | subst r | cases hE
 exact ⟨rfl,_,(ZM rfl),ae,_,(ak.pick [] _ (by decide) rfl),rfl,rfl⟩
theorem wET (p0:List wAM) (am:Option Addr) (an:Nat) (p1:(wAM->Option Bool)) (ao:Value) (w:World) (φ:PHeap) (hS:St0 w φ []) (aY:Sl φ 3 am an p0.length (hD wAB p0)) (aZ:FnOK Try.prog φ ao wMd wMe p1) {r:Bool} (hm:wBO p0 p1=some r):Gv Try.prog 96 [.slice am p0.length an,ao] w (wCF w [] φ (fun φ_ L_ v=>v=.bool r/\L_=[])):=by
 unfold wBO at hm
 refine Gv.of Try.func96 Z Try.ntmps96 Try.results96 Z (sR fL1 Z (oA Z Z (eN (zL (sR fL3 Z (oM Z Z (oR Z (zq Z Z ZV) (oM Z Z (eN (zY ?_))))))))))
 have q:=wBa hm
 obtain ⟨r3,ah⟩:=q
 have q:=wBZ ah
 obtain ⟨aj,a7⟩:=q
 replace aj:=zM aj
 refine yH (fun k2 _ σ_ w_=>∃ (φ_:PHeap),σ_ 9=jV (↑k2:Int)/\σ_ 1=ao/\σ_ 7=.slice am p0.length an/\σ_ 8=jV (↑p0.length:Int)/\PHeap.Le φ φ_/\sW w φ φ_ [] w_) a7 ?_ ?_ ?_
 exact ⟨φ,Z,Z,Z,Z,(zO _),hS⟩
 rintro k2 ⟨⟩ bw bz W8 ai ⟨bg,ag,av,ax,ay,ak,aD⟩ aH a5
 try dsimp only at aH
 have au:Hid ((↑k2:Int) < (↑p0.length:Int)):=zM (wAs ai)
 replace ai:=zM ai
 have a8:Hid (w64 ((↑k2:Int) + 1)=(↑(k2 + 1):Int)):=zM (by have h1:=aj.out;have h2:=au.out;rw [wAT] <;> omega)
 refine sR fL1 Z (oR Z (zc Z ag ay) (eN (zL (cT Z au (kN (zL (zY (sR gBb Z (bnK aH fun ab az a9=>?_)))))))))
 have aP:=aY.le ak
 have q:=aP.el (fun _=>rfl) (wAX az)
 obtain ⟨bo,bs,aS,aT⟩:=q
 refine oR Z (Zc Z ax aS ag ZV Zq (wBQ az)) (oL Z (aD.ldCA (f:=0) aT Z Z Try.isAgg43 Zq (us:=[jV ab.Offset.Lo,jV ab.Offset.Hi,jV ab.Error]) Z Z) (zV (cs:=[jV 0,jV 0,jV 0]) Z Z Z Z Z yV Z aD ?_))
 intro bj aq aU
 let B0:List Value:=[jV ab.Offset.Lo,jV ab.Offset.Hi,jV ab.Error]
 refine zW (j:=0) (vs:=B0) Z Z Z Z aU Z Z Z Z Zq (zA Z) Z Z Z ?_
 intro aJ aV
 have aE:sW w φ bg [.blk aq 43 B0] aJ:=aV
 refine eN (sR gBa Z (oM Z av (oL Z (aE.ldBA (j:=0) Z Z Z Try.isAgg43 Zq (vs:=B0) Z Z) (bnK a9 fun bv aQ ba=>?_))))
 have aR:=aZ.le ak
 refine OKS.callV (a:=ab) Z Z Z Z Z Z (zB Z zN) aE aR Z aQ ?_
 rintro ap bi bu aK be aW ⟨rfl,rfl⟩
 have aF:sW w φ ap [.blk aq 43 B0] aK:=aW
 refine oR Z (Ze Z Z) (eN (ifc ba ?_ ?_))
 intro af bb
 refine zt (nC af.out) (Zh (zo (zH (rR fL2 Z (oR Z (ZG (za Z ag Z) (congrArg (jV) a8.out)) (oM Z Z (zb ?_)))))))
 have q:=hJ bb
 obtain rfl:=q
 exact zH ⟨rfl,_,rfl,⟨ap,rfl,av,ax,ay,(ak.trans be),(aF.pick [] _ (by decide) rfl)⟩⟩
 intro af bc
 refine ZL (nF (af.out)) (sR fL1 Z (oA Z Z (eN (zS (ze (zR ?_))))))
 have q:=wAZ bc
 obtain ⟨bf,bd,aM⟩:=q
 have q:=wBI hm ah (a5 bf aM)
 obtain rfl:=q
 refine zR (ze (zR ?_))
 have hE:=hJ bd;first | subst r | cases hE
 exact ⟨rfl,_,(ZM rfl),ap,_,(aF.pick [] _ (by decide) rfl),rfl,rfl⟩
 rintro ⟨⟩ bx bm ⟨bh,aO,bp,bq,aN,br,aX⟩ a6
 have aG:=wCO hm ah a6
 try dsimp only at aG
 have aL:Hid (¬ ((↑(((↑p0.length:Int):Int) - 0).toNat:Int) < (↑p0.length:Int))):=zM (wAc)
 refine sR fL1 Z (oR Z (zc Z aO aN) (eN (zL (cF Z aL (Za (zi (zi (ZQ (zH (sR fL1 Z (oA Z Z (eN (zS ?_)))))))))))))
 have hE:=hJ aG;first | subst r | cases hE
 exact ⟨Z,_,(ZM Z),bh,_,aX,Z,Z⟩
end Go.Proofs.Ytlnfbjphfoipaaa
namespace Go.Proofs.Ytlnfbjphfoipaaa
open Go.KL
set_option maxHeartbeats 4000000
theorem wGm (p0:wAM) (w:World) (φ:PHeap) (hS:St0 w φ [])  {r:Bool} (hm:wCe p0=some r):Gv Try.prog 97 [.agg #[jV p0.Offset.Lo,jV p0.Offset.Hi,jV p0.Error]] w (wCF w [] φ (fun φ_ L_ v=>v=.bool r/\L_=[])):=by
 unfold wCe at hm
 refine Gv.of Try.func97 Z Try.ntmps97 Try.results97 Z (sR gAm Z ?_)
 let B0:List Value:=[jV p0.Offset.Lo,jV p0.Offset.Hi,jV p0.Error]
 refine zu (cs:=B0) rfl rfl rfl rfl rfl rfl (by rfl) hS ?_
 intro W1 b2 ai
 refine oA Z Z (eN (sR (.fl 0 (.fl 1 (.fx 2 (wMD gAp) .stop))) Z (oR Z (zG Z Z Zr Z ZA) (oL Z (ai.ldBA (j:=0) Z Z Z yA ZA (vs:=[jV p0.Offset.Lo,jV p0.Offset.Hi]) Z Z) (bnK hm fun x5 h6 az=>zF 0 Z Z Z Z (zD Z Z Try.call95 (zB Z (zB Z (zB Z zN))) Z) ai (fun hs=>wFA p0.Offset (-36000) 36000 W1 φ hs h6) (.inr Z) ?_)))))
 rintro af L9 aH ag aF ap ⟨rfl,rfl⟩
 have ae:sW w φ af [.blk b2 43 B0] ag:=ap
 refine oM Z Z (ifc az ?_ ?_)
 intro ab av
 refine zg Z Z Z (zQ Z Z (congrArg hH ab.out)) (fun _=>zG Z Z Zr Z zC) (ZJ Z Z Z (zQ Z Z (congrArg hH ab.out)) (ae.ldB (j:=0) Z Z Z zJ (v:=jV p0.Error) Z) Z (bnK av fun aJ an ax=>zF 0 Z Z Z (zQ Z Z (congrArg hH ab.out)) (zD Z Z yP (zB Z (zB Z (zB Z zN))) Z) ae (fun hs=>wBj p0.Error 0 600 ag af hs an) (.inr Z) ?_))
 rintro aj aD aI am aG aq ⟨rfl,rfl⟩
 have au:sW w φ aj [.blk b2 43 B0] am:=aq
 refine oR Z (zP Z (congrArg hH ab.out) Z) (oA Z Z (eN (zS ?_)))
 have hE:=hJ ax;first | subst r | cases hE
 exact ⟨rfl,_,(ZM rfl),aj,_,(au.pick [] _ (by decide) rfl),rfl,rfl⟩
 intro ab ay
 refine ZD Z Z Z (zT Z Z (congrArg hH (hU.2 ab.out)) Z) (ZD Z Z Z (zT Z Z (congrArg hH (hU.2 ab.out)) Z) (ZB Z Z Z (zT Z Z (congrArg hH (hU.2 ab.out)) Z) (oR Z (zZ Z (congrArg hH (hU.2 ab.out)) Z) (oA Z Z (eN (zS ?_))))))
 have hE:=hJ ay;first | subst r | cases hE
 exact ⟨rfl,_,(ZM rfl),af,_,(ae.pick [] _ (by decide) rfl),rfl,rfl⟩
theorem wCw (p0:List wAI) (am:Option Addr) (an:Nat) (p1:(wAI->Option Bool)) (ao:Value) (w:World) (φ:PHeap) (hS:St0 w φ []) (aY:Sl φ 4 am an p0.length (hD wAA p0)) (aZ:FnOK Try.prog φ ao wJS wJT p1) {r:Bool} (hm:wAq p0 p1=some r):Gv Try.prog 98 [.slice am p0.length an,ao] w (wCF w [] φ (fun φ_ L_ v=>v=.bool r/\L_=[])):=by
 unfold wAq at hm
 refine Gv.of Try.func98 Z Try.ntmps98 Try.results98 Z (sR fL1 Z (oA Z Z (eN (zL (sR fL3 Z (oM Z Z (oR Z (zq Z Z zn) (oM Z Z (eN (zY ?_))))))))))
 have q:=wBa hm
 obtain ⟨r3,ah⟩:=q
 have q:=wBZ ah
 obtain ⟨aj,a7⟩:=q
 replace aj:=zM aj
 refine yH (fun k2 _ σ_ w_=>∃ (φ_:PHeap),σ_ 9=jV (↑k2:Int)/\σ_ 1=ao/\σ_ 7=.slice am p0.length an/\σ_ 8=jV (↑p0.length:Int)/\PHeap.Le φ φ_/\sW w φ φ_ [] w_) a7 ?_ ?_ ?_
 exact ⟨φ,Z,Z,Z,Z,(zO _),hS⟩
 rintro k2 ⟨⟩ bw bz W8 ai ⟨bg,ag,av,ax,ay,ak,aD⟩ aH a5
 try dsimp only at aH
 have au:Hid ((↑k2:Int) < (↑p0.length:Int)):=zM (wAs ai)
 replace ai:=zM ai
 have a8:Hid (w64 ((↑k2:Int) + 1)=(↑(k2 + 1):Int)):=zM (by have h1:=aj.out;have h2:=au.out;rw [wAT] <;> omega)
 refine sR fL1 Z (oR Z (zc Z ag ay) (eN (zL (cT Z au (kN (zL (zY (sR gBb Z (bnK aH fun ab az a9=>?_)))))))))
 have aP:=aY.le ak
 have q:=aP.el (fun _=>rfl) (wAX az)
 obtain ⟨bo,bs,aS,aT⟩:=q
 refine oR Z (Zc Z ax aS ag zn ZC (wBQ az)) (oL Z (aD.ldCA (f:=0) aT Z Z yI ZC (us:=[jV ab.Skier,jV ab.Mat,jV ab.Clock,jV ab.Time]) Z Z) (zV (cs:=[jV 0,jV 0,jV 0,jV 0]) Z Z Z Z Z Zb Z aD ?_))
 intro bj aq aU
 let B0:List Value:=[jV ab.Skier,jV ab.Mat,jV ab.Clock,jV ab.Time]
 refine zW (j:=0) (vs:=B0) Z Z Z Z aU Z Z Z Z ZC (zA Z) Z Z Z ?_
 intro aJ aV
 have aE:sW w φ bg [.blk aq 39 B0] aJ:=aV
 refine eN (sR gBa Z (oM Z av (oL Z (aE.ldBA (j:=0) Z Z Z yI ZC (vs:=B0) Z Z) (bnK a9 fun bv aQ ba=>?_))))
 have aR:=aZ.le ak
 refine OKS.callV (a:=ab) Z Z Z Z Z Z (zB Z zN) aE aR Z aQ ?_
 rintro ap bi bu aK be aW ⟨rfl,rfl⟩
 have aF:sW w φ ap [.blk aq 39 B0] aK:=aW
 refine oR Z (Ze Z Z) (eN (ifc ba ?_ ?_))
 intro af bb
 refine zt (nC af.out) (Zh (zo (zH (rR fL2 Z (oR Z (ZG (za Z ag Z) (congrArg (jV) a8.out)) (oM Z Z (zb ?_)))))))
 have q:=hJ bb
 obtain rfl:=q
 exact zH ⟨rfl,_,rfl,⟨ap,rfl,av,ax,ay,(ak.trans be),(aF.pick [] _ (by decide) rfl)⟩⟩
 intro af bc
 refine ZL (nF (af.out)) (sR fL1 Z (oA Z Z (eN (zS (ze (zR ?_))))))
 have q:=wAZ bc
 obtain ⟨bf,bd,aM⟩:=q
 have q:=wBI hm ah (a5 bf aM)
 obtain rfl:=q
 refine zR (ze (zR ?_))
 have hE:=hJ bd;first | subst r | cases hE
 exact ⟨rfl,_,(ZM rfl),ap,_,(aF.pick [] _ (by decide) rfl),rfl,rfl⟩
 rintro ⟨⟩ bx bm ⟨bh,aO,bp,bq,aN,br,aX⟩ a6
 have aG:=wCO hm ah a6
 try dsimp only at aG
 have aL:Hid (¬ ((↑(((↑p0.length:Int):Int) - 0).toNat:Int) < (↑p0.length:Int))):=zM (wAc)
 refine sR fL1 Z (oR Z (zc Z aO aN) (eN (zL (cF Z aL (Za (zi (zi (ZQ (zH (sR fL1 Z (oA Z Z (eN (zS ?_)))))))))))))
 have hE:=hJ aG;first | subst r | cases hE
 exact ⟨Z,_,(ZM Z),bh,_,aX,Z,Z⟩
theorem wGn (p0:wAI) (w:World) (φ:PHeap) (hS:St0 w φ [])  {r:Bool} (hm:wCf p0=some r):Gv Try.prog 99 [.agg #[jV p0.Skier,jV p0.Mat,jV p0.Clock,jV p0.Time]] w (wCF w [] φ (fun φ_ L_ v=>v=.bool r/\L_=[])):=by
 unfold wCf at hm
 refine Gv.of Try.func99 Z Try.ntmps99 Try.results99 Z (sR gAm Z ?_)
 let B0:List Value:=[jV p0.Skier,jV p0.Mat,jV p0.Clock,jV p0.Time]
 refine zu (cs:=B0) rfl rfl rfl rfl rfl rfl (by rfl) hS ?_
 intro W1 b2 ac
 refine oA Z Z (eN (sR gBa Z (oR Z (zG Z Z zx Z zC) (oL Z (ac.ldB (j:=0) Z Z Z zJ (v:=jV p0.Time) Z) (bnK hm fun x5 h6 am=>zF 0 Z Z Z Z (zD Z Z yP (zB Z (zB Z (zB Z zN))) Z) ac (fun hs=>wBj p0.Time 0 360000 W1 φ hs h6) (.inr Z) ?_)))))
 rintro ae L9 ap ag ao aj ⟨rfl,rfl⟩
 have ak:sW w φ ae [.blk b2 39 B0] ag:=aj
 refine oA Z Z (eN (zS ?_))
 have hE:=hJ am;first | subst r | cases hE
 exact ⟨rfl,_,(ZM rfl),ae,_,(ak.pick [] _ (by decide) rfl),rfl,rfl⟩
theorem wCY (p0:wAC) (af:Option Addr) (ah:Nat) (ag:Option Addr) (ai:Nat) (an:Option Addr) (ap:Nat) (ao:Option Addr) (aq:Nat) (p1:wAS) (w:World) (φ:PHeap) (hS:St0 w φ []) (aS:Sl φ 1 af ah p0.Starts.length (hD KL.encI p0.Starts)) (aT:Sl φ 2 ag ai p0.Splits.length (hD wAE p0.Splits)) (aU:Sl φ 3 an ap p0.Clocks.length (hD wAB p0.Clocks)) (aV:Sl φ 4 ao aq p0.Readings.length (hD wAA p0.Readings)) {r:Bool} (hm:wAk p0 p1=some r):Gv Try.prog 84 [.agg #[.slice af p0.Starts.length ah,.slice ag p0.Splits.length ai,.slice an p0.Clocks.length ap,.slice ao p0.Readings.length aq],.agg #[jV p1.Skier,jV p1.Mat]] w (wCF w [] φ (fun φ_ L_ v=>v=.bool r/\L_=[])):=by
 unfold wAk at hm
 refine Gv.of Try.func84 Z Try.ntmps84 Try.results84 Z (sR gAv Z ?_)
 let B0:List Value:=[.slice af p0.Starts.length ah,.slice ag p0.Splits.length ai,.slice an p0.Clocks.length ap,.slice ao p0.Readings.length aq]
 refine zu (cs:=B0) rfl rfl rfl rfl rfl rfl (by rfl) hS ?_
 intro W1 b2 aJ
 let B1:List Value:=[jV p1.Skier,jV p1.Mat]
 refine zu (cs:=B1) rfl rfl rfl rfl rfl rfl (by rfl) aJ ?_
 intro W5 b6 am
 refine oA Z Z (eN (sR (wHd (.fx 6 (wLW gAw) .stop)) Z (oR Z (zG Z Z Try.runUnderlying45 Z zC) (oL Z (am.ldB (j:=0) Z Z Z zJ (v:=jV p1.Skier) Z) (oR Z (zG Z Z zK Z zy) (oL Z (am.ldB (j:=1) Z Z Z ZK (v:=.slice af p0.Starts.length ah) Z) (oR Z (zq Z Z zE) (oR Z (yJ Z Z Z) (bnK hm fun x9 aF aL=>zF 0 Z Z Z Z (zD Z Z yP (zB Z (zB Z (zB Z zN))) Z) am (fun hs=>wBj p1.Skier 0 (w64 ((↑p0.Starts.length:Int) - 1)) W5 φ hs aF) (.inr Z) ?_)))))))))
 rintro au aP aY av aW aH ⟨rfl,rfl⟩
 have ae:sW w φ au [.blk b6 45 B1,.blk b2 28 B0] av:=aH
 refine oM Z Z (ifc aL ?_ ?_)
 intro ab aM
 refine zg Z Z Z (zQ Z Z (congrArg hH ab.out)) (fun _=>zG Z Z Try.runUnderlying45 Z zC) (ZJ Z Z Z (zQ Z Z (congrArg hH ab.out)) (ae.ldB (j:=0) Z Z Z zJ (v:=jV p1.Mat) Z) Z (zg Z Z Z (zQ Z Z (congrArg hH ab.out)) (fun _=>zG Z Z zK Z yC) (ZJ Z Z Z (zQ Z Z (congrArg hH ab.out)) (ae.ldB (j:=1) Z Z Z yQ (v:=.slice ag p0.Splits.length ai) Z) Z (zg Z Z Z (zQ Z Z (congrArg hH ab.out)) (fun _=>zq Z Z ZP) (bnK aM fun a5 aG aN=>zF 0 Z Z Z (zQ Z Z (congrArg hH ab.out)) (zD Z Z yP (zB Z (zB Z (zB Z zN))) Z) ae (fun hs=>wBj p1.Mat 0 (↑p0.Splits.length:Int) av au hs aG) (.inr Z) ?_)))))
 rintro az aQ aZ aD aX aI ⟨rfl,rfl⟩
 have aK:sW w φ az [.blk b6 45 B1,.blk b2 28 B0] aD:=aI
 refine oR Z (zP Z (congrArg hH ab.out) Z) (oA Z Z (eN (zS ?_)))
 have hE:=hJ aN;first | subst r | cases hE
 exact ⟨rfl,_,(ZM rfl),az,_,(aK.pick [] _ (by decide) rfl),rfl,rfl⟩
 intro ab aO
 refine ZD Z Z Z (zT Z Z (congrArg hH (hU.2 ab.out)) Z) (ZD Z Z Z (zT Z Z (congrArg hH (hU.2 ab.out)) Z) (ZD Z Z Z (zT Z Z (congrArg hH (hU.2 ab.out)) Z) (ZD Z Z Z (zT Z Z (congrArg hH (hU.2 ab.out)) Z) (ZD Z Z Z (zT Z Z (congrArg hH (hU.2 ab.out)) Z) (ZB Z Z Z (zT Z Z (congrArg hH (hU.2 ab.out)) Z) (oR Z (zZ Z (congrArg hH (hU.2 ab.out)) Z) (oA Z Z (eN (zS ?_)))))))))
 have hE:=hJ aO;first | subst r | cases hE
 exact ⟨rfl,_,(ZM rfl),au,_,(ae.pick [] _ (by decide) rfl),rfl,rfl⟩
theorem wGo (p0:wAI) (p1:wAC) (ay:Nat) (ai:Option Addr) (am:Nat) (aj:Option Addr) (an:Nat) (ae:Option Addr) (af:Nat) (ak:Option Addr) (ao:Nat) (w:World) (φ:PHeap) (hS:St0 w φ []) (ax:Cl φ ay 0 [.slice ai p1.Starts.length am,.slice aj p1.Splits.length an,.slice ae p1.Clocks.length af,.slice ak p1.Readings.length ao]) (aL:Sl φ 1 ai am p1.Starts.length (hD KL.encI p1.Starts)) (aM:Sl φ 2 aj an p1.Splits.length (hD wAE p1.Splits)) (aN:Sl φ 3 ae af p1.Clocks.length (hD wAB p1.Clocks)) (aO:Sl φ 4 ak ao p1.Readings.length (hD wAA p1.Readings)) {r:Bool} (hm:wCg p0 p1=some r):Gv Try.prog 100 [.agg #[jV p0.Skier,jV p0.Mat,jV p0.Clock,jV p0.Time],.pointer (some ⟨ay,0,none⟩)] w (wCF w [] φ (fun φ_ L_ v=>v=.bool r/\L_=[])):=by
 unfold wCg at hm
 refine Gv.of Try.func100 Z Try.ntmps100 Try.results100 Z (sR gAm Z ?_)
 let B0:List Value:=[jV p0.Skier,jV p0.Mat,jV p0.Clock,jV p0.Time]
 refine zu (cs:=B0) rfl rfl rfl rfl rfl rfl (by rfl) hS ?_
 intro W1 b2 ah
 refine oA Z Z (eN (sR (wHd (.fx 6 (wLX gAx) .stop)) Z (oL Z (ah.ldCA (f:=0) ax Z Z zf zX (us:=[.slice ai p1.Starts.length am,.slice aj p1.Splits.length an,.slice ae p1.Clocks.length af,.slice ak p1.Readings.length ao]) Z Z) (oR Z (zG Z Z zx Z zC) (oL Z (ah.ldB (j:=0) Z Z Z zJ (v:=jV p0.Skier) Z) (oR Z (zG Z Z zx Z zC) (oL Z (ah.ldB (j:=0) Z Z Z zJ (v:=jV p0.Mat) Z) (oR Z (zl (pv:=[(0,jV p0.Skier),(1,jV p0.Mat)]) (z:=[jV 0,jV 0]) (cs:=[jV p0.Skier,jV p0.Mat]) Z (wAG Z (wAG Z wAN)) yG wEw Z Z) (bnK hm fun x5 h6 aS=>zF 0 Z Z Z Z (zD Z Z Try.call84 (zB Z (zB Z zN)) Z) ah (fun hs=>wCY p1 ai am aj an ae af ak ao (⟨p0.Skier,p0.Mat⟩:wAS) W1 φ hs aL aM aN aO h6) (.inr Z) ?_)))))))))
 rintro aq L9 aX au aT aI ⟨rfl,rfl⟩
 have ag:sW w φ aq [.blk b2 39 B0] au:=aI
 refine oM Z Z (ifc aS ?_ ?_)
 intro ac aP
 refine zg Z Z Z (zQ Z Z (congrArg hH ac.out)) (fun _=>zG Z Z zx Z zC) (ZJ Z Z Z (zQ Z Z (congrArg hH ac.out)) (ag.ldB (j:=0) Z Z Z zJ (v:=jV p0.Clock) Z) Z (zg Z Z Z (zQ Z Z (congrArg hH ac.out)) (fun _=>zG Z Z zK Z Zl) ?_))
 have aF:=ax.le aT
 refine ZJ Z Z Z (zQ Z Z (congrArg hH ac.out)) (ag.ldC (f:=2) aF (v:=.slice ae p1.Clocks.length af) Z Z yE Z) Z (zg Z Z Z (zQ Z Z (congrArg hH ac.out)) (fun _=>zq Z Z ZV) (zg Z Z Z (zQ Z Z (congrArg hH ac.out)) (fun _=>yJ Z Z Z) (bnK aP fun aZ aG aQ=>zF 0 Z Z Z (zQ Z Z (congrArg hH ac.out)) (zD Z Z yP (zB Z (zB Z (zB Z zN))) Z) ag (fun hs=>wBj p0.Clock 0 (w64 ((↑p1.Clocks.length:Int) - 1)) au aq hs aG) (.inr Z) ?_)))
 rintro az aU aY aE aW aJ ⟨rfl,rfl⟩
 have aK:sW w φ az [.blk b2 39 B0] aE:=aJ
 refine oR Z (zP Z (congrArg hH ac.out) Z) (oA Z Z (eN (zS ?_)))
 have hE:=hJ aQ;first | subst r | cases hE
 exact ⟨rfl,_,(ZM rfl),az,_,(aK.pick [] _ (by decide) rfl),rfl,rfl⟩
 intro ac aR
 refine ZD Z Z Z (zT Z Z (congrArg hH (hU.2 ac.out)) Z) (ZD Z Z Z (zT Z Z (congrArg hH (hU.2 ac.out)) Z) (ZD Z Z Z (zT Z Z (congrArg hH (hU.2 ac.out)) Z) (ZD Z Z Z (zT Z Z (congrArg hH (hU.2 ac.out)) Z) (ZD Z Z Z (zT Z Z (congrArg hH (hU.2 ac.out)) Z) (ZD Z Z Z (zT Z Z (congrArg hH (hU.2 ac.out)) Z) (ZB Z Z Z (zT Z Z (congrArg hH (hU.2 ac.out)) Z) (oR Z (zZ Z (congrArg hH (hU.2 ac.out)) Z) (oA Z Z (eN (zS ?_))))))))))
 have hE:=hJ aR;first | subst r | cases hE
 exact ⟨rfl,_,(ZM rfl),aq,_,(ag.pick [] _ (by decide) rfl),rfl,rfl⟩
theorem wEN (p0:wAC) (am:Option Addr) (ap:Nat) (an:Option Addr) (aq:Nat) (ao:Option Addr) (au:Nat) (ah:Option Addr) (ai:Nat) (w:World) (φ:PHeap) (hS:St0 w φ []) (cg:Sl φ 1 am ap p0.Starts.length (hD KL.encI p0.Starts)) (ci:Sl φ 2 an aq p0.Splits.length (hD wAE p0.Splits)) (cm:Sl φ 3 ao au p0.Clocks.length (hD wAB p0.Clocks)) (cn:Sl φ 4 ah ai p0.Readings.length (hD wAA p0.Readings)) {r:Int} (hm:wCT p0=some r):Gv Try.prog 68 [.agg #[.slice am p0.Starts.length ap,.slice an p0.Splits.length aq,.slice ao p0.Clocks.length au,.slice ah p0.Readings.length ai]] w (wCF w [] φ (fun φ_ L_ v=>v=jV r/\L_=[])):=by
 unfold wCT at hm
 refine Gv.of Try.func68 Z Try.ntmps68 Try.results68 Z (sR gAm Z ?_)
 let B0:List Value:=[.slice am p0.Starts.length ap,.slice an p0.Splits.length aq,.slice ao p0.Clocks.length au,.slice ah p0.Readings.length ai]
 refine zu (cs:=B0) rfl rfl rfl rfl rfl rfl (by rfl) hS ?_
 intro W1 b2 ca
 have q:=ca.freeze (k:=0) rfl
 obtain ⟨aY,aI,ay,cf⟩:=q
 replace ay:=Cl.of ay
 have bn:sW w φ aY [] W1:=cf
 replace ay:Cl aY b2 0 B0:=ay
 refine oA Z Z (eN (zL (zY (sR (wCa (.fx 3 (wNJ (.nil)) .stop)) Z (oR Z (zG Z Z zK Z zy) (oL Z (bn.ldC (f:=0) ay (v:=.slice am p0.Starts.length ap) Z Z ZK Z) (oR Z (zq Z Z zE) (bnK hm fun de bu cq=>zF 0 Z Z Z Z (zD Z Z yP (zB Z (zB Z (zB Z zN))) Z) bn (fun hs=>wBj (↑p0.Starts.length:Int) 1 8 W1 aY hs bu) (.inr Z) ?_))))))))
 rintro av cR cZ a6 aD bZ ⟨rfl,rfl⟩
 have ag:sW w φ av [] a6:=bZ
 refine oR Z (Ze Z Z) (oM Z Z (ifc cq ?_ ?_))
 intro ab cA
 refine zg Z Z Z (zQ Z Z (nC ab.out)) (fun _=>zG Z Z zK Z yC) ?_
 have az:=ay.le aD
 refine ZJ Z Z Z (zQ Z Z (nC ab.out)) (ag.ldC (f:=1) az (v:=.slice an p0.Splits.length aq) Z Z yQ Z) Z (zg Z Z Z (zQ Z Z (nC ab.out)) (fun _=>zq Z Z ZP) (zg Z Z Z (zQ Z Z (nC ab.out)) (fun _=>yb Z Z Z) (oR Z (zZ Z (nC ab.out) Z) (oM Z Z (ifc cA ?_ ?_)))))
 intro ac cB
 refine oT Z ac (oT Z ac (oT Z ac (oT Z ac (oR Z (zP Z (Zj ac.out) Z) (oM Z Z (oN Z (oN Z (oN Z (oN Z (oR Z (zP Z Z Z) (oA Z Z (eN (ZL Z (sR fL1 Z (oA Z Z (eN (zS (ze (zR ?_)))))))))))))))))))
 cases cB
 exact ⟨Z,_,(ZM Z),av,_,ag,Z,Z⟩
 intro ac cC
 refine rU Z (wF Z ac) (zG Z Z zK Z Zl) (ZJ Z Z Z (wF Z ac) (ag.ldC (f:=2) az (v:=.slice ao p0.Clocks.length au) Z Z yE Z) Z (rU Z (wF Z ac) (zq Z Z ZV) (rU Z (wF Z ac) (yb Z Z Z) (oR Z (zZ Z (zw ac.out) Z) (oM Z Z (ifc cC ?_ ?_))))))
 intro ae cD
 refine oT Z ae (oT Z ae (oT Z ae (oT Z ae (oR Z (zP Z (Zj ae.out) Z) (oA Z Z (eN (ZL Z (sR fL1 Z (oA Z Z (eN (zS (ze (zR ?_)))))))))))))
 cases cD
 exact ⟨Z,_,(ZM Z),av,_,ag,Z,Z⟩
 intro ae cE
 refine rU Z (wF Z ae) (zG Z Z zK Z ZH) (ZJ Z Z Z (wF Z ae) (ag.ldC (f:=3) az (v:=.slice ah p0.Readings.length ai) Z Z Zi Z) Z (rU Z (wF Z ae) (zq Z Z zn) (rU Z (wF Z ae) (yb Z Z Z) (oR Z (zZ Z (zw ae.out) Z) (oA Z Z (eN (ifc cE ?_ ?_)))))))
 intro aP cG
 refine cT Z aP (sR fL1 Z (oA Z Z (eN (zS (ze (zR ?_))))))
 cases cG
 exact ⟨Z,_,(ZM Z),av,_,ag,Z,Z⟩
 intro aP cH
 refine cF Z aP (sR (.fl 0 (.fl 1 (.fx 2 (wKW (.fx 7 (wLY (.nil)) .stop)) .stop))) Z (oR Z (zG Z Z zK Z zy) (oL Z (ag.ldC (f:=0) az (v:=.slice am p0.Starts.length ap) Z Z ZK Z) ?_)))
 have bC:=cg.le aI
 have bd:=bC.le aD
 have bS:FnOK Try.prog av (.func (.func 92) #[] #[]) wMZ wMa wCb:=⟨92,[],[],rfl,Try.call92,fun ak w1 x y vs le hs ha hm=>by obtain rfl:=ha;exact wGk x w1 ak hs  hm⟩
 refine bnK cH fun dg bD cI=>zF 0 Z Z Z Z (zD Z Z Try.call79 (zB Z (zB Z zN)) Z) ag (fun hs=>wFs p0.Starts am ap wCb (.func (.func 92) #[] #[]) a6 av hs bd bS bD) (.inr Z) ?_
 rintro aJ cS c6 a7 aE cb ⟨rfl,rfl⟩
 have aU:sW w φ aJ [] a7:=cb
 refine oR Z (Ze Z Z) (oM Z Z (ifc cI ?_ ?_))
 intro af cJ
 refine zg Z Z Z (zQ Z Z (nC af.out)) (fun _=>zG Z Z zK Z yC) ?_
 have be:=az.le aE
 refine ZJ Z Z Z (zQ Z Z (nC af.out)) (aU.ldC (f:=1) be (v:=.slice an p0.Splits.length aq) Z Z yQ Z) Z ?_
 have bE:=ci.le aI
 have bF:=bE.le aD
 have bf:=bF.le aE
 have bU:FnOK Try.prog aJ (.func (.func 94) #[] #[]) wMb wMc wCd:=⟨94,[],[],rfl,Try.call94,fun ak w1 x y vs le hs ha hm=>by obtain rfl:=ha;exact wGl x w1 ak hs  hm⟩
 refine bnK cJ fun dh bG cK=>zF 0 Z Z Z (zQ Z Z (nC af.out)) (zD Z Z Try.call93 (zB Z (zB Z zN)) Z) aU (fun hs=>wEk p0.Splits an aq wCd (.func (.func 94) #[] #[]) a7 aJ hs bf bU bG) (.inr Z) ?_
 rintro aK cU da a8 aF cc ⟨rfl,rfl⟩
 have aV:sW w φ aK [] a8:=cc
 refine zg Z Z Z (zQ Z Z (nC af.out)) (fun _=>Ze Z Z) (oR Z (zZ Z (nC af.out) Z) (oA Z Z (eN (ifc cK ?_ ?_))))
 intro aQ cL
 refine zt (nC aQ.out) (sR gBj Z (oR Z (zG Z Z zK Z Zl) ?_))
 have bg:=be.le aF
 refine oL Z (aV.ldC (f:=2) bg (v:=.slice ao p0.Clocks.length au) Z Z yE Z) ?_
 have bH:=cm.le aI
 have bI:=bH.le aD
 have bJ:=bI.le aE
 have bh:=bJ.le aF
 have bV:FnOK Try.prog aK (.func (.func 97) #[] #[]) wMd wMe wCe:=⟨97,[],[],rfl,Try.call97,fun ak w1 x y vs le hs ha hm=>by obtain rfl:=ha;exact wGm x w1 ak hs  hm⟩
 refine bnK cL fun di bK cM=>zF 0 Z Z Z Z (zD Z Z Try.call96 (zB Z (zB Z zN)) Z) aV (fun hs=>wET p0.Clocks ao au wCe (.func (.func 97) #[] #[]) a8 aK hs bh bV bK) (.inr Z) ?_
 rintro aL cV db a9 aG cd ⟨rfl,rfl⟩
 have aW:sW w φ aL [] a9:=cd
 refine oR Z (Ze Z Z) (oA Z Z (eN (ifc cM ?_ ?_)))
 intro aR cN
 refine zt (nC aR.out) (zL (ye fun cP bo=>?_))
 have aS:cP 1=.pointer (some ⟨b2,0,none⟩):=(bo 1).trans rfl
 clear bo
 refine rR gBj Z (oR Z (zG Z aS zK Z ZH) ?_)
 have bi:=bg.le aG
 refine oL Z (aW.ldC (f:=3) bi (v:=.slice ah p0.Readings.length ai) Z Z Zi Z) ?_
 have bL:=cn.le aI
 have bM:=bL.le aD
 have bN:=bM.le aE
 have bP:=bN.le aF
 have bj:=bP.le aG
 have bW:FnOK Try.prog aL (.func (.func 99) #[] #[]) wJS wJT wCf:=⟨99,[],[],rfl,Try.call99,fun ak w1 x y vs le hs ha hm=>by obtain rfl:=ha;exact wGn x w1 ak hs  hm⟩
 refine bnK cN fun dk bQ cO=>zF 0 Z Z Z Z (zD Z Z Try.call98 (zB Z (zB Z zN)) Z) aW (fun hs=>wCw p0.Readings ah ai wCf (.func (.func 99) #[] #[]) a9 aL hs bj bW bQ) (.inr Z) ?_
 rintro aM cW dd ba aH bX ⟨rfl,rfl⟩
 have aT:sW w φ aM [] ba:=bX
 refine oR Z (Ze Z Z) (oA Z Z (eN (ifc cO ?_ ?_)))
 intro aN co
 refine zt (nC aN.out) (sR (wCa gAu) Z (oR Z (zG Z aS zK Z ZH) ?_))
 have bb:=bi.le aH
 refine oL Z (aT.ldC (f:=3) bb (v:=.slice ah p0.Readings.length ai) Z Z Zi Z) (oR Z (yl Z zN (zB aS zN)) ?_)
 have bc:=bj.le aH
 have bq:=bd.le aE
 have br:=bq.le aF
 have bs:=br.le aG
 have bt:=bs.le aH
 have bv:=bf.le aF
 have bw:=bv.le aG
 have bx:=bw.le aH
 have bz:=bh.le aG
 have bA:=bz.le aH
 have bR:FnOK Try.prog aM (.func (.func 100) #[] #[.pointer (some ⟨b2,0,none⟩)]) wJS wJT (fun x=>wCg x p0):=⟨100,[],[.pointer (some ⟨b2,0,none⟩)],rfl,Try.call100,fun ak w1 x y vs le hs ha hm=>by obtain rfl:=ha;exact wGo x p0 b2 am ap an aq ao au ah ai w1 ak hs (bb.le le) (bt.le le) (bx.le le) (bA.le le) (bc.le le) hm⟩
 refine bnK co fun df bB cp=>zF 0 Z Z Z Z (zD Z Z Try.call98 (zB Z (zB Z zN)) Z) aT (fun hs=>wCw p0.Readings ah ai (fun x=>wCg x p0) (.func (.func 100) #[] #[.pointer (some ⟨b2,0,none⟩)]) ba aM hs bc bR bB) (.inr Z) ?_
 rintro aX cQ cY bp cX bY ⟨rfl,rfl⟩
 have bm:sW w φ aX [] bp:=bY
 refine oR Z (Ze Z Z) (oA Z Z (eN (ifc cp ?_ ?_)))
 intro aO cr
 refine zt (nC aO.out) (Zh (zo (zH (sR fL1 Z (oA Z Z (eN (zS ?_)))))))
 cases cr
 exact ⟨Z,_,(ZM Z),aX,_,bm,Z,Z⟩
 intro aO ct
 refine ZL (nF (aO.out)) (sR fL1 Z (oA Z Z (eN (zS (ze (zR ?_))))))
 cases ct
 exact ⟨Z,_,(ZM Z),aX,_,bm,Z,Z⟩
 intro aN cu
 refine ZL (nF (aN.out)) (sR fL1 Z (oA Z Z (eN (zS (ze (zR ?_))))))
 cases cu
 exact ⟨Z,_,(ZM Z),aM,_,aT,Z,Z⟩
 intro aR cw
 refine ZL (nF (aR.out)) (sR fL1 Z (oA Z Z (eN (zS (ze (zR ?_))))))
 cases cw
 exact ⟨Z,_,(ZM Z),aL,_,aW,Z,Z⟩
 intro aQ cx
 refine ZL (nF (aQ.out)) (sR fL1 Z (oA Z Z (eN (zS (ze (zR ?_))))))
 cases cx
 exact ⟨Z,_,(ZM Z),aK,_,aV,Z,Z⟩
 intro af cy
 refine ZD Z Z Z (zT Z Z (nF (af.out)) Z) (ZD Z Z Z (zT Z Z (nF (af.out)) Z) (ZB Z Z Z (zT Z Z (nF (af.out)) Z) (ZD Z Z Z (zT Z Z (nF (af.out)) Z) (oR Z (zP Z (nF (af.out)) Z) (oA Z Z (eN (ZL Z (sR fL1 Z (oA Z Z (eN (zS (ze (zR ?_)))))))))))))
 cases cy
 exact ⟨Z,_,(ZM Z),aJ,_,aU,Z,Z⟩
 intro ab cz
 refine ZD Z Z Z (zT Z Z (nF (ab.out)) Z) (ZD Z Z Z (zT Z Z (nF (ab.out)) Z) (ZD Z Z Z (zT Z Z (nF (ab.out)) Z) (ZD Z Z Z (zT Z Z (nF (ab.out)) Z) (oR Z (zP Z (nF (ab.out)) Z) (oM Z Z (oN Z (oN Z (oN Z (oN Z (oR Z (zP Z Z Z) (oM Z Z (oN Z (oN Z (oN Z (oN Z (oR Z (zP Z Z Z) (oA Z Z (eN (ZL Z (sR fL1 Z (oA Z Z (eN (zS (ze (zR ?_)))))))))))))))))))))))))
 cases cz
 exact ⟨Z,_,(ZM Z),av,_,ag,Z,Z⟩
theorem wBe  (w:World) (φ:PHeap) (hS:St0 w φ [])  {r:wAJ} (hm:wCU =some r):Gv Try.prog 48 [] w (wCF w [] φ (fun φ_ L_ v=>v=.agg #[jV r.skier,jV r.mat]/\L_=[])):=by
 unfold wCU at hm
 refine Gv.of Try.func48 Z Try.ntmps48 Try.results48 Z (sR (.fx 0 .nil .stop) Z (zV (cs:=[jV 0,jV 0]) Z Z Z Z Z zd Z hS ?_))
 intro W1 b2 af
 refine eN (sR gAl Z ?_)
 let B0:List Value:=[jV (-1),jV 0]
 refine oR Z (zl (pv:=[(0,jV (-1)),(1,jV 0)]) (z:=[jV 0,jV 0]) (cs:=B0) Z (wAG Z (wAG Z wAN)) zd wBU Z Z) (zW (j:=0) (vs:=B0) Z Z Z Z af Z Z Z Z zI (zA Z) Z Z Z ?_)
 intro W5 ag
 have ab:sW w φ φ [.blk b2 104 B0] W5:=ag
 refine eN (zS ?_)
 cases hm
 exact ⟨rfl,_,(wGV (v:=.agg B0.toArray) ⟨⟨_,rfl,(wBA zh zI (ab.blkAt (k:=0) rfl) (vs:=B0) rfl rfl)⟩,trivial⟩),φ,_,(ab.pick [] _ (by decide) rfl),rfl,rfl⟩
theorem wFH {S E:Type} (PY:S->PHeap->List Res->Prop) (PE:E->PHeap->List Res->Prop) (f:S->wAF->Option (S ⊕ E)) (y:Nat) (s0:S) (p1:wAC) (aj:Nat) (bB:Option Addr) (bF:Nat) (bC:Option Addr) (bG:Nat) (bD:Option Addr) (bH:Nat) (bE:Option Addr) (bI:Nat) (w:World) (L:List Res) (φ:PHeap) (hS:St ⟨w,L,φ⟩ φ L w) (hP:PY s0 φ L) (hY:YOK Try.prog y wKg PY PE f φ) (aJ:Cl φ aj 0 [.slice bB p1.Starts.length bF,.slice bC p1.Splits.length bG,.slice bD p1.Clocks.length bH,.slice bE p1.Readings.length bI]) (iP:Sl φ 1 bB bF p1.Starts.length (hD KL.encI p1.Starts)) (iQ:Sl φ 2 bC bG p1.Splits.length (hD wAE p1.Splits)) (iR:Sl φ 3 bD bH p1.Clocks.length (hD wAB p1.Clocks)) (iS:Sl φ 4 bE bI p1.Readings.length (hD wAA p1.Readings)) {r:S ⊕ E} (hm:wBy f s0 p1=some r):Gv Try.prog 105 [.func (.yield y) #[] #[],.pointer (some ⟨aj,0,none⟩)] w (ItS w L φ PY PE r):=by
 unfold wBy at hm
 refine Gv.of Try.func105 Z Try.ntmps105 Try.results105 Z (sR wMw Z (oR Z (zG Z Z zK Z yC) (oL Z (hS.ldC (f:=1) aJ (v:=.slice bC p1.Splits.length bG) Z Z yQ Z) (oR Z (zq Z Z ZP) (oR Z (zG Z Z zK Z Zl) (oL Z (hS.ldC (f:=2) aJ (v:=.slice bD p1.Clocks.length bH) Z Z yE Z) (oR Z (zq Z Z ZV) (oR Z (zG Z Z zK Z ZH) (oL Z (hS.ldC (f:=3) aJ (v:=.slice bE p1.Readings.length bI) Z Z Zi Z) (oR Z (zq Z Z zn) ?_))))))))))
 let B0:List Value:=[jV 1,jV (↑p1.Splits.length:Int),jV (↑p1.Clocks.length:Int),jV (↑p1.Readings.length:Int)]
 refine oR Z (Runs.buildA (pv:=[(0,jV 1),(1,jV (↑p1.Splits.length:Int)),(2,jV (↑p1.Clocks.length:Int)),(3,jV (↑p1.Readings.length:Int))]) (z:=[jV 0,jV 0,jV 0,jV 0]) (cs:=B0) Z (wAG Z (wAG Z (wAG Z (wAG Z wAN)))) Try.zeroValue175 Try.runUnderlying175 zC Z Z) (oM Z Z (eN (zY ?_)))
 have q:=wBa hm
 obtain ⟨iV,an⟩:=q
 have q:=wBZ an
 obtain ⟨bs,fP⟩:=q
 replace bs:=zM bs
 refine yH (fun ab cQ σ_ w_=>∃ (φ_:PHeap) (ap:List Res),σ_ 18=jV (↑ab:Int)/\σ_ 0=.func (.yield y) #[] #[]/\σ_ 1=.pointer (some ⟨aj,0,none⟩)/\σ_ 17=.agg B0.toArray/\PHeap.Le φ φ_/\St ⟨w,L,φ⟩ φ_ ap w_/\PY cQ φ_ ap) fP ?_ ?_ ?_
 exact ⟨φ,L,Z,Z,Z,Z,(zO _),hS,hP⟩
 rintro ab cQ i3 jd iq bn ⟨bK,ap,au,cf,a9,ba,am,bj,cw⟩ gF aK
 have ca:Hid ((↑ab:Int) < 4):=zM (wAs bn)
 replace bn:=zM bn
 have cI:Hid (w64 ((↑ab:Int) + 1)=(↑(ab + 1):Int)):=zM (by have h1:=bs.out;have h2:=ca.out;rw [wAT] <;> omega)
 refine sR fL1 Z (oR Z (zc Z au Z) (eN (zL (cT Z ca (kN (zL (zY (sR fL4 Z (oM Z au (bnK gF fun af bi gi=>oR Z (yh (cs:=hD KL.encI ([1,(↑p1.Splits.length:Int),(↑p1.Clocks.length:Int),(↑p1.Readings.length:Int)]:List Int)) Z ba au Try.runUnderlying175 zC (wCG bi) (wCI bi) (wEo zJ (wES (sz:=1) (fun _=>Z) _ _ 0 _ _ (wAX bi) Z))) (oA Z Z (oA Z Z (eN (sR fL4 Z (oR Z (zG Z a9 zK Z zy) ?_)))))))))))))))
 have fd:=aJ.le am
 refine oL Z (bj.ldC (f:=0) fd (v:=.slice bB p1.Starts.length bF) Z Z ZK Z) (oR Z (zq Z Z zE) (oA Z Z (eN (zL ?_))))
 have q:=bnd gi
 obtain ⟨⟨db,gR⟩,cM,cJ⟩:=q
 try dsimp only at cJ
 refine yO (fun σ_ w_=>∃ (φ_:PHeap) (aq:List Res),σ_ 0=.func (.yield y) #[] #[]/\σ_ 1=.pointer (some ⟨aj,0,none⟩)/\σ_ 3=jV (↑ab:Int)/\σ_ 4=jV af/\σ_ 5=jV (↑p1.Starts.length:Int)/\σ_ 17=.agg B0.toArray/\σ_ 18=jV (↑ab:Int)/\σ_ 30=.bool db/\PHeap.Le bK φ_/\St ⟨w,L,φ⟩ φ_ aq w_/\PY gR φ_ aq) ?_ ?_
 refine rR fL6 Z (oM Z Z (oR Z (Zs Z Z Z) (oM Z Z ?_)))
 by_cases ag:(↑ab:Int)=2
 have cK:=cM;rw [if_pos ag] at cK;replace ag:=zM ag
 refine oT Z ag (oT Z ag (oR Z (zP Z (Zj ag.out) Z) (zb ?_)))
 cases cK
 exact zH ⟨Z,⟨bK,ap,cf,a9,Z,Z,Z,ba,au,Z,(zO _),bj,cw⟩⟩
 have cL:=cM;rw [if_neg ag] at cL;replace ag:=zM ag
 refine zk Z Z Z (wF Z ag) Z Z (rU Z (wF Z ag) (Zs Z Z Z) (oR Z (zZ Z (zw ag.out) Z) (zb ?_)))
 cases cL
 exact zH ⟨Z,⟨bK,ap,cf,a9,Z,Z,Z,ba,au,Z,(zO _),bj,cw⟩⟩
 rintro jl iA ⟨aV,aq,ci,cm,cn,co,eB,cp,cq,cr,ao,cC,cx⟩
 refine ifc cJ ?_ ?_
 intro a5 aQ
 refine ZL (cr.trans (congrArg hH a5.out)) (rR fL1 Z (oA Z Z (eN (sR fL2 Z (oM Z Z (oM Z Z (eN (zY ?_))))))))
 have q:=wBa aQ
 obtain ⟨iY,aI⟩:=q
 have q:=wBZ aI
 obtain ⟨bv,fS⟩:=q
 replace bv:=zM bv
 refine yH (fun ae cV σ_ w_=>∃ (φ_:PHeap) (ax:List Res),σ_ 32=jV (↑ae:Int)/\σ_ 0=.func (.yield y) #[] #[]/\σ_ 1=.pointer (some ⟨aj,0,none⟩)/\σ_ 3=jV (↑ab:Int)/\σ_ 4=jV af/\σ_ 17=.agg B0.toArray/\σ_ 18=jV (↑ab:Int)/\σ_ 31=jV 1/\PHeap.Le aV φ_/\St ⟨w,L,φ⟩ φ_ ax w_/\PY cV φ_ ax) fS ?_ ?_ ?_
 exact ⟨aV,aq,Z,ci,cm,cn,co,cp,cq,Z,(zO _),cC,cx⟩
 rintro ae cV i6 jm iB bq ⟨cX,ax,bh,eD,eE,eF,ct,eG,eH,cu,bA,fI,eO⟩ aS cH
 have bW:Hid ((↑ae:Int) < 1):=zM (wAs bq)
 replace bq:=zM bq
 have fT:Hid (w64 ((↑ae:Int) + 1)=(↑(ae + 1):Int)):=zM (by have h1:=bv.out;have h2:=bW.out;rw [wAT] <;> omega)
 refine sR fL1 Z (oR Z (zc Z bh cu) (eN (zL (cT Z bW (kN (zL (zY (sR fL2 Z (oM Z bh (oA Z Z (eN (sR fL2 Z (oM Z ct (oM Z Z (eN (zY ?_))))))))))))))))
 have q:=wBa aS
 obtain ⟨iU,aF⟩:=q
 have q:=wBZ aF
 obtain ⟨br,fO⟩:=q
 replace br:=zM br
 refine yH (fun ah cR σ_ w_=>∃ (φ_:PHeap) (aW:List Res),σ_ 36=jV (↑ah:Int)/\σ_ 0=.func (.yield y) #[] #[]/\σ_ 1=.pointer (some ⟨aj,0,none⟩)/\σ_ 3=jV (↑ab:Int)/\σ_ 4=jV af/\σ_ 6=jV (↑ae:Int)/\σ_ 17=.agg B0.toArray/\σ_ 18=jV (↑ab:Int)/\σ_ 31=jV 1/\σ_ 32=jV (↑ae:Int)/\σ_ 35=jV af/\PHeap.Le cX φ_/\St ⟨w,L,φ⟩ φ_ aW w_/\PY cR φ_ aW) fO ?_ ?_ ?_
 exact ⟨cX,ax,Z,eD,eE,eF,ct,Z,eG,eH,cu,bh,Z,(zO _),fI,eO⟩
 rintro ah cR iZ jc ip bm ⟨jo,aW,be,a6,dx,a7,dy,a8,dz,dA,dB,dC,cb,bw,fj,eQ⟩ gE cD
 have bX:Hid ((↑ah:Int) < af):=zM (wAs bm)
 replace bm:=zM bm
 have fU:Hid (w64 ((↑ah:Int) + 1)=(↑(ah + 1):Int)):=zM (by have h1:=br.out;have h2:=bX.out;rw [wAT] <;> omega)
 refine sR fL1 Z (oR Z (zc Z be cb) (eN (zL (cT Z bX (kN (zL (zY (sR fL2 Z (oM Z be (oA Z Z (eN (sR (wIJ (.fx 5 (wLU gAw) .stop)) Z (oM Z a6 (oM Z a7 (oM Z a8 (oM Z Z ?_))))))))))))))))
 let B1:List Value:=[jV 0,jV 0,jV 0,.bool false]
 refine oR Z (zl (pv:=[(0,jV (↑ab:Int)),(1,jV (↑ae:Int)),(2,jV (↑ah:Int)),(3,.bool true)]) (z:=B1) (cs:=[jV (↑ab:Int),jV (↑ae:Int),jV (↑ah:Int),.bool true]) Z (wAG Z (wAG Z (wAG Z (wAG Z wAN)))) Zn wDS Z Z) (bnK gE fun ib eU aL=>OKS.yieldT 0 (a:=(⟨(↑ab:Int),(↑ae:Int),(↑ah:Int),true⟩:wAF)) Z Z Z Z Z Z (zB Z zN) fj hY (((am.trans ao).trans bA).trans bw) eQ Z eU Z ?_)
 rintro bJ bP iC bR cN cy ay
 rcases ib with gN | gN
 try dsimp only at aL ay
 obtain ⟨rfl,gw⟩:=ay
 have fk:St ⟨w,L,φ⟩ bJ bP bR:=cy
 refine oR Z (Ze Z Z) (oM Z Z (zk Z Z Z (zQ Z Z Z) Z a6 (zk Z Z Z (zQ Z Z Z) Z a7 (zk Z Z Z (zQ Z Z Z) Z a8 (zk Z Z Z (zQ Z Z Z) Z Z (zg Z Z Z (zQ Z Z Z) (fun _=>zl (pv:=[(0,jV (↑ab:Int)),(1,jV (↑ae:Int)),(2,jV (↑ah:Int)),(3,.bool false)]) (z:=B1) (cs:=[jV (↑ab:Int),jV (↑ae:Int),jV (↑ah:Int),.bool false]) Z (wAG Z (wAG Z (wAG Z (wAG Z wAN)))) Zn wDS Z Z) (bnK aL fun ic eV aM=>OKS.yieldT 0 (a:=(⟨(↑ab:Int),(↑ae:Int),(↑ah:Int),false⟩:wAF)) Z Z Z (zQ Z Z Z) Z Z (zB Z zN) fk hY ((((am.trans ao).trans bA).trans bw).trans cN) gw Z eV Z ?_)))))))
 rintro aT aX iD bS gH cz az
 rcases ic with gO | gO
 try dsimp only at aM az
 obtain ⟨rfl,gx⟩:=az
 have fm:St ⟨w,L,φ⟩ aT aX bS:=cz
 refine zg Z Z Z (zQ Z Z Z) (fun _=>Ze Z Z) (oR Z (zZ Z Z Z) (eN (zt Z (Zh (zo (zH (rR fL2 Z (oR Z (ZG (za Z be Z) (congrArg (jV) fU.out)) (oM Z Z (zb ?_))))))))))
 have q:=hJ aM
 obtain rfl:=q
 exact zH ⟨Z,_,Z,⟨aT,aX,Z,a6,dx,a7,dy,a8,dz,dA,dB,dC,cb,((bw.trans cN).trans gH),fm,gx⟩⟩
 try dsimp only at aM az
 obtain ⟨rfl,gy⟩:=az
 have fq:St ⟨w,L,φ⟩ aT aX bS:=cz
 refine zg Z Z Z (zQ Z Z Z) (fun _=>Ze Z Z) (oR Z (zZ Z Z Z) (eN (ZL Z (zS (ze (zR ?_))))))
 have q:=wAZ aM
 obtain ⟨gS,fY,di⟩:=q
 have q:=wBI aS aF (cD gS di)
 obtain rfl:=q
 refine zR (ze (ze (zR ?_)))
 have q:=wAZ fY
 obtain ⟨gT,fZ,dk⟩:=q
 have q:=wBI aQ aI (cH gT dk)
 obtain rfl:=q
 refine zR (ze (ze (zR ?_)))
 have q:=wAZ fZ
 obtain ⟨gU,f4,dl⟩:=q
 have q:=wBI hm an (aK gU dl)
 obtain rfl:=q
 refine zR (ze ?_)
 cases f4
 exact ⟨Z,_,(wLD),aT,_,fq,gy⟩
 try dsimp only at aL ay
 obtain ⟨rfl,gz⟩:=ay
 have ft:St ⟨w,L,φ⟩ bJ bP bR:=cy
 refine oR Z (Ze Z Z) (oM Z Z (oN Z (oN Z (oN Z (oN Z (oN Z (ZB Z Z Z (zT Z Z Z Z) (oN Z (oR Z (zP Z Z Z) (eN (ZL Z (zS (ze (zR ?_))))))))))))))
 have q:=wAZ aL
 obtain ⟨gV,f6,dm⟩:=q
 have q:=wBI aS aF (cD gV dm)
 obtain rfl:=q
 refine zR (ze (ze (zR ?_)))
 have q:=wAZ f6
 obtain ⟨gW,f7,dn⟩:=q
 have q:=wBI aQ aI (cH gW dn)
 obtain rfl:=q
 refine zR (ze (ze (zR ?_)))
 have q:=wAZ f7
 obtain ⟨gX,f8,dp⟩:=q
 have q:=wBI hm an (aK gX dp)
 obtain rfl:=q
 refine zR (ze ?_)
 cases f8
 exact ⟨Z,_,(wLD),bJ,_,ft,gz⟩
 rintro i7 je ir ⟨ii,cY,eI,dD,dE,dF,dG,iG,dH,dI,dJ,dK,dL,gI,fu,eW⟩ fJ
 have f9:=wCO aS aF fJ
 have dd:Hid (¬ ((↑((af:Int) - 0).toNat:Int) < af)):=zM (wAc)
 refine sR fL1 Z (oR Z (zc Z eI dL) (eN (zL (cF Z dd (Za (zi (zi (ZQ (zo (zH (rR fL2 Z (oR Z (ZG (za Z dK Z) (congrArg (jV) fT.out)) (oM Z Z (zb ?_))))))))))))))
 have q:=hJ f9
 obtain rfl:=q
 exact zH ⟨Z,_,Z,⟨ii,cY,Z,dD,dE,dF,dG,dH,dI,dJ,(bA.trans gI),fu,eW⟩⟩
 rintro i8 jf it ⟨ij,cZ,eJ,dM,dN,iH,iI,dO,dP,dQ,gJ,fw,eX⟩ fK
 have ga:=wCO aQ aI fK
 have de:Hid (¬ ((↑((1:Int) - 0).toNat:Int) < 1)):=zM (wAc)
 refine sR fL1 Z (oR Z (zc Z eJ dQ) (eN (zL (cF Z de (Za (zi (zi (ZQ (zo (zH (rR fL2 Z (oR Z (ZG (za Z dP Z) (congrArg (jV) cI.out)) (oM Z Z (zb ?_))))))))))))))
 have q:=hJ ga
 obtain rfl:=q
 exact zH ⟨Z,_,Z,⟨ij,cZ,Z,dM,dN,dO,((am.trans ao).trans gJ),fw,eX⟩⟩
 intro a5 aN
 refine zt (cr.trans (congrArg hH (hU.2 a5.out))) (kN (sR fL2 Z (oM Z eB (oM Z Z (eN (zY ?_))))))
 have q:=wBa aN
 obtain ⟨iW,aG⟩:=q
 have q:=wBZ aG
 obtain ⟨bt,fQ⟩:=q
 replace bt:=zM bt
 refine yH (fun ac cS σ_ w_=>∃ (φ_:PHeap) (av:List Res),σ_ 32=jV (↑ac:Int)/\σ_ 0=.func (.yield y) #[] #[]/\σ_ 1=.pointer (some ⟨aj,0,none⟩)/\σ_ 3=jV (↑ab:Int)/\σ_ 4=jV af/\σ_ 17=.agg B0.toArray/\σ_ 18=jV (↑ab:Int)/\σ_ 31=jV (↑p1.Starts.length:Int)/\PHeap.Le aV φ_/\St ⟨w,L,φ⟩ φ_ av w_/\PY cS φ_ av) fQ ?_ ?_ ?_
 exact ⟨aV,aq,Z,ci,cm,cn,co,cp,cq,Z,(zO _),cC,cx⟩
 rintro ac cS i4 jg iu bo ⟨cW,av,bf,dR,dS,dT,cc,dU,dV,cd,bx,fy,eY⟩ aR cE
 have bY:Hid ((↑ac:Int) < (↑p1.Starts.length:Int)):=zM (wAs bo)
 replace bo:=zM bo
 have fV:Hid (w64 ((↑ac:Int) + 1)=(↑(ac + 1):Int)):=zM (by have h1:=bt.out;have h2:=bY.out;rw [wAT] <;> omega)
 refine sR fL1 Z (oR Z (zc Z bf cd) (eN (zL (cT Z bY (kN (zL (zY (sR fL2 Z (oM Z bf (oA Z Z (eN (sR fL2 Z (oM Z cc (oM Z Z (eN (zY ?_))))))))))))))))
 have q:=wBa aR
 obtain ⟨iX,aH⟩:=q
 have q:=wBZ aH
 obtain ⟨bu,fR⟩:=q
 replace bu:=zM bu
 refine yH (fun ai cU σ_ w_=>∃ (φ_:PHeap) (aY:List Res),σ_ 36=jV (↑ai:Int)/\σ_ 0=.func (.yield y) #[] #[]/\σ_ 1=.pointer (some ⟨aj,0,none⟩)/\σ_ 3=jV (↑ab:Int)/\σ_ 4=jV af/\σ_ 6=jV (↑ac:Int)/\σ_ 17=.agg B0.toArray/\σ_ 18=jV (↑ab:Int)/\σ_ 31=jV (↑p1.Starts.length:Int)/\σ_ 32=jV (↑ac:Int)/\σ_ 35=jV af/\PHeap.Le cW φ_/\St ⟨w,L,φ⟩ φ_ aY w_/\PY cU φ_ aY) fR ?_ ?_ ?_
 exact ⟨cW,av,Z,dR,dS,dT,cc,Z,dU,dV,cd,bf,Z,(zO _),fy,eY⟩
 rintro ai cU i5 jh iv bp ⟨jp,aY,bg,bb,dW,bc,dX,bd,dY,dZ,d5,d7,cg,bz,fz,eZ⟩ gG cG
 have bZ:Hid ((↑ai:Int) < af):=zM (wAs bp)
 replace bp:=zM bp
 have fW:Hid (w64 ((↑ai:Int) + 1)=(↑(ai + 1):Int)):=zM (by have h1:=bu.out;have h2:=bZ.out;rw [wAT] <;> omega)
 refine sR fL1 Z (oR Z (zc Z bg cg) (eN (zL (cT Z bZ (kN (zL (zY (sR fL2 Z (oM Z bg (oA Z Z (eN (sR (wIJ (.fx 5 (wLU gAw) .stop)) Z (oM Z bb (oM Z bc (oM Z bd (oM Z Z ?_))))))))))))))))
 let B2:List Value:=[jV 0,jV 0,jV 0,.bool false]
 refine oR Z (zl (pv:=[(0,jV (↑ab:Int)),(1,jV (↑ac:Int)),(2,jV (↑ai:Int)),(3,.bool true)]) (z:=B2) (cs:=[jV (↑ab:Int),jV (↑ac:Int),jV (↑ai:Int),.bool true]) Z (wAG Z (wAG Z (wAG Z (wAG Z wAN)))) Zn wDS Z Z) (bnK gG fun ie fb aO=>OKS.yieldT 0 (a:=(⟨(↑ab:Int),(↑ac:Int),(↑ai:Int),true⟩:wAF)) Z Z Z Z Z Z (zB Z zN) fz hY (((am.trans ao).trans bx).trans bz) eZ Z fb Z ?_)
 rintro bL bQ iE bU cO cA aD
 rcases ie with gP | gP
 try dsimp only at aO aD
 obtain ⟨rfl,gA⟩:=aD
 have fA:St ⟨w,L,φ⟩ bL bQ bU:=cA
 refine oR Z (Ze Z Z) (oM Z Z (zk Z Z Z (zQ Z Z Z) Z bb (zk Z Z Z (zQ Z Z Z) Z bc (zk Z Z Z (zQ Z Z Z) Z bd (zk Z Z Z (zQ Z Z Z) Z Z (zg Z Z Z (zQ Z Z Z) (fun _=>zl (pv:=[(0,jV (↑ab:Int)),(1,jV (↑ac:Int)),(2,jV (↑ai:Int)),(3,.bool false)]) (z:=B2) (cs:=[jV (↑ab:Int),jV (↑ac:Int),jV (↑ai:Int),.bool false]) Z (wAG Z (wAG Z (wAG Z (wAG Z wAN)))) Zn wDS Z Z) (bnK aO fun ig fc aP=>OKS.yieldT 0 (a:=(⟨(↑ab:Int),(↑ac:Int),(↑ai:Int),false⟩:wAF)) Z Z Z (zQ Z Z Z) Z Z (zB Z zN) fA hY ((((am.trans ao).trans bx).trans bz).trans cO) gA Z fc Z ?_)))))))
 rintro aU aZ iF bV gK cB aE
 rcases ig with gQ | gQ
 try dsimp only at aP aE
 obtain ⟨rfl,gB⟩:=aE
 have fB:St ⟨w,L,φ⟩ aU aZ bV:=cB
 refine zg Z Z Z (zQ Z Z Z) (fun _=>Ze Z Z) (oR Z (zZ Z Z Z) (eN (zt Z (Zh (zo (zH (rR fL2 Z (oR Z (ZG (za Z bg Z) (congrArg (jV) fW.out)) (oM Z Z (zb ?_))))))))))
 have q:=hJ aP
 obtain rfl:=q
 exact zH ⟨Z,_,Z,⟨aU,aZ,Z,bb,dW,bc,dX,bd,dY,dZ,d5,d7,cg,((bz.trans cO).trans gK),fB,gB⟩⟩
 try dsimp only at aP aE
 obtain ⟨rfl,gC⟩:=aE
 have fC:St ⟨w,L,φ⟩ aU aZ bV:=cB
 refine zg Z Z Z (zQ Z Z Z) (fun _=>Ze Z Z) (oR Z (zZ Z Z Z) (eN (ZL Z (zS (ze (zR ?_))))))
 have q:=wAZ aP
 obtain ⟨gY,ge,dq⟩:=q
 have q:=wBI aR aH (cG gY dq)
 obtain rfl:=q
 refine zR (ze (ze (zR ?_)))
 have q:=wAZ ge
 obtain ⟨gZ,gg,dr⟩:=q
 have q:=wBI aN aG (cE gZ dr)
 obtain rfl:=q
 refine zR (ze (ze (zR ?_)))
 have q:=wAZ gg
 obtain ⟨g6,gh,dt⟩:=q
 have q:=wBI hm an (aK g6 dt)
 obtain rfl:=q
 refine zR (ze ?_)
 cases gh
 exact ⟨Z,_,(wLD),aU,_,fC,gC⟩
 try dsimp only at aO aD
 obtain ⟨rfl,gD⟩:=aD
 have fD:St ⟨w,L,φ⟩ bL bQ bU:=cA
 refine oR Z (Ze Z Z) (oM Z Z (oN Z (oN Z (oN Z (oN Z (oN Z (ZB Z Z Z (zT Z Z Z Z) (oN Z (oR Z (zP Z Z Z) (eN (ZL Z (zS (ze (zR ?_))))))))))))))
 have q:=wAZ aO
 obtain ⟨g7,gj,du⟩:=q
 have q:=wBI aR aH (cG g7 du)
 obtain rfl:=q
 refine zR (ze (ze (zR ?_)))
 have q:=wAZ gj
 obtain ⟨g8,gp,dv⟩:=q
 have q:=wBI aN aG (cE g8 dv)
 obtain rfl:=q
 refine zR (ze (ze (zR ?_)))
 have q:=wAZ gp
 obtain ⟨g9,gq,dw⟩:=q
 have q:=wBI hm an (aK g9 dw)
 obtain rfl:=q
 refine zR (ze ?_)
 cases gq
 exact ⟨Z,_,(wLD),bL,_,fD,gD⟩
 rintro i9 ji iw ⟨ik,c6,eK,d9,ef,eg,eh,iJ,ej,ek,en,eo,ep,gL,fE,ff⟩ fL
 have gt:=wCO aR aH fL
 have df:Hid (¬ ((↑((af:Int) - 0).toNat:Int) < af)):=zM (wAc)
 refine sR fL1 Z (oR Z (zc Z eK ep) (eN (zL (cF Z df (Za (zi (zi (ZQ (zo (zH (rR fL2 Z (oR Z (ZG (za Z eo Z) (congrArg (jV) fV.out)) (oM Z Z (zb ?_))))))))))))))
 have q:=hJ gt
 obtain rfl:=q
 exact zH ⟨Z,_,Z,⟨ik,c6,Z,d9,ef,eg,eh,ej,ek,en,(bx.trans gL),fE,ff⟩⟩
 rintro ja jj iy ⟨il,da,eL,er,eu,iK,iL,ew,ey,eA,gM,fG,fg⟩ fM
 have gu:=wCO aN aG fM
 have dg:Hid (¬ ((↑(((↑p1.Starts.length:Int):Int) - 0).toNat:Int) < (↑p1.Starts.length:Int))):=zM (wAc)
 refine sR fL1 Z (oR Z (zc Z eL eA) (eN (zL (cF Z dg (Za (zi (zi (ZQ (zo (zH (rR fL2 Z (oR Z (ZG (za Z ey Z) (congrArg (jV) cI.out)) (oM Z Z (zb ?_))))))))))))))
 have q:=hJ gu
 obtain rfl:=q
 exact zH ⟨Z,_,Z,⟨il,da,Z,er,eu,ew,((am.trans ao).trans gM),fG,fg⟩⟩
 rintro jb jk iz ⟨im,io,eM,iM,iN,iO,iT,fH,fh⟩ fN
 have gv:=wCO hm an fN
 have dh:Hid (¬ ((↑((4:Int) - 0).toNat:Int) < 4)):=zM (wAc)
 refine sR fL1 Z (oR Z (zc Z eM Z) (eN (zL (cF Z dh (Za (zi (zi (ZQ ?_))))))))
 cases gv
 exact ⟨Z,_,(wLD),im,_,fH,fh⟩
end Go.Proofs.Ytlnfbjphfoipaaa
namespace Go.Proofs.Ytlnfbjphfoipaaa
open Go.KL
set_option maxHeartbeats 4000000
theorem wFt (p0:wAC) (ac:Option Addr) (ah:Nat) (ae:Option Addr) (ai:Nat) (af:Option Addr) (aj:Nat) (ag:Option Addr) (ak:Nat) (w:World) (φ:PHeap) (hS:St0 w φ []) (ay:Sl φ 1 ac ah p0.Starts.length (hD KL.encI p0.Starts)) (az:Sl φ 2 ae ai p0.Splits.length (hD wAE p0.Splits)) (aD:Sl φ 3 af aj p0.Clocks.length (hD wAB p0.Clocks)) (aE:Sl φ 4 ag ak p0.Readings.length (hD wAA p0.Readings)) {r:Unit} (hm:wCs p0=some r):Gv Try.prog 81 [.agg #[.slice ac p0.Starts.length ah,.slice ae p0.Splits.length ai,.slice af p0.Clocks.length aj,.slice ag p0.Readings.length ak]] w (wCF w [] φ (fun φ_ L_ v=>∃ (b0:Nat),v=.func (.func 105) #[] #[.pointer (some ⟨b0,0,none⟩)]/\L_=[]/\Cl φ_ b0 0 [.slice ac p0.Starts.length ah,.slice ae p0.Splits.length ai,.slice af p0.Clocks.length aj,.slice ag p0.Readings.length ak])):=by
 unfold wCs at hm
 refine Gv.of Try.func81 Z Try.ntmps81 Try.results81 Z (sR gAm Z ?_)
 let B0:List Value:=[.slice ac p0.Starts.length ah,.slice ae p0.Splits.length ai,.slice af p0.Clocks.length aj,.slice ag p0.Readings.length ak]
 refine zu (cs:=B0) rfl rfl rfl rfl rfl rfl (by rfl) hS ?_
 intro W1 b2 au
 have q:=au.freeze (k:=0) rfl
 obtain ⟨am,aF,ab,av⟩:=q
 replace ab:=Cl.of ab
 have ax:sW w φ am [] W1:=av
 replace ab:Cl am b2 0 B0:=ab
 refine oA Z Z (eN (sR fL2 Z (oR Z (yl Z zN (zB Z zN)) (oA Z Z (eN (zS ?_))))))
 cases hm
 exact ⟨Z,_,(ZM Z),am,_,ax,b2,Z,Z,ab⟩
theorem wGp (p0:wAC) (ae:Option Addr) (af:Nat) (ai:Option Addr) (am:Nat) (aj:Option Addr) (an:Nat) (ak:Option Addr) (ao:Nat) (p1:wAF) (w:World) (φ:PHeap) (hS:St0 w φ []) (aL:Sl φ 1 ae af p0.Starts.length (hD KL.encI p0.Starts)) (aM:Sl φ 2 ai am p0.Splits.length (hD wAE p0.Splits)) (aN:Sl φ 3 aj an p0.Clocks.length (hD wAB p0.Clocks)) (aO:Sl φ 4 ak ao p0.Readings.length (hD wAA p0.Readings)) {r:Bool} (hm:wDC p0 p1=some r):Gv Try.prog 108 [.agg #[.slice ae p0.Starts.length af,.slice ai p0.Splits.length am,.slice aj p0.Clocks.length an,.slice ak p0.Readings.length ao],.agg #[jV p1.Kind,jV p1.Skier,jV p1.Index,.bool p1.Up]] w (wCF w [] φ (fun φ_ L_ v=>v=.bool r/\L_=[])):=by
 unfold wDC at hm
 refine Gv.of Try.func108 Z Try.ntmps108 Try.results108 Z (sR gAv Z ?_)
 let B0:List Value:=[.slice ae p0.Starts.length af,.slice ai p0.Splits.length am,.slice aj p0.Clocks.length an,.slice ak p0.Readings.length ao]
 refine zu (cs:=B0) rfl rfl rfl rfl rfl rfl (by rfl) hS ?_
 intro W1 b2 aG
 let B1:List Value:=[jV p1.Kind,jV p1.Skier,jV p1.Index,.bool p1.Up]
 refine zu (cs:=B1) rfl rfl rfl rfl rfl rfl (by rfl) aG ?_
 intro W5 b6 ah
 refine oA Z Z (eN (sR (wHd (.fx 6 (wLW (.nil)) .stop)) Z (oR Z (zG Z Z zj Z zC) (oL Z (ah.ldB (j:=0) Z Z Z zJ (v:=jV p1.Skier) Z) (oR Z (zG Z Z zK Z zy) (oL Z (ah.ldB (j:=1) Z Z Z ZK (v:=.slice ae p0.Starts.length af) Z) (oR Z (zq Z Z zE) (oR Z (yJ Z Z Z) (bnK hm fun x9 aE aH=>zF 0 Z Z Z Z (zD Z Z yP (zB Z (zB Z (zB Z zN))) Z) ah (fun hs=>wBj p1.Skier 0 (w64 ((↑p0.Starts.length:Int) - 1)) W5 φ hs aE) (.inr Z) ?_)))))))))
 rintro ap aJ aQ ax aP aF ⟨rfl,rfl⟩
 have ag:sW w φ ap [.blk b6 78 B1,.blk b2 28 B0] ax:=aF
 refine oM Z Z (ifc aH ?_ ?_)
 intro ac av
 refine zg Z Z Z (zQ Z Z (congrArg hH ac.out)) (fun _=>zG Z Z zj Z zC) (ZJ Z Z Z (zQ Z Z (congrArg hH ac.out)) (ag.ldB (j:=0) Z Z Z zJ (v:=jV p1.Index) Z) Z (zg Z Z Z (zQ Z Z (congrArg hH ac.out)) (fun _=>Zs Z Z Z) (oR Z (zP Z (congrArg hH ac.out) Z) (oA Z Z (eN (zS ?_))))))
 first | (obtain rfl:=hJ av) | cases av
 exact ⟨rfl,_,(ZM rfl),ap,_,(ag.pick [] _ (by decide) rfl),rfl,rfl⟩
 intro ac aI
 refine ZD Z Z Z (zT Z Z (congrArg hH (hU.2 ac.out)) Z) (ZD Z Z Z (zT Z Z (congrArg hH (hU.2 ac.out)) Z) (ZD Z Z Z (zT Z Z (congrArg hH (hU.2 ac.out)) Z) (oR Z (zZ Z (congrArg hH (hU.2 ac.out)) Z) (oA Z Z (eN (zS ?_))))))
 have hE:=hJ aI;first | subst r | cases hE
 exact ⟨rfl,_,(ZM rfl),ap,_,(ag.pick [] _ (by decide) rfl),rfl,rfl⟩
theorem wGq (p0:wAC) (aE:Option Addr) (aI:Nat) (aF:Option Addr) (aJ:Nat) (aG:Option Addr) (aK:Nat) (aH:Option Addr) (aL:Nat) (p1:wAF) (w:World) (φ:PHeap) (hS:St0 w φ []) (bD:Sl φ 1 aE aI p0.Starts.length (hD KL.encI p0.Starts)) (bE:Sl φ 2 aF aJ p0.Splits.length (hD wAE p0.Splits)) (bF:Sl φ 3 aG aK p0.Clocks.length (hD wAB p0.Clocks)) (bG:Sl φ 4 aH aL p0.Readings.length (hD wAA p0.Readings)) {r:wAJ × wAJ} (hm:wDe p0 p1=some r):Gv Try.prog 109 [.agg #[.slice aE p0.Starts.length aI,.slice aF p0.Splits.length aJ,.slice aG p0.Clocks.length aK,.slice aH p0.Readings.length aL],.agg #[jV p1.Kind,jV p1.Skier,jV p1.Index,.bool p1.Up]] w (wCF w [] φ (fun φ_ L_ v=>v=.tuple #[.agg #[jV r.1.skier,jV r.1.mat],.agg #[jV r.2.skier,jV r.2.mat]]/\L_=[])):=by
 unfold wDe at hm
 refine Gv.of Try.func109 Z Try.ntmps109 Try.results109 Z (sR gBe Z ?_)
 let B0:List Value:=[.slice aE p0.Starts.length aI,.slice aF p0.Splits.length aJ,.slice aG p0.Clocks.length aK,.slice aH p0.Readings.length aL]
 refine zu (cs:=B0) rfl rfl rfl rfl rfl rfl (by rfl) hS ?_
 intro W1 b2 a9
 let B1:List Value:=[jV p1.Kind,jV p1.Skier,jV p1.Index,.bool p1.Up]
 refine zu (cs:=B1) rfl rfl rfl rfl rfl rfl (by rfl) a9 ?_
 intro W5 b6 bi
 let B2:List Value:=[jV 0,jV 0]
 refine zV (cs:=B2) Z Z Z Z Z zd Z bi ?_
 intro W9 ah a7
 refine zV (cs:=B2) Z Z Z Z Z zd Z a7 ?_
 intro aM ai a8
 refine eN ?_
 have q:=bnd hm
 obtain ⟨⟨bt,bu⟩,br,aQ⟩:=q
 try dsimp only at aQ
 let B3:List Value:=[jV p1.Skier,jV 0]
 let B4:List Value:=[jV bt,jV bu]
 refine yO (fun σ_ w_=>∃ (φ_:PHeap),σ_ 4=.pointer (some ⟨ah,0,none⟩)/\σ_ 5=.pointer (some ⟨ai,0,none⟩)/\PHeap.Le φ φ_/\sW w φ φ_ [.blk ai 104 B3,.blk ah 104 B4,.blk b6 78 B1,.blk b2 28 B0] w_) ?_ ?_
 refine bnK br fun an aO aD=>ZE ZF [2,3,2,3,0,0] (.fl 1 (.fx 0 (.fx 2 (.fl 3 gAn) (.fx 4 (.fx 2 (.fl 3 (.fx 5 .nil .stop)) .stop) .stop)) (.fx 2 (.fl 3 (.fx 0 gAn .stop)) .stop))) (by kernel_rfl) ?_
 have ao:=a8.drew
 generalize hw_W40:({ aM with drawn:=aM.drawn + 1 }:World)=aN at ao ⊢
 refine oR Z (zG Z Z zj Z zC) (zr ?_ ?_)
 refine zF 0 Z Z Z Z (zD Z Z yX zN Z) ao (fun hs=>wBe aN φ hs aO) (.inr Z) ?_
 rintro am bw bI aS aR ba ⟨rfl,rfl⟩
 have ay:sW w φ am [.blk ai 104 B2,.blk ah 104 B2,.blk b6 78 B1,.blk b2 28 B0] aS:=ba
 refine zr ?_ ?_
 refine ZR Z Z Z Z (ay.ldB (j:=2) Z Z Z zJ (v:=jV p1.Skier) Z) (oR Z (zl (pv:=[(0,jV p1.Skier),(1,jV 0)]) (z:=B2) (cs:=B3) Z (wAG Z (wAG Z wAN)) zd wBU Z Z) ?_)
 let B5:List Value:=[jV an.skier,jV an.mat]
 refine zW (j:=1) (vs:=B5) Z Z Z Z ay Z Z Z Z zI (zA Z) Z Z Z ?_
 intro aT bb
 have bc:sW w φ am [.blk ai 104 B2,.blk ah 104 B5,.blk b6 78 B1,.blk b2 28 B0] aT:=bb
 refine zW (j:=0) (vs:=B3) Z Z Z Z bc Z Z Z Z zI (zA Z) Z Z Z ?_
 intro aU bd
 have be:sW w φ am [.blk ai 104 B3,.blk ah 104 B5,.blk b6 78 B1,.blk b2 28 B0] aU:=bd
 refine zb ?_
 cases aD
 exact zH ⟨Z,⟨am,Z,Z,aR,be⟩⟩
 let B6:List Value:=[jV an.skier,jV an.mat]
 refine zW (j:=1) (vs:=B6) Z Z Z Z ay Z Z Z Z zI (zA Z) Z Z Z ?_
 intro aV bf
 have aP:sW w φ am [.blk ai 104 B2,.blk ah 104 B6,.blk b6 78 B1,.blk b2 28 B0] aV:=bf
 refine ZR Z Z Z Z (aP.ldB (j:=2) Z Z Z zJ (v:=jV p1.Skier) Z) (oR Z (zl (pv:=[(0,jV p1.Skier),(1,jV 0)]) (z:=B2) (cs:=B3) Z (wAG Z (wAG Z wAN)) zd wBU Z Z) (zW (j:=0) (vs:=B3) Z Z Z Z aP Z Z Z Z zI (zA Z) Z Z Z ?_))
 intro aW bg
 have bh:sW w φ am [.blk ai 104 B3,.blk ah 104 B6,.blk b6 78 B1,.blk b2 28 B0] aW:=bg
 refine zb ?_
 cases aD
 exact zH ⟨Z,⟨am,Z,Z,aR,bh⟩⟩
 refine ZR Z Z Z Z (ao.ldB (j:=2) Z Z Z zJ (v:=jV p1.Skier) Z) (oR Z (zl (pv:=[(0,jV p1.Skier),(1,jV 0)]) (z:=B2) (cs:=B3) Z (wAG Z (wAG Z wAN)) zd wBU Z Z) (zF 0 Z Z Z Z (zD Z Z yX zN Z) ao (fun hs=>wBe aN φ hs aO) (.inr Z) ?_))
 rintro ap bx bJ aX bs bj ⟨rfl,rfl⟩
 have bm:sW w φ ap [.blk ai 104 B2,.blk ah 104 B2,.blk b6 78 B1,.blk b2 28 B0] aX:=bj
 let B7:List Value:=[jV an.skier,jV an.mat]
 refine zW (j:=1) (vs:=B7) Z Z Z Z bm Z Z Z Z zI (zA Z) Z Z Z ?_
 intro aY bn
 have bo:sW w φ ap [.blk ai 104 B2,.blk ah 104 B7,.blk b6 78 B1,.blk b2 28 B0] aY:=bn
 refine zW (j:=0) (vs:=B3) Z Z Z Z bo Z Z Z Z zI (zA Z) Z Z Z ?_
 intro aZ bp
 have bq:sW w φ ap [.blk ai 104 B3,.blk ah 104 B7,.blk b6 78 B1,.blk b2 28 B0] aZ:=bp
 refine zb ?_
 cases aD
 exact zH ⟨Z,⟨ap,Z,Z,bs,bq⟩⟩
 rintro bK bB ⟨bv,a5,a6,bH,az⟩
 refine zS ?_
 cases aQ
 exact ⟨rfl,_,(wDy (rs:=[.cell 4 104,.cell 5 104]) (vs:=[.agg B4.toArray,.agg B3.toArray]) ⟨⟨_,a5,(wBA zh zI (az.blkAt (k:=1) rfl) (vs:=B4) rfl rfl)⟩,⟨⟨_,a6,(wBA zh zI (az.blkAt (k:=0) rfl) (vs:=B3) rfl rfl)⟩,trivial⟩⟩ rfl),bv,_,(az.pick [] _ (by decide) rfl),rfl,rfl⟩
theorem wGr (p0:wAC) (af:Option Addr) (ag:Nat) (ah:Option Addr) (ak:Nat) (ai:Option Addr) (am:Nat) (aj:Option Addr) (an:Nat) (p1:wAF) (w:World) (φ:PHeap) (hS:St0 w φ []) (ap:Sl φ 1 af ag p0.Starts.length (hD KL.encI p0.Starts)) (aL:Sl φ 2 ah ak p0.Splits.length (hD wAE p0.Splits)) (aM:Sl φ 3 ai am p0.Clocks.length (hD wAB p0.Clocks)) (aN:Sl φ 4 aj an p0.Readings.length (hD wAA p0.Readings)) {r:Int × Int} (hm:wDf p0 p1=some r):Gv Try.prog 110 [.agg #[.slice af p0.Starts.length ag,.slice ah p0.Splits.length ak,.slice ai p0.Clocks.length am,.slice aj p0.Readings.length an],.agg #[jV p1.Kind,jV p1.Skier,jV p1.Index,.bool p1.Up]] w (wCF w [] φ (fun φ_ L_ v=>v=.tuple #[jV r.1,jV r.2]/\L_=[])):=by
 unfold wDf at hm
 refine Gv.of Try.func110 rfl Try.ntmps110 Try.results110 rfl (sR gBf rfl (zu (cs:=[.slice af p0.Starts.length ag,.slice ah p0.Splits.length ak,.slice ai p0.Clocks.length am,.slice aj p0.Readings.length an]) rfl rfl rfl rfl rfl rfl (by rfl) hS ?_))
 intro W1 b2 az
 refine zu (cs:=[jV p1.Kind,jV p1.Skier,jV p1.Index,.bool p1.Up]) rfl rfl rfl rfl rfl rfl (by rfl) az ?_
 intro W5 b6 aD
 refine yK rfl rfl rfl rfl rfl rfl (yK rfl rfl rfl rfl rfl rfl (eN (zL (ZE ZF [3,1,3,1,3,1,3,1,3,1,3,1,3,3,3] fL15 (by kernel_rfl) ?_))))
 have ac:=aD.drew
 generalize hw_W10:({ W5 with drawn:=W5.drawn + 1 }:World)=aG at ac ⊢
 refine oR Z (zG Z Z zK Z zy) (oL Z (ac.ldB (j:=1) Z Z Z ZK (v:=.slice af p0.Starts.length ag) Z) (oR Z (zG Z Z zj Z zC) (oL Z (ac.ldB (j:=0) Z Z Z zJ (v:=jV p1.Skier) Z) (bnK hm fun aq ae aE=>?_))))
 have q:=ap.el (fun _=>rfl) (wAX ae)
 obtain ⟨aH,aO,au,ax⟩:=q
 refine oR Z (ZY Z Z au Z zE zC (wCG ae) (wCI ae)) (oL Z (ac.ldC (f:=0) ax (v:=jV aq) Z Z zJ Z) (oR Z (zG Z Z zK Z zy) (oL Z (ac.ldB (j:=1) Z Z Z ZK (v:=.slice af p0.Starts.length ag) Z) (oR Z (zG Z Z zj Z zC) (oL Z (ac.ldB (j:=0) Z Z Z zJ (v:=jV p1.Skier) Z) ?_)))))
 have q:=ap.el (fun _=>rfl) (wAX ae)
 obtain ⟨aI,aP,av,ay⟩:=q
 refine oR Z (ZY Z Z av Z zE zC (wCG ae) (wCI ae)) (oL Z (ac.ldC (f:=0) ay (v:=jV aq) Z Z zJ Z) (oR Z (Runs.negw Z Z) (oA Z Z (oA Z Z (eN (zS ?_))))))
 cases aE
 exact ⟨rfl,_,(wDx rfl rfl),φ,_,(ac.pick [] _ (by decide) rfl),rfl,rfl⟩
theorem wGs (p0:wAC) (af:Option Addr) (ah:Nat) (ag:Option Addr) (ai:Nat) (an:Option Addr) (ap:Nat) (ao:Option Addr) (aq:Nat) (p1:wAF) (w:World) (φ:PHeap) (hS:St0 w φ []) (aS:Sl φ 1 af ah p0.Starts.length (hD KL.encI p0.Starts)) (aT:Sl φ 2 ag ai p0.Splits.length (hD wAE p0.Splits)) (aU:Sl φ 3 an ap p0.Clocks.length (hD wAB p0.Clocks)) (aV:Sl φ 4 ao aq p0.Readings.length (hD wAA p0.Readings)) {r:Bool} (hm:wDD p0 p1=some r):Gv Try.prog 111 [.agg #[.slice af p0.Starts.length ah,.slice ag p0.Splits.length ai,.slice an p0.Clocks.length ap,.slice ao p0.Readings.length aq],.agg #[jV p1.Kind,jV p1.Skier,jV p1.Index,.bool p1.Up]] w (wCF w [] φ (fun φ_ L_ v=>v=.bool r/\L_=[])):=by
 unfold wDD at hm
 refine Gv.of Try.func111 Z Try.ntmps111 Try.results111 Z (sR gAv Z ?_)
 let B0:List Value:=[.slice af p0.Starts.length ah,.slice ag p0.Splits.length ai,.slice an p0.Clocks.length ap,.slice ao p0.Readings.length aq]
 refine zu (cs:=B0) rfl rfl rfl rfl rfl rfl (by rfl) hS ?_
 intro W1 b2 aJ
 let B1:List Value:=[jV p1.Kind,jV p1.Skier,jV p1.Index,.bool p1.Up]
 refine zu (cs:=B1) rfl rfl rfl rfl rfl rfl (by rfl) aJ ?_
 intro W5 b6 am
 refine oA Z Z (eN (sR (wHd (.fx 6 (wLX gAx) .stop)) Z (oR Z (zG Z Z zj Z zC) (oL Z (am.ldB (j:=0) Z Z Z zJ (v:=jV p1.Skier) Z) (oR Z (zG Z Z zK Z zy) (oL Z (am.ldB (j:=1) Z Z Z ZK (v:=.slice af p0.Starts.length ah) Z) (oR Z (zq Z Z zE) (oR Z (yJ Z Z Z) (bnK hm fun x9 aF aL=>zF 0 Z Z Z Z (zD Z Z yP (zB Z (zB Z (zB Z zN))) Z) am (fun hs=>wBj p1.Skier 0 (w64 ((↑p0.Starts.length:Int) - 1)) W5 φ hs aF) (.inr Z) ?_)))))))))
 rintro au aP aY av aW aH ⟨rfl,rfl⟩
 have ae:sW w φ au [.blk b6 78 B1,.blk b2 28 B0] av:=aH
 refine oM Z Z (ifc aL ?_ ?_)
 intro ab aM
 refine zg Z Z Z (zQ Z Z (congrArg hH ab.out)) (fun _=>zG Z Z zj Z zC) (ZJ Z Z Z (zQ Z Z (congrArg hH ab.out)) (ae.ldB (j:=0) Z Z Z zJ (v:=jV p1.Index) Z) Z (zg Z Z Z (zQ Z Z (congrArg hH ab.out)) (fun _=>zG Z Z zK Z yC) (ZJ Z Z Z (zQ Z Z (congrArg hH ab.out)) (ae.ldB (j:=1) Z Z Z yQ (v:=.slice ag p0.Splits.length ai) Z) Z (zg Z Z Z (zQ Z Z (congrArg hH ab.out)) (fun _=>zq Z Z ZP) (zg Z Z Z (zQ Z Z (congrArg hH ab.out)) (fun _=>yJ Z Z Z) (bnK aM fun a5 aG aN=>zF 0 Z Z Z (zQ Z Z (congrArg hH ab.out)) (zD Z Z yP (zB Z (zB Z (zB Z zN))) Z) ae (fun hs=>wBj p1.Index 0 (w64 ((↑p0.Splits.length:Int) - 1)) av au hs aG) (.inr Z) ?_))))))
 rintro az aQ aZ aD aX aI ⟨rfl,rfl⟩
 have aK:sW w φ az [.blk b6 78 B1,.blk b2 28 B0] aD:=aI
 refine oR Z (zP Z (congrArg hH ab.out) Z) (oA Z Z (eN (zS ?_)))
 have hE:=hJ aN;first | subst r | cases hE
 exact ⟨rfl,_,(ZM rfl),az,_,(aK.pick [] _ (by decide) rfl),rfl,rfl⟩
 intro ab aO
 refine ZD Z Z Z (zT Z Z (congrArg hH (hU.2 ab.out)) Z) (ZD Z Z Z (zT Z Z (congrArg hH (hU.2 ab.out)) Z) (ZD Z Z Z (zT Z Z (congrArg hH (hU.2 ab.out)) Z) (ZD Z Z Z (zT Z Z (congrArg hH (hU.2 ab.out)) Z) (ZD Z Z Z (zT Z Z (congrArg hH (hU.2 ab.out)) Z) (ZD Z Z Z (zT Z Z (congrArg hH (hU.2 ab.out)) Z) (ZB Z Z Z (zT Z Z (congrArg hH (hU.2 ab.out)) Z) (oR Z (zZ Z (congrArg hH (hU.2 ab.out)) Z) (oA Z Z (eN (zS ?_))))))))))
 have hE:=hJ aO;first | subst r | cases hE
 exact ⟨rfl,_,(ZM rfl),au,_,(ae.pick [] _ (by decide) rfl),rfl,rfl⟩
theorem wGt (p0:wAC) (au:Option Addr) (az:Nat) (av:Option Addr) (aD:Nat) (ax:Option Addr) (aE:Nat) (ay:Option Addr) (aF:Nat) (p1:wAF) (w:World) (φ:PHeap) (hS:St0 w φ []) (bx:Sl φ 1 au az p0.Starts.length (hD KL.encI p0.Starts)) (bz:Sl φ 2 av aD p0.Splits.length (hD wAE p0.Splits)) (bA:Sl φ 3 ax aE p0.Clocks.length (hD wAB p0.Clocks)) (bB:Sl φ 4 ay aF p0.Readings.length (hD wAA p0.Readings)) {r:wAJ × wAJ} (hm:wDg p0 p1=some r):Gv Try.prog 112 [.agg #[.slice au p0.Starts.length az,.slice av p0.Splits.length aD,.slice ax p0.Clocks.length aE,.slice ay p0.Readings.length aF],.agg #[jV p1.Kind,jV p1.Skier,jV p1.Index,.bool p1.Up]] w (wCF w [] φ (fun φ_ L_ v=>v=.tuple #[.agg #[jV r.1.skier,jV r.1.mat],.agg #[jV r.2.skier,jV r.2.mat]]/\L_=[])):=by
 unfold wDg at hm
 refine Gv.of Try.func112 Z Try.ntmps112 Try.results112 Z (sR gBe Z ?_)
 let B0:List Value:=[.slice au p0.Starts.length az,.slice av p0.Splits.length aD,.slice ax p0.Clocks.length aE,.slice ay p0.Readings.length aF]
 refine zu (cs:=B0) rfl rfl rfl rfl rfl rfl (by rfl) hS ?_
 intro W1 b2 a5
 let B1:List Value:=[jV p1.Kind,jV p1.Skier,jV p1.Index,.bool p1.Up]
 refine zu (cs:=B1) rfl rfl rfl rfl rfl rfl (by rfl) a5 ?_
 intro W5 b6 bq
 let B2:List Value:=[jV 0,jV 0]
 refine zV (cs:=B2) Z Z Z Z Z zd Z bq ?_
 intro W9 ai aX
 refine zV (cs:=B2) Z Z Z Z Z zd Z aX ?_
 intro aG aj aY
 refine eN ?_
 have q:=bnd hm
 obtain ⟨⟨⟩,ap,aJ⟩:=q
 try dsimp only at aJ
 let B3:List Value:=[jV p1.Skier,jV (w64 (p1.Index + 1))]
 let B4:List Value:=[jV p1.Skier,jV p1.Index]
 refine yO (fun σ_ w_=>∃ (φ_:PHeap),σ_ 4=.pointer (some ⟨ai,0,none⟩)/\σ_ 5=.pointer (some ⟨aj,0,none⟩)/\PHeap.Le φ φ_/\sW w φ φ_ [.blk aj 104 B3,.blk ai 104 B4,.blk b6 78 B1,.blk b2 28 B0] w_) ?_ ?_
 refine ZE ZF [3,1,3,1,3,3,2,3,2,3,3,0,0] (wHd (.fl 7 (.fx 6 (.fx 8 (.fl 9 gAy) (.fx 11 gBg .stop)) (.fx 8 (.fl 9 (.fx 6 gAy (.fx 11 gAz .stop))) (.fx 11 (.fx 6 gBg (.fx 8 (.fl 9 gAz) .stop)) .stop))))) (by kernel_rfl) ?_
 have an:=aY.drew
 generalize hw_W27:({ aG with drawn:=aG.drawn + 1 }:World)=bt at an ⊢
 refine oR Z (zG Z Z zj Z zC) (oL Z (an.ldB (j:=2) Z Z Z zJ (v:=jV p1.Skier) Z) (oR Z (zG Z Z zj Z zC) (oL Z (an.ldB (j:=2) Z Z Z zJ (v:=jV p1.Index) Z) (oR Z (zl (pv:=[(0,jV p1.Skier),(1,jV p1.Index)]) (z:=B2) (cs:=B4) Z (wAG Z (wAG Z wAN)) zd wBU Z Z) (oR Z (zG Z Z zj Z zC) (oR Z (zG Z Z zj Z zC) (zr ?_ ?_)))))))
 refine ZR Z Z Z Z (an.ldB (j:=2) Z Z Z zJ (v:=jV p1.Skier) Z) (zr ?_ ?_)
 refine ZR Z Z Z Z (an.ldB (j:=2) Z Z Z zJ (v:=jV p1.Index) Z) (oR Z (za Z Z Z) (oR Z (zl (pv:=[(0,jV p1.Skier),(1,jV (w64 (p1.Index + 1)))]) (z:=B2) (cs:=B3) Z (wAG Z (wAG Z wAN)) zd wBU Z Z) (zW (j:=1) (vs:=B4) Z Z Z Z an Z Z Z Z zI (zA Z) Z Z Z ?_)))
 intro aK aZ
 have a6:sW w φ φ [.blk aj 104 B2,.blk ai 104 B4,.blk b6 78 B1,.blk b2 28 B0] aK:=aZ
 refine zW (j:=0) (vs:=B3) Z Z Z Z a6 Z Z Z Z zI (zA Z) Z Z Z ?_
 intro aL a7
 have a8:sW w φ φ [.blk aj 104 B3,.blk ai 104 B4,.blk b6 78 B1,.blk b2 28 B0] aL:=a7
 refine zb ?_
 cases ap
 exact zH ⟨Z,⟨φ,Z,Z,(zO _),a8⟩⟩
 refine zW (j:=1) (vs:=B4) Z Z Z Z an Z Z Z Z zI (zA Z) Z Z Z ?_
 intro aM a9
 have aH:sW w φ φ [.blk aj 104 B2,.blk ai 104 B4,.blk b6 78 B1,.blk b2 28 B0] aM:=a9
 refine ZR Z Z Z Z (aH.ldB (j:=2) Z Z Z zJ (v:=jV p1.Index) Z) (oR Z (za Z Z Z) (oR Z (zl (pv:=[(0,jV p1.Skier),(1,jV (w64 (p1.Index + 1)))]) (z:=B2) (cs:=B3) Z (wAG Z (wAG Z wAN)) zd wBU Z Z) (zW (j:=0) (vs:=B3) Z Z Z Z aH Z Z Z Z zI (zA Z) Z Z Z ?_)))
 intro aN ba
 have bb:sW w φ φ [.blk aj 104 B3,.blk ai 104 B4,.blk b6 78 B1,.blk b2 28 B0] aN:=ba
 refine zb ?_
 cases ap
 exact zH ⟨Z,⟨φ,Z,Z,(zO _),bb⟩⟩
 refine zr ?_ ?_
 refine ZR Z Z Z Z (an.ldB (j:=2) Z Z Z zJ (v:=jV p1.Index) Z) (oR Z (za Z Z Z) (zr ?_ ?_))
 refine ZR Z Z Z Z (an.ldB (j:=2) Z Z Z zJ (v:=jV p1.Skier) Z) (oR Z (zl (pv:=[(0,jV p1.Skier),(1,jV (w64 (p1.Index + 1)))]) (z:=B2) (cs:=B3) Z (wAG Z (wAG Z wAN)) zd wBU Z Z) (zW (j:=1) (vs:=B4) Z Z Z Z an Z Z Z Z zI (zA Z) Z Z Z ?_))
 intro aO bc
 have bd:sW w φ φ [.blk aj 104 B2,.blk ai 104 B4,.blk b6 78 B1,.blk b2 28 B0] aO:=bc
 refine zW (j:=0) (vs:=B3) Z Z Z Z bd Z Z Z Z zI (zA Z) Z Z Z ?_
 intro aP be
 have bf:sW w φ φ [.blk aj 104 B3,.blk ai 104 B4,.blk b6 78 B1,.blk b2 28 B0] aP:=be
 refine zb ?_
 cases ap
 exact zH ⟨Z,⟨φ,Z,Z,(zO _),bf⟩⟩
 refine zW (j:=1) (vs:=B4) Z Z Z Z an Z Z Z Z zI (zA Z) Z Z Z ?_
 intro aQ bg
 have aI:sW w φ φ [.blk aj 104 B2,.blk ai 104 B4,.blk b6 78 B1,.blk b2 28 B0] aQ:=bg
 refine ZR Z Z Z Z (aI.ldB (j:=2) Z Z Z zJ (v:=jV p1.Skier) Z) (oR Z (zl (pv:=[(0,jV p1.Skier),(1,jV (w64 (p1.Index + 1)))]) (z:=B2) (cs:=B3) Z (wAG Z (wAG Z wAN)) zd wBU Z Z) (zW (j:=0) (vs:=B3) Z Z Z Z aI Z Z Z Z zI (zA Z) Z Z Z ?_))
 intro aR bh
 have bi:sW w φ φ [.blk aj 104 B3,.blk ai 104 B4,.blk b6 78 B1,.blk b2 28 B0] aR:=bh
 refine zb ?_
 cases ap
 exact zH ⟨Z,⟨φ,Z,Z,(zO _),bi⟩⟩
 refine zW (j:=1) (vs:=B4) Z Z Z Z an Z Z Z Z zI (zA Z) Z Z Z ?_
 intro aS bj
 have ao:sW w φ φ [.blk aj 104 B2,.blk ai 104 B4,.blk b6 78 B1,.blk b2 28 B0] aS:=bj
 refine zr ?_ ?_
 refine ZR Z Z Z Z (ao.ldB (j:=2) Z Z Z zJ (v:=jV p1.Skier) Z) (ZR Z Z Z Z (ao.ldB (j:=2) Z Z Z zJ (v:=jV p1.Index) Z) (oR Z (za Z Z Z) (oR Z (zl (pv:=[(0,jV p1.Skier),(1,jV (w64 (p1.Index + 1)))]) (z:=B2) (cs:=B3) Z (wAG Z (wAG Z wAN)) zd wBU Z Z) (zW (j:=0) (vs:=B3) Z Z Z Z ao Z Z Z Z zI (zA Z) Z Z Z ?_))))
 intro aT bm
 have bn:sW w φ φ [.blk aj 104 B3,.blk ai 104 B4,.blk b6 78 B1,.blk b2 28 B0] aT:=bm
 refine zb ?_
 cases ap
 exact zH ⟨Z,⟨φ,Z,Z,(zO _),bn⟩⟩
 refine ZR Z Z Z Z (ao.ldB (j:=2) Z Z Z zJ (v:=jV p1.Index) Z) (oR Z (za Z Z Z) (ZR Z Z Z Z (ao.ldB (j:=2) Z Z Z zJ (v:=jV p1.Skier) Z) (oR Z (zl (pv:=[(0,jV p1.Skier),(1,jV (w64 (p1.Index + 1)))]) (z:=B2) (cs:=B3) Z (wAG Z (wAG Z wAN)) zd wBU Z Z) (zW (j:=0) (vs:=B3) Z Z Z Z ao Z Z Z Z zI (zA Z) Z Z Z ?_))))
 intro aU bo
 have bp:sW w φ φ [.blk aj 104 B3,.blk ai 104 B4,.blk b6 78 B1,.blk b2 28 B0] aU:=bo
 refine zb ?_
 cases ap
 exact zH ⟨Z,⟨φ,Z,Z,(zO _),bp⟩⟩
 rintro bD bv ⟨br,aV,aW,bC,aq⟩
 refine zS ?_
 cases aJ
 exact ⟨rfl,_,(wDy (rs:=[.cell 4 104,.cell 5 104]) (vs:=[.agg B4.toArray,.agg B3.toArray]) ⟨⟨_,aV,(wBA zh zI (aq.blkAt (k:=1) rfl) (vs:=B4) rfl rfl)⟩,⟨⟨_,aW,(wBA zh zI (aq.blkAt (k:=0) rfl) (vs:=B3) rfl rfl)⟩,trivial⟩⟩ rfl),br,_,(aq.pick [] _ (by decide) rfl),rfl,rfl⟩
theorem wGu (p0:wAC) (ah:Option Addr) (ak:Nat) (af:Option Addr) (ag:Nat) (ai:Option Addr) (am:Nat) (aj:Option Addr) (an:Nat) (p1:wAF) (w:World) (φ:PHeap) (hS:St0 w φ []) (aL:Sl φ 1 ah ak p0.Starts.length (hD KL.encI p0.Starts)) (ap:Sl φ 2 af ag p0.Splits.length (hD wAE p0.Splits)) (aM:Sl φ 3 ai am p0.Clocks.length (hD wAB p0.Clocks)) (aN:Sl φ 4 aj an p0.Readings.length (hD wAA p0.Readings)) {r:Int × Int} (hm:wDh p0 p1=some r):Gv Try.prog 113 [.agg #[.slice ah p0.Starts.length ak,.slice af p0.Splits.length ag,.slice ai p0.Clocks.length am,.slice aj p0.Readings.length an],.agg #[jV p1.Kind,jV p1.Skier,jV p1.Index,.bool p1.Up]] w (wCF w [] φ (fun φ_ L_ v=>v=.tuple #[jV r.1,jV r.2]/\L_=[])):=by
 unfold wDh at hm
 refine Gv.of Try.func113 rfl Try.ntmps113 Try.results113 rfl (sR gBf rfl (zu (cs:=[.slice ah p0.Starts.length ak,.slice af p0.Splits.length ag,.slice ai p0.Clocks.length am,.slice aj p0.Readings.length an]) rfl rfl rfl rfl rfl rfl (by rfl) hS ?_))
 intro W1 b2 az
 refine zu (cs:=[jV p1.Kind,jV p1.Skier,jV p1.Index,.bool p1.Up]) rfl rfl rfl rfl rfl rfl (by rfl) az ?_
 intro W5 b6 aD
 refine yK rfl rfl rfl rfl rfl rfl (yK rfl rfl rfl rfl rfl rfl (eN (zL (ZE ZF [3,1,3,1,3,3,1,3,1,3,1,3,3,1,3,3,3] fL17 (by kernel_rfl) ?_))))
 have ac:=aD.drew
 generalize hw_W10:({ W5 with drawn:=W5.drawn + 1 }:World)=aG at ac ⊢
 refine oR Z (zG Z Z zK Z yC) (oL Z (ac.ldB (j:=1) Z Z Z yQ (v:=.slice af p0.Splits.length ag) Z) (oR Z (zG Z Z zj Z zC) (oL Z (ac.ldB (j:=0) Z Z Z zJ (v:=jV p1.Index) Z) (bnK hm fun aq ae aE=>?_))))
 have q:=ap.el (fun _=>rfl) (wAX ae)
 obtain ⟨aH,aO,au,ax⟩:=q
 refine oR Z (ZY Z Z au Z ZP ZA (wCG ae) (wCI ae)) (oR Z (zG Z Z ZX Z zC) (oL Z (ac.ldC (f:=1) ax (v:=jV aq.Hi) Z Z zJ Z) (oR Z (zG Z Z zK Z yC) (oL Z (ac.ldB (j:=1) Z Z Z yQ (v:=.slice af p0.Splits.length ag) Z) (oR Z (zG Z Z zj Z zC) (oL Z (ac.ldB (j:=0) Z Z Z zJ (v:=jV p1.Index) Z) ?_))))))
 have q:=ap.el (fun _=>rfl) (wAX ae)
 obtain ⟨aI,aP,av,ay⟩:=q
 refine oR Z (ZY Z Z av Z ZP ZA (wCG ae) (wCI ae)) (oR Z (zG Z Z ZX Z zC) (oL Z (ac.ldC (f:=0) ay (v:=jV aq.Lo) Z Z zJ Z) (oR Z (Runs.negw Z Z) (oA Z Z (oA Z Z (eN (zS ?_)))))))
 cases aE
 exact ⟨rfl,_,(wDx rfl rfl),φ,_,(ac.pick [] _ (by decide) rfl),rfl,rfl⟩
theorem wGv (p0:wAC) (ah:Option Addr) (ak:Nat) (ai:Option Addr) (am:Nat) (af:Option Addr) (ag:Nat) (aj:Option Addr) (an:Nat) (p1:wAF) (w:World) (φ:PHeap) (hS:St0 w φ []) (aL:Sl φ 1 ah ak p0.Starts.length (hD KL.encI p0.Starts)) (aM:Sl φ 2 ai am p0.Splits.length (hD wAE p0.Splits)) (aN:Sl φ 3 af ag p0.Clocks.length (hD wAB p0.Clocks)) (aO:Sl φ 4 aj an p0.Readings.length (hD wAA p0.Readings)) {r:Bool} (hm:wDE p0 p1=some r):Gv Try.prog 114 [.agg #[.slice ah p0.Starts.length ak,.slice ai p0.Splits.length am,.slice af p0.Clocks.length ag,.slice aj p0.Readings.length an],.agg #[jV p1.Kind,jV p1.Skier,jV p1.Index,.bool p1.Up]] w (wCF w [] φ (fun φ_ L_ v=>v=.bool r/\L_=[])):=by
 unfold wDE at hm
 refine Gv.of Try.func114 Z Try.ntmps114 Try.results114 Z (sR gAv Z ?_)
 let B0:List Value:=[.slice ah p0.Starts.length ak,.slice ai p0.Splits.length am,.slice af p0.Clocks.length ag,.slice aj p0.Readings.length an]
 refine zu (cs:=B0) rfl rfl rfl rfl rfl rfl (by rfl) hS ?_
 intro W1 b2 aH
 let B1:List Value:=[jV p1.Kind,jV p1.Skier,jV p1.Index,.bool p1.Up]
 refine zu (cs:=B1) rfl rfl rfl rfl rfl rfl (by rfl) aH ?_
 intro W5 b6 ae
 refine oA Z Z (eN (sR (wKz (.fx 10 (.fl 11 (.fl 12 .nil)) .stop)) Z (oR Z (zG Z Z zj Z zC) (oL Z (ae.ldB (j:=0) Z Z Z zJ (v:=jV p1.Skier) Z) (oR Z (Zs Z Z Z) (oM Z Z ?_))))))
 by_cases c9:p1.Skier=0
 have aq:=hm;rw [if_pos c9] at aq;replace c9:=zM c9
 refine rU Z (wT Z c9) (zG Z Z zj Z zC) (ZJ Z Z Z (wT Z c9) (ae.ldB (j:=0) Z Z Z zJ (v:=jV p1.Index) Z) Z (rU Z (wT Z c9) (zG Z Z zK Z Zl) (ZJ Z Z Z (wT Z c9) (ae.ldB (j:=1) Z Z Z yE (v:=.slice af p0.Clocks.length ag) Z) Z (rU Z (wT Z c9) (zq Z Z ZV) (rU Z (wT Z c9) (yJ Z Z Z) (bnK aq fun aR aE aI=>zF 0 Z Z Z (wT Z c9) (zD Z Z yP (zB Z (zB Z (zB Z zN))) Z) ae (fun hs=>wBj p1.Index 0 (w64 ((↑p0.Clocks.length:Int) - 1)) W5 φ hs aE) (.inr Z) ?_))))))
 rintro av aJ aQ ax aP aF ⟨rfl,rfl⟩
 have aG:sW w φ av [.blk b6 78 B1,.blk b2 28 B0] ax:=aF
 refine oR Z (zP Z (Zj c9.out) Z) (oA Z Z (eN (zS ?_)))
 have hE:=hJ aI;first | subst r | cases hE
 exact ⟨rfl,_,(ZM rfl),av,_,(aG.pick [] _ (by decide) rfl),rfl,rfl⟩
 have au:=hm;rw [if_neg c9] at au;replace c9:=zM c9
 refine oF Z c9 (oF Z c9 (oF Z c9 (oF Z c9 (oF Z c9 (oF Z c9 (ZB Z Z Z (zT Z Z (zw c9.out) Z) (oR Z (zZ Z (zw c9.out) Z) (oA Z Z (eN (zS ?_))))))))))
 have hE:=hJ au;first | subst r | cases hE
 exact ⟨rfl,_,(ZM rfl),φ,_,(ae.pick [] _ (by decide) rfl),rfl,rfl⟩
theorem wCi (p0:Int) (w:World) (φ:PHeap) (hS:St0 w φ [])  {r:wAJ} (hm:wBu p0=some r):Gv Try.prog 82 [jV p0] w (wCF w [] φ (fun φ_ L_ v=>v=.agg #[jV r.skier,jV r.mat]/\L_=[])):=by
 unfold wBu at hm
 refine Gv.of Try.func82 Z Try.ntmps82 Try.results82 Z (sR (.fx 0 .nil .stop) Z (zV (cs:=[jV 0,jV 0]) Z Z Z Z Z zd Z hS ?_))
 intro W1 b2 ag
 refine eN (sR (wCa (.fx 3 .nil .stop)) Z (oM Z Z (oR Z (za Z Z Z) ?_)))
 let B0:List Value:=[jV (-1),jV (w64 (1 + p0))]
 refine oR Z (zl (pv:=[(0,jV (-1)),(1,jV (w64 (1 + p0)))]) (z:=[jV 0,jV 0]) (cs:=B0) Z (wAG Z (wAG Z wAN)) zd wBU Z Z) (zW (j:=0) (vs:=B0) Z Z Z Z ag Z Z Z Z zI (zA Z) Z Z Z ?_)
 intro W5 ah
 have ac:sW w φ φ [.blk b2 104 B0] W5:=ah
 refine eN (zS ?_)
 cases hm
 exact ⟨rfl,_,(wGV (v:=.agg B0.toArray) ⟨⟨_,rfl,(wBA zh zI (ac.blkAt (k:=0) rfl) (vs:=B0) rfl rfl)⟩,trivial⟩),φ,_,(ac.pick [] _ (by decide) rfl),rfl,rfl⟩
theorem wGw (p0:wAC) (aq:Option Addr) (ay:Nat) (au:Option Addr) (az:Nat) (av:Option Addr) (aD:Nat) (ax:Option Addr) (aE:Nat) (p1:wAF) (w:World) (φ:PHeap) (hS:St0 w φ []) (bd:Sl φ 1 aq ay p0.Starts.length (hD KL.encI p0.Starts)) (be:Sl φ 2 au az p0.Splits.length (hD wAE p0.Splits)) (bf:Sl φ 3 av aD p0.Clocks.length (hD wAB p0.Clocks)) (bg:Sl φ 4 ax aE p0.Readings.length (hD wAA p0.Readings)) {r:wAJ × wAJ} (hm:wDi p0 p1=some r):Gv Try.prog 115 [.agg #[.slice aq p0.Starts.length ay,.slice au p0.Splits.length az,.slice av p0.Clocks.length aD,.slice ax p0.Readings.length aE],.agg #[jV p1.Kind,jV p1.Skier,jV p1.Index,.bool p1.Up]] w (wCF w [] φ (fun φ_ L_ v=>v=.tuple #[.agg #[jV r.1.skier,jV r.1.mat],.agg #[jV r.2.skier,jV r.2.mat]]/\L_=[])):=by
 unfold wDi at hm
 refine Gv.of Try.func115 Z Try.ntmps115 Try.results115 Z (sR gBe Z ?_)
 let B0:List Value:=[.slice aq p0.Starts.length ay,.slice au p0.Splits.length az,.slice av p0.Clocks.length aD,.slice ax p0.Readings.length aE]
 refine zu (cs:=B0) rfl rfl rfl rfl rfl rfl (by rfl) hS ?_
 intro W1 b2 aU
 let B1:List Value:=[jV p1.Kind,jV p1.Skier,jV p1.Index,.bool p1.Up]
 refine zu (cs:=B1) rfl rfl rfl rfl rfl rfl (by rfl) aU ?_
 intro W5 b6 a5
 let B2:List Value:=[jV 0,jV 0]
 refine zV (cs:=B2) Z Z Z Z Z zd Z a5 ?_
 intro W9 ai aQ
 refine zV (cs:=B2) Z Z Z Z Z zd Z aQ ?_
 intro aF aj aR
 refine eN (zL (ZE ZF [2,3,1,2,0,0] (.fl 1 (.fl 2 (.fx 0 (.fx 3 gAn .stop) .stop))) (by kernel_rfl) ?_))
 have ao:=aR.drew
 generalize hw_W18:({ aF with drawn:=aF.drawn + 1 }:World)=aK at ao ⊢
 refine oR Z (zG Z Z zj Z zC) (oL Z (ao.ldB (j:=2) Z Z Z zJ (v:=jV p1.Index) Z) (bnK hm fun aH aO a6=>zF 0 Z Z Z Z (zD Z Z yX zN Z) ao (fun hs=>wBe aK φ hs aO) (.inr Z) ?_))
 rintro aJ a8 bj aG bh aS ⟨rfl,rfl⟩
 have aT:sW w φ aJ [.blk aj 104 B2,.blk ai 104 B2,.blk b6 78 B1,.blk b2 28 B0] aG:=aS
 refine bnK a6 fun aI aP a7=>zF 0 Z Z Z Z (zD Z Z Try.call82 (zB Z zN) Z) aT (fun hs=>wCi p1.Index aG aJ hs aP) (.inr Z) ?_
 rintro an a9 bm aL bi aV ⟨rfl,rfl⟩
 have aW:sW w φ an [.blk aj 104 B2,.blk ai 104 B2,.blk b6 78 B1,.blk b2 28 B0] aL:=aV
 let B3:List Value:=[jV aH.skier,jV aH.mat]
 refine zW (j:=1) (vs:=B3) Z Z Z Z aW Z Z Z Z zI (zA Z) Z Z Z ?_
 intro aM aX
 have aY:sW w φ an [.blk aj 104 B2,.blk ai 104 B3,.blk b6 78 B1,.blk b2 28 B0] aM:=aX
 let B4:List Value:=[jV aI.skier,jV aI.mat]
 refine zW (j:=0) (vs:=B4) Z Z Z Z aY Z Z Z Z zI (zA Z) Z Z Z ?_
 intro aN aZ
 have ap:sW w φ an [.blk aj 104 B4,.blk ai 104 B3,.blk b6 78 B1,.blk b2 28 B0] aN:=aZ
 refine eN (zS ?_)
 cases a7
 exact ⟨rfl,_,(wDy (rs:=[.cell 4 104,.cell 5 104]) (vs:=[.agg B3.toArray,.agg B4.toArray]) ⟨⟨_,rfl,(wBA zh zI (ap.blkAt (k:=1) rfl) (vs:=B3) rfl rfl)⟩,⟨⟨_,rfl,(wBA zh zI (ap.blkAt (k:=0) rfl) (vs:=B4) rfl rfl)⟩,trivial⟩⟩ rfl),an,_,(ap.pick [] _ (by decide) rfl),rfl,rfl⟩
theorem wGx (p0:wAC) (ah:Option Addr) (ak:Nat) (ai:Option Addr) (am:Nat) (af:Option Addr) (ag:Nat) (aj:Option Addr) (an:Nat) (p1:wAF) (w:World) (φ:PHeap) (hS:St0 w φ []) (aL:Sl φ 1 ah ak p0.Starts.length (hD KL.encI p0.Starts)) (aM:Sl φ 2 ai am p0.Splits.length (hD wAE p0.Splits)) (ap:Sl φ 3 af ag p0.Clocks.length (hD wAB p0.Clocks)) (aN:Sl φ 4 aj an p0.Readings.length (hD wAA p0.Readings)) {r:Int × Int} (hm:wDj p0 p1=some r):Gv Try.prog 116 [.agg #[.slice ah p0.Starts.length ak,.slice ai p0.Splits.length am,.slice af p0.Clocks.length ag,.slice aj p0.Readings.length an],.agg #[jV p1.Kind,jV p1.Skier,jV p1.Index,.bool p1.Up]] w (wCF w [] φ (fun φ_ L_ v=>v=.tuple #[jV r.1,jV r.2]/\L_=[])):=by
 unfold wDj at hm
 refine Gv.of Try.func116 rfl Try.ntmps116 Try.results116 rfl (sR gBf rfl (zu (cs:=[.slice ah p0.Starts.length ak,.slice ai p0.Splits.length am,.slice af p0.Clocks.length ag,.slice aj p0.Readings.length an]) rfl rfl rfl rfl rfl rfl (by rfl) hS ?_))
 intro W1 b2 az
 refine zu (cs:=[jV p1.Kind,jV p1.Skier,jV p1.Index,.bool p1.Up]) rfl rfl rfl rfl rfl rfl (by rfl) az ?_
 intro W5 b6 aD
 refine yK rfl rfl rfl rfl rfl rfl (yK rfl rfl rfl rfl rfl rfl (eN (zL (ZE ZF [3,1,3,1,3,3,3,1,3,3,1,3,1,3,3,3,1,3,3] fL19 (by kernel_rfl) ?_))))
 have ac:=aD.drew
 generalize hw_W10:({ W5 with drawn:=W5.drawn + 1 }:World)=aG at ac ⊢
 refine oR Z (zG Z Z zK Z Zl) (oL Z (ac.ldB (j:=1) Z Z Z yE (v:=.slice af p0.Clocks.length ag) Z) (oR Z (zG Z Z zj Z zC) (oL Z (ac.ldB (j:=0) Z Z Z zJ (v:=jV p1.Index) Z) (bnK hm fun aq ae aE=>?_))))
 have q:=ap.el (fun _=>rfl) (wAX ae)
 obtain ⟨aH,aO,au,ax⟩:=q
 refine oR Z (ZY Z Z au Z ZV Zq (wCG ae) (wCI ae)) (oR Z (zG Z Z Zr Z ZA) (oR Z (zG Z Z ZX Z zC) (oL Z (ac.ldC (f:=0) ax (v:=jV aq.Offset.Lo) Z Z zJ Z) (oR Z (Runs.negw Z Z) (oR Z (zG Z Z zK Z Zl) (oL Z (ac.ldB (j:=1) Z Z Z yE (v:=.slice af p0.Clocks.length ag) Z) (oR Z (zG Z Z zj Z zC) (oL Z (ac.ldB (j:=0) Z Z Z zJ (v:=jV p1.Index) Z) ?_))))))))
 have q:=ap.el (fun _=>rfl) (wAX ae)
 obtain ⟨aI,aP,av,ay⟩:=q
 refine oR Z (ZY Z Z av Z ZV Zq (wCG ae) (wCI ae)) (oR Z (zG Z Z Zr Z ZA) (oR Z (zG Z Z ZX Z zC) (oL Z (ac.ldC (f:=1) ay (v:=jV aq.Offset.Hi) Z Z zJ Z) (oA Z Z (oA Z Z (eN (zS ?_)))))))
 cases aE
 exact ⟨rfl,_,(wDx rfl rfl),φ,_,(ac.pick [] _ (by decide) rfl),rfl,rfl⟩
end Go.Proofs.Ytlnfbjphfoipaaa
