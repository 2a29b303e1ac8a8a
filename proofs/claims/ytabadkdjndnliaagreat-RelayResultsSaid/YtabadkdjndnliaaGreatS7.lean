import Derived.Test.YtabadkdjndnliaaGreatS6
set_option linter.all false
open List renaming flatMap->nA
open Option.some renaming inj->nD
open Option renaming map->nE
open Go.Value renaming bool->nG
open Bool renaming eq_false_iff->nH
open Prod.mk renaming injEq->nI
open Nat renaming blt->nJ,le_of_ble_eq_true->nK
namespace Go.Proofs.YtabadkdjndnliaaGreat
open Go.KL
def gAw:Sch:=.fl 1 (.fl 2 .nil)
def gAx:Sch:=.fl 3 (.fl 4 .nil)
def gAy:Sch:=.fl 4 (.fl 5 .nil)
def gAz:Sch:=.fl 7 (.fl 8 .nil)
def gBa:Sch:=.fx 0 (.fl 1 .nil) .stop
def gBb:Sch:=.fx 1 (.fl 2 .nil) .stop
def gBc:Sch:=.fx 5 (.fl 6 .nil) .stop
def gBd:Sch:=.fx 3 (.fl 4 .nil) .stop
def gBe:Sch:=.fx 0 (.fx 1 .nil .stop) .stop
def gBf:Sch:=.fl 0 (.fx 1 .nil .stop)
def gBg:Sch:=.fx 6 (.fl 7 .nil) .stop
def gBh:Sch:=.fl 1 (.fx 2 (.fl 3 .nil) .stop)
def gBi:Sch:=.fl 0 gBb
def gBj:Sch:=.fx 3 (.fl 4 (.fx 5 .nil .stop)) .stop
def gBk:Sch:=.fx 0 gAw .stop
def gBl:Sch:=.fl 0 (.fl 1 (.fx 2 (.fx 3 .nil .stop) .stop))
def gBm:Sch:=.fl 0 gBh
def gBn:Sch:=.fx 3 (.fx 4 gBc .stop) .stop
def gBo:Sch:=.fl 0 (.fl 1 (.fx 2 gAx .stop))
def gBp:Sch:=.fl 0 (.fl 1 (.fx 2 gBd .stop))
set_option maxHeartbeats 4000000
theorem Z {α:Type} {a:α}:a=a:=rfl
section
variable {r:Option Nat} {N:Nat} {P:Program} {l:List Oper} {Q:wFC} {D:List Deferred} {ks:List Nat} {σ:Env} {w:World} {i d j e:Nat} {s:Sch} {o:Oper} {b:Bool} {x:Operand} {v:Value} {p:Prop} {inst:Decidable p} {K:List Deferred->Env->World->Prop} {c1 c2:Code}
abbrev jV (n:Int):Value:=.int .i64 n
abbrev SW (w:World) (X:List Res) (U U':PHeap) (L:List Res) (w':World):Prop:=St ⟨w,X,U⟩ U' L w'
abbrev sW (w:World) (U U':PHeap) (L:List Res) (w':World):Prop:=St ⟨w,[],U⟩ U' L w'
abbrev St0 (w:World) (U:PHeap) (L:List Res):Prop:=St ⟨w,L,U⟩ U L w
theorem ifc {α:Type} {G p:Prop} {inst:Decidable p} {a b r:α} (h:@ite α p inst a b=r) (h1:Hid p->a=r->G) (h2:Hid (¬ p)->b=r->G):G:=by
 by_cases c:p
 rw [if_pos c] at h;exact h1 ⟨c⟩ h
 rw [if_neg c] at h;exact h2 ⟨c⟩ h
theorem bnK {α β:Type} {G:Prop} {o:Option α} {f:α->Option β} {r:β} (h:o.bind f=some r) (k:∀ x,o=some x->f x=some r->G):G:=by
 obtain ⟨x,h1,h2⟩:=bnd h
 exact k x h1 h2
theorem oR (h:(l[i]?,o.dst,nJ d N,wanted l σ o)=(some o,some d,true,true)) (hr:∀ {w'},Runs P σ w' o v w') (k:OKS N P l Q D ks s (upd σ d v) w):OKS N P l Q D ks (.fl i s) σ w:=by
 simp only [nI] at h;exact OKS.r h.1 h.2.1 h.2.2.1 h.2.2.2 (fun _=>hr) k
theorem oL (h:(l[i]?,o.dst,nJ d N,wanted l σ o,wRW (kOf ks i))=(some o,some d,true,true,false)) (hr:RunsK P σ w o v) (k:OKS N P l Q D ks s (upd σ d v) w):OKS N P l Q D ks (.fl i s) σ w:=by
 simp only [nI] at h;exact OKS.m h.1 h.2.1 h.2.2.1 h.2.2.2.1 hr h.2.2.2.2 k
theorem oM (h:(l[i]?,o.dst,nJ d N,wanted l σ o,o.op)=(some o,some d,true,true,.move x)) (hx:ev σ x=v) (k:OKS N P l Q D ks s (upd σ d v) w):OKS N P l Q D ks (.fl i s) σ w:=by
 simp only [nI] at h;exact OKS.rm h.1 h.2.1 h.2.2.1 h.2.2.2.1 h.2.2.2.2 hx k
theorem oA (h:(l[i]?,o.dst,nJ d N,wanted l σ o,o.op)=(some o,some d,true,true,.assign x)) (hx:ev σ x=v) (k:OKS N P l Q D ks s (upd σ d v) w):OKS N P l Q D ks (.fl i s) σ w:=by
 simp only [nI] at h;exact OKS.ra h.1 h.2.1 h.2.2.1 h.2.2.2.1 h.2.2.2.2 hx k
theorem oF (h:(l[i]?,o.dst,nJ d N,o.guard,(l[j]?).bind (·.dst),σ e,false == b)=(some o,some d,true,some (j,b),some e,.bool (decide p),false)) (c:Hid (¬ p)) (k:OKS N P l Q D ks s (upd σ d undef) w):OKS N P l Q D ks (.fl i s) σ w:=by
 simp only [nI] at h;exact OKS.p h.1 h.2.1 h.2.2.1 (wJC h.2.2.2.1 h.2.2.2.2.1 (h.2.2.2.2.2.1.trans (wRU c.out)) h.2.2.2.2.2.2) k
theorem oT (h:(l[i]?,o.dst,nJ d N,o.guard,(l[j]?).bind (·.dst),σ e,true == b)=(some o,some d,true,some (j,b),some e,.bool (decide p),false)) (c:Hid p) (k:OKS N P l Q D ks s (upd σ d undef) w):OKS N P l Q D ks (.fl i s) σ w:=by
 simp only [nI] at h;exact OKS.p h.1 h.2.1 h.2.2.1 (wJC h.2.2.2.1 h.2.2.2.2.1 (h.2.2.2.2.2.1.trans (wRT c.out)) h.2.2.2.2.2.2) k
theorem oN {b2:Bool} (h:(l[i]?,o.dst,nJ d N,o.guard,(l[j]?).bind (·.dst),σ e,b2 == b)=(some o,some d,true,some (j,b),some e,.bool b2,false)) (k:OKS N P l Q D ks s (upd σ d undef) w):OKS N P l Q D ks (.fl i s) σ w:=by
 simp only [nI] at h;exact OKS.p h.1 h.2.1 h.2.2.1 (wJC h.2.2.2.1 h.2.2.2.2.1 h.2.2.2.2.2.1 h.2.2.2.2.2.2) k
theorem nC {a b:Bool} (h:a=b):nG (!a)=nG (!b):=h ▸ rfl
theorem nF {a:Bool} (h:¬ a=true):nG (!a)=nG (!false):=nC (nH.2 h)
theorem wT (h:(o.guard,(l[j]?).bind (·.dst),σ e)=(some (j,true),some e,.bool (decide p))) (c:Hid p):wanted l σ o=true:=by
 simp only [nI] at h;exact wKA h.1 h.2.1 (h.2.2.trans (wRT c.out))
theorem wF (h:(o.guard,(l[j]?).bind (·.dst),σ e)=(some (j,false),some e,.bool (decide p))) (c:Hid (¬ p)):wanted l σ o=true:=by
 simp only [nI] at h;exact wKA h.1 h.2.1 (h.2.2.trans (wRU c.out))
theorem rU (h:(l[i]?,o.dst,nJ d N)=(some o,some d,true)) (hw:wanted l σ o=true) (hr:∀ {w'},Runs P σ w' o v w') (k:OKS N P l Q D ks s (upd σ d v) w):OKS N P l Q D ks (.fl i s) σ w:=by
 simp only [nI] at h;exact OKS.r h.1 h.2.1 h.2.2 hw (fun _=>hr) k
theorem sR {id:Nat} (s:Sch) (hs:inOrder 0 s l.length=true) (h:OKS N P l (wHX (fun D σ w=>CK r N P c2 Q D σ w) Q) D [] s σ w):CK r N P (.seq (.region id l.toArray false) c2) Q D σ w:=CK.seq (CK.reg s hs h)
theorem rR {id:Nat} (s:Sch) (hs:inOrder 0 s l.length=true) (h:OKS N P l Q D [] s σ w):CK r N P (.region id l.toArray false) Q D σ w:=CK.reg s hs h
theorem eN (h:K D σ w):OKS N P l (wHX K Q) D ks .nil σ w:=OKS.e (wJy h)
theorem cT (hz:ev σ x=.bool (decide p)) (c:Hid p) (h:CK r N P c1 Q D σ w):CK r N P (.cond x c1 c2) Q D σ w:=CK.condT (hz.trans (wRT c.out)) h
theorem cF (hz:ev σ x=.bool (decide p)) (c:Hid (¬ p)) (h:CK r N P c2 Q D σ w):CK r N P (.cond x c1 c2) Q D σ w:=CK.condF (hz.trans (wRU c.out)) h
theorem kN (h:K D σ w):CK r N P .skip (wHX K Q) D σ w:=CK.skip (wJy h)
end
def fL1:Sch:=.fl 0 .nil
def fL2:Sch:=.fl 0 (.fl 1 .nil)
def fL3:Sch:=.fl 0 gAw
def fL4:Sch:=.fl 0 (.fl 1 (.fl 2 (.fl 3 .nil)))
def fL5:Sch:=.fl 0 (.fl 1 (.fl 2 gAx))
def fL6:Sch:=.fl 0 (.fl 1 (.fl 2 (.fl 3 gAy)))
def fL7:Sch:=.fl 0 (.fl 1 (.fl 2 (.fl 3 (.fl 4 (.fl 5 (.fl 6 .nil))))))
def fL8:Sch:=.fl 0 (.fl 1 (.fl 2 (.fl 3 (.fl 4 (.fl 5 (.fl 6 (.fl 7 .nil)))))))
def fL9:Sch:=.fl 0 (.fl 1 (.fl 2 (.fl 3 (.fl 4 (.fl 5 (.fl 6 gAz))))))
def wNh:Sch:=.fl 0 (.fl 1 (.fl 2 (.fl 3 (.fl 4 (.fl 5 (.fl 6 (.fl 7 (.fl 8 (.fl 9 .nil)))))))))
def fL11:Sch:=.fl 0 (.fl 1 (.fl 2 (.fl 3 (.fl 4 (.fl 5 (.fl 6 (.fl 7 (.fl 8 (.fl 9 (.fl 10 .nil))))))))))
def fL12:Sch:=.fl 0 (.fl 1 (.fl 2 (.fl 3 (.fl 4 (.fl 5 (.fl 6 (.fl 7 (.fl 8 (.fl 9 (.fl 10 (.fl 11 .nil)))))))))))
def fL13:Sch:=.fl 0 (.fl 1 (.fl 2 (.fl 3 (.fl 4 (.fl 5 (.fl 6 (.fl 7 (.fl 8 (.fl 9 (.fl 10 (.fl 11 (.fl 12 .nil))))))))))))
def fL14:Sch:=.fl 0 (.fl 1 (.fl 2 (.fl 3 (.fl 4 (.fl 5 (.fl 6 (.fl 7 (.fl 8 (.fl 9 (.fl 10 (.fl 11 (.fl 12 (.fl 13 .nil)))))))))))))
def fL15:Sch:=.fl 0 (.fl 1 (.fl 2 (.fl 3 (.fl 4 (.fl 5 (.fl 6 (.fl 7 (.fl 8 (.fl 9 (.fl 10 (.fl 11 (.fl 12 (.fl 13 (.fl 14 .nil))))))))))))))
def fL16:Sch:=.fl 0 (.fl 1 (.fl 2 (.fl 3 (.fl 4 (.fl 5 (.fl 6 (.fl 7 (.fl 8 (.fl 9 (.fl 10 (.fl 11 (.fl 12 (.fl 13 (.fl 14 (.fl 15 .nil)))))))))))))))
def fL17:Sch:=.fl 0 (.fl 1 (.fl 2 (.fl 3 (.fl 4 (.fl 5 (.fl 6 (.fl 7 (.fl 8 (.fl 9 (.fl 10 (.fl 11 (.fl 12 (.fl 13 (.fl 14 (.fl 15 (.fl 16 .nil))))))))))))))))
def fL18:Sch:=.fl 0 (.fl 1 (.fl 2 (.fl 3 (.fl 4 (.fl 5 (.fl 6 (.fl 7 (.fl 8 (.fl 9 (.fl 10 (.fl 11 (.fl 12 (.fl 13 (.fl 14 (.fl 15 (.fl 16 (.fl 17 .nil)))))))))))))))))
def fL22:Sch:=.fl 0 (.fl 1 (.fl 2 (.fl 3 (.fl 4 (.fl 5 (.fl 6 (.fl 7 (.fl 8 (.fl 9 (.fl 10 (.fl 11 (.fl 12 (.fl 13 (.fl 14 (.fl 15 (.fl 16 (.fl 17 (.fl 18 (.fl 19 (.fl 20 (.fl 21 .nil)))))))))))))))))))))
def fL23:Sch:=.fl 0 (.fl 1 (.fl 2 (.fl 3 (.fl 4 (.fl 5 (.fl 6 (.fl 7 (.fl 8 (.fl 9 (.fl 10 (.fl 11 (.fl 12 (.fl 13 (.fl 14 (.fl 15 (.fl 16 (.fl 17 (.fl 18 (.fl 19 (.fl 20 (.fl 21 (.fl 22 .nil))))))))))))))))))))))
def fL24:Sch:=.fl 0 (.fl 1 (.fl 2 (.fl 3 (.fl 4 (.fl 5 (.fl 6 (.fl 7 (.fl 8 (.fl 9 (.fl 10 (.fl 11 (.fl 12 (.fl 13 (.fl 14 (.fl 15 (.fl 16 (.fl 17 (.fl 18 (.fl 19 (.fl 20 (.fl 21 (.fl 22 (.fl 23 .nil)))))))))))))))))))))))
def fL31:Sch:=.fl 0 (.fl 1 (.fl 2 (.fl 3 (.fl 4 (.fl 5 (.fl 6 (.fl 7 (.fl 8 (.fl 9 (.fl 10 (.fl 11 (.fl 12 (.fl 13 (.fl 14 (.fl 15 (.fl 16 (.fl 17 (.fl 18 (.fl 19 (.fl 20 (.fl 21 (.fl 22 (.fl 23 (.fl 24 (.fl 25 (.fl 26 (.fl 27 (.fl 28 (.fl 29 (.fl 30 .nil))))))))))))))))))))))))))))))
def fL33:Sch:=.fl 0 (.fl 1 (.fl 2 (.fl 3 (.fl 4 (.fl 5 (.fl 6 (.fl 7 (.fl 8 (.fl 9 (.fl 10 (.fl 11 (.fl 12 (.fl 13 (.fl 14 (.fl 15 (.fl 16 (.fl 17 (.fl 18 (.fl 19 (.fl 20 (.fl 21 (.fl 22 (.fl 23 (.fl 24 (.fl 25 (.fl 26 (.fl 27 (.fl 28 (.fl 29 (.fl 30 (.fl 31 (.fl 32 .nil))))))))))))))))))))))))))))))))
def fL37:Sch:=.fl 0 (.fl 1 (.fl 2 (.fl 3 (.fl 4 (.fl 5 (.fl 6 (.fl 7 (.fl 8 (.fl 9 (.fl 10 (.fl 11 (.fl 12 (.fl 13 (.fl 14 (.fl 15 (.fl 16 (.fl 17 (.fl 18 (.fl 19 (.fl 20 (.fl 21 (.fl 22 (.fl 23 (.fl 24 (.fl 25 (.fl 26 (.fl 27 (.fl 28 (.fl 29 (.fl 30 (.fl 31 (.fl 32 (.fl 33 (.fl 34 (.fl 35 (.fl 36 .nil))))))))))))))))))))))))))))))))))))
def fL53:Sch:=.fl 0 (.fl 1 (.fl 2 (.fl 3 (.fl 4 (.fl 5 (.fl 6 (.fl 7 (.fl 8 (.fl 9 (.fl 10 (.fl 11 (.fl 12 (.fl 13 (.fl 14 (.fl 15 (.fl 16 (.fl 17 (.fl 18 (.fl 19 (.fl 20 (.fl 21 (.fl 22 (.fl 23 (.fl 24 (.fl 25 (.fl 26 (.fl 27 (.fl 28 (.fl 29 (.fl 30 (.fl 31 (.fl 32 (.fl 33 (.fl 34 (.fl 35 (.fl 36 (.fl 37 (.fl 38 (.fl 39 (.fl 40 (.fl 41 (.fl 42 (.fl 43 (.fl 44 (.fl 45 (.fl 46 (.fl 47 (.fl 48 (.fl 49 (.fl 50 (.fl 51 (.fl 52 .nil))))))))))))))))))))))))))))))))))))))))))))))))))))
def wDw (s:Sch):Sch:=.fl 0 (.fl 1 (.fl 2 (s)))
def wHD (s:Sch):Sch:=.fl 0 (.fl 1 (.fl 2 (.fl 3 (s))))
def wGD (s:Sch):Sch:=.fl 0 (.fl 1 (.fl 2 (.fl 3 (.fl 4 (s)))))
def wIo (s:Sch):Sch:=.fl 0 (.fl 1 (.fl 2 (.fl 3 (.fl 4 (.fl 5 (s))))))
def wMK (s:Sch):Sch:=.fl 0 (.fl 1 (.fl 2 (.fl 3 (.fl 4 (.fl 5 (.fl 6 (s)))))))
def wNd (s:Sch):Sch:=.fl 0 (.fl 1 (.fl 2 (.fl 3 (.fl 4 (.fl 5 (.fl 6 (.fl 7 (s))))))))
def wML (s:Sch):Sch:=.fl 0 (.fl 1 (.fl 2 (.fl 3 (.fl 4 (.fl 5 (.fl 6 (.fl 7 (.fl 8 (s)))))))))
def wNe (s:Sch):Sch:=.fl 0 (.fl 1 (.fl 2 (.fl 3 (.fl 4 (.fl 5 (.fl 6 (.fl 7 (.fl 8 (.fl 9 (s))))))))))
def wSF (s:Sch):Sch:=.fl 0 (.fl 1 (.fl 2 (.fl 3 (.fl 4 (.fl 5 (.fl 6 (.fl 7 (.fl 8 (.fl 9 (.fl 10 (s)))))))))))
def wSG (s:Sch):Sch:=.fl 0 (.fl 1 (.fl 2 (.fl 3 (.fl 4 (.fl 5 (.fl 6 (.fl 7 (.fl 8 (.fl 9 (.fl 10 (.fl 11 (s))))))))))))
def wQC (s:Sch):Sch:=.fl 0 (.fl 1 (.fl 2 (.fl 3 (.fl 4 (.fl 5 (.fl 6 (.fl 7 (.fl 8 (.fl 9 (.fl 10 (.fl 11 (.fl 12 (s)))))))))))))
def wSH (s:Sch):Sch:=.fl 0 (.fl 1 (.fl 2 (.fl 3 (.fl 4 (.fl 5 (.fl 6 (.fl 7 (.fl 8 (.fl 9 (.fl 10 (.fl 11 (.fl 12 (.fl 13 (.fl 14 (s)))))))))))))))
def wQD (s:Sch):Sch:=.fl 0 (.fl 1 (.fl 2 (.fl 3 (.fl 4 (.fl 5 (.fl 6 (.fl 7 (.fl 8 (.fl 9 (.fl 10 (.fl 11 (.fl 12 (.fl 13 (.fl 14 (.fl 15 (s))))))))))))))))
def wSI (s:Sch):Sch:=.fl 0 (.fl 1 (.fl 2 (.fl 3 (.fl 4 (.fl 5 (.fl 6 (.fl 7 (.fl 8 (.fl 9 (.fl 10 (.fl 11 (.fl 12 (.fl 13 (.fl 14 (.fl 15 (.fl 16 (.fl 17 (s))))))))))))))))))
def wSJ (s:Sch):Sch:=.fl 0 (.fl 1 (.fl 2 (.fl 3 (.fl 4 (.fl 5 (.fl 6 (.fl 7 (.fl 8 (.fl 9 (.fl 10 (.fl 11 (.fl 12 (.fl 13 (.fl 14 (.fl 15 (.fl 16 (.fl 17 (.fl 18 (.fl 19 (.fl 20 (s)))))))))))))))))))))
def wSK (s:Sch):Sch:=.fl 0 (.fl 1 (.fl 2 (.fl 3 (.fl 4 (.fl 5 (.fl 6 (.fl 7 (.fl 8 (.fl 9 (.fl 10 (.fl 11 (.fl 12 (.fl 13 (.fl 14 (.fl 15 (.fl 16 (.fl 17 (.fl 18 (.fl 19 (.fl 20 (.fl 21 (.fl 22 (.fl 23 (.fl 24 (.fl 25 (.fl 26 (.fl 27 (.fl 28 (.fl 29 (s))))))))))))))))))))))))))))))
def wSL (s:Sch):Sch:=.fl 0 (.fl 1 (.fl 2 (.fl 3 (.fl 4 (.fl 5 (.fl 6 (.fl 7 (.fl 8 (.fl 9 (.fl 10 (.fl 11 (.fl 12 (.fl 13 (.fl 14 (.fl 15 (.fl 16 (.fl 17 (.fl 18 (.fl 19 (.fl 20 (.fl 21 (.fl 22 (.fl 23 (.fl 24 (.fl 25 (.fl 26 (.fl 27 (.fl 28 (.fl 29 (.fl 30 (.fl 31 (s))))))))))))))))))))))))))))))))
def wMM (s:Sch):Sch:=.fl 2 (.fl 3 (.fl 4 (s)))
def fC2_5 (s:Sch):Sch:=.fl 2 (.fl 3 (.fl 4 (.fl 5 (s))))
def wFp (s:Sch):Sch:=.fl 2 (.fl 3 (.fl 4 (.fl 5 (.fl 6 (s)))))
def wQw (s:Sch):Sch:=.fl 3 (.fl 4 (.fl 5 (s)))
def wNf (s:Sch):Sch:=.fl 3 (.fl 4 (.fl 5 (.fl 6 (s))))
def wQx (s:Sch):Sch:=.fl 3 (.fl 4 (.fl 5 (.fl 6 (.fl 7 (s)))))
def fC3_9 (s:Sch):Sch:=.fl 3 (.fl 4 (.fl 5 (.fl 6 (.fl 7 (.fl 8 (.fl 9 (s)))))))
def wSM (s:Sch):Sch:=.fl 3 (.fl 4 (.fl 5 (.fl 6 (.fl 7 (.fl 8 (.fl 9 (.fl 10 (.fl 11 (.fl 12 (.fl 13 (.fl 14 (.fl 15 (.fl 16 (.fl 17 (s)))))))))))))))
def wSN (s:Sch):Sch:=.fl 3 (.fl 4 (.fl 5 (.fl 6 (.fl 7 (.fl 8 (.fl 9 (.fl 10 (.fl 11 (.fl 12 (.fl 13 (.fl 14 (.fl 15 (.fl 16 (.fl 17 (.fl 18 (.fl 19 (.fl 20 (.fl 21 (.fl 22 (s))))))))))))))))))))
def wSO (s:Sch):Sch:=.fl 4 (.fl 5 (.fl 6 (s)))
def fC4_7 (s:Sch):Sch:=.fl 4 (.fl 5 (.fl 6 (.fl 7 (s))))
def fC4_8 (s:Sch):Sch:=.fl 4 (.fl 5 (.fl 6 (.fl 7 (.fl 8 (s)))))
def wSP (s:Sch):Sch:=.fl 4 (.fl 5 (.fl 6 (.fl 7 (.fl 8 (.fl 9 (.fl 10 (s)))))))
def wOm (s:Sch):Sch:=.fl 4 (.fl 5 (.fl 6 (.fl 7 (.fl 8 (.fl 9 (.fl 10 (.fl 11 (.fl 12 (.fl 13 (s))))))))))
def wQE (s:Sch):Sch:=.fl 4 (.fl 5 (.fl 6 (.fl 7 (.fl 8 (.fl 9 (.fl 10 (.fl 11 (.fl 12 (.fl 13 (.fl 14 (.fl 15 (.fl 16 (.fl 17 (s))))))))))))))
def fC5_7 (s:Sch):Sch:=.fl 5 (.fl 6 (.fl 7 (s)))
def wSQ (s:Sch):Sch:=.fl 5 (.fl 6 (.fl 7 (.fl 8 (s))))
def wMN (s:Sch):Sch:=.fl 5 (.fl 6 (.fl 7 (.fl 8 (.fl 9 (s)))))
def wSR (s:Sch):Sch:=.fl 5 (.fl 6 (.fl 7 (.fl 8 (.fl 9 (.fl 10 (.fl 11 (.fl 12 (.fl 13 (.fl 14 (.fl 15 (.fl 16 (.fl 17 (.fl 18 (.fl 19 (.fl 20 (.fl 21 (s)))))))))))))))))
def wSS (s:Sch):Sch:=.fl 5 (.fl 6 (.fl 7 (.fl 8 (.fl 9 (.fl 10 (.fl 11 (.fl 12 (.fl 13 (.fl 14 (.fl 15 (.fl 16 (.fl 17 (.fl 18 (.fl 19 (.fl 20 (.fl 21 (.fl 22 (.fl 23 (.fl 24 (.fl 25 (.fl 26 (.fl 27 (.fl 28 (.fl 29 (.fl 30 (.fl 31 (.fl 32 (.fl 33 (.fl 34 (.fl 35 (.fl 36 (.fl 37 (.fl 38 (.fl 39 (.fl 40 (s))))))))))))))))))))))))))))))))))))
def wST (s:Sch):Sch:=.fl 6 (.fl 7 (.fl 8 (.fl 9 (s))))
def wQy (s:Sch):Sch:=.fl 7 (.fl 8 (.fl 9 (s)))
def wSU (s:Sch):Sch:=.fl 7 (.fl 8 (.fl 9 (.fl 10 (s))))
def wLT (s:Sch):Sch:=.fl 8 (.fl 9 (.fl 10 (s)))
def wSV (s:Sch):Sch:=.fl 9 (.fl 10 (.fl 11 (.fl 12 (s))))
def wQz (s:Sch):Sch:=.fl 10 (.fl 11 (.fl 12 (s)))
def wRA (s:Sch):Sch:=.fl 11 (.fl 12 (.fl 13 (.fl 14 (.fl 15 (.fl 16 (.fl 17 (s)))))))
def wRB (s:Sch):Sch:=.fl 11 (.fl 12 (.fl 13 (.fl 14 (.fl 15 (.fl 16 (.fl 17 (.fl 18 (.fl 19 (.fl 20 (.fl 21 (s)))))))))))
def wRC (s:Sch):Sch:=.fl 12 (.fl 13 (.fl 14 (s)))
def wRD (s:Sch):Sch:=.fl 12 (.fl 13 (.fl 14 (.fl 15 (s))))
def wRE (s:Sch):Sch:=.fl 14 (.fl 15 (.fl 16 (s)))
def wRF (s:Sch):Sch:=.fl 17 (.fl 18 (.fl 19 (s)))
def wRG (s:Sch):Sch:=.fl 17 (.fl 18 (.fl 19 (.fl 20 (s))))
def wRH (s:Sch):Sch:=.fl 18 (.fl 19 (.fl 20 (.fl 21 (.fl 22 (.fl 23 (.fl 24 (.fl 25 (.fl 26 (.fl 27 (.fl 28 (.fl 29 (.fl 30 (.fl 31 (.fl 32 (.fl 33 (.fl 34 (.fl 35 (s))))))))))))))))))
def wRI (s:Sch):Sch:=.fl 19 (.fl 20 (.fl 21 (s)))
def wRJ (s:Sch):Sch:=.fl 20 (.fl 21 (.fl 22 (s)))
def wRK (s:Sch):Sch:=.fl 22 (.fl 23 (.fl 24 (.fl 25 (s))))
def wRL (s:Sch):Sch:=.fl 24 (.fl 25 (.fl 26 (s)))
def wRM (s:Sch):Sch:=.fl 33 (.fl 34 (.fl 35 (s)))
def wRN (s:Sch):Sch:=.fl 34 (.fl 35 (.fl 36 (.fl 37 (.fl 38 (.fl 39 (s))))))
def wRO (s:Sch):Sch:=.fl 42 (.fl 43 (.fl 44 (.fl 45 (s))))
theorem zA:type_of% @Tryz.runUnderlying22:=@Tryz.runUnderlying22
theorem zC:type_of% @Tryz.sizeOf3:=@Tryz.sizeOf3
theorem zD:type_of% @Runs.fa:=@Runs.fa
theorem zF:type_of% @wJy:=@wJy
theorem zG:type_of% @CK.seq:=@CK.seq
theorem zH:type_of% @wNk:=@wNk
theorem zI:type_of% @Hid.mk:=@Hid.mk
theorem zJ:type_of% @nK:=@nK
theorem zK:type_of% @wNj:=@wNj
theorem zL:type_of% @wKA:=@wKA
theorem zM:type_of% @Tryz.isAgg3:=@Tryz.isAgg3
theorem zN:type_of% @PHeap.Le.refl:=@PHeap.Le.refl
theorem zO:type_of% @wJC:=@wJC
theorem zP:type_of% @OKS.callH:=@OKS.callH
theorem zQ:type_of% @Enters.mk:=@Enters.mk
theorem zR:type_of% @CK.block:=@CK.block
theorem zS:type_of% @CK.ret:=@CK.ret
theorem zT:type_of% @Tryz.sizeOf22:=@Tryz.sizeOf22
theorem zU:type_of% @wMQ:=@wMQ
theorem zV:type_of% @Runs.lss:=@Runs.lss
theorem zW:type_of% @Runs.len:=@Runs.len
theorem zX:type_of% @Runs.pickT:=@Runs.pickT
theorem zY:type_of% @Runs.addw:=@Runs.addw
theorem zZ:type_of% @wPm:=@wPm
theorem za:type_of% @Runs.pickF:=@Runs.pickF
theorem zb:type_of% @wNi:=@wNi
theorem zc:type_of% @OKS.p:=@OKS.p
theorem zd:type_of% @wMO:=@wMO
theorem ze:type_of% @Tryz.isAgg22:=@Tryz.isAgg22
theorem zf:type_of% @OKS.r:=@OKS.r
theorem zg:type_of% @OKS.e:=@OKS.e
theorem zh:type_of% @OKS.rm:=@OKS.rm
theorem zj:type_of% @Tryz.runUnderlying34:=@Tryz.runUnderlying34
theorem zk:type_of% @OKS.buildSlice:=@OKS.buildSlice
theorem zm:type_of% @Tryz.runUnderlying46:=@Tryz.runUnderlying46
theorem zn:type_of% @CK.condF:=@CK.condF
theorem zo:type_of% @wRU:=@wRU
theorem zq:type_of% @Tryz.runUnderlying77:=@Tryz.runUnderlying77
theorem zr:type_of% @wMP:=@wMP
theorem zt:type_of% @Tryz.runUnderlying205:=@Tryz.runUnderlying205
theorem zu:type_of% @Tryz.runUnderlying27:=@Tryz.runUnderlying27
theorem zw:type_of% @res1:=@res1
theorem zx:type_of% @Runs.iaI:=@Runs.iaI
theorem zy:type_of% @OKS.m:=@OKS.m
theorem zz:type_of% @Runs.to:=@Runs.to
theorem ZA:type_of% @CK.condT:=@CK.condT
theorem ZB:type_of% @OKS.alloc:=@OKS.alloc
theorem ZC:type_of% @Runs.iaN:=@Runs.iaN
theorem ZD:type_of% @CK.exit:=@CK.exit
theorem ZE:type_of% @Tryz.runUnderlying211:=@Tryz.runUnderlying211
theorem ZF:type_of% @Runs.ext:=@Runs.ext
theorem ZG:type_of% @Tryz.runUnderlying24:=@Tryz.runUnderlying24
theorem ZH:type_of% @Tryz.runUnderlying73:=@Tryz.runUnderlying73
theorem ZI:type_of% @OKS.px:=@OKS.px
theorem ZJ:type_of% @Tryz.runUnderlying32:=@Tryz.runUnderlying32
theorem ZK:type_of% @OKS.st:=@OKS.st
theorem ZL:type_of% @Tryz.runUnderlying74:=@Tryz.runUnderlying74
theorem ZM:type_of% @Tryz.zeroValue3:=@Tryz.zeroValue3
theorem ZN:type_of% @Tryz.runUnderlying25:=@Tryz.runUnderlying25
theorem ZO:type_of% @CK.skip:=@CK.skip
theorem ZP:type_of% @Tryz.runUnderlying203:=@Tryz.runUnderlying203
theorem ZQ:type_of% @Tryz.mixed:=@Tryz.mixed
theorem ZR:type_of% @Tryz.runUnderlying76:=@Tryz.runUnderlying76
theorem ZS:type_of% @Tryz.sizeOf73:=@Tryz.sizeOf73
theorem ZT:type_of% @Runs.build:=@Runs.build
theorem ZU:type_of% @Runs.neq:=@Runs.neq
theorem ZV:type_of% @Tryz.sizeOf46:=@Tryz.sizeOf46
theorem ZW:type_of% @Tryz.runUnderlying71:=@Tryz.runUnderlying71
theorem ZX:type_of% @OKS.box:=@OKS.box
theorem ZY:type_of% @CK.anyOrd:=@CK.anyOrd
theorem ZZ:type_of% @Tryz.sizeOf24:=@Tryz.sizeOf24
theorem Za:type_of% @Runs.notT:=@Runs.notT
theorem Zb:type_of% @Tryz.runUnderlying66:=@Tryz.runUnderlying66
theorem Zc:type_of% @Tryz.sizeOf76:=@Tryz.sizeOf76
theorem Zd:type_of% @Tryz.sizeOf32:=@Tryz.sizeOf32
theorem Ze:type_of% @Tryz.sizeOf205:=@Tryz.sizeOf205
theorem Zf:type_of% @Tryz.sizeOf27:=@Tryz.sizeOf27
theorem Zg:type_of% @Tryz.runUnderlying206:=@Tryz.runUnderlying206
theorem Zh:type_of% @Tryz.runUnderlying31:=@Tryz.runUnderlying31
theorem Zi:type_of% @Tryz.sizeOf203:=@Tryz.sizeOf203
theorem Zj:type_of% @Tryz.isAgg46:=@Tryz.isAgg46
theorem Zk:type_of% @Tryz.isAgg32:=@Tryz.isAgg32
theorem Zl:type_of% @wRT:=@wRT
theorem Zm:type_of% @Tryz.isAgg203:=@Tryz.isAgg203
theorem Zn:type_of% @Tryz.sizeOf4:=@Tryz.sizeOf4
theorem Zo:type_of% @Tryz.runUnderlying51:=@Tryz.runUnderlying51
theorem Zp:type_of% @Tryz.runUnderlying327:=@Tryz.runUnderlying327
theorem Zq:type_of% @Tryz.zeroValue76:=@Tryz.zeroValue76
theorem Zr:type_of% @Tryz.zeroValue73:=@Tryz.zeroValue73
theorem Zs:type_of% @Tryz.runUnderlying40:=@Tryz.runUnderlying40
theorem Zt:type_of% @Tryz.runUnderlying125:=@Tryz.runUnderlying125
theorem Zu:type_of% @Tryz.sizeOf25:=@Tryz.sizeOf25
theorem Zv:type_of% @Tryz.sizeOf77:=@Tryz.sizeOf77
theorem Zw:type_of% @Tryz.runUnderlying222:=@Tryz.runUnderlying222
theorem Zx:type_of% @Tryz.runUnderlying121:=@Tryz.runUnderlying121
theorem Zy:type_of% @Tryz.underlying22:=@Tryz.underlying22
theorem Zz:type_of% @Tryz.sizeOf206:=@Tryz.sizeOf206
theorem yA:type_of% @Runs.subw:=@Runs.subw
theorem yC:type_of% @Runs.nilp:=@Runs.nilp
theorem yD:type_of% @Tryz.sizeOf79:=@Tryz.sizeOf79
theorem yE:type_of% @OKS.append:=@OKS.append
theorem yF:type_of% @CK.forN:=@CK.forN
theorem yG:type_of% @Tryz.isAgg25:=@Tryz.isAgg25
theorem yH:type_of% @Tryz.sizeOf74:=@Tryz.sizeOf74
theorem yI:type_of% @Tryz.runUnderlying59:=@Tryz.runUnderlying59
theorem yJ:type_of% @Runs.eql:=@Runs.eql
theorem yK:type_of% @Tryz.isAgg27:=@Tryz.isAgg27
theorem yL:type_of% @Tryz.sizeOf121:=@Tryz.sizeOf121
theorem yM:type_of% @CK.iter:=@CK.iter
theorem yN:type_of% @Tryz.sizeOf66:=@Tryz.sizeOf66
theorem yO:type_of% @Tryz.sizeOf34:=@Tryz.sizeOf34
theorem yP:type_of% @Runs.gtr:=@Runs.gtr
theorem yQ:type_of% @Tryz.isAgg74:=@Tryz.isAgg74
theorem yR:type_of% @Tryz.isAgg24:=@Tryz.isAgg24
theorem yS:type_of% @Tryz.runUnderlying93:=@Tryz.runUnderlying93
theorem yT:type_of% @Tryz.sizeOf71:=@Tryz.sizeOf71
theorem yU:type_of% @OKS.both:=@OKS.both
theorem yV:type_of% @Tryz.zeroValue79:=@Tryz.zeroValue79
theorem yW:type_of% @Tryz.zeroValue121:=@Tryz.zeroValue121
theorem yX:type_of% @Tryz.sizeOf31:=@Tryz.sizeOf31
theorem yY:type_of% @Tryz.sizeOf211:=@Tryz.sizeOf211
theorem yZ:type_of% @Tryz.zeroValue27:=@Tryz.zeroValue27
theorem ya:type_of% @Tryz.sizeOf59:=@Tryz.sizeOf59
theorem yb:type_of% @Tryz.isAgg77:=@Tryz.isAgg77
theorem yc:type_of% @Tryz.isAgg73:=@Tryz.isAgg73
theorem yd:type_of% @Tryz.isAgg71:=@Tryz.isAgg71
theorem ye:type_of% @OKS.cutD:=@OKS.cutD
theorem yg:type_of% @Tryz.isAgg34:=@Tryz.isAgg34
theorem yh:type_of% @Tryz.isAgg4:=@Tryz.isAgg4
theorem yk:type_of% @Tryz.zeroValue34:=@Tryz.zeroValue34
theorem ym:type_of% @Tryz.call104:=@Tryz.call104
theorem yo:type_of% @Tryz.call117:=@Tryz.call117
theorem yp:type_of% @Tryz.sizeOf323:=@Tryz.sizeOf323
theorem yq:type_of% @OKS.makeSlice:=@OKS.makeSlice
theorem yr:type_of% @Tryz.sizeOf44:=@Tryz.sizeOf44
theorem yt:type_of% @Tryz.zeroValue323:=@Tryz.zeroValue323
theorem yu:type_of% @CK.fresh:=@CK.fresh
theorem yw:type_of% @OKS.ra:=@OKS.ra
theorem yy:type_of% @Tryz.isAgg76:=@Tryz.isAgg76
theorem yz:type_of% @Tryz.zeroValue22:=@Tryz.zeroValue22
theorem YA:type_of% @Tryz.zeroValue59:=@Tryz.zeroValue59
theorem YB:type_of% @Tryz.sizeOf93:=@Tryz.sizeOf93
theorem YC:type_of% @Tryz.sizeOf37:=@Tryz.sizeOf37
theorem YD:type_of% @Tryz.isAgg211:=@Tryz.isAgg211
theorem YE:type_of% @Tryz.runUnderlying219:=@Tryz.runUnderlying219
theorem YF:type_of% @Tryz.runUnderlying249:=@Tryz.runUnderlying249
theorem YG:type_of% @Tryz.isAgg79:=@Tryz.isAgg79
theorem YH:type_of% @Tryz.isAgg37:=@Tryz.isAgg37
theorem YI:type_of% @Tryz.isAgg66:=@Tryz.isAgg66
theorem YJ:type_of% @Tryz.runUnderlying36:=@Tryz.runUnderlying36
theorem YK:type_of% @Tryz.zeroValue205:=@Tryz.zeroValue205
theorem YL:type_of% @OKS.callV:=@OKS.callV
theorem YM:type_of% @Runs.geq:=@Runs.geq
theorem YN:type_of% @Runs.mkf:=@Runs.mkf
theorem YO:type_of% @Tryz.sizeOf249:=@Tryz.sizeOf249
theorem YP:type_of% @OKS.appendR:=@OKS.appendR
theorem YQ:type_of% @Tryz.zeroValue4:=@Tryz.zeroValue4
theorem YR:type_of% @Tryz.runUnderlying216:=@Tryz.runUnderlying216
theorem YS:type_of% @Tryz.runUnderlying323:=@Tryz.runUnderlying323
theorem YT:type_of% @Tryz.isAgg237:=@Tryz.isAgg237
theorem YU:type_of% @Tryz.zeroValue342:=@Tryz.zeroValue342
theorem YV:type_of% @Tryz.zeroValue211:=@Tryz.zeroValue211
theorem YW:type_of% @Runs.mulw:=@Runs.mulw
theorem YX:type_of% @Tryz.sizeOf45:=@Tryz.sizeOf45
theorem YY:type_of% @Tryz.isAgg121:=@Tryz.isAgg121
theorem YZ:type_of% @Tryz.sizeOf58:=@Tryz.sizeOf58
set_option maxHeartbeats 4000000
theorem wHM (p0:wAD) (bo:Option Addr) (bs:Nat) (an:Option Addr) (ao:Nat) (w:World) (U:PHeap) (hS:St0 w U []) (fU:Sl U 1 bo bs p0.Rules.Classes.length (nA KL.encI p0.Rules.Classes)) (dV:SlR U wFL an ao p0.Teams) {r:Bool} (hm:wDP p0=some r):Gv Tryz.prog 12 [.agg #[.slice bo p0.Rules.Classes.length bs,jV p0.Rules.Each,jV p0.Rules.Laps,jV p0.Rules.Spare,jV p0.Rules.Loop,jV p0.Rules.Unused,jV p0.Start,.slice an p0.Teams.length ao]] w (wBp w [] U (fun U_ L_ v=>v=.bool r/\L_=[])):=by
 unfold wDP at hm
 refine Gv.of Tryz.func12 Z Tryz.ntmps12 Tryz.results12 Z (sR gBa Z ?_)
 let B0:List Value:=[.slice bo p0.Rules.Classes.length bs,jV p0.Rules.Each,jV p0.Rules.Laps,jV p0.Rules.Spare,jV p0.Rules.Loop,jV p0.Rules.Unused,jV p0.Start,.slice an p0.Teams.length ao]
 refine ZX (cs:=B0) rfl rfl rfl rfl rfl rfl (by rfl) hS ?_
 intro W1 b2 a8
 refine oA Z Z (eN (zG (sR fL11 Z (oR Z (zD Z Z zu Z ZZ) (oR Z (zD Z Z ZG Z zT) (oL Z (a8.ldB (j:=0) Z Z Z ze (v:=.slice bo p0.Rules.Classes.length bs) Z) (oR Z (zW Z Z zA) (oR Z (yP Z Z Z) (oM Z Z ?_)))))))))
 by_cases c5:6 < (↑p0.Rules.Classes.length:Int)
 have ct:=hm;rw [if_pos c5] at ct;replace c5:=zI c5
 refine oT Z c5 (oT Z c5 (oT Z c5 (oT Z c5 (oR Z (zX Z (Zl c5.out) Z) (eN (ZA Z (sR fL1 Z (oA Z Z (eN (zS (zK ?_)))))))))))
 have hE:=nD ct;first | subst r | cases hE
 exact ⟨rfl,_,(zw rfl),U,_,(a8.pick [] _ (by decide) rfl),rfl,rfl⟩
 have cu:=hm;rw [if_neg c5] at cu;replace c5:=zI c5
 refine rU Z (wF Z c5) (zD Z Z zu Z Zu) (zy Z Z Z (wF Z c5) (a8.ldB (j:=0) Z Z Z yG (v:=.slice an p0.Teams.length ao) Z) Z (rU Z (wF Z c5) (zW Z Z ZN) (rU Z (wF Z c5) (yP Z Z Z) (oR Z (za Z (zo c5.out) Z) (eN (ifc cu ?_ ?_))))))
 intro c8 fc
 refine cT Z c8 (sR fL1 Z (oA Z Z (eN (zS (zK ?_)))))
 have hE:=nD fc;first | subst r | cases hE
 exact ⟨rfl,_,(zw rfl),U,_,(a8.pick [] _ (by decide) rfl),rfl,rfl⟩
 intro c8 aq
 refine cF Z c8 (kN (zG (sR fL4 Z (oR Z (zD Z Z zu Z Zu) (oL Z (a8.ldB (j:=0) Z Z Z yG (v:=.slice an p0.Teams.length ao) Z) (oR Z (zW Z Z ZN) (oM Z Z (eN (zR ?_)))))))))
 have q:=wBQ aq
 obtain ⟨fW,ap⟩:=q
 have q:=wBP ap
 obtain ⟨bQ,d7⟩:=q
 replace bQ:=zI bQ
 refine yF (fun am _ σ_ w_=>∃ (U_:PHeap),σ_ 23=jV (↑am:Int)/\σ_ 21=.slice an p0.Teams.length ao/\σ_ 22=jV (↑p0.Teams.length:Int)/\PHeap.Le U U_/\sW w U U_ [.blk b2 27 B0] w_) d7 ?_ ?_ ?_
 exact ⟨U,Z,Z,Z,(zN _),a8⟩
 rintro am ⟨⟩ f8 gc fI bN ⟨ay,bE,b4,ca,cA,cj⟩ cx bj
 try dsimp only at cx
 have bW:Hid ((↑am:Int) < (↑p0.Teams.length:Int)):=zI (wAo bN)
 replace bN:=zI bN
 have eh:Hid (w64 ((↑am:Int) + 1)=(↑(am + 1):Int)):=zI (by have h1:=bQ.out;have h2:=bW.out;rw [wAQ] <;> omega)
 refine sR fL1 Z (oR Z (zV Z bE ca) (eN (zG (cT Z bW (kN (zG (zR (sR gBl Z (bnK cx fun ag ch eS=>?_)))))))))
 have dI:=dV.le cA
 have q:=dI.el (wAK ch)
 obtain ⟨cM,fm,f4,dM,bH,ff⟩:=q
 obtain ⟨bp,bu,av,aw,rfl,fT,dJ⟩:=ff
 replace bH:Cl ay cM (fm + am * 3) [jV ag.Bib,.slice bp ag.Classes.length bu,.slice av ag.Legs.length aw]:=bH
 refine oR Z (ZC Z b4 dM bE ZN ZS (wAg ch)) (oL Z (cj.ldCA (f:=0) bH Z Z yc ZS (us:=[jV ag.Bib,.slice bp ag.Classes.length bu,.slice av ag.Legs.length aw]) Z Z) ?_)
 let B1:List Value:=[jV 0,.slice none 0 0,.slice none 0 0]
 refine ZB (cs:=B1) Z Z Z Z Z Zr Z cj ?_
 intro fM bn dT
 let B2:List Value:=[jV ag.Bib,.slice bp ag.Classes.length bu,.slice av ag.Legs.length aw]
 refine ZK (j:=0) (vs:=B2) Z Z Z Z dT Z Z Z Z ZS (zJ Z) Z Z Z ?_
 intro cK dU
 have bb:sW w U ay [.blk bn 73 B2,.blk b2 27 B0] cK:=dU
 refine eN (zG (sR wNh Z (oR Z (zD Z Z ZH Z zT) (oL Z (bb.ldB (j:=0) Z Z Z ze (v:=.slice bp ag.Classes.length bu) Z) (oR Z (zW Z Z zA) (oR Z (yP Z Z Z) (oM Z Z (ifc eS ?_ ?_))))))))
 intro ak eV
 refine oT Z ak (oT Z ak (oT Z ak (oT Z ak (oR Z (zX Z (Zl ak.out) Z) (eN (ZA Z (sR fL1 Z (oA Z Z (eN (zS (zK (zU (zK ?_)))))))))))))
 have q:=wAM eV
 obtain ⟨fC,eW,cZ⟩:=q
 have q:=wBI aq ap (bj fC cZ)
 obtain rfl:=q
 refine zK (zU (zK ?_))
 have hE:=nD eW;first | subst r | cases hE
 exact ⟨rfl,_,(zw rfl),ay,_,(bb.pick [] _ (by decide) rfl),rfl,rfl⟩
 intro ak eX
 refine rU Z (wF Z ak) (zD Z Z ZH Z yT) (zy Z Z Z (wF Z ak) (bb.ldB (j:=0) Z Z Z yd (v:=.slice av ag.Legs.length aw) Z) Z (rU Z (wF Z ak) (zW Z Z ZW) (rU Z (wF Z ak) (yP Z Z Z) (oR Z (za Z (zo ak.out) Z) (eN (ifc eX ?_ ?_))))))
 intro bA eY
 refine cT Z bA (sR fL1 Z (oA Z Z (eN (zS (zK (zU (zK ?_)))))))
 have q:=wAM eY
 obtain ⟨fD,eZ,c9⟩:=q
 have q:=wBI aq ap (bj fD c9)
 obtain rfl:=q
 refine zK (zU (zK ?_))
 have hE:=nD eZ;first | subst r | cases hE
 exact ⟨rfl,_,(zw rfl),ay,_,(bb.pick [] _ (by decide) rfl),rfl,rfl⟩
 intro bA bm
 refine cF Z bA (kN (sR fL4 Z (oR Z (zD Z Z ZH Z yT) (oL Z (bb.ldB (j:=0) Z Z Z yd (v:=.slice av ag.Legs.length aw) Z) (oR Z (zW Z Z ZW) (oM Z Z (eN (zR ?_))))))))
 have q:=wBQ bm
 obtain ⟨fZ,bi⟩:=q
 have q:=wBP bi
 obtain ⟨bR,d8⟩:=q
 replace bR:=zI bR
 refine yF (fun au _ σ_ w_=>∃ (U_:PHeap),σ_ 40=jV (↑au:Int)/\σ_ 21=.slice an p0.Teams.length ao/\σ_ 22=jV (↑p0.Teams.length:Int)/\σ_ 23=jV (↑am:Int)/\σ_ 38=.slice av ag.Legs.length aw/\σ_ 39=jV (↑ag.Legs.length:Int)/\PHeap.Le ay U_/\sW w U U_ [.blk bn 73 B2,.blk b2 27 B0] w_) d8 ?_ ?_ ?_
 exact ⟨ay,Z,b4,ca,bE,Z,Z,(zN _),bb⟩
 rintro au ⟨⟩ f9 gh fN bO ⟨az,bF,dA,dB,dC,cc,cd,cB,cm⟩ cy bL
 try dsimp only at cy
 have bX:Hid ((↑au:Int) < (↑ag.Legs.length:Int)):=zI (wAo bO)
 replace bO:=zI bO
 have ep:Hid (w64 ((↑au:Int) + 1)=(↑(au + 1):Int)):=zI (by have h1:=bR.out;have h2:=bX.out;rw [wAQ] <;> omega)
 refine sR fL1 Z (oR Z (zV Z bF cd) (eN (zG (cT Z bX (kN (zG (zR (sR gBl Z (bnK cy fun ah ci fd=>?_)))))))))
 have dK:=dJ.le cB
 have q:=dK.el (wAK ci)
 obtain ⟨cN,fq,f5,dN,bI,fg⟩:=q
 obtain ⟨br,bt,be,bf,rfl,fR,dG⟩:=fg
 replace bI:Cl az cN (fq + au * 3) [jV ah.Skier,.slice br ah.Loops.length bt,.slice be ah.Bouts.length bf]:=bI
 refine oR Z (ZC Z cc dN bF ZW Zc (wAg ci)) (oL Z (cm.ldCA (f:=0) bI Z Z yy Zc (us:=[jV ah.Skier,.slice br ah.Loops.length bt,.slice be ah.Bouts.length bf]) Z Z) (ZB (cs:=B1) Z Z Z Z Z Zq Z cm ?_))
 intro fG bU dO
 let B3:List Value:=[jV ah.Skier,.slice br ah.Loops.length bt,.slice be ah.Bouts.length bf]
 refine ZK (j:=0) (vs:=B3) Z Z Z Z dO Z Z Z Z Zc (zJ Z) Z Z Z ?_
 intro cJ dP
 have a7:sW w U az [.blk bU 76 B3,.blk bn 73 B2,.blk b2 27 B0] cJ:=dP
 refine eN (zG (sR wNh Z (oR Z (zD Z Z ZR Z zT) (oL Z (a7.ldB (j:=0) Z Z Z ze (v:=.slice br ah.Loops.length bt) Z) (oR Z (zW Z Z zA) (oR Z (yP Z Z Z) (oM Z Z (ifc fd ?_ ?_))))))))
 intro aj eu
 refine oT Z aj (oT Z aj (oT Z aj (oT Z aj (oR Z (zX Z (Zl aj.out) Z) (eN (ZA Z (sR fL1 Z (oA Z Z (eN (zS (zK (zU (zK ?_)))))))))))))
 have q:=wAM eu
 obtain ⟨ft,eA,cR⟩:=q
 have q:=wBI bm bi (bL ft cR)
 obtain rfl:=q
 refine zK (zU (zU (zK ?_)))
 have q:=wAM eA
 obtain ⟨fu,eB,cS⟩:=q
 have q:=wBI aq ap (bj fu cS)
 obtain rfl:=q
 refine zK (zU (zK ?_))
 have hE:=nD eB;first | subst r | cases hE
 exact ⟨rfl,_,(zw rfl),az,_,(a7.pick [] _ (by decide) rfl),rfl,rfl⟩
 intro aj eC
 refine rU Z (wF Z aj) (zD Z Z ZR Z yH) (zy Z Z Z (wF Z aj) (a7.ldB (j:=0) Z Z Z yQ (v:=.slice be ah.Bouts.length bf) Z) Z (rU Z (wF Z aj) (zW Z Z ZL) (rU Z (wF Z aj) (yP Z Z Z) (oR Z (za Z (zo aj.out) Z) (eN (ifc eC ?_ ?_))))))
 intro bx eD
 refine cT Z bx (sR fL1 Z (oA Z Z (eN (zS (zK (zU (zK ?_)))))))
 have q:=wAM eD
 obtain ⟨fw,eG,cU⟩:=q
 have q:=wBI bm bi (bL fw cU)
 obtain rfl:=q
 refine zK (zU (zU (zK ?_)))
 have q:=wAM eG
 obtain ⟨fy,eH,cV⟩:=q
 have q:=wBI aq ap (bj fy cV)
 obtain rfl:=q
 refine zK (zU (zK ?_))
 have hE:=nD eH;first | subst r | cases hE
 exact ⟨rfl,_,(zw rfl),az,_,(a7.pick [] _ (by decide) rfl),rfl,rfl⟩
 intro bx bS
 refine cF Z bx (kN (sR fL4 Z (oR Z (zD Z Z ZR Z yH) (oL Z (a7.ldB (j:=0) Z Z Z yQ (v:=.slice be ah.Bouts.length bf) Z) (oR Z (zW Z Z ZL) (oM Z Z (eN (zR ?_))))))))
 have q:=wBQ bS
 obtain ⟨fY,bK⟩:=q
 have q:=wBP bK
 obtain ⟨bP,d6⟩:=q
 replace bP:=zI bP
 refine yF (fun bd _ σ_ w_=>∃ (U_:PHeap),σ_ 57=jV (↑bd:Int)/\σ_ 21=.slice an p0.Teams.length ao/\σ_ 22=jV (↑p0.Teams.length:Int)/\σ_ 23=jV (↑am:Int)/\σ_ 38=.slice av ag.Legs.length aw/\σ_ 39=jV (↑ag.Legs.length:Int)/\σ_ 40=jV (↑au:Int)/\σ_ 55=.slice be ah.Bouts.length bf/\σ_ 56=jV (↑ah.Bouts.length:Int)/\PHeap.Le az U_/\sW w U U_ [.blk bU 76 B3,.blk bn 73 B2,.blk b2 27 B0] w_) d6 ?_ ?_ ?_
 exact ⟨az,Z,dA,dB,dC,cc,cd,bF,Z,Z,(zN _),a7⟩
 rintro bd ⟨⟩ f7 gb fH bM ⟨bw,bD,dd,de,df,dg,dh,di,bY,bZ,cz,bJ⟩ cw dW
 try dsimp only at cw
 have bV:Hid ((↑bd:Int) < (↑ah.Bouts.length:Int)):=zI (wAo bM)
 replace bM:=zI bM
 have d9:Hid (w64 ((↑bd:Int) + 1)=(↑(bd + 1):Int)):=zI (by have h1:=bP.out;have h2:=bV.out;rw [wAQ] <;> omega)
 refine sR fL1 Z (oR Z (zV Z bD bZ) (eN (zG (cT Z bV (kN (zG (zR (sR fL3 Z (bnK cw fun cE cg eI=>?_)))))))))
 have dH:=dG.le cz
 have q:=dH.el (wAK cg)
 obtain ⟨cL,fk,f0,dL,bG,fe⟩:=q
 obtain ⟨cC,cD,rfl,fS⟩:=fe
 replace bG:Cl bw cL (fk + bd * 1) [.slice cC cE.length cD]:=bG
 refine oR Z (ZC Z bY dL bD ZL Zv (wAg cg)) (oL Z (bJ.ldC (f:=0) bG (v:=.slice cC cE.length cD) Z Z yb Z) (oA Z Z (eN (sR fL3 Z (oM Z Z (oR Z (zW Z Z zq) (oR Z (yP Z Z Z) (eN (ifc eI ?_ ?_)))))))))
 intro bz eJ
 refine cT Z bz (sR fL1 Z (oA Z Z (eN (zS (zU (zK ?_))))))
 have q:=wAM eJ
 obtain ⟨fz,eK,cW⟩:=q
 have q:=wBI bS bK (dW fz cW)
 obtain rfl:=q
 refine zK (zU (zU (zK ?_)))
 have q:=wAM eK
 obtain ⟨fA,eM,cX⟩:=q
 have q:=wBI bm bi (bL fA cX)
 obtain rfl:=q
 refine zK (zU (zU (zK ?_)))
 have q:=wAM eM
 obtain ⟨fB,eP,cY⟩:=q
 have q:=wBI aq ap (bj fB cY)
 obtain rfl:=q
 refine zK (zU (zK ?_))
 have hE:=nD eP;first | subst r | cases hE
 exact ⟨rfl,_,(zw rfl),bw,_,(bJ.pick [] _ (by decide) rfl),rfl,rfl⟩
 intro bz eQ
 refine cF Z bz (ZO (zd (zF (rR fL2 Z (oR Z (zz (zY Z bD Z) (congrArg (jV) d9.out)) (oM Z Z (zg ?_)))))))
 have q:=nD eQ
 obtain rfl:=q
 exact zF ⟨Z,_,Z,⟨bw,Z,dd,de,df,dg,dh,di,bY,bZ,cz,bJ⟩⟩
 rintro ⟨⟩ ge fJ ⟨cG,dD,dm,dn,dp,dq,dr,dt,fO,du,fh,dQ⟩ dX
 have co:=wCg bS bK dX
 try dsimp only at co
 have cO:Hid (¬ ((↑(((↑ah.Bouts.length:Int):Int) - 0).toNat:Int) < (↑ah.Bouts.length:Int))):=zI (wAc)
 refine sR fL1 Z (oR Z (zV Z dD du) (eN (zG (cF Z cO (ZD (zb (zb (zr (zd (zF (rR fL2 Z (oR Z (zz (zY Z dt Z) (congrArg (jV) ep.out)) (oM Z Z (zg ?_))))))))))))))
 have q:=nD co
 obtain rfl:=q
 exact zF ⟨rfl,_,rfl,⟨cG,rfl,dm,dn,dp,dq,dr,(cB.trans fh),(dQ.pick [1,2] _ (by decide) rfl)⟩⟩
 rintro ⟨⟩ gf fK ⟨cH,dE,dv,dw,dx,fP,dy,fj,dR⟩ dY
 have cp:=wCg bm bi dY
 try dsimp only at cp
 have cP:Hid (¬ ((↑(((↑ag.Legs.length:Int):Int) - 0).toNat:Int) < (↑ag.Legs.length:Int))):=zI (wAc)
 refine sR fL1 Z (oR Z (zV Z dE dy) (eN (zG (cF Z cP (ZD (zb (zb (zr (zd (zF (rR fL2 Z (oR Z (zz (zY Z dx Z) (congrArg (jV) eh.out)) (oM Z Z (zg ?_))))))))))))))
 have q:=nD cp
 obtain rfl:=q
 exact zF ⟨rfl,_,rfl,⟨cH,rfl,dv,dw,(cA.trans fj),(dR.pick [1] _ (by decide) rfl)⟩⟩
 rintro ⟨⟩ gg fL ⟨cI,dF,fQ,dz,fV,dS⟩ dZ
 have cr:=wCg aq ap dZ
 try dsimp only at cr
 have cQ:Hid (¬ ((↑(((↑p0.Teams.length:Int):Int) - 0).toNat:Int) < (↑p0.Teams.length:Int))):=zI (wAc)
 refine sR fL1 Z (oR Z (zV Z dF dz) (eN (zG (cF Z cQ (ZD (zb (zb (zr (zF (sR fL1 Z (oA Z Z (eN (zS ?_)))))))))))))
 have hE:=nD cr;first | subst r | cases hE
 exact ⟨rfl,_,(zw rfl),cI,_,(dS.pick [] _ (by decide) rfl),rfl,rfl⟩
theorem wEM  (w:World) (U:PHeap) (hS:St0 w U [])  {r:(List (List Bool))} (hm:wDD =some r):Gv Tryz.prog 79 [] w (wBp w [] U (fun U_ L_ v=>∃ (A0:Option Addr) (c0:Nat) (ay:List Value),v=.slice A0 r.length c0/\L_=[.row A0 c0 77 1 ay]/\RlL U_ wGx r ay)):=by
 unfold wDD at hm
 refine Gv.of Tryz.func79 Z Tryz.ntmps79 Tryz.results79 Z (sR fL1 Z (oA Z Z (eN (sR (.fx 0 (.fx 1 (.fx 2 (.fx 3 (.fx 4 (.fl 5 .nil) .stop) .stop) .stop) .stop) .stop) Z (zk (pv:=[(0,.bool true),(1,.bool false),(2,.bool true),(3,.bool true),(4,.bool true),(5,.bool true)]) (zs:=[.bool false,.bool false,.bool false,.bool false,.bool false,.bool false]) (cs:=[.bool true,.bool false,.bool true,.bool true,.bool true,.bool true]) Z Z Z Z Z (wAA Z (wAA Z (wAA Z (wAA Z (wAA Z (wAA Z wAO)))))) zq Zn YQ Z Z Z Z Z hS ?_)))))
 intro W1 b2 bz
 let B0:Res:=.row (some ⟨b2,0,none⟩) 6 4 1 (nA KL.encT [true,false,true,true,true,true])
 have bH:sW w U U [B0] W1:=bz
 refine zk (pv:=[(0,.bool false),(1,.bool false),(2,.bool false),(3,.bool true),(4,.bool true),(5,.bool true),(6,.bool true),(7,.bool true)]) (zs:=[.bool false,.bool false,.bool false,.bool false,.bool false,.bool false,.bool false,.bool false]) (cs:=[.bool false,.bool false,.bool false,.bool true,.bool true,.bool true,.bool true,.bool true]) Z Z Z Z Z (wAA Z (wAA Z (wAA Z (wAA Z (wAA Z (wAA Z (wAA Z (wAA Z wAO)))))))) zq Zn YQ Z Z Z Z Z bH ?_
 intro W6 b7 bJ
 let B1:Res:=.row (some ⟨b7,0,none⟩) 8 4 1 (nA KL.encT [false,false,false,true,true,true,true,true])
 have bp:sW w U U [B1,B0] W6:=bJ
 refine zk (pv:=[(0,.bool true),(1,.bool true),(2,.bool true),(3,.bool true),(4,.bool false),(5,.bool false),(6,.bool false),(7,.bool false)]) (zs:=[.bool false,.bool false,.bool false,.bool false,.bool false,.bool false,.bool false,.bool false]) (cs:=[.bool true,.bool true,.bool true,.bool true,.bool false,.bool false,.bool false,.bool false]) Z Z Z Z Z (wAA Z (wAA Z (wAA Z (wAA Z (wAA Z (wAA Z (wAA Z (wAA Z wAO)))))))) zq Zn YQ Z Z Z Z Z bp ?_
 intro be ag br
 let B2:Res:=.row (some ⟨ag,0,none⟩) 8 4 1 (nA KL.encT [true,true,true,true,false,false,false,false])
 have bs:sW w U U [B2,B1,B0] be:=br
 refine zk (pv:=[(0,.bool false),(1,.bool true),(2,.bool true),(3,.bool true),(4,.bool true)]) (zs:=[.bool false,.bool false,.bool false,.bool false,.bool false]) (cs:=[.bool false,.bool true,.bool true,.bool true,.bool true]) Z Z Z Z Z (wAA Z (wAA Z (wAA Z (wAA Z (wAA Z wAO))))) zq Zn YQ Z Z Z Z Z bs ?_
 intro af ah bt
 let B3:Res:=.row (some ⟨ah,0,none⟩) 5 4 1 (nA KL.encT [false,true,true,true,true])
 have bu:sW w U U [B3,B2,B1,B0] af:=bt
 have q:=bu.freezeR (k:=3) (n:=[true,false,true,true,true,true].length) rfl (wAC (f:=KL.encT) (sz:=1) (fun _=>rfl) [true,false,true,true,true,true]) (by decide)
 obtain ⟨a7,bQ,bL,bw⟩:=q
 have bx:sW w U a7 [B3,B2,B1] af:=bw
 have q:=bx.freezeR (k:=2) (n:=[false,false,false,true,true,true,true,true].length) rfl (wAC (f:=KL.encT) (sz:=1) (fun _=>rfl) [false,false,false,true,true,true,true,true]) (by decide)
 obtain ⟨a8,bP,bM,bA⟩:=q
 have bC:sW w U a8 [B3,B2] af:=bA
 have q:=bC.freezeR (k:=1) (n:=[true,true,true,true,false,false,false,false].length) rfl (wAC (f:=KL.encT) (sz:=1) (fun _=>rfl) [true,true,true,true,false,false,false,false]) (by decide)
 obtain ⟨bb,az,bN,bD⟩:=q
 have bE:sW w U bb [B3] af:=bD
 have q:=bE.freezeR (k:=0) (n:=[false,true,true,true,true].length) rfl (wAC (f:=KL.encT) (sz:=1) (fun _=>rfl) [false,true,true,true,true]) (by decide)
 obtain ⟨aq,au,bO,bF⟩:=q
 have bG:sW w U aq [] af:=bF
 let B4:List Value:=[.slice (some ⟨b2,0,none⟩) 6 6,.slice (some ⟨b7,0,none⟩) 8 8,.slice (some ⟨ag,0,none⟩) 8 8,.slice (some ⟨ah,0,none⟩) 5 5]
 refine zk (pv:=[(0,.slice (some ⟨b2,0,none⟩) 6 6),(1,.slice (some ⟨b7,0,none⟩) 8 8),(2,.slice (some ⟨ag,0,none⟩) 8 8),(3,.slice (some ⟨ah,0,none⟩) 5 5)]) (zs:=[.slice none 0 0,.slice none 0 0,.slice none 0 0,.slice none 0 0]) (cs:=B4) Z Z Z Z Z (wAA Z (wAA Z (wAA Z (wAA Z wAO)))) ZL Zv Tryz.zeroValue77 Z Z Z Z Z bG ?_
 intro bf aw bv
 have bh:=bN.le au
 have bi:=bM.le az
 have bj:=bi.le au
 have bm:=bL.le bP
 have bn:=bm.le az
 have bo:=bn.le au
 have bK:RlL aq wGx [[true,false,true,true,true,true],[false,false,false,true,true,true,true,true],[true,true,true,true,false,false,false,false],[false,true,true,true,true]] B4:=(RlL.cons (R:=wGx) (x:=[true,false,true,true,true,true]) (vs:=[.slice (some ⟨b2,0,none⟩) 6 6]) ⟨(some ⟨b2,0,none⟩),6,rfl,bo⟩ (RlL.cons (R:=wGx) (x:=[false,false,false,true,true,true,true,true]) (vs:=[.slice (some ⟨b7,0,none⟩) 8 8]) ⟨(some ⟨b7,0,none⟩),8,rfl,bj⟩ (RlL.cons (R:=wGx) (x:=[true,true,true,true,false,false,false,false]) (vs:=[.slice (some ⟨ag,0,none⟩) 8 8]) ⟨(some ⟨ag,0,none⟩),8,rfl,bh⟩ (RlL.cons (R:=wGx) (x:=[false,true,true,true,true]) (vs:=[.slice (some ⟨ah,0,none⟩) 5 5]) ⟨(some ⟨ah,0,none⟩),5,rfl,bO⟩ RlL.nil))))
 have bI:sW w U aq [.row (some ⟨aw,0,none⟩) 4 77 1 B4] bf:=bv
 refine oA Z Z (eN (zS ?_))
 cases hm
 exact ⟨Z,_,(zw Z),aq,_,bI,(some ⟨aw,0,none⟩),4,B4,Z,Z,bK⟩
theorem wDC (p0:Int) (p1:Int) (p2:Int) (w:World) (U:PHeap) (hS:St0 w U [])  {r:Bool} (hm:wBx p0 p1 p2=some r):Gv Tryz.prog 104 [jV p0,jV p1,jV p2] w (wBp w [] U (fun U_ L_ v=>v=.bool r/\L_=[])):=by
 unfold wBx at hm
 refine Gv.of Tryz.func104 Z Tryz.ntmps104 Tryz.results104 Z (sR fL1 Z (oA Z Z (eN (sR fL9 Z (oM Z Z (oM Z Z (oR Z (YM Z Z Z) (oM Z Z ?_))))))))
 by_cases c1:p1 <= p0
 have ag:=hm;rw [if_pos c1] at ag;replace c1:=zI c1
 refine zh Z Z Z (wT Z c1) Z Z (zh Z Z Z (wT Z c1) Z Z (rU Z (wT Z c1) (Runs.leq Z Z Z) (oR Z (zX Z (Zl c1.out) Z) (oA Z Z (eN (zS ?_))))))
 first | (obtain rfl:=nD ag) | cases ag
 exact ⟨Z,_,(zw Z),U,_,hS,Z,Z⟩
 have aj:=hm;rw [if_neg c1] at aj;replace c1:=zI c1
 refine oF Z c1 (oF Z c1 (oF Z c1 (oR Z (za Z (zo c1.out) Z) (oA Z Z (eN (zS ?_))))))
 have hE:=nD aj;first | subst r | cases hE
 exact ⟨Z,_,(zw Z),U,_,hS,Z,Z⟩
theorem wEo (p0:List Bool) (ax:Option Addr) (ay:Nat) (w:World) (U:PHeap) (hS:St0 w U []) (ci:Sl U 1 ax ay p0.length (nA KL.encT p0)) {r:wAa × Int} (hm:wCr p0=some r):Gv Tryz.prog 28 [.slice ax p0.length ay] w (wBp w [] U (fun U_ L_ v=>v=.tuple #[.agg #[jV r.1.Spares,jV r.1.Loops,jV r.1.Unused],jV r.2]/\L_=[])):=by
 unfold wCr at hm
 refine Gv.of Tryz.func28 Z Tryz.ntmps28 Tryz.results28 Z (sR gBa Z ?_)
 let B0:List Value:=[jV 0,jV 0,jV 0]
 refine ZB (cs:=B0) Z Z Z Z Z yV Z hS ?_
 intro W1 b2 bZ
 refine oA Z Z (eN (zG (sR gBm Z (oM Z Z (oR Z (zW Z Z zq) (bnK hm fun x5 h6 cz=>zP 0 Z Z Z Z (zQ Z Z ym (zH Z (zH Z (zH Z zZ))) Z) bZ (fun hs=>wDC (↑p0.length:Int) 5 8 W1 U hs h6) (.inr Z) ?_))))))
 rintro U8 L9 cR bH cE bY ⟨rfl,rfl⟩
 have bx:sW w U U8 [.blk b2 79 B0] bH:=bY
 refine oR Z (Za Z Z) (eN (ifc cz ?_ ?_))
 intro az bm
 refine zn (nC az.out) (kN (sR fL1 Z (oA Z Z (eN (zG (sR fL3 Z (oM Z Z (oR Z (zW Z Z zq) (oM Z Z (eN (zR ?_)))))))))))
 have q:=wBQ bm
 obtain ⟨cQ,bh⟩:=q
 have q:=wBP bh
 obtain ⟨bj,co⟩:=q
 replace bj:=zI bj
 refine yF (fun an bE σ_ w_=>∃ (U_:PHeap),σ_ 15=jV (↑an:Int)/\σ_ 0=.slice ax p0.length ay/\σ_ 2=.pointer (some ⟨b2,0,none⟩)/\σ_ 4=jV bE/\σ_ 13=.slice ax p0.length ay/\σ_ 14=jV (↑p0.length:Int)/\PHeap.Le U8 U_/\sW w U U_ [.blk b2 79 B0] w_) co ?_ ?_ ?_
 exact ⟨U8,Z,Z,Z,Z,Z,Z,(zN _),bx⟩
 rintro an bE cU cV cJ bi ⟨ao,av,br,aq,bd,be,bf,bn,aw⟩ cD cj
 have bp:Hid ((↑an:Int) < (↑p0.length:Int)):=zI (wAo bi)
 replace bi:=zI bi
 have bD:Hid (w64 ((↑an:Int) + 1)=(↑(an + 1):Int)):=zI (by have h1:=bj.out;have h2:=bp.out;rw [wAQ] <;> omega)
 refine sR fL1 Z (oR Z (zV Z av bf) (eN (zG (cT Z bp (kN (zG (zR (sR fL3 Z (bnK cD fun cH bu cr=>?_)))))))))
 have bR:=ci.le cE
 have bS:=bR.le bn
 have q:=bS.el (fun _=>rfl) (wAK bu)
 obtain ⟨cM,cP,bU,bV⟩:=q
 refine oR Z (ZC Z be bU av zq Zn (wAg bu)) (oL Z (aw.ldC (f:=0) bV (v:=.bool cH) Z Z yh Z) (oA Z Z (eN (zG (sR fL2 Z (oM Z bd (oR Z (yJ Z Z Z) (eN (ifc cr ?_ ?_)))))))))
 intro a7 ct
 refine cT Z a7 (sR gBi Z (oR Z (ZT (pv:=[]) (z:=B0) (cs:=B0) Z wAO yV wGs Z Z) (ZK (j:=0) (vs:=B0) Z Z Z Z aw Z aq Z Z yD (zJ Z) Z Z Z ?_)))
 intro bI b4
 have bz:sW w U ao [.blk b2 79 B0] bI:=b4
 refine oA Z Z (eN (zS (zK (zU (zK ?_)))))
 have q:=wAM ct
 obtain ⟨cG,cu,bO⟩:=q
 have q:=wBI bm bh (cj cG bO)
 obtain rfl:=q
 refine zK (zU (zK ?_))
 cases cu
 exact ⟨rfl,_,(wJg (rs:=[.cell 2 79,.tmp 3]) (vs:=[.agg B0.toArray,jV 8]) ⟨⟨_,aq,(wEv YG yD (bz.blkAt (k:=0) rfl) (vs:=B0) rfl rfl)⟩,⟨rfl,trivial⟩⟩ rfl),ao,_,(bz.pick [] _ (by decide) rfl),rfl,rfl⟩
 intro a7 cw
 refine cF Z a7 (kN (sR fL1 Z (oM Z Z (eN (ifc cw ?_ ?_)))))
 intro a8 cx
 refine ZA (congrArg nG a8.out) (rR fL3 Z (oM Z bd (oR Z (yA Z Z Z) (oA Z Z (zg (zd (zF (rR fL2 Z (oR Z (zz (zY Z av Z) (congrArg (jV) bD.out)) (oM Z Z (zg ?_)))))))))))
 have q:=nD cx
 obtain rfl:=q
 exact zF ⟨Z,_,Z,⟨ao,Z,br,aq,Z,be,bf,bn,aw⟩⟩
 intro a8 cy
 refine zn (congrArg nG (nH.2 a8.out)) (ZO (zd (zF (rR fL2 Z (oR Z (zz (zY Z av Z) (congrArg (jV) bD.out)) (oM Z Z (zg ?_)))))))
 have q:=nD cy
 obtain rfl:=q
 exact zF ⟨Z,_,Z,⟨ao,Z,br,aq,bd,be,bf,bn,aw⟩⟩
 rintro bo cW cK ⟨ak,bQ,bs,au,bt,cN,bP,cO,ca⟩ cm
 have cA:=wCg bm bh cm
 have bN:Hid (¬ ((↑(((↑p0.length:Int):Int) - 0).toNat:Int) < (↑p0.length:Int))):=zI (wAc)
 refine sR fL1 Z (oR Z (zV Z bQ bP) (eN (zG (cF Z bN (ZD (zb (zb (zr (zF (sR (wGD (.fx 5 (.fx 6 .nil .stop) .stop)) Z (oM Z bs (oR Z (zW Z Z zq) (oR Z (yA Z Z Z) (oM Z bt ?_))))))))))))))
 let B1:List Value:=[jV (w64 ((↑p0.length:Int) - 5)),jV bo,jV 0]
 refine oR Z (ZT (pv:=[(0,jV (w64 ((↑p0.length:Int) - 5))),(1,jV bo)]) (z:=B0) (cs:=B1) Z (wAA Z (wAA Z wAO)) yV wGs Z Z) (ZB (cs:=B0) Z Z Z Z Z yV Z ca ?_)
 intro cL ap cc
 refine ZK (j:=0) (vs:=B1) Z Z Z Z cc Z Z Z Z yD (zJ Z) Z Z Z ?_
 intro bJ cd
 have bg:sW w U ak [.blk ap 79 B1,.blk b2 79 B0] bJ:=cd
 refine eN (zG (sR fL2 Z (oM Z bt (oR Z (yP Z Z Z) (eN (ifc cA ?_ ?_))))))
 intro bb cB
 refine cT Z bb (rR (wHD (.fx 4 .nil .stop)) Z (oM Z bs (oR Z (zW Z Z zq) (oR Z (yA Z Z Z) (oR Z (zD Z Z Tryz.runUnderlying79 Z zC) (ZK (j:=0) (vs:=[jV (w64 (8 - (↑p0.length:Int)))]) Z Z Z Z bg Z Z Z Z zC (zJ Z) Z Z Z ?_))))))
 intro bK cg
 let B2:List Value:=[jV (w64 ((↑p0.length:Int) - 5)),jV bo,jV (w64 (8 - (↑p0.length:Int)))]
 have bA:sW w U ak [.blk ap 79 B2,.blk b2 79 B0] bK:=cg
 refine eN (sR gBi Z (oL Z (bA.ldBA (j:=0) Z Z Z YG yD (vs:=B2) Z Z) (ZK (j:=1) (vs:=B2) Z Z Z Z bA Z au Z Z yD (zJ Z) Z Z Z ?_)))
 intro bL ch
 have bC:sW w U ak [.blk ap 79 B2,.blk b2 79 B2] bL:=ch
 refine oA Z Z (eN (zS ?_))
 cases cB
 exact ⟨rfl,_,(wJg (rs:=[.cell 2 79,.tmp 3]) (vs:=[.agg B2.toArray,jV 0]) ⟨⟨_,au,(wEv YG yD (bC.blkAt (k:=1) rfl) (vs:=B2) rfl rfl)⟩,⟨rfl,trivial⟩⟩ rfl),ak,_,(bC.pick [] _ (by decide) rfl),rfl,rfl⟩
 intro bb cC
 refine cF Z bb (kN (sR gBi Z (oL Z (bg.ldBA (j:=0) Z Z Z YG yD (vs:=B1) Z Z) (ZK (j:=1) (vs:=B1) Z Z Z Z bg Z au Z Z yD (zJ Z) Z Z Z ?_))))
 intro bM bW
 have bv:sW w U ak [.blk ap 79 B1,.blk b2 79 B1] bM:=bW
 refine oA Z Z (eN (zS ?_))
 cases cC
 exact ⟨rfl,_,(wJg (rs:=[.cell 2 79,.tmp 3]) (vs:=[.agg B1.toArray,jV 0]) ⟨⟨_,au,(wEv YG yD (bv.blkAt (k:=1) rfl) (vs:=B1) rfl rfl)⟩,⟨rfl,trivial⟩⟩ rfl),ak,_,(bv.pick [] _ (by decide) rfl),rfl,rfl⟩
 intro az cp
 refine ZA (nF (az.out)) (sR gBi Z (oR Z (ZT (pv:=[]) (z:=B0) (cs:=B0) Z wAO yV wGs Z Z) (ZK (j:=0) (vs:=B0) Z Z Z Z bx Z Z Z Z yD (zJ Z) Z Z Z ?_)))
 intro bG bX
 have bw:sW w U U8 [.blk b2 79 B0] bG:=bX
 refine oA Z Z (eN (zS (zK ?_)))
 cases cp
 exact ⟨rfl,_,(wJg (rs:=[.cell 2 79,.tmp 3]) (vs:=[.agg B0.toArray,jV 2]) ⟨⟨_,rfl,(wEv YG yD (bw.blkAt (k:=0) rfl) (vs:=B0) rfl rfl)⟩,⟨rfl,trivial⟩⟩ rfl),U8,_,(bw.pick [] _ (by decide) rfl),rfl,rfl⟩
theorem wEC  (w:World) (U:PHeap) (hS:St0 w U [])  {r:wAD} (hm:wCT =some r):Gv Tryz.prog 80 [] w (wBp w [] U (fun U_ L_ v=>∃ (dJ:Option Addr) (dV:Nat) (dK:Option Addr) (dW:Nat) (dX:List Value),v=.agg #[.slice dJ r.Rules.Classes.length dV,jV r.Rules.Each,jV r.Rules.Laps,jV r.Rules.Spare,jV r.Rules.Loop,jV r.Rules.Unused,jV r.Start,.slice dK r.Teams.length dW]/\L_=[.row dJ dV 3 1 (nA KL.encI r.Rules.Classes),.row dK dW 73 3 dX]/\RlL U_ wFL r.Teams dX)):=by
 unfold wCT at hm
 refine Gv.of Tryz.func80 Z Tryz.ntmps80 Tryz.results80 Z (sR (.fx 0 .nil .stop) Z ?_)
 let B0:List Value:=[.slice none 0 0,jV 0,jV 0,jV 0,jV 0,jV 0,jV 0,.slice none 0 0]
 refine ZB (cs:=B0) Z Z Z Z Z yZ Z hS ?_
 intro W1 b2 ie
 refine eN (sR gBa Z (bnK hm fun x5 h6 jX=>zP 0 Z Z Z Z (zQ Z Z Tryz.call79 zZ Z) ie (fun hs=>wEM W1 U hs h6) (.inr Z) ?_))
 rintro U8 L9 qN dU qk gW ⟨af,ag,gb,rfl,rfl,gh⟩
 have gY:sW w U U8 [.row af ag 77 1 gb,.blk b2 27 B0] dU:=gW
 refine oA Z Z (eN ?_)
 have q:=bnd jX
 obtain ⟨⟨dB,dC⟩,lk,eu⟩:=q
 try dsimp only at eu
 refine CK.cut (fun σ_ w_=>∃ (U_:PHeap) (bE:Option Addr) (bM:Nat) (bF:Option Addr) (bN:Nat) (ch:List Value),σ_ 0=.pointer (some ⟨b2,0,none⟩)/\PHeap.Le U8 U_/\sW w U U_ [.row bE bM 3 1 (nA KL.encI dB),.row bF bN 73 3 ch,.blk b2 27 [.slice bE dB.length bM,jV 1,jV 2,jV 100,jV 250,jV 1200,jV 0,.slice bF dC.length bN]] w_/\RlL U_ wFL dC ch) ?_ ?_
 have q:=gY.freezeRR (R:=wGx) (k:=0) rfl gh rfl (by decide)
 obtain ⟨dP,lS,cE,ij⟩:=q
 have il:sW w U dP [.blk b2 27 B0] dU:=ij
 refine bnK lk fun aj d8 jT=>bnK jT fun ak eh jU=>bnK jU fun ai dZ jW=>CK.webs (U0:=dP) (L0:=[.blk b2 27 B0]) ZQ [⟨3,[3],[],false,fun σ R=>σ 3=.slice (some ⟨(bk (σ 3)),0,none⟩) 2 2/\R=[.row (some ⟨(bk (σ 3)),0,none⟩) 2 3 1 (nA KL.encI [0,1])]⟩,⟨4,[3,4],[0],true,fun σ R=>σ 4=.agg #[.slice (some ⟨(bk (σ 3)),0,none⟩) 2 2,jV 1,jV 2,jV 100,jV 250,jV 1200]/\R=[]⟩,⟨5,[5],[],false,fun σ R=>σ 5=.slice (some ⟨(bk (σ 5)),0,none⟩) 2 2/\R=[.row (some ⟨(bk (σ 5)),0,none⟩) 2 3 1 (nA KL.encI [0,1])]⟩,⟨6,[6],[],false,fun σ R=>σ 6=.slice (some ⟨(bk (σ 6)),0,none⟩) 2 2/\R=[.row (some ⟨(bk (σ 6)),0,none⟩) 2 3 1 (nA KL.encI [1000,1100])]⟩,⟨7,[7],[],true,fun σ R=>σ 7=.slice af x5.length ag/\R=[]⟩,⟨8,[8],[4],true,fun σ R=>σ 8=.slice (if ag=(0:Int).toNat then af else nE (·.add ((0:Int).toNat * 1)) af) aj.length (ag - (0:Int).toNat)/\R=[]⟩,⟨9,[6,9],[3,5],true,fun σ R=>σ 9=.agg #[jV 0,.slice (some ⟨(bk (σ 6)),0,none⟩) 2 2,.slice (if ag=(0:Int).toNat then af else nE (·.add ((0:Int).toNat * 1)) af) aj.length (ag - (0:Int).toNat)]/\R=[]⟩,⟨10,[10],[],false,fun σ R=>σ 10=.slice (some ⟨(bk (σ 10)),0,none⟩) 2 2/\R=[.row (some ⟨(bk (σ 10)),0,none⟩) 2 3 1 (nA KL.encI [900,950])]⟩,⟨11,[11],[],true,fun σ R=>σ 11=.slice af x5.length ag/\R=[]⟩,⟨12,[12],[8],true,fun σ R=>σ 12=.slice (if ag=(2:Int).toNat then af else nE (·.add ((2:Int).toNat * 1)) af) ak.length (ag - (2:Int).toNat)/\R=[]⟩,⟨13,[10,13],[7,9],true,fun σ R=>σ 13=.agg #[jV 1,.slice (some ⟨(bk (σ 10)),0,none⟩) 2 2,.slice (if ag=(2:Int).toNat then af else nE (·.add ((2:Int).toNat * 1)) af) ak.length (ag - (2:Int).toNat)]/\R=[]⟩,⟨14,[6,10,14],[3,6,7,10],false,fun σ R=>σ 14=.slice (some ⟨(bk (σ 14)),0,none⟩) 2 2/\R=[.row (some ⟨(bk (σ 14)),0,none⟩) 2 76 3 [jV 0,.slice (some ⟨(bk (σ 6)),0,none⟩) 2 2,.slice (if ag=(0:Int).toNat then af else nE (·.add ((0:Int).toNat * 1)) af) aj.length (ag - (0:Int).toNat),jV 1,.slice (some ⟨(bk (σ 10)),0,none⟩) 2 2,.slice (if ag=(2:Int).toNat then af else nE (·.add ((2:Int).toNat * 1)) af) ak.length (ag - (2:Int).toNat)]]⟩,⟨15,[5,14,15],[2,11],true,fun σ R=>σ 15=.agg #[jV 7,.slice (some ⟨(bk (σ 5)),0,none⟩) 2 2,.slice (some ⟨(bk (σ 14)),0,none⟩) 2 2]/\R=[]⟩,⟨16,[16],[],false,fun σ R=>σ 16=.slice (some ⟨(bk (σ 16)),0,none⟩) 2 2/\R=[.row (some ⟨(bk (σ 16)),0,none⟩) 2 3 1 (nA KL.encI [1,0])]⟩,⟨17,[17],[],false,fun σ R=>σ 17=.slice (some ⟨(bk (σ 17)),0,none⟩) 2 2/\R=[.row (some ⟨(bk (σ 17)),0,none⟩) 2 3 1 (nA KL.encI [1000,1150])]⟩,⟨18,[18],[],false,fun σ R=>σ 18=.slice (some ⟨(bk (σ 18)),0,none⟩) 5 5/\R=[.row (some ⟨(bk (σ 18)),0,none⟩) 5 4 1 (nA KL.encT [true,true,true,true,true])]⟩,⟨19,[18,19],[15],false,fun σ R=>σ 19=.slice (some ⟨(bk (σ 19)),0,none⟩) 1 1/\R=[.row (some ⟨(bk (σ 19)),0,none⟩) 1 77 1 [.slice (some ⟨(bk (σ 18)),0,none⟩) 5 5]]⟩,⟨20,[17,19,20],[14,16],true,fun σ R=>σ 20=.agg #[jV 1,.slice (some ⟨(bk (σ 17)),0,none⟩) 2 2,.slice (some ⟨(bk (σ 19)),0,none⟩) 1 1]/\R=[]⟩,⟨21,[21],[],false,fun σ R=>σ 21=.slice (some ⟨(bk (σ 21)),0,none⟩) 2 2/\R=[.row (some ⟨(bk (σ 21)),0,none⟩) 2 3 1 (nA KL.encI [900,1500])]⟩,⟨22,[22],[],true,fun σ R=>σ 22=.slice af x5.length ag/\R=[]⟩,⟨23,[23],[19],true,fun σ R=>σ 23=.slice (if ag=(3:Int).toNat then af else nE (·.add ((3:Int).toNat * 1)) af) ai.length (ag - (3:Int).toNat)/\R=[]⟩,⟨24,[21,24],[18,20],true,fun σ R=>σ 24=.agg #[jV 0,.slice (some ⟨(bk (σ 21)),0,none⟩) 2 2,.slice (if ag=(3:Int).toNat then af else nE (·.add ((3:Int).toNat * 1)) af) ai.length (ag - (3:Int).toNat)]/\R=[]⟩,⟨25,[17,19,21,25],[14,16,17,18,21],false,fun σ R=>σ 25=.slice (some ⟨(bk (σ 25)),0,none⟩) 2 2/\R=[.row (some ⟨(bk (σ 25)),0,none⟩) 2 76 3 [jV 1,.slice (some ⟨(bk (σ 17)),0,none⟩) 2 2,.slice (some ⟨(bk (σ 19)),0,none⟩) 1 1,jV 0,.slice (some ⟨(bk (σ 21)),0,none⟩) 2 2,.slice (if ag=(3:Int).toNat then af else nE (·.add ((3:Int).toNat * 1)) af) ai.length (ag - (3:Int).toNat)]]⟩,⟨26,[16,25,26],[13,22],true,fun σ R=>σ 26=.agg #[jV 3,.slice (some ⟨(bk (σ 16)),0,none⟩) 2 2,.slice (some ⟨(bk (σ 25)),0,none⟩) 2 2]/\R=[]⟩,⟨27,[5,14,16,25,27],[2,11,12,13,22,23],false,fun σ R=>σ 27=.slice (some ⟨(bk (σ 27)),0,none⟩) 2 2/\R=[.row (some ⟨(bk (σ 27)),0,none⟩) 2 73 3 [jV 7,.slice (some ⟨(bk (σ 5)),0,none⟩) 2 2,.slice (some ⟨(bk (σ 14)),0,none⟩) 2 2,jV 3,.slice (some ⟨(bk (σ 16)),0,none⟩) 2 2,.slice (some ⟨(bk (σ 25)),0,none⟩) 2 2]]⟩,⟨28,[3,27,28],[0,1,24],true,fun σ R=>σ 28=.agg #[.slice (some ⟨(bk (σ 3)),0,none⟩) 2 2,jV 1,jV 2,jV 100,jV 250,jV 1200,jV 0,.slice (some ⟨(bk (σ 27)),0,none⟩) 2 2]/\R=[]⟩] [(0,.pointer (some ⟨b2,0,none⟩)),(1,.slice af x5.length ag)] (by kernel_rfl) ⟨rfl,rfl,trivial⟩ il ⟨?_,?_,?_,?_,?_,?_,?_,?_,?_,?_,?_,?_,?_,?_,?_,?_,?_,?_,?_,?_,?_,?_,?_,?_,?_,?_,trivial⟩ ?_
 intro _ l0 fD mL me jr ql p6 gZ lm
 obtain ⟨oJ,oK,_⟩:=jr
 show OKS _ _ _ _ _ _ (.fx 0 .nil .stop) l0 fD
 refine zk (pv:=[(0,jV 0),(1,jV 1)]) (zs:=[jV 0,jV 0]) (cs:=[jV 0,jV 1]) Z Z Z Z Z (wAA Z (wAA Z wAO)) zA zC ZM Z Z Z Z Z gZ ?_
 intro n5 ov g6
 exact lm _ _ _ _ (zN _) g6 ⟨Z,Z⟩
 intro _ bC fE mM mg jt qm dw g7 lq
 obtain ⟨oO,oP,_⟩:=jt
 replace dw:WbD _ [0] bC:=dw
 have q:=dw 0 (by decide)
 obtain ⟨_,cO,_⟩:=q
 replace cO:bC 3=.slice (some ⟨(bk (bC 3)),0,none⟩) 2 2:=cO
 show OKS _ _ _ _ _ _ (.fl 1 .nil) bC fE
 exact oR Z (ZT (pv:=[(0,.slice (some ⟨(bk (bC 3)),0,none⟩) 2 2),(1,jV 1),(2,jV 2),(3,jV 100),(4,jV 250),(5,jV 1200)]) (z:=[.slice none 0 0,jV 0,jV 0,jV 0,jV 0,jV 0]) (cs:=[.slice (some ⟨(bk (bC 3)),0,none⟩) 2 2,jV 1,jV 2,jV 100,jV 250,jV 1200]) Z (wAA cO (wAA Z (wAA Z (wAA Z (wAA Z (wAA Z wAO)))))) Tryz.zeroValue24 wOx Z Z) (lq _ _ _ [] (zN _) g7 ⟨Z,Z⟩)
 intro _ l3 fG mN mh ju qn p7 g8 ls
 obtain ⟨oQ,oS,_⟩:=ju
 show OKS _ _ _ _ _ _ (.fx 2 .nil .stop) l3 fG
 refine zk (pv:=[(0,jV 0),(1,jV 1)]) (zs:=[jV 0,jV 0]) (cs:=[jV 0,jV 1]) Z Z Z Z Z (wAA Z (wAA Z wAO)) zA zC ZM Z Z Z Z Z g8 ?_
 intro n7 ow g9
 exact ls _ _ _ _ (zN _) g9 ⟨Z,Z⟩
 intro _ l4 fH mO mi jv qo p8 ib lu
 obtain ⟨oU,oV,_⟩:=jv
 show OKS _ _ _ _ _ _ (.fx 3 .nil .stop) l4 fH
 refine zk (pv:=[(0,jV 1000),(1,jV 1100)]) (zs:=[jV 0,jV 0]) (cs:=[jV 1000,jV 1100]) Z Z Z Z Z (wAA Z (wAA Z wAO)) zA zC ZM Z Z Z Z Z ib ?_
 intro n8 ox ic
 exact lu _ _ _ _ (zN _) ic ⟨Z,Z⟩
 intro _ l5 fI mP mj jw qp p9 ig lv
 obtain ⟨oW,gc,_⟩:=jw
 show OKS _ _ _ _ _ _ (.fl 4 .nil) l5 fI
 exact oM Z gc (lv _ _ _ [] (zN _) ig ⟨Z,Z⟩)
 intro _ dG fJ mQ ml jx lT dx ii lw
 obtain ⟨oX,oY,_⟩:=jx
 replace dx:WbD _ [4] dG:=dx
 have q:=dx 4 (by decide)
 obtain ⟨_,cP,_⟩:=q
 replace cP:dG 7=.slice af x5.length ag:=cP
 show OKS _ _ _ _ _ _ (.fl 5 .nil) dG fJ
 have d6:=cE.le lT
 have q:=SlR.cutM (R:=wGx) d6 d8
 obtain ⟨qK,jh,jk,jo,jY⟩:=q
 exact zf (v:=.slice (if ag=(0:Int).toNat then af else nE (·.add ((0:Int).toNat * 1)) af) aj.length (ag - (0:Int).toNat)) rfl rfl rfl rfl (fun _=>zz (Runs.slc (sz:=1) (a:=0) (b:=1) rfl cP (.inr ⟨rfl,rfl⟩) (.inl ⟨_,rfl,rfl⟩) ZL Zv jh jk jo (d6).cap) (by rw [jY])) (lw _ _ _ [] (zN _) ii ⟨rfl,rfl⟩)
 intro _ bn fK mR mm jy qq ct ik lx
 obtain ⟨oZ,o0,_⟩:=jy
 replace ct:WbD _ [3,5] bn:=ct
 have q:=ct 3 (by decide)
 obtain ⟨_,cQ,_⟩:=q
 replace cQ:bn 6=.slice (some ⟨(bk (bn 6)),0,none⟩) 2 2:=cQ
 have q:=ct 5 (by decide)
 obtain ⟨_,cR,_⟩:=q
 replace cR:bn 8=.slice (if ag=(0:Int).toNat then af else nE (·.add ((0:Int).toNat * 1)) af) aj.length (ag - (0:Int).toNat):=cR
 show OKS _ _ _ _ _ _ (.fl 6 .nil) bn fK
 exact oR Z (ZT (pv:=[(1,.slice (some ⟨(bk (bn 6)),0,none⟩) 2 2),(2,.slice (if ag=(0:Int).toNat then af else nE (·.add ((0:Int).toNat * 1)) af) aj.length (ag - (0:Int).toNat))]) (z:=[jV 0,.slice none 0 0,.slice none 0 0]) (cs:=[jV 0,.slice (some ⟨(bk (bn 6)),0,none⟩) 2 2,.slice (if ag=(0:Int).toNat then af else nE (·.add ((0:Int).toNat * 1)) af) aj.length (ag - (0:Int).toNat)]) Z (wAA cQ (wAA cR wAO)) Zq wHi Z Z) (lx _ _ _ [] (zN _) ik ⟨Z,Z⟩)
 intro _ l6 fL mS mn jz qr qa im ly
 obtain ⟨o3,o5,_⟩:=jz
 show OKS _ _ _ _ _ _ (.fx 7 .nil .stop) l6 fL
 refine zk (pv:=[(0,jV 900),(1,jV 950)]) (zs:=[jV 0,jV 0]) (cs:=[jV 900,jV 950]) Z Z Z Z Z (wAA Z (wAA Z wAO)) zA zC ZM Z Z Z Z Z im ?_
 intro n9 oy io
 exact ly _ _ _ _ (zN _) io ⟨Z,Z⟩
 intro _ l7 fM mT mp jA qs qb ip lz
 obtain ⟨o6,ge,_⟩:=jA
 show OKS _ _ _ _ _ _ (.fl 8 .nil) l7 fM
 exact oM Z ge (lz _ _ _ [] (zN _) ip ⟨Z,Z⟩)
 intro _ dH fN mU mq jB lU dy iq lA
 obtain ⟨o7,o8,_⟩:=jB
 replace dy:WbD _ [8] dH:=dy
 have q:=dy 8 (by decide)
 obtain ⟨_,cS,_⟩:=q
 replace cS:dH 11=.slice af x5.length ag:=cS
 show OKS _ _ _ _ _ _ (.fl 9 .nil) dH fN
 have d7:=cE.le lU
 have q:=SlR.cutM (R:=wGx) d7 eh
 obtain ⟨qL,ji,jl,jp,jZ⟩:=q
 exact zf (v:=.slice (if ag=(2:Int).toNat then af else nE (·.add ((2:Int).toNat * 1)) af) ak.length (ag - (2:Int).toNat)) rfl rfl rfl rfl (fun _=>zz (Runs.slc (sz:=1) (a:=2) (b:=3) rfl cS (.inl ⟨_,rfl,rfl⟩) (.inl ⟨_,rfl,rfl⟩) ZL Zv ji jl jp (d7).cap) (by rw [jZ])) (lA _ _ _ [] (zN _) iq ⟨rfl,rfl⟩)
 intro _ bo fO mV mr jC qt cu ir lB
 obtain ⟨o9,pa,_⟩:=jC
 replace cu:WbD _ [7,9] bo:=cu
 have q:=cu 7 (by decide)
 obtain ⟨_,cU,_⟩:=q
 replace cU:bo 10=.slice (some ⟨(bk (bo 10)),0,none⟩) 2 2:=cU
 have q:=cu 9 (by decide)
 obtain ⟨_,cV,_⟩:=q
 replace cV:bo 12=.slice (if ag=(2:Int).toNat then af else nE (·.add ((2:Int).toNat * 1)) af) ak.length (ag - (2:Int).toNat):=cV
 show OKS _ _ _ _ _ _ (.fl 10 .nil) bo fO
 exact oR Z (ZT (pv:=[(0,jV 1),(1,.slice (some ⟨(bk (bo 10)),0,none⟩) 2 2),(2,.slice (if ag=(2:Int).toNat then af else nE (·.add ((2:Int).toNat * 1)) af) ak.length (ag - (2:Int).toNat))]) (z:=[jV 0,.slice none 0 0,.slice none 0 0]) (cs:=[jV 1,.slice (some ⟨(bk (bo 10)),0,none⟩) 2 2,.slice (if ag=(2:Int).toNat then af else nE (·.add ((2:Int).toNat * 1)) af) ak.length (ag - (2:Int).toNat)]) Z (wAA Z (wAA cU (wAA cV wAO))) Zq wHi Z Z) (lB _ _ _ [] (zN _) ir ⟨Z,Z⟩)
 intro _ az fP mW ms jD qu cw it lC
 obtain ⟨pb,pd,_⟩:=jD
 replace cw:WbD _ [3,6,7,10] az:=cw
 have q:=cw 6 (by decide)
 obtain ⟨_,cW,_⟩:=q
 replace cW:az 9=.agg #[jV 0,.slice (some ⟨(bk (az 6)),0,none⟩) 2 2,.slice (if ag=(0:Int).toNat then af else nE (·.add ((0:Int).toNat * 1)) af) aj.length (ag - (0:Int).toNat)]:=cW
 have q:=cw 10 (by decide)
 obtain ⟨_,cX,_⟩:=q
 replace cX:az 13=.agg #[jV 1,.slice (some ⟨(bk (az 10)),0,none⟩) 2 2,.slice (if ag=(2:Int).toNat then af else nE (·.add ((2:Int).toNat * 1)) af) ak.length (ag - (2:Int).toNat)]:=cX
 show OKS _ _ _ _ _ _ (.fx 11 .nil .stop) az fP
 refine zk (pv:=[(0,.agg #[jV 0,.slice (some ⟨(bk (az 6)),0,none⟩) 2 2,.slice (if ag=(0:Int).toNat then af else nE (·.add ((0:Int).toNat * 1)) af) aj.length (ag - (0:Int).toNat)]),(1,.agg #[jV 1,.slice (some ⟨(bk (az 10)),0,none⟩) 2 2,.slice (if ag=(2:Int).toNat then af else nE (·.add ((2:Int).toNat * 1)) af) ak.length (ag - (2:Int).toNat)])]) (zs:=[jV 0,.slice none 0 0,.slice none 0 0,jV 0,.slice none 0 0,.slice none 0 0]) (cs:=[jV 0,.slice (some ⟨(bk (az 6)),0,none⟩) 2 2,.slice (if ag=(0:Int).toNat then af else nE (·.add ((0:Int).toNat * 1)) af) aj.length (ag - (0:Int).toNat),jV 1,.slice (some ⟨(bk (az 10)),0,none⟩) 2 2,.slice (if ag=(2:Int).toNat then af else nE (·.add ((2:Int).toNat * 1)) af) ak.length (ag - (2:Int).toNat)]) Z Z Z Z Z (wAA cW (wAA cX wAO)) ZW Zc Zq Z Z Z Z Z it ?_
 intro od oz iu
 exact lC _ _ _ _ (zN _) iu ⟨Z,Z⟩
 intro _ a7 fQ mX mw jE qv cx iv lD
 obtain ⟨pe,pg,_⟩:=jE
 replace cx:WbD _ [2,11] a7:=cx
 have q:=cx 2 (by decide)
 obtain ⟨_,cY,_⟩:=q
 replace cY:a7 5=.slice (some ⟨(bk (a7 5)),0,none⟩) 2 2:=cY
 have q:=cx 11 (by decide)
 obtain ⟨_,cZ,_⟩:=q
 replace cZ:a7 14=.slice (some ⟨(bk (a7 14)),0,none⟩) 2 2:=cZ
 show OKS _ _ _ _ _ _ (.fl 12 .nil) a7 fQ
 exact oR Z (ZT (pv:=[(0,jV 7),(1,.slice (some ⟨(bk (a7 5)),0,none⟩) 2 2),(2,.slice (some ⟨(bk (a7 14)),0,none⟩) 2 2)]) (z:=[jV 0,.slice none 0 0,.slice none 0 0]) (cs:=[jV 7,.slice (some ⟨(bk (a7 5)),0,none⟩) 2 2,.slice (some ⟨(bk (a7 14)),0,none⟩) 2 2]) Z (wAA Z (wAA cY (wAA cZ wAO))) Zr wIs Z Z) (lD _ _ _ [] (zN _) iv ⟨Z,Z⟩)
 intro _ l8 fR mY mx jF qw qc iw lE
 obtain ⟨ph,pi,_⟩:=jF
 show OKS _ _ _ _ _ _ (.fx 13 .nil .stop) l8 fR
 refine zk (pv:=[(0,jV 1),(1,jV 0)]) (zs:=[jV 0,jV 0]) (cs:=[jV 1,jV 0]) Z Z Z Z Z (wAA Z (wAA Z wAO)) zA zC ZM Z Z Z Z Z iw ?_
 intro oe oB ix
 exact lE _ _ _ _ (zN _) ix ⟨Z,Z⟩
 intro _ ma fS mZ my jG qx qd iy lG
 obtain ⟨pj,pm,_⟩:=jG
 show OKS _ _ _ _ _ _ (.fx 14 .nil .stop) ma fS
 refine zk (pv:=[(0,jV 1000),(1,jV 1150)]) (zs:=[jV 0,jV 0]) (cs:=[jV 1000,jV 1150]) Z Z Z Z Z (wAA Z (wAA Z wAO)) zA zC ZM Z Z Z Z Z iy ?_
 intro og oC iz
 exact lG _ _ _ _ (zN _) iz ⟨Z,Z⟩
 intro _ mb fT m3 mz jH qy qe iA lH
 obtain ⟨pn,pp,_⟩:=jH
 show OKS _ _ _ _ _ _ (.fx 15 .nil .stop) mb fT
 refine zk (pv:=[(0,.bool true),(1,.bool true),(2,.bool true),(3,.bool true),(4,.bool true)]) (zs:=[.bool false,.bool false,.bool false,.bool false,.bool false]) (cs:=[.bool true,.bool true,.bool true,.bool true,.bool true]) Z Z Z Z Z (wAA Z (wAA Z (wAA Z (wAA Z (wAA Z wAO))))) zq Zn YQ Z Z Z Z Z iA ?_
 intro oh oD iB
 exact lH _ _ _ _ (zN _) iB ⟨Z,Z⟩
 intro _ bD fU m4 mA jI qz dz iC lI
 obtain ⟨pq,pt,_⟩:=jI
 replace dz:WbD _ [15] bD:=dz
 have q:=dz 15 (by decide)
 obtain ⟨_,c9,_⟩:=q
 replace c9:bD 18=.slice (some ⟨(bk (bD 18)),0,none⟩) 5 5:=c9
 show OKS _ _ _ _ _ _ (.fx 16 .nil .stop) bD fU
 refine zk (pv:=[(0,.slice (some ⟨(bk (bD 18)),0,none⟩) 5 5)]) (zs:=[.slice none 0 0]) (cs:=[.slice (some ⟨(bk (bD 18)),0,none⟩) 5 5]) Z Z Z Z Z (wAA c9 wAO) ZL Zv Tryz.zeroValue77 Z Z Z Z Z iC ?_
 intro oj oE iD
 exact lI _ _ _ _ (zN _) iD ⟨Z,Z⟩
 intro _ a8 fV m5 mB jJ qA cy iE lJ
 obtain ⟨pu,py,_⟩:=jJ
 replace cy:WbD _ [14,16] a8:=cy
 have q:=cy 14 (by decide)
 obtain ⟨_,dd,_⟩:=q
 replace dd:a8 17=.slice (some ⟨(bk (a8 17)),0,none⟩) 2 2:=dd
 have q:=cy 16 (by decide)
 obtain ⟨_,de,_⟩:=q
 replace de:a8 19=.slice (some ⟨(bk (a8 19)),0,none⟩) 1 1:=de
 show OKS _ _ _ _ _ _ (.fl 17 .nil) a8 fV
 exact oR Z (ZT (pv:=[(0,jV 1),(1,.slice (some ⟨(bk (a8 17)),0,none⟩) 2 2),(2,.slice (some ⟨(bk (a8 19)),0,none⟩) 1 1)]) (z:=[jV 0,.slice none 0 0,.slice none 0 0]) (cs:=[jV 1,.slice (some ⟨(bk (a8 17)),0,none⟩) 2 2,.slice (some ⟨(bk (a8 19)),0,none⟩) 1 1]) Z (wAA Z (wAA dd (wAA de wAO))) Zq wHi Z Z) (lJ _ _ _ [] (zN _) iE ⟨Z,Z⟩)
 intro _ mc fW m6 mC jK qC qf iF lK
 obtain ⟨pz,pC,_⟩:=jK
 show OKS _ _ _ _ _ _ (.fx 18 .nil .stop) mc fW
 refine zk (pv:=[(0,jV 900),(1,jV 1500)]) (zs:=[jV 0,jV 0]) (cs:=[jV 900,jV 1500]) Z Z Z Z Z (wAA Z (wAA Z wAO)) zA zC ZM Z Z Z Z Z iF ?_
 intro om oG iG
 exact lK _ _ _ _ (zN _) iG ⟨Z,Z⟩
 intro _ md fY m7 mD jL qD qg iH lL
 obtain ⟨pD,gf,_⟩:=jL
 show OKS _ _ _ _ _ _ (.fl 19 .nil) md fY
 exact oM Z gf (lL _ _ _ [] (zN _) iH ⟨Z,Z⟩)
 intro _ dI fZ m8 mE jM lV dA iI lM
 obtain ⟨pE,pF,_⟩:=jM
 replace dA:WbD _ [19] dI:=dA
 have q:=dA 19 (by decide)
 obtain ⟨_,df,_⟩:=q
 replace df:dI 22=.slice af x5.length ag:=df
 show OKS _ _ _ _ _ _ (.fl 20 .nil) dI fZ
 have d9:=cE.le lV
 have q:=SlR.cutM (R:=wGx) d9 dZ
 obtain ⟨qM,jj,jm,jq,j4⟩:=q
 exact zf (v:=.slice (if ag=(3:Int).toNat then af else nE (·.add ((3:Int).toNat * 1)) af) ai.length (ag - (3:Int).toNat)) rfl rfl rfl rfl (fun _=>zz (Runs.slc (sz:=1) (a:=3) (b:=(↑(x5.length):Int)) rfl df (.inl ⟨_,rfl,rfl⟩) (.inr ⟨rfl,rfl⟩) ZL Zv jj jm jq (d9).cap) (by rw [j4])) (lM _ _ _ [] (zN _) iI ⟨rfl,rfl⟩)
 intro _ bp f0 m9 mF jN qE cz iJ lN
 obtain ⟨pG,pH,_⟩:=jN
 replace cz:WbD _ [18,20] bp:=cz
 have q:=cz 18 (by decide)
 obtain ⟨_,dg,_⟩:=q
 replace dg:bp 21=.slice (some ⟨(bk (bp 21)),0,none⟩) 2 2:=dg
 have q:=cz 20 (by decide)
 obtain ⟨_,dh,_⟩:=q
 replace dh:bp 23=.slice (if ag=(3:Int).toNat then af else nE (·.add ((3:Int).toNat * 1)) af) ai.length (ag - (3:Int).toNat):=dh
 show OKS _ _ _ _ _ _ (.fl 21 .nil) bp f0
 exact oR Z (ZT (pv:=[(1,.slice (some ⟨(bk (bp 21)),0,none⟩) 2 2),(2,.slice (if ag=(3:Int).toNat then af else nE (·.add ((3:Int).toNat * 1)) af) ai.length (ag - (3:Int).toNat))]) (z:=[jV 0,.slice none 0 0,.slice none 0 0]) (cs:=[jV 0,.slice (some ⟨(bk (bp 21)),0,none⟩) 2 2,.slice (if ag=(3:Int).toNat then af else nE (·.add ((3:Int).toNat * 1)) af) ai.length (ag - (3:Int).toNat)]) Z (wAA dg (wAA dh wAO)) Zq wHi Z Z) (lN _ _ _ [] (zN _) iJ ⟨Z,Z⟩)
 intro _ aq f4 n1 mG jO qF cA iK lO
 obtain ⟨pI,pJ,_⟩:=jO
 replace cA:WbD _ [14,16,17,18,21] aq:=cA
 have q:=cA 17 (by decide)
 obtain ⟨_,di,_⟩:=q
 replace di:aq 20=.agg #[jV 1,.slice (some ⟨(bk (aq 17)),0,none⟩) 2 2,.slice (some ⟨(bk (aq 19)),0,none⟩) 1 1]:=di
 have q:=cA 21 (by decide)
 obtain ⟨_,dm,_⟩:=q
 replace dm:aq 24=.agg #[jV 0,.slice (some ⟨(bk (aq 21)),0,none⟩) 2 2,.slice (if ag=(3:Int).toNat then af else nE (·.add ((3:Int).toNat * 1)) af) ai.length (ag - (3:Int).toNat)]:=dm
 show OKS _ _ _ _ _ _ (.fx 22 .nil .stop) aq f4
 refine zk (pv:=[(0,.agg #[jV 1,.slice (some ⟨(bk (aq 17)),0,none⟩) 2 2,.slice (some ⟨(bk (aq 19)),0,none⟩) 1 1]),(1,.agg #[jV 0,.slice (some ⟨(bk (aq 21)),0,none⟩) 2 2,.slice (if ag=(3:Int).toNat then af else nE (·.add ((3:Int).toNat * 1)) af) ai.length (ag - (3:Int).toNat)])]) (zs:=[jV 0,.slice none 0 0,.slice none 0 0,jV 0,.slice none 0 0,.slice none 0 0]) (cs:=[jV 1,.slice (some ⟨(bk (aq 17)),0,none⟩) 2 2,.slice (some ⟨(bk (aq 19)),0,none⟩) 1 1,jV 0,.slice (some ⟨(bk (aq 21)),0,none⟩) 2 2,.slice (if ag=(3:Int).toNat then af else nE (·.add ((3:Int).toNat * 1)) af) ai.length (ag - (3:Int).toNat)]) Z Z Z Z Z (wAA di (wAA dm wAO)) ZW Zc Zq Z Z Z Z Z iK ?_
 intro oq oH iL
 exact lO _ _ _ _ (zN _) iL ⟨Z,Z⟩
 intro _ bb f5 n2 mH jP qG cB iM lP
 obtain ⟨pK,pL,_⟩:=jP
 replace cB:WbD _ [13,22] bb:=cB
 have q:=cB 13 (by decide)
 obtain ⟨_,dn,_⟩:=q
 replace dn:bb 16=.slice (some ⟨(bk (bb 16)),0,none⟩) 2 2:=dn
 have q:=cB 22 (by decide)
 obtain ⟨_,dp,_⟩:=q
 replace dp:bb 25=.slice (some ⟨(bk (bb 25)),0,none⟩) 2 2:=dp
 show OKS _ _ _ _ _ _ (.fl 23 .nil) bb f5
 exact oR Z (ZT (pv:=[(0,jV 3),(1,.slice (some ⟨(bk (bb 16)),0,none⟩) 2 2),(2,.slice (some ⟨(bk (bb 25)),0,none⟩) 2 2)]) (z:=[jV 0,.slice none 0 0,.slice none 0 0]) (cs:=[jV 3,.slice (some ⟨(bk (bb 16)),0,none⟩) 2 2,.slice (some ⟨(bk (bb 25)),0,none⟩) 2 2]) Z (wAA Z (wAA dn (wAA dp wAO))) Zr wIs Z Z) (lP _ _ _ [] (zN _) iM ⟨Z,Z⟩)
 intro _ ao f7 n3 mI jQ qH cC iN lQ
 obtain ⟨pM,pN,_⟩:=jQ
 replace cC:WbD _ [2,11,12,13,22,23] ao:=cC
 have q:=cC 12 (by decide)
 obtain ⟨_,dq,_⟩:=q
 replace dq:ao 15=.agg #[jV 7,.slice (some ⟨(bk (ao 5)),0,none⟩) 2 2,.slice (some ⟨(bk (ao 14)),0,none⟩) 2 2]:=dq
 have q:=cC 23 (by decide)
 obtain ⟨_,dr,_⟩:=q
 replace dr:ao 26=.agg #[jV 3,.slice (some ⟨(bk (ao 16)),0,none⟩) 2 2,.slice (some ⟨(bk (ao 25)),0,none⟩) 2 2]:=dr
 show OKS _ _ _ _ _ _ (.fx 24 .nil .stop) ao f7
 refine zk (pv:=[(0,.agg #[jV 7,.slice (some ⟨(bk (ao 5)),0,none⟩) 2 2,.slice (some ⟨(bk (ao 14)),0,none⟩) 2 2]),(1,.agg #[jV 3,.slice (some ⟨(bk (ao 16)),0,none⟩) 2 2,.slice (some ⟨(bk (ao 25)),0,none⟩) 2 2])]) (zs:=[jV 0,.slice none 0 0,.slice none 0 0,jV 0,.slice none 0 0,.slice none 0 0]) (cs:=[jV 7,.slice (some ⟨(bk (ao 5)),0,none⟩) 2 2,.slice (some ⟨(bk (ao 14)),0,none⟩) 2 2,jV 3,.slice (some ⟨(bk (ao 16)),0,none⟩) 2 2,.slice (some ⟨(bk (ao 25)),0,none⟩) 2 2]) Z Z Z Z Z (wAA dq (wAA dr wAO)) ZN ZS Zr Z Z Z Z Z iN ?_
 intro ot oI iO
 exact lQ _ _ _ _ (zN _) iO ⟨Z,Z⟩
 intro _ bd f8 n4 mJ jR qI cD iP lR
 obtain ⟨pO,pP,_⟩:=jR
 replace cD:WbD _ [0,1,24] bd:=cD
 have q:=cD 1 (by decide)
 obtain ⟨_,dt,_⟩:=q
 replace dt:bd 4=.agg #[.slice (some ⟨(bk (bd 3)),0,none⟩) 2 2,jV 1,jV 2,jV 100,jV 250,jV 1200]:=dt
 have q:=cD 24 (by decide)
 obtain ⟨_,du,_⟩:=q
 replace du:bd 27=.slice (some ⟨(bk (bd 27)),0,none⟩) 2 2:=du
 show OKS _ _ _ _ _ _ (.fl 25 .nil) bd f8
 exact oR Z (ZT (pv:=[(0,.agg #[.slice (some ⟨(bk (bd 3)),0,none⟩) 2 2,jV 1,jV 2,jV 100,jV 250,jV 1200]),(2,.slice (some ⟨(bk (bd 27)),0,none⟩) 2 2)]) (z:=B0) (cs:=[.slice (some ⟨(bk (bd 3)),0,none⟩) 2 2,jV 1,jV 2,jV 100,jV 250,jV 1200,jV 0,.slice (some ⟨(bk (bd 27)),0,none⟩) 2 2]) Z (wAA dt (wAA du wAO)) yZ wKE Z Z) (lR _ _ _ [] (zN _) iP ⟨Z,Z⟩)
 intro ah aw fq jS eA
 obtain ⟨dY,pQ,_⟩:=jS
 intro eB bO
 replace bO:ah 3=.slice (some ⟨(bk (ah 3)),0,none⟩) 2 2/\eB=[.row (some ⟨(bk (ah 3)),0,none⟩) 2 3 1 (nA KL.encI [0,1])]:=bO
 obtain ⟨bO,rfl⟩:=bO
 intro eC bP
 replace bP:ah 4=.agg #[.slice (some ⟨(bk (ah 3)),0,none⟩) 2 2,jV 1,jV 2,jV 100,jV 250,jV 1200]/\eC=[]:=bP
 obtain ⟨bP,rfl⟩:=bP
 intro eD bQ
 replace bQ:ah 5=.slice (some ⟨(bk (ah 5)),0,none⟩) 2 2/\eD=[.row (some ⟨(bk (ah 5)),0,none⟩) 2 3 1 (nA KL.encI [0,1])]:=bQ
 obtain ⟨bQ,rfl⟩:=bQ
 intro eG bR
 replace bR:ah 6=.slice (some ⟨(bk (ah 6)),0,none⟩) 2 2/\eG=[.row (some ⟨(bk (ah 6)),0,none⟩) 2 3 1 (nA KL.encI [1000,1100])]:=bR
 obtain ⟨bR,rfl⟩:=bR
 intro eH ci
 replace ci:ah 7=.slice af x5.length ag/\eH=[]:=ci
 obtain ⟨ci,rfl⟩:=ci
 intro eI cj
 replace cj:ah 8=.slice (if ag=(0:Int).toNat then af else nE (·.add ((0:Int).toNat * 1)) af) aj.length (ag - (0:Int).toNat)/\eI=[]:=cj
 obtain ⟨cj,rfl⟩:=cj
 intro eJ bS
 replace bS:ah 9=.agg #[jV 0,.slice (some ⟨(bk (ah 6)),0,none⟩) 2 2,.slice (if ag=(0:Int).toNat then af else nE (·.add ((0:Int).toNat * 1)) af) aj.length (ag - (0:Int).toNat)]/\eJ=[]:=bS
 obtain ⟨bS,rfl⟩:=bS
 intro eK bT
 replace bT:ah 10=.slice (some ⟨(bk (ah 10)),0,none⟩) 2 2/\eK=[.row (some ⟨(bk (ah 10)),0,none⟩) 2 3 1 (nA KL.encI [900,950])]:=bT
 obtain ⟨bT,rfl⟩:=bT
 intro eM cm
 replace cm:ah 11=.slice af x5.length ag/\eM=[]:=cm
 obtain ⟨cm,rfl⟩:=cm
 intro eP co
 replace co:ah 12=.slice (if ag=(2:Int).toNat then af else nE (·.add ((2:Int).toNat * 1)) af) ak.length (ag - (2:Int).toNat)/\eP=[]:=co
 obtain ⟨co,rfl⟩:=co
 intro eQ bU
 replace bU:ah 13=.agg #[jV 1,.slice (some ⟨(bk (ah 10)),0,none⟩) 2 2,.slice (if ag=(2:Int).toNat then af else nE (·.add ((2:Int).toNat * 1)) af) ak.length (ag - (2:Int).toNat)]/\eQ=[]:=bU
 obtain ⟨bU,rfl⟩:=bU
 intro eS bj
 replace bj:ah 14=.slice (some ⟨(bk (ah 14)),0,none⟩) 2 2/\eS=[.row (some ⟨(bk (ah 14)),0,none⟩) 2 76 3 [jV 0,.slice (some ⟨(bk (ah 6)),0,none⟩) 2 2,.slice (if ag=(0:Int).toNat then af else nE (·.add ((0:Int).toNat * 1)) af) aj.length (ag - (0:Int).toNat),jV 1,.slice (some ⟨(bk (ah 10)),0,none⟩) 2 2,.slice (if ag=(2:Int).toNat then af else nE (·.add ((2:Int).toNat * 1)) af) ak.length (ag - (2:Int).toNat)]]:=bj
 obtain ⟨bj,rfl⟩:=bj
 intro eV bw
 replace bw:ah 15=.agg #[jV 7,.slice (some ⟨(bk (ah 5)),0,none⟩) 2 2,.slice (some ⟨(bk (ah 14)),0,none⟩) 2 2]/\eV=[]:=bw
 obtain ⟨bw,rfl⟩:=bw
 intro eW bV
 replace bV:ah 16=.slice (some ⟨(bk (ah 16)),0,none⟩) 2 2/\eW=[.row (some ⟨(bk (ah 16)),0,none⟩) 2 3 1 (nA KL.encI [1,0])]:=bV
 obtain ⟨bV,rfl⟩:=bV
 intro eX bW
 replace bW:ah 17=.slice (some ⟨(bk (ah 17)),0,none⟩) 2 2/\eX=[.row (some ⟨(bk (ah 17)),0,none⟩) 2 3 1 (nA KL.encI [1000,1150])]:=bW
 obtain ⟨bW,rfl⟩:=bW
 intro eY bX
 replace bX:ah 18=.slice (some ⟨(bk (ah 18)),0,none⟩) 5 5/\eY=[.row (some ⟨(bk (ah 18)),0,none⟩) 5 4 1 (nA KL.encT [true,true,true,true,true])]:=bX
 obtain ⟨bX,rfl⟩:=bX
 intro eZ bx
 replace bx:ah 19=.slice (some ⟨(bk (ah 19)),0,none⟩) 1 1/\eZ=[.row (some ⟨(bk (ah 19)),0,none⟩) 1 77 1 [.slice (some ⟨(bk (ah 18)),0,none⟩) 5 5]]:=bx
 obtain ⟨bx,rfl⟩:=bx
 intro fc bz
 replace bz:ah 20=.agg #[jV 1,.slice (some ⟨(bk (ah 17)),0,none⟩) 2 2,.slice (some ⟨(bk (ah 19)),0,none⟩) 1 1]/\fc=[]:=bz
 obtain ⟨bz,rfl⟩:=bz
 intro fd bY
 replace bY:ah 21=.slice (some ⟨(bk (ah 21)),0,none⟩) 2 2/\fd=[.row (some ⟨(bk (ah 21)),0,none⟩) 2 3 1 (nA KL.encI [900,1500])]:=bY
 obtain ⟨bY,rfl⟩:=bY
 intro fe cp
 replace cp:ah 22=.slice af x5.length ag/\fe=[]:=cp
 obtain ⟨cp,rfl⟩:=cp
 intro ff cr
 replace cr:ah 23=.slice (if ag=(3:Int).toNat then af else nE (·.add ((3:Int).toNat * 1)) af) ai.length (ag - (3:Int).toNat)/\ff=[]:=cr
 obtain ⟨cr,rfl⟩:=cr
 intro fg bZ
 replace bZ:ah 24=.agg #[jV 0,.slice (some ⟨(bk (ah 21)),0,none⟩) 2 2,.slice (if ag=(3:Int).toNat then af else nE (·.add ((3:Int).toNat * 1)) af) ai.length (ag - (3:Int).toNat)]/\fg=[]:=bZ
 obtain ⟨bZ,rfl⟩:=bZ
 intro fh bh
 replace bh:ah 25=.slice (some ⟨(bk (ah 25)),0,none⟩) 2 2/\fh=[.row (some ⟨(bk (ah 25)),0,none⟩) 2 76 3 [jV 1,.slice (some ⟨(bk (ah 17)),0,none⟩) 2 2,.slice (some ⟨(bk (ah 19)),0,none⟩) 1 1,jV 0,.slice (some ⟨(bk (ah 21)),0,none⟩) 2 2,.slice (if ag=(3:Int).toNat then af else nE (·.add ((3:Int).toNat * 1)) af) ai.length (ag - (3:Int).toNat)]]:=bh
 obtain ⟨bh,rfl⟩:=bh
 intro fj bA
 replace bA:ah 26=.agg #[jV 3,.slice (some ⟨(bk (ah 16)),0,none⟩) 2 2,.slice (some ⟨(bk (ah 25)),0,none⟩) 2 2]/\fj=[]:=bA
 obtain ⟨bA,rfl⟩:=bA
 intro fk bf
 replace bf:ah 27=.slice (some ⟨(bk (ah 27)),0,none⟩) 2 2/\fk=[.row (some ⟨(bk (ah 27)),0,none⟩) 2 73 3 [jV 7,.slice (some ⟨(bk (ah 5)),0,none⟩) 2 2,.slice (some ⟨(bk (ah 14)),0,none⟩) 2 2,jV 3,.slice (some ⟨(bk (ah 16)),0,none⟩) 2 2,.slice (some ⟨(bk (ah 25)),0,none⟩) 2 2]]:=bf
 obtain ⟨bf,rfl⟩:=bf
 intro fm bm
 replace bm:ah 28=.agg #[.slice (some ⟨(bk (ah 3)),0,none⟩) 2 2,jV 1,jV 2,jV 100,jV 250,jV 1200,jV 0,.slice (some ⟨(bk (ah 27)),0,none⟩) 2 2]/\fm=[]:=bm
 obtain ⟨bm,rfl⟩:=bm
 intro ap
 simp only [List.nil_append,List.append_nil,List.cons_append] at ap
 generalize bk (ah 3)=cM at bO bP bm ap
 generalize bk (ah 5)=bs at bQ bw bf ap
 generalize bk (ah 6)=bH at bR bS bj ap
 generalize bk (ah 10)=bI at bT bU bj ap
 generalize bk (ah 14)=bt at bj bw bf ap
 generalize bk (ah 16)=bu at bV bA bf ap
 generalize bk (ah 17)=bJ at bW bz bh ap
 generalize bk (ah 18)=cg at bX bx ap
 generalize bk (ah 19)=bK at bx bz bh ap
 generalize bk (ah 21)=bL at bY bZ bh ap
 generalize bk (ah 25)=bv at bh bA bf ap
 generalize bk (ah 27)=cN at bf bm ap
 let B1:Res:=.row (some ⟨bt,0,none⟩) 2 76 3 [jV 0,.slice (some ⟨bH,0,none⟩) 2 2,.slice (if ag=(0:Int).toNat then af else nE (·.add ((0:Int).toNat * 1)) af) aj.length (ag - (0:Int).toNat),jV 1,.slice (some ⟨bI,0,none⟩) 2 2,.slice (if ag=(2:Int).toNat then af else nE (·.add ((2:Int).toNat * 1)) af) ak.length (ag - (2:Int).toNat)]
 let B2:Res:=.row (some ⟨bv,0,none⟩) 2 76 3 [jV 1,.slice (some ⟨bJ,0,none⟩) 2 2,.slice (some ⟨bK,0,none⟩) 1 1,jV 0,.slice (some ⟨bL,0,none⟩) 2 2,.slice (if ag=(3:Int).toNat then af else nE (·.add ((3:Int).toNat * 1)) af) ai.length (ag - (3:Int).toNat)]
 let B3:Res:=.row (some ⟨cN,0,none⟩) 2 73 3 [jV 7,.slice (some ⟨bs,0,none⟩) 2 2,.slice (some ⟨bt,0,none⟩) 2 2,jV 3,.slice (some ⟨bu,0,none⟩) 2 2,.slice (some ⟨bv,0,none⟩) 2 2]
 let B4:Res:=.row (some ⟨cM,0,none⟩) 2 3 1 (nA KL.encI [0,1])
 let B5:Res:=.row (some ⟨bu,0,none⟩) 2 3 1 (nA KL.encI [1,0])
 let B6:Res:=.row (some ⟨bs,0,none⟩) 2 3 1 (nA KL.encI [0,1])
 let B7:Res:=.row (some ⟨bL,0,none⟩) 2 3 1 (nA KL.encI [900,1500])
 let B8:Res:=.row (some ⟨bK,0,none⟩) 1 77 1 [.slice (some ⟨cg,0,none⟩) 5 5]
 let B9:Res:=.row (some ⟨bJ,0,none⟩) 2 3 1 (nA KL.encI [1000,1150])
 let cL:Res:=.row (some ⟨cg,0,none⟩) 5 4 1 (nA KL.encT [true,true,true,true,true])
 let dL:Res:=.row (some ⟨bI,0,none⟩) 2 3 1 (nA KL.encI [900,950])
 have iQ:sW w U fq [B4,B6,.row (some ⟨bH,0,none⟩) 2 3 1 (nA KL.encI [1000,1100]),dL,B1,B5,B9,cL,B8,B7,B2,B3,.blk b2 27 B0] aw:=ap
 have dv:=cE.le eA
 have q:=SlR.cutM (R:=wGx) dv d8
 obtain ⟨lW,pR,pU,pX,qh⟩:=q
 have q:=SlR.cutM (R:=wGx) dv eh
 obtain ⟨lY,pS,pV,pY,qi⟩:=q
 have q:=iQ.freezeR (k:=2) (n:=[1000,1100].length) rfl (wAC (f:=KL.encI) (sz:=1) (fun _=>rfl) [1000,1100]) (by decide)
 obtain ⟨ft,cG,j9,iR⟩:=q
 have iS:sW w U ft [B4,B6,dL,B1,B5,B9,cL,B8,B7,B2,B3,.blk b2 27 B0] aw:=iR
 have q:=iS.freezeR (k:=2) (n:=[900,950].length) rfl (wAC (f:=KL.encI) (sz:=1) (fun _=>rfl) [900,950]) (by decide)
 obtain ⟨dQ,b4,k6,iT⟩:=q
 have iU:sW w U dQ [B4,B6,B1,B5,B9,cL,B8,B7,B2,B3,.blk b2 27 B0] aw:=iT
 have gj:=lY.le cG
 have gm:=gj.le b4
 have gq:=j9.le b4
 have gr:=lW.le cG
 have gu:=gr.le b4
 have j5:RlL dQ wJJ [(⟨0,[1000,1100],aj⟩:wAN),(⟨1,[900,950],ak⟩:wAN)] [jV 0,.slice (some ⟨bH,0,none⟩) 2 2,.slice (if ag=(0:Int).toNat then af else nE (·.add ((0:Int).toNat * 1)) af) aj.length (ag - (0:Int).toNat),jV 1,.slice (some ⟨bI,0,none⟩) 2 2,.slice (if ag=(2:Int).toNat then af else nE (·.add ((2:Int).toNat * 1)) af) ak.length (ag - (2:Int).toNat)]:=(RlL.cons (R:=wJJ) (x:=(⟨0,[1000,1100],aj⟩:wAN)) (vs:=[jV 0,.slice (some ⟨bH,0,none⟩) 2 2,.slice (if ag=(0:Int).toNat then af else nE (·.add ((0:Int).toNat * 1)) af) aj.length (ag - (0:Int).toNat)]) ⟨(some ⟨bH,0,none⟩),2,(if ag=(0:Int).toNat then af else nE (·.add ((0:Int).toNat * 1)) af),(ag - (0:Int).toNat),rfl,gq,gu⟩ (RlL.cons (R:=wJJ) (x:=(⟨1,[900,950],ak⟩:wAN)) (vs:=[jV 1,.slice (some ⟨bI,0,none⟩) 2 2,.slice (if ag=(2:Int).toNat then af else nE (·.add ((2:Int).toNat * 1)) af) ak.length (ag - (2:Int).toNat)]) ⟨(some ⟨bI,0,none⟩),2,(if ag=(2:Int).toNat then af else nE (·.add ((2:Int).toNat * 1)) af),(ag - (2:Int).toNat),rfl,k6,gm⟩ RlL.nil))
 have q:=iU.freezeR (k:=5) (n:=[true,true,true,true,true].length) rfl (wAC (f:=KL.encT) (sz:=1) (fun _=>rfl) [true,true,true,true,true]) (by decide)
 obtain ⟨dR,dD,k8,iV⟩:=q
 have iW:sW w U dR [B4,B6,B1,B5,B9,B8,B7,B2,B3,.blk b2 27 B0] aw:=iV
 let dM:List Value:=[.slice (some ⟨cg,0,none⟩) 5 5]
 have j6:RlL dR wGx [[true,true,true,true,true]] dM:=(RlL.cons (R:=wGx) (x:=[true,true,true,true,true]) (vs:=dM) ⟨(some ⟨cg,0,none⟩),5,rfl,k8⟩ RlL.nil)
 have gv:=dv.le cG
 have gw:=gv.le b4
 have gx:=gw.le dD
 have q:=SlR.cutM (R:=wGx) gx dZ
 obtain ⟨lZ,pT,pW,pZ,qj⟩:=q
 have q:=iW.freezeR (k:=4) (n:=[1000,1150].length) rfl (wAC (f:=KL.encI) (sz:=1) (fun _=>rfl) [1000,1150]) (by decide)
 obtain ⟨fu,cH,k9,iX⟩:=q
 have iY:sW w U fu [B4,B6,B1,B5,B8,B7,B2,B3,.blk b2 27 B0] aw:=iX
 have gy:=j6.le cH
 have q:=iY.freezeRR (R:=wGx) (k:=4) rfl gy rfl (by decide)
 obtain ⟨fw,cI,lb,iZ⟩:=q
 have i2:sW w U fw [B4,B6,B1,B5,B7,B2,B3,.blk b2 27 B0] aw:=iZ
 have q:=i2.freezeR (k:=4) (n:=[900,1500].length) rfl (wAC (f:=KL.encI) (sz:=1) (fun _=>rfl) [900,1500]) (by decide)
 obtain ⟨dS,ca,lc,i4⟩:=q
 have i6:sW w U dS [B4,B6,B1,B5,B2,B3,.blk b2 27 B0] aw:=i4
 have gz:=lZ.le cH
 have gA:=gz.le cI
 have gC:=gA.le ca
 have gD:=k9.le cI
 have gE:=gD.le ca
 have gG:=lb.le ca
 have j7:RlL dS wJJ [(⟨1,[1000,1150],[[true,true,true,true,true]]⟩:wAN),(⟨0,[900,1500],ai⟩:wAN)] [jV 1,.slice (some ⟨bJ,0,none⟩) 2 2,.slice (some ⟨bK,0,none⟩) 1 1,jV 0,.slice (some ⟨bL,0,none⟩) 2 2,.slice (if ag=(3:Int).toNat then af else nE (·.add ((3:Int).toNat * 1)) af) ai.length (ag - (3:Int).toNat)]:=(RlL.cons (R:=wJJ) (x:=(⟨1,[1000,1150],[[true,true,true,true,true]]⟩:wAN)) (vs:=[jV 1,.slice (some ⟨bJ,0,none⟩) 2 2,.slice (some ⟨bK,0,none⟩) 1 1]) ⟨(some ⟨bJ,0,none⟩),2,(some ⟨bK,0,none⟩),1,rfl,gE,gG⟩ (RlL.cons (R:=wJJ) (x:=(⟨0,[900,1500],ai⟩:wAN)) (vs:=[jV 0,.slice (some ⟨bL,0,none⟩) 2 2,.slice (if ag=(3:Int).toNat then af else nE (·.add ((3:Int).toNat * 1)) af) ai.length (ag - (3:Int).toNat)]) ⟨(some ⟨bL,0,none⟩),2,(if ag=(3:Int).toNat then af else nE (·.add ((3:Int).toNat * 1)) af),(ag - (3:Int).toNat),rfl,lc,gC⟩ RlL.nil))
 have q:=i6.freezeR (k:=1) (n:=[0,1].length) rfl (wAC (f:=KL.encI) (sz:=1) (fun _=>rfl) [0,1]) (by decide)
 obtain ⟨fy,dE,lg,i7⟩:=q
 have i8:sW w U fy [B4,B1,B5,B2,B3,.blk b2 27 B0] aw:=i7
 have gH:=j5.le dD
 have gI:=gH.le cH
 have gJ:=gI.le cI
 have gK:=gJ.le ca
 have gL:=gK.le dE
 have q:=i8.freezeRR (R:=wJJ) (k:=1) rfl gL rfl (by decide)
 obtain ⟨fz,dF,lh,i9⟩:=q
 have ja:sW w U fz [B4,B5,B2,B3,.blk b2 27 B0] aw:=i9
 have q:=ja.freezeR (k:=1) (n:=[1,0].length) rfl (wAC (f:=KL.encI) (sz:=1) (fun _=>rfl) [1,0]) (by decide)
 obtain ⟨fA,cJ,li,jb⟩:=q
 have jc:sW w U fA [B4,B2,B3,.blk b2 27 B0] aw:=jb
 have gM:=j7.le dE
 have gN:=gM.le dF
 have gO:=gN.le cJ
 have q:=jc.freezeRR (R:=wJJ) (k:=1) rfl gO rfl (by decide)
 obtain ⟨cd,cK,lj,jd⟩:=q
 have je:sW w U cd [B4,B3,.blk b2 27 B0] aw:=jd
 have gP:=li.le cK
 have gQ:=lg.le dF
 have gR:=gQ.le cJ
 have gS:=gR.le cK
 have gT:=lh.le cJ
 have gU:=gT.le cK
 have j8:RlL cd wFL [(⟨7,[0,1],[(⟨0,[1000,1100],aj⟩:wAN),(⟨1,[900,950],ak⟩:wAN)]⟩:wAH),(⟨3,[1,0],[(⟨1,[1000,1150],[[true,true,true,true,true]]⟩:wAN),(⟨0,[900,1500],ai⟩:wAN)]⟩:wAH)] [jV 7,.slice (some ⟨bs,0,none⟩) 2 2,.slice (some ⟨bt,0,none⟩) 2 2,jV 3,.slice (some ⟨bu,0,none⟩) 2 2,.slice (some ⟨bv,0,none⟩) 2 2]:=(RlL.cons (R:=wFL) (x:=(⟨7,[0,1],[(⟨0,[1000,1100],aj⟩:wAN),(⟨1,[900,950],ak⟩:wAN)]⟩:wAH)) (vs:=[jV 7,.slice (some ⟨bs,0,none⟩) 2 2,.slice (some ⟨bt,0,none⟩) 2 2]) ⟨(some ⟨bs,0,none⟩),2,(some ⟨bt,0,none⟩),2,rfl,gS,gU⟩ (RlL.cons (R:=wFL) (x:=(⟨3,[1,0],[(⟨1,[1000,1150],[[true,true,true,true,true]]⟩:wAN),(⟨0,[900,1500],ai⟩:wAN)]⟩:wAH)) (vs:=[jV 3,.slice (some ⟨bu,0,none⟩) 2 2,.slice (some ⟨bv,0,none⟩) 2 2]) ⟨(some ⟨bu,0,none⟩),2,(some ⟨bv,0,none⟩),2,rfl,gP,lj⟩ RlL.nil))
 show OKS _ _ _ _ _ _ (.fx 26 .nil .stop) ah aw
 let dN:List Value:=[.slice (some ⟨cM,0,none⟩) 2 2,jV 1,jV 2,jV 100,jV 250,jV 1200,jV 0,.slice (some ⟨cN,0,none⟩) 2 2]
 refine ZK (j:=2) (vs:=dN) Z Z Z Z je Z dY bm Z Zf (zJ Z) Z Z Z ?_
 intro f9 jf
 have jg:sW w U cd [B4,B3,.blk b2 27 dN] f9:=jf
 refine zg ?_
 cases jW
 exact zF ⟨Z,⟨cd,(some ⟨cM,0,none⟩),2,(some ⟨cN,0,none⟩),2,[jV 7,.slice (some ⟨bs,0,none⟩) 2 2,.slice (some ⟨bt,0,none⟩) 2 2,jV 3,.slice (some ⟨bu,0,none⟩) 2 2,.slice (some ⟨bv,0,none⟩) 2 2],dY,(((((((((((lS.trans eA).trans cG).trans b4).trans dD).trans cH).trans cI).trans ca).trans dE).trans dF).trans cJ).trans cK),jg,j8⟩⟩
 rintro qO ou ⟨fB,bE,bM,bF,bN,ch,gg,qJ,ep,gV⟩
 refine zS ?_
 cases eu
 let dO:List Value:=[.slice bE dB.length bM,jV 1,jV 2,jV 100,jV 250,jV 1200,jV 0,.slice bF dC.length bN]
 exact ⟨rfl,_,(wGv (v:=.agg dO.toArray) ⟨⟨_,gg,(wEv yK Zf (ep.blkAt (k:=2) rfl) (vs:=dO) rfl rfl)⟩,trivial⟩),fB,_,(ep.pick [0,1] _ (by decide) rfl),bE,bM,bF,bN,ch,rfl,rfl,gV⟩
set_option maxHeartbeats 4000000
theorem wHk (p0:Int) (p1:(Int->Option Bool)) (aj:Nat) (ag:Value) (w:World) (U:PHeap) (hS:St0 w U []) (ap:Cl U aj 0 [ag]) (aq:FnOK Tryz.prog U ag wGy wHg p1) {r:Bool} (hm:wCw p0 p1=some r):Gv Tryz.prog 200 [jV p0,.pointer (some ⟨aj,0,none⟩)] w (wBp w [] U (fun U_ L_ v=>v=.bool r/\L_=[])):=by
 unfold wCw at hm
 refine Gv.of Tryz.func200 Z Tryz.ntmps200 Tryz.results200 Z (sR fL1 Z (oA Z Z (eN (sR gBo Z (oL Z (hS.ldC (f:=0) ap (v:=ag) Z Z Tryz.isAgg131 Z) (oM Z Z (bnK hm fun x1 h2 au=>YL (a:=p0) Z Z Z Z Z Z (zH Z zZ) hS aq Z h2 ?_)))))))
 rintro U4 L5 v6 W7 aw ao ⟨rfl,rfl⟩
 have an:sW w U U4 [] W7:=ao
 refine oR Z (Za Z Z) (oA Z Z (eN (zS ?_)))
 cases au
 exact ⟨Z,_,(zw Z),U4,_,an,Z,Z⟩
theorem wFV (p0:List Int) (ao:Option Addr) (ap:Nat) (p1:(Int->Option Bool)) (aq:Value) (w:World) (U:PHeap) (hS:St0 w U []) (bv:Sl U 1 ao ap p0.length (nA KL.encI p0)) (bw:FnOK Tryz.prog U aq wGy wHg p1) {r:Int} (hm:wCi p0 p1=some r):Gv Tryz.prog 276 [.slice ao p0.length ap,aq] w (wBp w [] U (fun U_ L_ v=>v=jV r/\L_=[])):=by
 unfold wCi at hm
 refine Gv.of Tryz.func276 Z Tryz.ntmps276 Tryz.results276 Z (sR fL1 Z (oA Z Z (eN (zG (sR fL3 Z (oM Z Z (oR Z (zW Z Z zA) (oM Z Z (eN (zR ?_))))))))))
 have q:=wBQ hm
 obtain ⟨r3,aj⟩:=q
 have q:=wBP aj
 obtain ⟨am,bA⟩:=q
 replace am:=zI am
 refine yF (fun k2 _ σ_ w_=>∃ (U_:PHeap),σ_ 8=jV (↑k2:Int)/\σ_ 0=.slice ao p0.length ap/\σ_ 1=aq/\σ_ 7=jV (↑p0.length:Int)/\PHeap.Le U U_/\sW w U U_ [] w_) bA ?_ ?_ ?_
 exact ⟨U,Z,Z,Z,Z,(zN _),hS⟩
 rintro k2 ⟨⟩ bW bY W8 ak ⟨bL,ai,av,aw,ax,an,az⟩ bb bx
 try dsimp only at bb
 have au:Hid ((↑k2:Int) < (↑p0.length:Int)):=zI (wAo ak)
 replace ak:=zI ak
 have bC:Hid (w64 ((↑k2:Int) + 1)=(↑(k2 + 1):Int)):=zI (by have h1:=am.out;have h2:=au.out;rw [wAQ] <;> omega)
 refine sR fL1 Z (oR Z (zV Z ai ax) (eN (zG (cT Z au (kN (zG (zR (sR fL2 Z (oM Z ai (oA Z Z (eN (sR (wGD (.fx 5 .nil .stop)) Z (oM Z aw (oM Z av (oM Z Z (bnK bb fun be ay bD=>?_))))))))))))))))
 have bn:=bv.le an
 have q:=bn.el (fun _=>rfl) (wAK ay)
 obtain ⟨bO,bS,br,bs⟩:=q
 refine oR Z (ZC Z Z br Z zA zC (wAg ay)) (oL Z (az.ldC (f:=0) bs (v:=jV be) Z Z zM Z) (bnK bD fun bV bo bE=>?_))
 have bp:=bw.le an
 refine YL (a:=be) Z Z Z Z Z Z (zH Z zZ) az bp Z bo ?_
 rintro ag bK bU bg bI bt ⟨rfl,rfl⟩
 have a7:sW w U ag [] bg:=bt
 refine eN (ifc bE ?_ ?_)
 intro ah bF
 refine ZA (congrArg nG ah.out) (sR fL2 Z (oM Z Z (oA Z Z (eN (zS (zU (zK ?_)))))))
 have q:=wAM bF
 obtain ⟨bJ,bG,bi⟩:=q
 have q:=wBI hm aj (bx bJ bi)
 obtain rfl:=q
 refine zK (zU (zK ?_))
 cases bG
 exact ⟨Z,_,(zw Z),ag,_,a7,Z,Z⟩
 intro ah bH
 refine zn (congrArg nG (nH.2 ah.out)) (ZO (zd (zF (rR fL2 Z (oR Z (zz (zY Z ai Z) (congrArg (jV) bC.out)) (oM Z Z (zg ?_)))))))
 have q:=nD bH
 obtain rfl:=q
 exact zF ⟨Z,_,Z,⟨ag,Z,av,aw,ax,(an.trans bI),a7⟩⟩
 rintro ⟨⟩ bX bM ⟨bf,bm,bP,bQ,bj,bR,bu⟩ bz
 have a8:=wCg hm aj bz
 try dsimp only at a8
 have bh:Hid (¬ ((↑(((↑p0.length:Int):Int) - 0).toNat:Int) < (↑p0.length:Int))):=zI (wAc)
 refine sR fL1 Z (oR Z (zV Z bm bj) (eN (zG (cF Z bh (ZD (zb (zb (zr (zF (sR fL1 Z (oA Z Z (eN (zS ?_)))))))))))))
 cases a8
 exact ⟨Z,_,(zw Z),bf,_,bu,Z,Z⟩
theorem wEs (p0:List Int) (ah:Option Addr) (ai:Nat) (p1:(Int->Option Bool)) (aj:Value) (w:World) (U:PHeap) (hS:St0 w U []) (au:Sl U 1 ah ai p0.length (nA KL.encI p0)) (av:FnOK Tryz.prog U aj wGy wHg p1) {r:Bool} (hm:wCG p0 p1=some r):Gv Tryz.prog 199 [.slice ah p0.length ai,aj] w (wBp w [] U (fun U_ L_ v=>v=.bool r/\L_=[])):=by
 unfold wCG at hm
 refine Gv.of Tryz.func199 Z Tryz.ntmps199 Tryz.results199 Z (sR fL1 Z (oA Z Z (eN (sR gBo Z (oM Z Z (oM Z Z (bnK hm fun x1 h2 am=>zP 0 Z Z Z Z (zQ Z Z Tryz.call276 (zH Z (zH Z zZ)) Z) hS (fun hs=>wFV p0 ah ai p1 aj w U hs au av h2) (.inr Z) ?_)))))))
 rintro U4 L5 v6 W7 ax aq ⟨rfl,rfl⟩
 have ap:sW w U U4 [] W7:=aq
 refine oR Z (YM Z Z Z) (oA Z Z (eN (zS ?_)))
 first | (obtain rfl:=nD am) | cases am
 exact ⟨Z,_,(zw Z),U4,_,ap,Z,Z⟩
theorem wDX (p0:List Int) (am:Option Addr) (an:Nat) (p1:(Int->Option Bool)) (aj:Value) (w:World) (U:PHeap) (hS:St0 w U []) (bg:Sl U 1 am an p0.length (nA KL.encI p0)) (aq:FnOK Tryz.prog U aj wGy wHg p1) {r:Bool} (hm:wBg p0 p1=some r):Gv Tryz.prog 114 [.slice am p0.length an,aj] w (wBp w [] U (fun U_ L_ v=>v=.bool r/\L_=[])):=by
 unfold wBg at hm
 refine Gv.of Tryz.func114 Z Tryz.ntmps114 Tryz.results114 Z (sR gBa Z (ZX (cs:=[aj]) Z Z Z Z Z Z (FnOK.cells aq) hS ?_))
 intro W1 b2 bd
 have q:=bd.freeze (k:=0) rfl
 obtain ⟨U5,au,ag,be⟩:=q
 replace ag:=Cl.of ag
 have bf:sW w U U5 [] W1:=be
 replace ag:Cl U5 b2 0 [aj]:=ag
 refine oA Z Z (eN (sR gBo Z (oM Z Z (oR Z (YN Z zZ (zH Z zZ)) ?_))))
 have ax:=bg.le au
 have ay:=aq.le au
 have a7:FnOK Tryz.prog U5 (.func (.func 200) #[] #[.pointer (some ⟨b2,0,none⟩)]) wGy wHg (fun x=>wCw x p1):=⟨200,[],[.pointer (some ⟨b2,0,none⟩)],rfl,Tryz.call200,fun U1 w1 x y vs le hs ha hm=>by obtain rfl:=ha;exact wHk x p1 b2 aj w1 U1 hs (ag.le le) (ay.le le) hm⟩
 refine bnK hm fun bo az bh=>zP 0 Z Z Z Z (zQ Z Z Tryz.call199 (zH Z (zH Z zZ)) Z) bf (fun hs=>wEs p0 am an (fun x=>wCw x p1) (.func (.func 200) #[] #[.pointer (some ⟨b2,0,none⟩)]) W1 U5 hs ax a7 az) (.inr Z) ?_
 rintro ao bj bn aw bm a8 ⟨rfl,rfl⟩
 have bb:sW w U ao [] aw:=a8
 refine oR Z (Za Z Z) (oA Z Z (eN (zS ?_)))
 cases bh
 exact ⟨Z,_,(zw Z),ao,_,bb,Z,Z⟩
theorem wIG (p0:Int) (w:World) (U:PHeap) (hS:St0 w U [])  {r:Bool} (hm:wBJ p0=some r):Gv Tryz.prog 198 [jV p0] w (wBp w [] U (fun U_ L_ v=>v=.bool r/\L_=[])):=by
 unfold wBJ at hm
 refine Gv.of Tryz.func198 Z Tryz.ntmps198 Tryz.results198 Z (sR fL1 Z (oA Z Z (eN (sR gBi Z (oM Z Z (bnK hm fun x1 h2 am=>zP 0 Z Z Z Z (zQ Z Z ym (zH Z (zH Z (zH Z zZ))) Z) hS (fun hs=>wDC p0 0 3 w U hs h2) (.inr Z) ?_))))))
 rintro U4 L5 v6 W7 ao ak ⟨rfl,rfl⟩
 have aj:sW w U U4 [] W7:=ak
 refine oA Z Z (eN (zS ?_))
 have hE:=nD am;first | subst r | cases hE
 exact ⟨Z,_,(zw Z),U4,_,aj,Z,Z⟩
theorem wFO (p0:List Int) (ag:Option Addr) (ah:Nat) (w:World) (U:PHeap) (hS:St0 w U []) (aq:Sl U 1 ag ah p0.length (nA KL.encI p0)) {r:Bool} (hm:wBz p0=some r):Gv Tryz.prog 112 [.slice ag p0.length ah] w (wBp w [] U (fun U_ L_ v=>v=.bool r/\L_=[])):=by
 unfold wBz at hm
 refine Gv.of Tryz.func112 Z Tryz.ntmps112 Tryz.results112 Z (sR fL1 Z (oA Z Z (eN (sR gBi Z (oM Z Z ?_)))))
 have an:FnOK Tryz.prog U (.func (.func 198) #[] #[]) wGy wHg wBJ:=⟨198,[],[],rfl,Tryz.call198,fun U1 w1 x y vs le hs ha hm=>by obtain rfl:=ha;exact wIG x w1 U1 hs  hm⟩
 refine bnK hm fun x2 h3 au=>zP 0 Z Z Z Z (zQ Z Z Tryz.call114 (zH Z (zH Z zZ)) Z) hS (fun hs=>wDX p0 ag ah wBJ (.func (.func 198) #[] #[]) w U hs aq an h3) (.inr Z) ?_
 rintro U5 L6 v7 W8 ax ao ⟨rfl,rfl⟩
 have ap:sW w U U5 [] W8:=ao
 refine oA Z Z (eN (zS ?_))
 have hE:=nD au;first | subst r | cases hE
 exact ⟨Z,_,(zw Z),U5,_,ap,Z,Z⟩
theorem wIc (p0:wAE) (ag:Option Addr) (ah:Nat) (w:World) (U:PHeap) (hS:St0 w U []) (am:Sl U 1 ag ah p0.Classes.length (nA KL.encI p0.Classes)) {r:Int} (hm:wBh p0=some r):Gv Tryz.prog 270 [.agg #[.slice ag p0.Classes.length ah,jV p0.Each,jV p0.Laps,jV p0.Spare,jV p0.Loop,jV p0.Unused]] w (wBp w [] U (fun U_ L_ v=>v=jV r/\L_=[])):=by
 unfold wBh at hm
 refine Gv.of Tryz.func270 rfl Tryz.ntmps270 Tryz.results270 rfl (sR gBa rfl (ZX (cs:=[.slice ag p0.Classes.length ah,jV p0.Each,jV p0.Laps,jV p0.Spare,jV p0.Loop,jV p0.Unused]) rfl rfl rfl rfl rfl rfl (by rfl) hS ?_))
 intro W1 b2 ai
 refine oA Z Z (eN (sR fL3 Z (oR Z (zD Z Z ZG Z zC) (oL Z (ai.ldB (j:=0) Z Z Z zM (v:=jV p0.Each) Z) (oA Z Z (eN (zS ?_)))))))
 cases hm
 exact ⟨rfl,_,(zw rfl),U,_,(ai.pick [] _ (by decide) rfl),rfl,rfl⟩
theorem wId (p0:wAE) (ag:Option Addr) (ah:Nat) (w:World) (U:PHeap) (hS:St0 w U []) (am:Sl U 1 ag ah p0.Classes.length (nA KL.encI p0.Classes)) {r:Int} (hm:wBi p0=some r):Gv Tryz.prog 271 [.agg #[.slice ag p0.Classes.length ah,jV p0.Each,jV p0.Laps,jV p0.Spare,jV p0.Loop,jV p0.Unused]] w (wBp w [] U (fun U_ L_ v=>v=jV r/\L_=[])):=by
 unfold wBi at hm
 refine Gv.of Tryz.func271 rfl Tryz.ntmps271 Tryz.results271 rfl (sR gBa rfl (ZX (cs:=[.slice ag p0.Classes.length ah,jV p0.Each,jV p0.Laps,jV p0.Spare,jV p0.Loop,jV p0.Unused]) rfl rfl rfl rfl rfl rfl (by rfl) hS ?_))
 intro W1 b2 ai
 refine oA Z Z (eN (sR fL3 Z (oR Z (zD Z Z ZG Z zC) (oL Z (ai.ldB (j:=0) Z Z Z zM (v:=jV p0.Laps) Z) (oA Z Z (eN (zS ?_)))))))
 cases hm
 exact ⟨rfl,_,(zw rfl),U,_,(ai.pick [] _ (by decide) rfl),rfl,rfl⟩
theorem wIe (p0:wAE) (ag:Option Addr) (ah:Nat) (w:World) (U:PHeap) (hS:St0 w U []) (am:Sl U 1 ag ah p0.Classes.length (nA KL.encI p0.Classes)) {r:Int} (hm:wBj p0=some r):Gv Tryz.prog 272 [.agg #[.slice ag p0.Classes.length ah,jV p0.Each,jV p0.Laps,jV p0.Spare,jV p0.Loop,jV p0.Unused]] w (wBp w [] U (fun U_ L_ v=>v=jV r/\L_=[])):=by
 unfold wBj at hm
 refine Gv.of Tryz.func272 rfl Tryz.ntmps272 Tryz.results272 rfl (sR gBa rfl (ZX (cs:=[.slice ag p0.Classes.length ah,jV p0.Each,jV p0.Laps,jV p0.Spare,jV p0.Loop,jV p0.Unused]) rfl rfl rfl rfl rfl rfl (by rfl) hS ?_))
 intro W1 b2 ai
 refine oA Z Z (eN (sR fL3 Z (oR Z (zD Z Z ZG Z zC) (oL Z (ai.ldB (j:=0) Z Z Z zM (v:=jV p0.Spare) Z) (oA Z Z (eN (zS ?_)))))))
 cases hm
 exact ⟨rfl,_,(zw rfl),U,_,(ai.pick [] _ (by decide) rfl),rfl,rfl⟩
theorem wIf (p0:wAE) (ag:Option Addr) (ah:Nat) (w:World) (U:PHeap) (hS:St0 w U []) (am:Sl U 1 ag ah p0.Classes.length (nA KL.encI p0.Classes)) {r:Int} (hm:wBk p0=some r):Gv Tryz.prog 273 [.agg #[.slice ag p0.Classes.length ah,jV p0.Each,jV p0.Laps,jV p0.Spare,jV p0.Loop,jV p0.Unused]] w (wBp w [] U (fun U_ L_ v=>v=jV r/\L_=[])):=by
 unfold wBk at hm
 refine Gv.of Tryz.func273 rfl Tryz.ntmps273 Tryz.results273 rfl (sR gBa rfl (ZX (cs:=[.slice ag p0.Classes.length ah,jV p0.Each,jV p0.Laps,jV p0.Spare,jV p0.Loop,jV p0.Unused]) rfl rfl rfl rfl rfl rfl (by rfl) hS ?_))
 intro W1 b2 ai
 refine oA Z Z (eN (sR fL3 Z (oR Z (zD Z Z ZG Z zC) (oL Z (ai.ldB (j:=0) Z Z Z zM (v:=jV p0.Loop) Z) (oA Z Z (eN (zS ?_)))))))
 cases hm
 exact ⟨rfl,_,(zw rfl),U,_,(ai.pick [] _ (by decide) rfl),rfl,rfl⟩
theorem wIg (p0:wAE) (ag:Option Addr) (ah:Nat) (w:World) (U:PHeap) (hS:St0 w U []) (am:Sl U 1 ag ah p0.Classes.length (nA KL.encI p0.Classes)) {r:Int} (hm:wBl p0=some r):Gv Tryz.prog 274 [.agg #[.slice ag p0.Classes.length ah,jV p0.Each,jV p0.Laps,jV p0.Spare,jV p0.Loop,jV p0.Unused]] w (wBp w [] U (fun U_ L_ v=>v=jV r/\L_=[])):=by
 unfold wBl at hm
 refine Gv.of Tryz.func274 rfl Tryz.ntmps274 Tryz.results274 rfl (sR gBa rfl (ZX (cs:=[.slice ag p0.Classes.length ah,jV p0.Each,jV p0.Laps,jV p0.Spare,jV p0.Loop,jV p0.Unused]) rfl rfl rfl rfl rfl rfl (by rfl) hS ?_))
 intro W1 b2 ai
 refine oA Z Z (eN (sR fL3 Z (oR Z (zD Z Z ZG Z zC) (oL Z (ai.ldB (j:=0) Z Z Z zM (v:=jV p0.Unused) Z) (oA Z Z (eN (zS ?_)))))))
 cases hm
 exact ⟨rfl,_,(zw rfl),U,_,(ai.pick [] _ (by decide) rfl),rfl,rfl⟩
theorem wJk  (w:World) (U:PHeap) (hS:St0 w U [])  {r:(List wAU)} (hm:wEO =some r):Gv Tryz.prog 194 [] w (wBp w [] U (fun U_ L_ v=>∃ (A0:Option Addr) (c0:Nat) (av:List Value),v=.slice A0 r.length c0/\L_=[.row A0 c0 342 3 av]/\RlL U_ wJK r av)):=by
 unfold wEO at hm
 refine Gv.of Tryz.func194 Z Tryz.ntmps194 Tryz.results194 Z (sR fL1 Z (oA Z Z (eN (sR (wGD gBc) Z ?_))))
 let B0:List Value:=[.nilFunc,jV 0,jV 0]
 let B1:List Value:=[.func (.func 270) #[] #[],jV 1,jV 4]
 refine oR Z (ZT (pv:=[(0,.func (.func 270) #[] #[]),(1,jV 1),(2,jV 4)]) (z:=B0) (cs:=B1) Z (wAA Z (wAA Z (wAA Z wAO))) YU wGb Z Z) ?_
 let B2:List Value:=[.func (.func 271) #[] #[],jV 1,jV 5]
 refine oR Z (ZT (pv:=[(0,.func (.func 271) #[] #[]),(1,jV 1),(2,jV 5)]) (z:=B0) (cs:=B2) Z (wAA Z (wAA Z (wAA Z wAO))) YU wGb Z Z) ?_
 let B3:List Value:=[.func (.func 272) #[] #[],jV 0,jV 600]
 refine oR Z (ZT (pv:=[(0,.func (.func 272) #[] #[]),(1,jV 0),(2,jV 600)]) (z:=B0) (cs:=B3) Z (wAA Z (wAA Z (wAA Z wAO))) YU wGb Z Z) ?_
 let B4:List Value:=[.func (.func 273) #[] #[],jV 0,jV 600]
 refine oR Z (ZT (pv:=[(0,.func (.func 273) #[] #[]),(1,jV 0),(2,jV 600)]) (z:=B0) (cs:=B4) Z (wAA Z (wAA Z (wAA Z wAO))) YU wGb Z Z) ?_
 let B5:List Value:=[.func (.func 274) #[] #[],jV 0,jV 6000]
 refine oR Z (ZT (pv:=[(0,.func (.func 274) #[] #[]),(1,jV 0),(2,jV 6000)]) (z:=B0) (cs:=B5) Z (wAA Z (wAA Z (wAA Z wAO))) YU wGb Z Z) ?_
 let B6:List Value:=[.func (.func 270) #[] #[],jV 1,jV 4,.func (.func 271) #[] #[],jV 1,jV 5,.func (.func 272) #[] #[],jV 0,jV 600,.func (.func 273) #[] #[],jV 0,jV 600,.func (.func 274) #[] #[],jV 0,jV 6000]
 refine zk (pv:=[(0,.agg B1.toArray),(1,.agg B2.toArray),(2,.agg B3.toArray),(3,.agg B4.toArray),(4,.agg B5.toArray)]) (zs:=[.nilFunc,jV 0,jV 0,.nilFunc,jV 0,jV 0,.nilFunc,jV 0,jV 0,.nilFunc,jV 0,jV 0,.nilFunc,jV 0,jV 0]) (cs:=B6) Z Z Z Z Z (wAA Z (wAA Z (wAA Z (wAA Z (wAA Z wAO))))) Tryz.runUnderlying343 Tryz.sizeOf342 YU Z Z Z Z Z hS ?_
 intro W1 b2 bd
 have ax:FnOK Tryz.prog U (.func (.func 274) #[] #[]) wKC wKD wBl:=⟨274,[],[],rfl,Tryz.call274,fun U1 w1 x y vs le hs ha hm=>by obtain ⟨pA_0_0,pc_0_0,rfl,hq0_0⟩:=ha;exact wIg x pA_0_0 pc_0_0 w1 U1 hs hq0_0 hm⟩
 have ay:FnOK Tryz.prog U (.func (.func 273) #[] #[]) wKC wKD wBk:=⟨273,[],[],rfl,Tryz.call273,fun U1 w1 x y vs le hs ha hm=>by obtain ⟨pA_0_0,pc_0_0,rfl,hq0_0⟩:=ha;exact wIf x pA_0_0 pc_0_0 w1 U1 hs hq0_0 hm⟩
 have az:FnOK Tryz.prog U (.func (.func 272) #[] #[]) wKC wKD wBj:=⟨272,[],[],rfl,Tryz.call272,fun U1 w1 x y vs le hs ha hm=>by obtain ⟨pA_0_0,pc_0_0,rfl,hq0_0⟩:=ha;exact wIe x pA_0_0 pc_0_0 w1 U1 hs hq0_0 hm⟩
 have a7:FnOK Tryz.prog U (.func (.func 271) #[] #[]) wKC wKD wBi:=⟨271,[],[],rfl,Tryz.call271,fun U1 w1 x y vs le hs ha hm=>by obtain ⟨pA_0_0,pc_0_0,rfl,hq0_0⟩:=ha;exact wId x pA_0_0 pc_0_0 w1 U1 hs hq0_0 hm⟩
 have a8:FnOK Tryz.prog U (.func (.func 270) #[] #[]) wKC wKD wBh:=⟨270,[],[],rfl,Tryz.call270,fun U1 w1 x y vs le hs ha hm=>by obtain ⟨pA_0_0,pc_0_0,rfl,hq0_0⟩:=ha;exact wIc x pA_0_0 pc_0_0 w1 U1 hs hq0_0 hm⟩
 have be:RlL U wJK [(⟨wBh,1,4⟩:wAU),(⟨wBi,1,5⟩:wAU),(⟨wBj,0,600⟩:wAU),(⟨wBk,0,600⟩:wAU),(⟨wBl,0,6000⟩:wAU)] B6:=(RlL.cons (R:=wJK) (x:=(⟨wBh,1,4⟩:wAU)) (vs:=B1) ⟨(.func (.func 270) #[] #[]),rfl,a8⟩ (RlL.cons (R:=wJK) (x:=(⟨wBi,1,5⟩:wAU)) (vs:=B2) ⟨(.func (.func 271) #[] #[]),rfl,a7⟩ (RlL.cons (R:=wJK) (x:=(⟨wBj,0,600⟩:wAU)) (vs:=B3) ⟨(.func (.func 272) #[] #[]),rfl,az⟩ (RlL.cons (R:=wJK) (x:=(⟨wBk,0,600⟩:wAU)) (vs:=B4) ⟨(.func (.func 273) #[] #[]),rfl,ay⟩ (RlL.cons (R:=wJK) (x:=(⟨wBl,0,6000⟩:wAU)) (vs:=B5) ⟨(.func (.func 274) #[] #[]),rfl,ax⟩ RlL.nil)))))
 have bb:sW w U U [.row (some ⟨b2,0,none⟩) 5 342 3 B6] W1:=bd
 refine oA Z Z (eN (zS ?_))
 cases hm
 exact ⟨Z,_,(zw Z),U,_,bb,(some ⟨b2,0,none⟩),5,B6,Z,Z,be⟩
theorem wGz (p0:wAU) (ak:Value) (p1:wAE) (av:Nat) (ai:Option Addr) (aj:Nat) (w:World) (U:PHeap) (hS:St0 w U []) (be:FnOK Tryz.prog U ak wKC wKD p0.of) (bf:Cl U av 0 [.slice ai p1.Classes.length aj,jV p1.Each,jV p1.Laps,jV p1.Spare,jV p1.Loop,jV p1.Unused]) (bg:Sl U 1 ai aj p1.Classes.length (nA KL.encI p1.Classes)) {r:Bool} (hm:wBt p0 p1=some r):Gv Tryz.prog 195 [.agg #[ak,jV p0.lo,jV p0.hi],.pointer (some ⟨av,0,none⟩)] w (wBp w [] U (fun U_ L_ v=>v=.bool r/\L_=[])):=by
 unfold wBt at hm
 refine Gv.of Tryz.func195 Z Tryz.ntmps195 Tryz.results195 Z (sR gBa Z ?_)
 let B0:List Value:=[ak,jV p0.lo,jV p0.hi]
 refine ZX (cs:=B0) rfl rfl rfl rfl rfl rfl (by rfl) hS ?_
 intro W1 b2 bd
 refine yw rfl rfl rfl rfl rfl rfl (eN (zG (ZY ZQ [3,1,1,2,3,1,3,1,2,3] (wDw (fC4_7 (.fx 3 (.fx 8 (.fl 9 .nil) .stop) .stop))) (by kernel_rfl) ?_)))
 have ah:=bd.drew
 generalize hw_W6:({ W1 with drawn:=W1.drawn + 1 }:World)=W6 at ah ⊢
 refine oR Z (zD Z Z Tryz.runUnderlying342 Z Tryz.sizeOf340) (oL Z (ah.ldB (j:=0) Z Z Z Tryz.isAgg340 (v:=ak) Z) (oL Z (ah.ldCA (f:=0) bf Z Z yR ZZ (us:=[.slice ai p1.Classes.length aj,jV p1.Each,jV p1.Laps,jV p1.Spare,jV p1.Loop,jV p1.Unused]) Z Z) (oR Z (zD Z Z Tryz.runUnderlying342 Z zC) (oL Z (ah.ldB (j:=0) Z Z Z zM (v:=jV p0.lo) Z) (oR Z (zD Z Z Tryz.runUnderlying342 Z zC) (oL Z (ah.ldB (j:=0) Z Z Z zM (v:=jV p0.hi) Z) (bnK hm fun x7 h8 bi=>YL (a:=p1) Z Z Z Z Z Z (zH Z zZ) ah be ⟨ai,aj,Z,bg⟩ h8 ?_)))))))
 rintro an bm bs aq bp az ⟨rfl,rfl⟩
 have a7:sW w U an [.blk b2 342 B0] aq:=az
 refine bnK bi fun bu ax bh=>zP 0 Z Z Z Z (zQ Z Z ym (zH Z (zH Z (zH Z zZ))) Z) a7 (fun hs=>wDC x7 p0.lo p0.hi aq an hs ax) (.inr Z) ?_
 rintro ao bn bt aw br a8 ⟨rfl,rfl⟩
 have bb:sW w U ao [.blk b2 342 B0] aw:=a8
 refine oA Z Z (eN (zS ?_))
 have hE:=nD bh;first | subst r | cases hE
 exact ⟨rfl,_,(zw rfl),ao,_,(bb.pick [] _ (by decide) rfl),rfl,rfl⟩
theorem wFW (p0:wAU) (ag:Value) (p1:(wAU->Option Bool)) (an:Nat) (aj:Value) (w:World) (U:PHeap) (hS:St0 w U []) (aw:FnOK Tryz.prog U ag wKC wKD p0.of) (ax:Cl U an 0 [aj]) (ay:FnOK Tryz.prog U aj wNH wNI p1) {r:Bool} (hm:wBL p0 p1=some r):Gv Tryz.prog 269 [.agg #[ag,jV p0.lo,jV p0.hi],.pointer (some ⟨an,0,none⟩)] w (wBp w [] U (fun U_ L_ v=>v=.bool r/\L_=[])):=by
 unfold wBL at hm
 refine Gv.of Tryz.func269 Z Tryz.ntmps269 Tryz.results269 Z (sR gBa Z ?_)
 let B0:List Value:=[ag,jV p0.lo,jV p0.hi]
 refine ZX (cs:=B0) rfl rfl rfl rfl rfl rfl (by rfl) hS ?_
 intro W1 b2 ai
 refine oA Z Z (eN (sR gBo Z (oL Z (ai.ldC (f:=0) ax (v:=aj) Z Z Tryz.isAgg345 Z) (oL Z (ai.ldBA (j:=0) Z Z Z Tryz.isAgg342 Tryz.sizeOf342 (vs:=B0) Z Z) (bnK hm fun x5 h6 az=>YL (a:=p0) Z Z Z Z Z Z (zH Z zZ) ai ay ⟨ag,Z,aw⟩ h6 ?_)))))
 rintro U8 L9 bd ao bb au ⟨rfl,rfl⟩
 have av:sW w U U8 [.blk b2 342 B0] ao:=au
 refine oR Z (Za Z Z) (oA Z Z (eN (zS ?_)))
 cases az
 exact ⟨rfl,_,(zw rfl),U8,_,(av.pick [] _ (by decide) rfl),rfl,rfl⟩
theorem wDy (p0:List wAU) (aq:Option Addr) (au:Nat) (p1:(wAU->Option Bool)) (av:Value) (w:World) (U:PHeap) (hS:St0 w U []) (bA:SlR U wJK aq au p0) (bC:FnOK Tryz.prog U av wNH wNI p1) {r:Int} (hm:wAx p0 p1=some r):Gv Tryz.prog 334 [.slice aq p0.length au,av] w (wBp w [] U (fun U_ L_ v=>v=jV r/\L_=[])):=by
 unfold wAx at hm
 refine Gv.of Tryz.func334 Z Tryz.ntmps334 Tryz.results334 Z (sR fL1 Z (oA Z Z (eN (zG (sR fL3 Z (oM Z Z (oR Z (zW Z Z Tryz.runUnderlying343) (oM Z Z (eN (zR ?_))))))))))
 have q:=wBQ hm
 obtain ⟨r3,am⟩:=q
 have q:=wBP am
 obtain ⟨ao,bF⟩:=q
 replace ao:=zI ao
 refine yF (fun k2 _ σ_ w_=>∃ (U_:PHeap),σ_ 8=jV (↑k2:Int)/\σ_ 0=.slice aq p0.length au/\σ_ 1=av/\σ_ 7=jV (↑p0.length:Int)/\PHeap.Le U U_/\sW w U U_ [] w_) bF ?_ ?_ ?_
 exact ⟨U,Z,Z,Z,Z,(zN _),hS⟩
 rintro k2 ⟨⟩ b4 cc W8 an ⟨bh,aj,ay,az,a7,ap,bb⟩ bf bD
 try dsimp only at bf
 have ax:Hid ((↑k2:Int) < (↑p0.length:Int)):=zI (wAo an)
 replace an:=zI an
 have bG:Hid (w64 ((↑k2:Int) + 1)=(↑(k2 + 1):Int)):=zI (by have h1:=ao.out;have h2:=ax.out;rw [wAQ] <;> omega)
 refine sR fL1 Z (oR Z (zV Z aj a7) (eN (zG (cT Z ax (kN (zG (zR (sR fL2 Z (oM Z aj (oA Z Z (eN (sR (wGD (.fx 5 .nil .stop)) Z (oM Z az (oM Z ay (oM Z Z (bnK bf fun ag a8 bH=>?_))))))))))))))))
 have bs:=bA.le ap
 have q:=bs.el (wAK a8)
 obtain ⟨bm,bO,bY,bw,ak,bM⟩:=q
 obtain ⟨aw,rfl,bt⟩:=bM
 replace ak:Cl bh bm (bO + k2 * 3) [aw,jV ag.lo,jV ag.hi]:=ak
 refine oR Z (ZC Z Z bw Z Tryz.runUnderlying343 Tryz.sizeOf342 (wAg a8)) (oL Z (bb.ldCA (f:=0) ak Z Z Tryz.isAgg342 Tryz.sizeOf342 (us:=[aw,jV ag.lo,jV ag.hi]) Z Z) (bnK bH fun bZ bu bI=>?_))
 have bv:=bC.le ap
 refine YL (a:=ag) Z Z Z Z Z Z (zH Z zZ) bb bv ⟨aw,Z,bt⟩ bu ?_
 rintro ah bQ bX bj bN bx ⟨rfl,rfl⟩
 have bd:sW w U ah [] bj:=bx
 refine eN (ifc bI ?_ ?_)
 intro ai bJ
 refine ZA (congrArg nG ai.out) (sR fL2 Z (oM Z Z (oA Z Z (eN (zS (zU (zK ?_)))))))
 have q:=wAM bJ
 obtain ⟨bP,bK,bo⟩:=q
 have q:=wBI hm am (bD bP bo)
 obtain rfl:=q
 refine zK (zU (zK ?_))
 cases bK
 exact ⟨Z,_,(zw Z),ah,_,bd,Z,Z⟩
 intro ai bL
 refine zn (congrArg nG (nH.2 ai.out)) (ZO (zd (zF (rR fL2 Z (oR Z (zz (zY Z aj Z) (congrArg (jV) bG.out)) (oM Z Z (zg ?_)))))))
 have q:=nD bL
 obtain rfl:=q
 exact zF ⟨Z,_,Z,⟨ah,Z,ay,az,a7,(ap.trans bN),bd⟩⟩
 rintro ⟨⟩ ca bR ⟨bi,br,bT,bU,bp,bV,bz⟩ bE
 have be:=wCg hm am bE
 try dsimp only at be
 have bn:Hid (¬ ((↑(((↑p0.length:Int):Int) - 0).toNat:Int) < (↑p0.length:Int))):=zI (wAc)
 refine sR fL1 Z (oR Z (zV Z br bp) (eN (zG (cF Z bn (ZD (zb (zb (zr (zF (sR fL1 Z (oA Z Z (eN (zS ?_)))))))))))))
 cases be
 exact ⟨Z,_,(zw Z),bi,_,bz,Z,Z⟩
theorem wDn (p0:List wAU) (ah:Option Addr) (ai:Nat) (p1:(wAU->Option Bool)) (aj:Value) (w:World) (U:PHeap) (hS:St0 w U []) (au:SlR U wJK ah ai p0) (av:FnOK Tryz.prog U aj wNH wNI p1) {r:Bool} (hm:wAs p0 p1=some r):Gv Tryz.prog 268 [.slice ah p0.length ai,aj] w (wBp w [] U (fun U_ L_ v=>v=.bool r/\L_=[])):=by
 unfold wAs at hm
 refine Gv.of Tryz.func268 Z Tryz.ntmps268 Tryz.results268 Z (sR fL1 Z (oA Z Z (eN (sR gBo Z (oM Z Z (oM Z Z (bnK hm fun x1 h2 am=>zP 0 Z Z Z Z (zQ Z Z Tryz.call334 (zH Z (zH Z zZ)) Z) hS (fun hs=>wDy p0 ah ai p1 aj w U hs au av h2) (.inr Z) ?_)))))))
 rintro U4 L5 v6 W7 ax aq ⟨rfl,rfl⟩
 have ap:sW w U U4 [] W7:=aq
 refine oR Z (YM Z Z Z) (oA Z Z (eN (zS ?_)))
 first | (obtain rfl:=nD am) | cases am
 exact ⟨Z,_,(zw Z),U4,_,ap,Z,Z⟩
theorem wFt (p0:List wAU) (am:Option Addr) (an:Nat) (p1:(wAU->Option Bool)) (ai:Value) (w:World) (U:PHeap) (hS:St0 w U []) (bg:SlR U wJK am an p0) (aq:FnOK Tryz.prog U ai wNH wNI p1) {r:Bool} (hm:wCM p0 p1=some r):Gv Tryz.prog 193 [.slice am p0.length an,ai] w (wBp w [] U (fun U_ L_ v=>v=.bool r/\L_=[])):=by
 unfold wCM at hm
 refine Gv.of Tryz.func193 Z Tryz.ntmps193 Tryz.results193 Z (sR gBa Z (ZX (cs:=[ai]) Z Z Z Z Z Z (FnOK.cells aq) hS ?_))
 intro W1 b2 bd
 have q:=bd.freeze (k:=0) rfl
 obtain ⟨U5,au,ag,be⟩:=q
 replace ag:=Cl.of ag
 have bf:sW w U U5 [] W1:=be
 replace ag:Cl U5 b2 0 [ai]:=ag
 refine oA Z Z (eN (sR gBo Z (oM Z Z (oR Z (YN Z zZ (zH Z zZ)) ?_))))
 have ax:=bg.le au
 have ay:=aq.le au
 have a7:FnOK Tryz.prog U5 (.func (.func 269) #[] #[.pointer (some ⟨b2,0,none⟩)]) wNH wNI (fun x=>wBL x p1):=⟨269,[],[.pointer (some ⟨b2,0,none⟩)],rfl,Tryz.call269,fun U1 w1 x y vs le hs ha hm=>by obtain ⟨pv_0_0,rfl,hq0_0⟩:=ha;exact wFW x pv_0_0 p1 b2 ai w1 U1 hs hq0_0 (ag.le le) (ay.le le) hm⟩
 refine bnK hm fun bo az bh=>zP 0 Z Z Z Z (zQ Z Z Tryz.call268 (zH Z (zH Z zZ)) Z) bf (fun hs=>wDn p0 am an (fun x=>wBL x p1) (.func (.func 269) #[] #[.pointer (some ⟨b2,0,none⟩)]) W1 U5 hs ax a7 az) (.inr Z) ?_
 rintro ao bj bn aw bm a8 ⟨rfl,rfl⟩
 have bb:sW w U ao [] aw:=a8
 refine oR Z (Za Z Z) (oA Z Z (eN (zS ?_)))
 cases bh
 exact ⟨Z,_,(zw Z),ao,_,bb,Z,Z⟩
theorem wFb (p0:wAE) (ah:Option Addr) (ai:Nat) (w:World) (U:PHeap) (hS:St0 w U []) (bS:Sl U 1 ah ai p0.Classes.length (nA KL.encI p0.Classes)) {r:Int} (hm:wBw p0=some r):Gv Tryz.prog 109 [.agg #[.slice ah p0.Classes.length ai,jV p0.Each,jV p0.Laps,jV p0.Spare,jV p0.Loop,jV p0.Unused]] w (wBp w [] U (fun U_ L_ v=>v=jV r/\L_=[])):=by
 unfold wBw at hm
 refine Gv.of Tryz.func109 Z Tryz.ntmps109 Tryz.results109 Z (sR gBa Z ?_)
 let B0:List Value:=[.slice ah p0.Classes.length ai,jV p0.Each,jV p0.Laps,jV p0.Spare,jV p0.Loop,jV p0.Unused]
 refine ZX (cs:=B0) rfl rfl rfl rfl rfl rfl (by rfl) hS ?_
 intro W1 b2 bK
 have q:=bK.freeze (k:=0) rfl
 obtain ⟨U5,cg,aj,bR⟩:=q
 replace aj:=Cl.of aj
 have bi:sW w U U5 [] W1:=bR
 replace aj:Cl U5 b2 0 B0:=aj
 refine oA Z Z (eN (zG (zR (sR (wDw (.fx 3 gAy .stop)) Z (oR Z (zD Z Z ZG Z zT) (oL Z (bi.ldC (f:=0) aj (v:=.slice ah p0.Classes.length ai) Z Z ze Z) (oR Z (zW Z Z zA) (bnK hm fun cy bu bT=>zP 0 Z Z Z Z (zQ Z Z ym (zH Z (zH Z (zH Z zZ))) Z) bi (fun hs=>wDC (↑p0.Classes.length:Int) 1 4 W1 U5 hs bu) (.inr Z) ?_))))))))
 rintro am cj ct a8 bj bJ ⟨rfl,rfl⟩
 have ax:sW w U am [] a8:=bJ
 refine oR Z (Za Z Z) (oA Z Z (eN (ifc bT ?_ ?_)))
 intro av bU
 refine zn (nC av.out) (sR (.fl 0 (.fl 1 (.fx 2 (.fl 3 (.fl 4 (.fx 5 (.fl 6 (.fx 7 (wLT (.nil)) .stop)) .stop))) .stop))) Z (oR Z (zD Z Z ZG Z zT) ?_))
 have be:=aj.le bj
 refine oL Z (ax.ldC (f:=0) be (v:=.slice ah p0.Classes.length ai) Z Z ze Z) ?_
 have bv:=bS.le cg
 have bf:=bv.le bj
 refine bnK bU fun cz bw bV=>zP 0 Z Z Z Z (zQ Z Z Tryz.call112 (zH Z zZ) Z) ax (fun hs=>wFO p0.Classes ah ai a8 am hs bf bw) (.inr Z) ?_
 rintro an cm cu bb bm bL ⟨rfl,rfl⟩
 have bg:sW w U an [] bb:=bL
 refine oR Z (Za Z Z) (oM Z Z (ifc bV ?_ ?_))
 intro ag bW
 refine bnK bW fun ci bx bX=>zP 0 Z Z Z (zL Z Z (nC ag.out)) (zQ Z Z Tryz.call194 zZ Z) bg (fun hs=>wJk bb an hs bx) (.inr Z) ?_
 rintro br co cw au bn bM ⟨ay,bd,bt,rfl,rfl,bz⟩
 have bN:sW w U br [.row ay bd 342 3 bt] au:=bM
 refine zf Z Z Z (zL Z Z (nC ag.out)) (fun _=>YN Z zZ (zH Z zZ)) ?_
 have q:=bN.freezeRR (R:=wJK) (k:=0) rfl bz rfl (by decide)
 obtain ⟨ap,bo,cd,bO⟩:=q
 have bP:sW w U ap [] au:=bO
 have bA:=be.le bm
 have bC:=bA.le bn
 have bD:=bC.le bo
 have bE:=bf.le bm
 have bF:=bE.le bn
 have bG:=bF.le bo
 have bI:FnOK Tryz.prog ap (.func (.func 195) #[] #[.pointer (some ⟨b2,0,none⟩)]) wNH wNI (fun x=>wBt x p0):=⟨195,[],[.pointer (some ⟨b2,0,none⟩)],rfl,Tryz.call195,fun U1 w1 x y vs le hs ha hm=>by obtain ⟨pv_0_0,rfl,hq0_0⟩:=ha;exact wGz x pv_0_0 p0 b2 ah ai w1 U1 hs hq0_0 (bD.le le) (bG.le le) hm⟩
 refine bnK bX fun cA bH bY=>zP 0 Z Z Z (zL Z Z (nC ag.out)) (zQ Z Z Tryz.call193 (zH Z (zH Z zZ)) Z) bP (fun hs=>wFt ci ay bd (fun x=>wBt x p0) (.func (.func 195) #[] #[.pointer (some ⟨b2,0,none⟩)]) au ap hs cd bI bH) (.inr Z) ?_
 rintro aq cp cx bs cr bQ ⟨rfl,rfl⟩
 have bh:sW w U aq [] bs:=bQ
 refine zf Z Z Z (zL Z Z (nC ag.out)) (fun _=>Za Z Z) (oR Z (za Z (nC ag.out) Z) (oA Z Z (eN (ifc bY ?_ ?_))))
 intro aw bZ
 refine zn (nC aw.out) (ZO (zd (zF (sR fL1 Z (oA Z Z (eN (zS ?_)))))))
 cases bZ
 exact ⟨Z,_,(zw Z),aq,_,bh,Z,Z⟩
 intro aw b4
 refine ZA (nF (aw.out)) (sR fL1 Z (oA Z Z (eN (zS (zU (zK ?_))))))
 cases b4
 exact ⟨Z,_,(zw Z),aq,_,bh,Z,Z⟩
 intro ag ca
 refine ZI Z Z Z (zO Z Z (nF (ag.out)) Z) (zc Z Z Z (zO Z Z (nF (ag.out)) Z) (ZI Z Z Z (zO Z Z (nF (ag.out)) Z) (zc Z Z Z (zO Z Z (nF (ag.out)) Z) (oR Z (zX Z (nF (ag.out)) Z) (oA Z Z (eN (ZA Z (sR fL1 Z (oA Z Z (eN (zS (zU (zK ?_)))))))))))))
 cases ca
 exact ⟨Z,_,(zw Z),an,_,bg,Z,Z⟩
 intro av cc
 refine ZA (nF (av.out)) (sR fL1 Z (oA Z Z (eN (zS (zU (zK ?_))))))
 cases cc
 exact ⟨Z,_,(zw Z),am,_,ax,Z,Z⟩
theorem wHN (p0:wAE) (bm:Option Addr) (bo:Nat) (p1:wAH) (bn:Option Addr) (bp:Nat) (ap:Option Addr) (au:Nat) (w:World) (U:PHeap) (hS:St0 w U []) (dg:Sl U 1 bm bo p0.Classes.length (nA KL.encI p0.Classes)) (dh:Sl U 1 bn bp p1.Classes.length (nA KL.encI p1.Classes)) (cj:SlR U wJJ ap au p1.Legs) {r:Bool} (hm:wBM p0 p1=some r):Gv Tryz.prog 170 [.agg #[.slice bm p0.Classes.length bo,jV p0.Each,jV p0.Laps,jV p0.Spare,jV p0.Loop,jV p0.Unused],.agg #[jV p1.Bib,.slice bn p1.Classes.length bp,.slice ap p1.Legs.length au]] w (wBp w [] U (fun U_ L_ v=>v=.bool r/\L_=[])):=by
 unfold wBM at hm
 refine Gv.of Tryz.func170 Z Tryz.ntmps170 Tryz.results170 Z (sR (.fx 0 gBb .stop) Z ?_)
 let B0:List Value:=[.slice bm p0.Classes.length bo,jV p0.Each,jV p0.Laps,jV p0.Spare,jV p0.Loop,jV p0.Unused]
 refine ZX (cs:=B0) rfl rfl rfl rfl rfl rfl (by rfl) hS ?_
 intro W1 b2 cg
 let B1:List Value:=[jV p1.Bib,.slice bn p1.Classes.length bp,.slice ap p1.Legs.length au]
 refine ZX (cs:=B1) rfl rfl rfl rfl rfl rfl (by rfl) cg ?_
 intro W5 b6 bH
 refine oA Z Z (eN (zG (sR (wDw (.fx 3 (wOm (.nil)) .stop)) Z (oR Z (zD Z Z ZH Z zT) (oL Z (bH.ldB (j:=0) Z Z Z ze (v:=.slice bn p1.Classes.length bp) Z) (oR Z (zW Z Z zA) (bnK hm fun x9 bY cp=>zP 0 Z Z Z Z (zQ Z Z ym (zH Z (zH Z (zH Z zZ))) Z) bH (fun hs=>wDC (↑p1.Classes.length:Int) 1 8 W5 U hs bY) (.inr Z) ?_)))))))
 rintro a7 cU dn bM cN cd ⟨rfl,rfl⟩
 have aw:sW w U a7 [.blk b6 73 B1,.blk b2 24 B0] bM:=cd
 refine oR Z (Za Z Z) (oM Z Z (ifc cp ?_ ?_))
 intro aj ct
 refine zf Z Z Z (zL Z Z (nC aj.out)) (fun _=>zD Z Z ZH Z yT) (zy Z Z Z (zL Z Z (nC aj.out)) (aw.ldB (j:=0) Z Z Z yd (v:=.slice ap p1.Legs.length au) Z) Z (zf Z Z Z (zL Z Z (nC aj.out)) (fun _=>zW Z Z ZW) (zf Z Z Z (zL Z Z (nC aj.out)) (fun _=>zD Z Z ZG Z zT) (zy Z Z Z (zL Z Z (nC aj.out)) (aw.ldB (j:=1) Z Z Z ze (v:=.slice bm p0.Classes.length bo) Z) Z (zf Z Z Z (zL Z Z (nC aj.out)) (fun _=>zW Z Z zA) (zf Z Z Z (zL Z Z (nC aj.out)) (fun _=>yP Z Z Z) (oR Z (za Z (nC aj.out) Z) (eN (ifc ct ?_ ?_)))))))))
 intro br cu
 refine cT Z br (sR fL1 Z (oA Z Z (eN (zS (zK ?_)))))
 have hE:=nD cu;first | subst r | cases hE
 exact ⟨rfl,_,(zw rfl),a7,_,(aw.pick [] _ (by decide) rfl),rfl,rfl⟩
 intro br ay
 refine cF Z br (kN (zG (sR fL4 Z (oR Z (zD Z Z ZH Z yT) (oL Z (aw.ldB (j:=0) Z Z Z yd (v:=.slice ap p1.Legs.length au) Z) (oR Z (zW Z Z ZW) (oM Z Z (eN (zR ?_)))))))))
 have q:=wBQ ay
 obtain ⟨dm,ax⟩:=q
 have q:=wBP ax
 obtain ⟨bA,co⟩:=q
 replace bA:=zI bA
 refine yF (fun az _ σ_ w_=>∃ (U_:PHeap),σ_ 24=jV (↑az:Int)/\σ_ 2=.pointer (some ⟨b2,0,none⟩)/\σ_ 3=.pointer (some ⟨b6,0,none⟩)/\σ_ 22=.slice ap p1.Legs.length au/\σ_ 23=jV (↑p1.Legs.length:Int)/\PHeap.Le a7 U_/\sW w U U_ [.blk b6 73 B1,.blk b2 24 B0] w_) co ?_ ?_ ?_
 exact ⟨a7,Z,Z,Z,Z,Z,(zN _),aw⟩
 rintro az ⟨⟩ dr dt cW bz ⟨ao,a8,bi,bu,bv,bw,bC,bG⟩ bK bj
 try dsimp only at bK
 have bE:Hid ((↑az:Int) < (↑p1.Legs.length:Int)):=zI (wAo bz)
 replace bz:=zI bz
 have bI:Hid (w64 ((↑az:Int) + 1)=(↑(az + 1):Int)):=zI (by have h1:=bA.out;have h2:=bE.out;rw [wAQ] <;> omega)
 refine sR fL1 Z (oR Z (zV Z a8 bw) (eN (zG (cT Z bE (kN (zG (zR (sR (wDw gBj) Z (oM Z a8 (bnK bK fun an bF cw=>?_))))))))))
 have bZ:=cj.le cN
 have b4:=bZ.le bC
 have q:=b4.el (wAK bF)
 obtain ⟨bP,cO,dp,ca,bx,cM⟩:=q
 obtain ⟨aq,av,bb,bd,rfl,de,df⟩:=cM
 replace bx:Cl ao bP (cO + az * 3) [jV an.Skier,.slice aq an.Loops.length av,.slice bb an.Bouts.length bd]:=bx
 refine oR Z (ZC Z bv ca a8 ZW Zc (wAg bF)) (oL Z (bG.ldCA (f:=0) bx Z Z yy Zc (us:=[jV an.Skier,.slice aq an.Loops.length av,.slice bb an.Bouts.length bd]) Z Z) (ZB (cs:=[jV 0,.slice none 0 0,.slice none 0 0]) Z Z Z Z Z Zq Z bG ?_))
 intro cX bQ ch
 refine oA Z Z ?_
 let B2:List Value:=[jV an.Skier,.slice aq an.Loops.length av,.slice bb an.Bouts.length bd]
 refine ZK (j:=0) (vs:=B2) Z Z Z Z ch Z Z Z Z Zc (zJ Z) Z Z Z ?_
 intro bO ci
 have am:sW w U ao [.blk bQ 76 B2,.blk b6 73 B1,.blk b2 24 B0] bO:=ci
 refine eN (sR fL33 Z (oR Z (zD Z Z ZR Z zT) (oL Z (am.ldB (j:=0) Z Z Z ze (v:=.slice aq an.Loops.length av) Z) (oR Z (zW Z Z zA) (oR Z (zD Z bi ZG Z zC) (oL Z (am.ldB (j:=2) Z Z Z zM (v:=jV p0.Laps) Z) (oR Z (yP Z Z Z) (oM Z Z (ifc cw ?_ ?_)))))))))
 intro af cx
 refine oT Z af (oT Z af (oT Z af (oT Z af (oT Z af (oT Z af (oT Z af (zc Z Z Z (wAP Z Z Z) (zc Z Z Z (wAP Z Z Z) (zc Z Z Z (wAP Z Z Z) (zc Z Z Z (wAP Z Z Z) (zc Z Z Z (wAP Z Z Z) (zc Z Z Z (wAP Z Z Z) (oT Z af (oR Z (zX Z (Zl af.out) Z) (oM Z Z (oN Z (oN Z (oN Z (oN Z (oN Z (oN Z (oN Z (oN Z (oN Z (oR Z (zX Z Z Z) (eN (ZA Z (sR fL1 Z (oA Z Z (eN (zS (zU (zK ?_)))))))))))))))))))))))))))))))))
 have q:=wAM cx
 obtain ⟨cP,cy,bS⟩:=q
 have q:=wBI ay ax (bj cP bS)
 obtain rfl:=q
 refine zK (zU (zK ?_))
 have hE:=nD cy;first | subst r | cases hE
 exact ⟨rfl,_,(zw rfl),ao,_,(am.pick [] _ (by decide) rfl),rfl,rfl⟩
 intro af cz
 refine zh Z Z Z (wF Z af) Z Z (rU Z (wF Z af) (zD Z bu ZH Z yT) (zy Z Z Z (wF Z af) (am.ldB (j:=1) Z Z Z yd (v:=.slice ap p1.Legs.length au) Z) Z (rU Z (wF Z af) (zW Z Z ZW) (rU Z (wF Z af) (yA Z Z Z) (rU Z (wF Z af) (zV Z Z Z) (zh Z Z Z (wF Z af) Z Z (ifc cz ?_ ?_)))))))
 intro ak cA
 refine rU Z (wT Z ak) (zD Z Z ZR Z zT) (zy Z Z Z (wT Z ak) (am.ldB (j:=0) Z Z Z ze (v:=.slice aq an.Loops.length av) Z) Z (rU Z (wT Z ak) (zW Z Z zA) (rU Z (wT Z ak) (zD Z bi ZG Z zC) (zy Z Z Z (wT Z ak) (am.ldB (j:=2) Z Z Z zM (v:=jV p0.Laps) Z) Z (rU Z (wT Z ak) (zV Z Z Z) (rU Z (wF Z af) (zX Z (Zl ak.out) Z) (oR Z (za Z (zo af.out) Z) (oM Z Z (ifc cA ?_ ?_)))))))))
 intro ag cB
 refine oT Z ag (oT Z ag (oT Z ag (oT Z ag (oT Z ag (oT Z ag (oT Z ag (oT Z ag (oT Z ag (oR Z (zX Z (Zl ag.out) Z) (eN (ZA Z (sR fL1 Z (oA Z Z (eN (zS (zU (zK ?_)))))))))))))))))
 have q:=wAM cB
 obtain ⟨cQ,cC,bT⟩:=q
 have q:=wBI ay ax (bj cQ bT)
 obtain rfl:=q
 refine zK (zU (zK ?_))
 have hE:=nD cC;first | subst r | cases hE
 exact ⟨rfl,_,(zw rfl),ao,_,(am.pick [] _ (by decide) rfl),rfl,rfl⟩
 intro ag cD
 refine rU Z (wF Z ag) (zD Z Z ZR Z yH) (zy Z Z Z (wF Z ag) (am.ldB (j:=0) Z Z Z yQ (v:=.slice bb an.Bouts.length bd) Z) Z (rU Z (wF Z ag) (zW Z Z ZL) (rU Z (wF Z ag) (zD Z Z ZR Z zT) (zy Z Z Z (wF Z ag) (am.ldB (j:=0) Z Z Z ze (v:=.slice aq an.Loops.length av) Z) Z (rU Z (wF Z ag) (zW Z Z zA) (rU Z (wF Z ag) (yA Z Z Z) (rU Z (wF Z ag) (Runs.max Z Z Z) (rU Z (wF Z ag) (ZU Z Z Z) (oR Z (za Z (zo ag.out) Z) (eN (ifc cD ?_ ?_)))))))))))
 intro bs cE
 refine zn (zo (fun h=>h bs.out)) (ZO (zd (zF (rR fL2 Z (oR Z (zz (zY Z a8 Z) (congrArg (jV) bI.out)) (oM Z Z (zg ?_)))))))
 have q:=nD cE
 obtain rfl:=q
 exact zF ⟨rfl,_,rfl,⟨ao,rfl,bi,bu,bv,bw,bC,(am.pick [1,2] _ (by decide) rfl)⟩⟩
 intro bs cG
 refine cT Z bs (sR fL1 Z (oA Z Z (eN (zS (zU (zK ?_))))))
 have q:=wAM cG
 obtain ⟨cR,cH,bU⟩:=q
 have q:=wBI ay ax (bj cR bU)
 obtain rfl:=q
 refine zK (zU (zK ?_))
 have hE:=nD cH;first | subst r | cases hE
 exact ⟨rfl,_,(zw rfl),ao,_,(am.pick [] _ (by decide) rfl),rfl,rfl⟩
 intro ak cI
 refine oF Z ak (oF Z ak (oF Z ak (oF Z ak (oF Z ak (oF Z ak (rU Z (wF Z af) (za Z (zo ak.out) Z) (oR Z (za Z (zo af.out) Z) (oM Z Z (zf Z Z Z (zL Z Z Z) (fun _=>zD Z Z ZR Z yH) (zy Z Z Z (zL Z Z Z) (am.ldB (j:=0) Z Z Z yQ (v:=.slice bb an.Bouts.length bd) Z) Z (zf Z Z Z (zL Z Z Z) (fun _=>zW Z Z ZL) (zf Z Z Z (zL Z Z Z) (fun _=>zD Z Z ZR Z zT) (zy Z Z Z (zL Z Z Z) (am.ldB (j:=0) Z Z Z ze (v:=.slice aq an.Loops.length av) Z) Z (zf Z Z Z (zL Z Z Z) (fun _=>zW Z Z zA) (zf Z Z Z (zL Z Z Z) (fun _=>yA Z Z Z) (zf Z Z Z (zL Z Z Z) (fun _=>Runs.max Z Z Z) (zf Z Z Z (zL Z Z Z) (fun _=>ZU Z Z Z) (oR Z (za Z Z Z) (eN (ifc cI ?_ ?_))))))))))))))))))))
 intro bt cJ
 refine zn (zo (fun h=>h bt.out)) (ZO (zd (zF (rR fL2 Z (oR Z (zz (zY Z a8 Z) (congrArg (jV) bI.out)) (oM Z Z (zg ?_)))))))
 have q:=nD cJ
 obtain rfl:=q
 exact zF ⟨rfl,_,rfl,⟨ao,rfl,bi,bu,bv,bw,bC,(am.pick [1,2] _ (by decide) rfl)⟩⟩
 intro bt cK
 refine cT Z bt (sR fL1 Z (oA Z Z (eN (zS (zU (zK ?_))))))
 have q:=wAM cK
 obtain ⟨cS,cL,bV⟩:=q
 have q:=wBI ay ax (bj cS bV)
 obtain rfl:=q
 refine zK (zU (zK ?_))
 have hE:=nD cL;first | subst r | cases hE
 exact ⟨rfl,_,(zw rfl),ao,_,(am.pick [] _ (by decide) rfl),rfl,rfl⟩
 rintro ⟨⟩ du cY ⟨bL,bX,cZ,c9,dd,bW,di,cc⟩ cm
 have bJ:=wCg ay ax cm
 try dsimp only at bJ
 have bR:Hid (¬ ((↑(((↑p1.Legs.length:Int):Int) - 0).toNat:Int) < (↑p1.Legs.length:Int))):=zI (wAc)
 refine sR fL1 Z (oR Z (zV Z bX bW) (eN (zG (cF Z bR (ZD (zb (zb (zr (zF (sR fL1 Z (oA Z Z (eN (zS ?_)))))))))))))
 have hE:=nD bJ;first | subst r | cases hE
 exact ⟨rfl,_,(zw rfl),bL,_,(cc.pick [] _ (by decide) rfl),rfl,rfl⟩
 intro aj cr
 refine zc Z Z Z (zO Z Z (nF (aj.out)) Z) (zc Z Z Z (zO Z Z (nF (aj.out)) Z) (zc Z Z Z (zO Z Z (nF (aj.out)) Z) (zc Z Z Z (zO Z Z (nF (aj.out)) Z) (zc Z Z Z (zO Z Z (nF (aj.out)) Z) (zc Z Z Z (zO Z Z (nF (aj.out)) Z) (zc Z Z Z (zO Z Z (nF (aj.out)) Z) (oR Z (zX Z (nF (aj.out)) Z) (eN (ZA Z (sR fL1 Z (oA Z Z (eN (zS (zK ?_))))))))))))))
 have hE:=nD cr;first | subst r | cases hE
 exact ⟨rfl,_,(zw rfl),a7,_,(aw.pick [] _ (by decide) rfl),rfl,rfl⟩
set_option maxHeartbeats 4000000
theorem wFh (p0:wAH) (ag:Option Addr) (ai:Nat) (ah:Option Addr) (aj:Nat) (p1:(wAH->Option Bool)) (aq:Nat) (an:Value) (w:World) (U:PHeap) (hS:St0 w U []) (az:Sl U 1 ag ai p0.Classes.length (nA KL.encI p0.Classes)) (a7:SlR U wJJ ah aj p0.Legs) (a8:Cl U aq 0 [an]) (bb:FnOK Tryz.prog U an wLh wLi p1) {r:Bool} (hm:wBA p0 p1=some r):Gv Tryz.prog 251 [.agg #[jV p0.Bib,.slice ag p0.Classes.length ai,.slice ah p0.Legs.length aj],.pointer (some ⟨aq,0,none⟩)] w (wBp w [] U (fun U_ L_ v=>v=.bool r/\L_=[])):=by
 unfold wBA at hm
 refine Gv.of Tryz.func251 Z Tryz.ntmps251 Tryz.results251 Z (sR gBa Z ?_)
 let B0:List Value:=[jV p0.Bib,.slice ag p0.Classes.length ai,.slice ah p0.Legs.length aj]
 refine ZX (cs:=B0) rfl rfl rfl rfl rfl rfl (by rfl) hS ?_
 intro W1 b2 am
 refine oA Z Z (eN (sR gBo Z (oL Z (am.ldC (f:=0) a8 (v:=an) Z Z Tryz.isAgg319 Z) (oL Z (am.ldBA (j:=0) Z Z Z yc ZS (vs:=B0) Z Z) (bnK hm fun x5 h6 bd=>YL (a:=p0) Z Z Z Z Z Z (zH Z zZ) am bb ⟨ag,ai,ah,aj,Z,az,a7⟩ h6 ?_)))))
 rintro U8 L9 bh au bg ax ⟨rfl,rfl⟩
 have ay:sW w U U8 [.blk b2 73 B0] au:=ax
 refine oR Z (Za Z Z) (oA Z Z (eN (zS ?_)))
 cases bd
 exact ⟨rfl,_,(zw rfl),U8,_,(ay.pick [] _ (by decide) rfl),rfl,rfl⟩
theorem wEE (p0:List wAH) (aq:Option Addr) (aw:Nat) (p1:(wAH->Option Bool)) (az:Value) (w:World) (U:PHeap) (hS:St0 w U []) (bF:SlR U wFL aq aw p0) (bG:FnOK Tryz.prog U az wLh wLi p1) {r:Int} (hm:wAp p0 p1=some r):Gv Tryz.prog 317 [.slice aq p0.length aw,az] w (wBp w [] U (fun U_ L_ v=>v=jV r/\L_=[])):=by
 unfold wAp at hm
 refine Gv.of Tryz.func317 Z Tryz.ntmps317 Tryz.results317 Z (sR fL1 Z (oA Z Z (eN (zG (sR fL3 Z (oM Z Z (oR Z (zW Z Z ZN) (oM Z Z (eN (zR ?_))))))))))
 have q:=wBQ hm
 obtain ⟨r3,am⟩:=q
 have q:=wBP am
 obtain ⟨ao,bJ⟩:=q
 replace ao:=zI ao
 refine yF (fun k2 _ σ_ w_=>∃ (U_:PHeap),σ_ 8=jV (↑k2:Int)/\σ_ 0=.slice aq p0.length aw/\σ_ 1=az/\σ_ 7=jV (↑p0.length:Int)/\PHeap.Le U U_/\sW w U U_ [] w_) bJ ?_ ?_ ?_
 exact ⟨U,Z,Z,Z,Z,(zN _),hS⟩
 rintro k2 ⟨⟩ cg ci W8 an ⟨bm,aj,a8,bb,bd,ap,bf⟩ bi bH
 try dsimp only at bi
 have a7:Hid ((↑k2:Int) < (↑p0.length:Int)):=zI (wAo an)
 replace an:=zI an
 have bK:Hid (w64 ((↑k2:Int) + 1)=(↑(k2 + 1):Int)):=zI (by have h1:=ao.out;have h2:=a7.out;rw [wAQ] <;> omega)
 refine sR fL1 Z (oR Z (zV Z aj bd) (eN (zG (cT Z a7 (kN (zG (zR (sR fL2 Z (oM Z aj (oA Z Z (eN (sR (wGD (.fx 5 .nil .stop)) Z (oM Z bb (oM Z a8 (oM Z Z (bnK bi fun ag be bL=>?_))))))))))))))))
 have bv:=bF.le ap
 have q:=bv.el (wAK be)
 obtain ⟨bp,bS,cc,bC,ak,bQ⟩:=q
 obtain ⟨au,ax,av,ay,rfl,bw,bx⟩:=bQ
 replace ak:Cl bm bp (bS + k2 * 3) [jV ag.Bib,.slice au ag.Classes.length ax,.slice av ag.Legs.length ay]:=ak
 refine oR Z (ZC Z Z bC Z ZN ZS (wAg be)) (oL Z (bf.ldCA (f:=0) ak Z Z yc ZS (us:=[jV ag.Bib,.slice au ag.Classes.length ax,.slice av ag.Legs.length ay]) Z Z) (bnK bL fun cd bz bM=>?_))
 have bA:=bG.le ap
 refine YL (a:=ag) Z Z Z Z Z Z (zH Z zZ) bf bA ⟨au,ax,av,ay,Z,bw,bx⟩ bz ?_
 rintro ah bU ca bo bR bD ⟨rfl,rfl⟩
 have bg:sW w U ah [] bo:=bD
 refine eN (ifc bM ?_ ?_)
 intro ai bN
 refine ZA (congrArg nG ai.out) (sR fL2 Z (oM Z Z (oA Z Z (eN (zS (zU (zK ?_)))))))
 have q:=wAM bN
 obtain ⟨bT,bO,bs⟩:=q
 have q:=wBI hm am (bH bT bs)
 obtain rfl:=q
 refine zK (zU (zK ?_))
 cases bO
 exact ⟨Z,_,(zw Z),ah,_,bg,Z,Z⟩
 intro ai bP
 refine zn (congrArg nG (nH.2 ai.out)) (ZO (zd (zF (rR fL2 Z (oR Z (zz (zY Z aj Z) (congrArg (jV) bK.out)) (oM Z Z (zg ?_)))))))
 have q:=nD bP
 obtain rfl:=q
 exact zF ⟨Z,_,Z,⟨ah,Z,a8,bb,bd,(ap.trans bR),bg⟩⟩
 rintro ⟨⟩ ch bV ⟨bn,bu,bX,bY,bt,bZ,bE⟩ bI
 have bh:=wCg hm am bI
 try dsimp only at bh
 have br:Hid (¬ ((↑(((↑p0.length:Int):Int) - 0).toNat:Int) < (↑p0.length:Int))):=zI (wAc)
 refine sR fL1 Z (oR Z (zV Z bu bt) (eN (zG (cF Z br (ZD (zb (zb (zr (zF (sR fL1 Z (oA Z Z (eN (zS ?_)))))))))))))
 cases bh
 exact ⟨Z,_,(zw Z),bn,_,bE,Z,Z⟩
theorem wDr (p0:List wAH) (ah:Option Addr) (ai:Nat) (p1:(wAH->Option Bool)) (aj:Value) (w:World) (U:PHeap) (hS:St0 w U []) (au:SlR U wFL ah ai p0) (av:FnOK Tryz.prog U aj wLh wLi p1) {r:Bool} (hm:wAk p0 p1=some r):Gv Tryz.prog 250 [.slice ah p0.length ai,aj] w (wBp w [] U (fun U_ L_ v=>v=.bool r/\L_=[])):=by
 unfold wAk at hm
 refine Gv.of Tryz.func250 Z Tryz.ntmps250 Tryz.results250 Z (sR fL1 Z (oA Z Z (eN (sR gBo Z (oM Z Z (oM Z Z (bnK hm fun x1 h2 am=>zP 0 Z Z Z Z (zQ Z Z Tryz.call317 (zH Z (zH Z zZ)) Z) hS (fun hs=>wEE p0 ah ai p1 aj w U hs au av h2) (.inr Z) ?_)))))))
 rintro U4 L5 v6 W7 ax aq ⟨rfl,rfl⟩
 have ap:sW w U U4 [] W7:=aq
 refine oR Z (YM Z Z Z) (oA Z Z (eN (zS ?_)))
 first | (obtain rfl:=nD am) | cases am
 exact ⟨Z,_,(zw Z),U4,_,ap,Z,Z⟩
theorem wEZ (p0:List wAH) (am:Option Addr) (an:Nat) (p1:(wAH->Option Bool)) (ai:Value) (w:World) (U:PHeap) (hS:St0 w U []) (bg:SlR U wFL am an p0) (aq:FnOK Tryz.prog U ai wLh wLi p1) {r:Bool} (hm:wAz p0 p1=some r):Gv Tryz.prog 169 [.slice am p0.length an,ai] w (wBp w [] U (fun U_ L_ v=>v=.bool r/\L_=[])):=by
 unfold wAz at hm
 refine Gv.of Tryz.func169 Z Tryz.ntmps169 Tryz.results169 Z (sR gBa Z (ZX (cs:=[ai]) Z Z Z Z Z Z (FnOK.cells aq) hS ?_))
 intro W1 b2 bd
 have q:=bd.freeze (k:=0) rfl
 obtain ⟨U5,au,ag,be⟩:=q
 replace ag:=Cl.of ag
 have bf:sW w U U5 [] W1:=be
 replace ag:Cl U5 b2 0 [ai]:=ag
 refine oA Z Z (eN (sR gBo Z (oM Z Z (oR Z (YN Z zZ (zH Z zZ)) ?_))))
 have ax:=bg.le au
 have ay:=aq.le au
 have a7:FnOK Tryz.prog U5 (.func (.func 251) #[] #[.pointer (some ⟨b2,0,none⟩)]) wLh wLi (fun x=>wBA x p1):=⟨251,[],[.pointer (some ⟨b2,0,none⟩)],rfl,Tryz.call251,fun U1 w1 x y vs le hs ha hm=>by obtain ⟨pA_0_1,pc_0_1,pA_0_2,pc_0_2,rfl,hq0_0,hq0_1⟩:=ha;exact wFh x pA_0_1 pc_0_1 pA_0_2 pc_0_2 p1 b2 ai w1 U1 hs hq0_0 hq0_1 (ag.le le) (ay.le le) hm⟩
 refine bnK hm fun bo az bh=>zP 0 Z Z Z Z (zQ Z Z Tryz.call250 (zH Z (zH Z zZ)) Z) bf (fun hs=>wDr p0 am an (fun x=>wBA x p1) (.func (.func 251) #[] #[.pointer (some ⟨b2,0,none⟩)]) W1 U5 hs ax a7 az) (.inr Z) ?_
 rintro ao bj bn aw bm a8 ⟨rfl,rfl⟩
 have bb:sW w U ao [] aw:=a8
 refine oR Z (Za Z Z) (oA Z Z (eN (zS ?_)))
 cases bh
 exact ⟨Z,_,(zw Z),ao,_,bb,Z,Z⟩
theorem wJN (p0:wAH) (ah:Option Addr) (ai:Nat) (an:Option Addr) (ao:Nat) (w:World) (U:PHeap) (hS:St0 w U []) (be:Sl U 1 ah ai p0.Classes.length (nA KL.encI p0.Classes)) (bo:SlR U wJJ an ao p0.Legs) {r:Bool} (hm:wDQ p0=some r):Gv Tryz.prog 171 [.agg #[jV p0.Bib,.slice ah p0.Classes.length ai,.slice an p0.Legs.length ao]] w (wBp w [] U (fun U_ L_ v=>v=.bool r/\L_=[])):=by
 unfold wDQ at hm
 refine Gv.of Tryz.func171 Z Tryz.ntmps171 Tryz.results171 Z (sR gBa Z ?_)
 let B0:List Value:=[jV p0.Bib,.slice ah p0.Classes.length ai,.slice an p0.Legs.length ao]
 refine ZX (cs:=B0) rfl rfl rfl rfl rfl rfl (by rfl) hS ?_
 intro W1 b2 av
 refine oA Z Z (eN (sR (.fl 0 (.fl 1 (.fx 2 (wQw (.fx 6 gAz .stop)) .stop))) Z (oR Z (zD Z Z ZH Z zC) (oL Z (av.ldB (j:=0) Z Z Z zM (v:=jV p0.Bib) Z) (bnK hm fun x5 h6 bi=>zP 0 Z Z Z Z (zQ Z Z ym (zH Z (zH Z (zH Z zZ))) Z) av (fun hs=>wDC p0.Bib 1 999 W1 U hs h6) (.inr Z) ?_)))))
 rintro U8 L9 br aq bj a8 ⟨rfl,rfl⟩
 have am:sW w U U8 [.blk b2 73 B0] aq:=a8
 refine oM Z Z (ifc bi ?_ ?_)
 intro ag bf
 refine zf Z Z Z (zL Z Z (congrArg nG ag.out)) (fun _=>zD Z Z ZH Z zT) (zy Z Z Z (zL Z Z (congrArg nG ag.out)) (am.ldB (j:=0) Z Z Z ze (v:=.slice ah p0.Classes.length ai) Z) Z ?_)
 have ay:=be.le bj
 refine bnK bf fun bt az bg=>zP 0 Z Z Z (zL Z Z (congrArg nG ag.out)) (zQ Z Z Tryz.call112 (zH Z zZ) Z) am (fun hs=>wFO p0.Classes ah ai aq U8 hs ay az) (.inr Z) ?_
 rintro ap bm bs ax bp bb ⟨rfl,rfl⟩
 have bd:sW w U ap [.blk b2 73 B0] ax:=bb
 refine oR Z (zX Z (congrArg nG ag.out) Z) (oA Z Z (eN (zS ?_)))
 have hE:=nD bg;first | subst r | cases hE
 exact ⟨rfl,_,(zw rfl),ap,_,(bd.pick [] _ (by decide) rfl),rfl,rfl⟩
 intro ag bh
 refine zc Z Z Z (zO Z Z (congrArg nG (nH.2 ag.out)) Z) (zc Z Z Z (zO Z Z (congrArg nG (nH.2 ag.out)) Z) (ZI Z Z Z (zO Z Z (congrArg nG (nH.2 ag.out)) Z) (oR Z (za Z (congrArg nG (nH.2 ag.out)) Z) (oA Z Z (eN (zS ?_))))))
 have hE:=nD bh;first | subst r | cases hE
 exact ⟨rfl,_,(zw rfl),U8,_,(am.pick [] _ (by decide) rfl),rfl,rfl⟩
theorem wET {S E:Type} (PY:S->PHeap->List Res->Prop) (PE:E->PHeap->List Res->Prop) (f:S->(wAH × wAN)->Option (S ⊕ E)) (y:Nat) (s0:S) (p1:wAD) (bV:Nat) (bU:Option Addr) (bW:Nat) (au:Option Addr) (av:Nat) (w:World) (L:List Res) (U:PHeap) (hS:St ⟨w,L,U⟩ U L w) (hP:PY s0 U L) (hY:YOK Tryz.prog y wOw PY PE f U) (de:Cl U bV 0 [.slice bU p1.Rules.Classes.length bW,jV p1.Rules.Each,jV p1.Rules.Laps,jV p1.Rules.Spare,jV p1.Rules.Loop,jV p1.Rules.Unused,jV p1.Start,.slice au p1.Teams.length av]) (dY:Sl U 1 bU bW p1.Rules.Classes.length (nA KL.encI p1.Rules.Classes)) (df:SlR U wFL au av p1.Teams) {r:S ⊕ E} (hm:wBN f s0 p1=some r):Gv Tryz.prog 252 [.func (.yield y) #[] #[],.pointer (some ⟨bV,0,none⟩)] w (ItS w L U PY PE r):=by
 unfold wBN at hm
 refine Gv.of Tryz.func252 Z Tryz.ntmps252 Tryz.results252 Z (sR fL4 Z (oR Z (zD Z Z zu Z Zu) (oL Z (hS.ldC (f:=7) de (v:=.slice au p1.Teams.length av) Z Z yG Z) (oR Z (zW Z Z ZN) (oM Z Z (eN (zR ?_)))))))
 have q:=wBQ hm
 obtain ⟨d6,bs⟩:=q
 have q:=wBP bs
 obtain ⟨bw,dn⟩:=q
 replace bw:=zI bw
 refine yF (fun aj bY σ_ w_=>∃ (U_:PHeap) (aq:List Res),σ_ 10=jV (↑aj:Int)/\σ_ 0=.func (.yield y) #[] #[]/\σ_ 8=.slice au p1.Teams.length av/\σ_ 9=jV (↑p1.Teams.length:Int)/\PHeap.Le U U_/\St ⟨w,L,U⟩ U_ aq w_/\PY bY U_ aq) dn ?_ ?_ ?_
 exact ⟨U,L,Z,Z,Z,Z,(zN _),hS,hP⟩
 rintro aj bY eh eD dQ bu ⟨ay,aq,bm,cz,bH,bI,bA,bR,cM⟩ dC di
 have bF:Hid ((↑aj:Int) < (↑p1.Teams.length:Int)):=zI (wAo bu)
 replace bu:=zI bu
 have dq:Hid (w64 ((↑aj:Int) + 1)=(↑(aj + 1):Int)):=zI (by have h1:=bw.out;have h2:=bF.out;rw [wAQ] <;> omega)
 refine sR fL1 Z (oR Z (zV Z bm bI) (eN (zG (cT Z bF (kN (zG (zR (sR gBl Z (bnK dC fun ag bN bz=>?_)))))))))
 have cN:=df.le bA
 have q:=cN.el (wAK bN)
 obtain ⟨ch,dG,d8,cR,bo,dB⟩:=q
 obtain ⟨be,bh,an,ao,rfl,cO,cP⟩:=dB
 replace bo:Cl ay ch (dG + aj * 3) [jV ag.Bib,.slice be ag.Classes.length bh,.slice an ag.Legs.length ao]:=bo
 refine oR Z (ZC Z bH cR bm ZN ZS (wAg bN)) (oL Z (bR.ldCA (f:=0) bo Z Z yc ZS (us:=[jV ag.Bib,.slice be ag.Classes.length bh,.slice an ag.Legs.length ao]) Z Z) ?_)
 let B0:List Value:=[jV 0,.slice none 0 0,.slice none 0 0]
 refine ZB (cs:=B0) Z Z Z Z Z Zr Z bR ?_
 intro dR ak c9
 let B1:List Value:=[jV ag.Bib,.slice be ag.Classes.length bh,.slice an ag.Legs.length ao]
 refine ZK (j:=0) (vs:=B1) Z Z Z Z c9 Z Z Z Z ZS (zJ Z) Z Z Z ?_
 intro cg dd
 have bS:St ⟨w,L,U⟩ ay (.blk ak 73 B1 :: aq) cg:=dd
 refine eN (sR fL4 Z (oR Z (zD Z Z ZH Z yT) (oL Z (bS.ldB (j:=0) Z Z Z yd (v:=.slice an ag.Legs.length ao) Z) (oR Z (zW Z Z ZW) (oM Z Z (eN (zR ?_)))))))
 have q:=wBQ bz
 obtain ⟨d7,bt⟩:=q
 have q:=wBP bt
 obtain ⟨bx,dp⟩:=q
 replace bx:=zI bx
 refine yF (fun am bZ σ_ w_=>∃ (U_:PHeap) (aw:List Res),σ_ 17=jV (↑am:Int)/\σ_ 0=.func (.yield y) #[] #[]/\σ_ 4=.pointer (some ⟨ak,0,none⟩)/\σ_ 8=.slice au p1.Teams.length av/\σ_ 9=jV (↑p1.Teams.length:Int)/\σ_ 10=jV (↑aj:Int)/\σ_ 15=.slice an ag.Legs.length ao/\σ_ 16=jV (↑ag.Legs.length:Int)/\PHeap.Le ay U_/\St ⟨w,L,U⟩ U_ (.blk ak 73 B1 :: aw) w_/\PY bZ U_ aw) dp ?_ ?_ ?_
 exact ⟨ay,aq,Z,cz,Z,bH,bI,bm,Z,Z,(zN _),bS,cM⟩
 rintro am bZ ep eG dS bv ⟨bD,aw,bn,bJ,bK,cA,cB,cC,bL,bM,a8,bT,cQ⟩ dD dm
 have bG:Hid ((↑am:Int) < (↑ag.Legs.length:Int)):=zI (wAo bv)
 replace bv:=zI bv
 have dr:Hid (w64 ((↑am:Int) + 1)=(↑(am + 1):Int)):=zI (by have h1:=bx.out;have h2:=bG.out;rw [wAQ] <;> omega)
 refine sR fL1 Z (oR Z (zV Z bn bM) (eN (zG (cT Z bG (kN (zG (zR (sR gBl Z (bnK dD fun ah bO dx=>?_)))))))))
 have bP:=cP.le a8
 have q:=bP.el (wAK bO)
 obtain ⟨ci,dH,d9,cS,bp,dA⟩:=q
 obtain ⟨bb,bf,bd,bg,rfl,cG,cH⟩:=dA
 replace bp:Cl bD ci (dH + am * 3) [jV ah.Skier,.slice bb ah.Loops.length bf,.slice bd ah.Bouts.length bg]:=bp
 refine oR Z (ZC Z bL cS bn ZW Zc (wAg bO)) (oL Z (bT.ldCA (f:=0) bp Z Z yy Zc (us:=[jV ah.Skier,.slice bb ah.Loops.length bf,.slice bd ah.Bouts.length bg]) Z Z) (ZB (cs:=B0) Z Z Z Z Z Zq Z bT ?_))
 intro dN bj cU
 let B2:List Value:=[jV ah.Skier,.slice bb ah.Loops.length bf,.slice bd ah.Bouts.length bg]
 refine ZK (j:=0) (vs:=B2) Z Z Z Z cU Z Z Z Z Zc (zJ Z) Z Z Z ?_
 intro cd cV
 have br:St ⟨w,L,U⟩ bD (.blk bj 76 B2 :: .blk ak 73 B1 :: aw) cd:=cV
 refine eN (sR (wDw gBd) Z (oM Z bJ (oL Z (br.ldBA (j:=1) Z Z bK yc ZS (vs:=B1) Z Z) (oL Z (br.ldBA (j:=0) Z Z Z yy Zc (vs:=B2) Z Z) ?_))))
 have cI:=cO.le a8
 refine bnK dx fun dL cJ a7=>OKS.yieldT 2 (a:=(ag,ah)) Z Z Z Z Z Z (zH Z (zH Z zZ)) br hY (bA.trans a8) cQ ⟨be,bh,an,ao,bb,bf,bd,bg,Z,cI,bP,cG,cH⟩ cJ Z ?_
 rintro ax bi dT bE dE bQ az
 rcases dL with dI | dI
 try dsimp only at a7 az
 obtain ⟨rfl,dy⟩:=az
 have cW:St ⟨w,L,U⟩ ax (.blk bj 76 B2 :: .blk ak 73 B1 :: bi) bE:=bQ
 refine oR Z (Za Z Z) (eN (zn Z (ZO (zd (zF (rR fL2 Z (oR Z (zz (zY Z bn Z) (congrArg (jV) dr.out)) (oM Z Z (zg ?_)))))))))
 have q:=nD a7
 obtain rfl:=q
 exact zF ⟨Z,_,Z,⟨ax,bi,Z,bJ,bK,cA,cB,cC,bL,bM,(a8.trans dE),(cW.drop 0),dy⟩⟩
 try dsimp only at a7 az
 obtain ⟨rfl,dz⟩:=az
 have cX:St ⟨w,L,U⟩ ax (.blk bj 76 B2 :: .blk ak 73 B1 :: bi) bE:=bQ
 refine oR Z (Za Z Z) (eN (ZA Z (zS (zU (zK ?_)))))
 have q:=wAM a7
 obtain ⟨dJ,dt,co⟩:=q
 have q:=wBI bz bt (dm dJ co)
 obtain rfl:=q
 refine zK (zU (zU (zK ?_)))
 have q:=wAM dt
 obtain ⟨dK,du,cp⟩:=q
 have q:=wBI hm bs (di dK cp)
 obtain rfl:=q
 refine zK (zU ?_)
 cases du
 exact ⟨Z,_,(wOp),ax,_,((cX.drop 1).drop 0),dz⟩
 rintro eu eB dO ⟨ca,b4,cD,cr,dU,ct,cu,cw,dV,cx,dF,cY,cK⟩ dg
 have dv:=wCg bz bt dg
 have cj:Hid (¬ ((↑(((↑ag.Legs.length:Int):Int) - 0).toNat:Int) < (↑ag.Legs.length:Int))):=zI (wAc)
 refine sR fL1 Z (oR Z (zV Z cD cx) (eN (zG (cF Z cj (ZD (zb (zb (zr (zd (zF (rR fL2 Z (oR Z (zz (zY Z cw Z) (congrArg (jV) dq.out)) (oM Z Z (zg ?_))))))))))))))
 have q:=nD dv
 obtain rfl:=q
 exact zF ⟨Z,_,Z,⟨ca,b4,Z,cr,ct,cu,(bA.trans dF),(cY.drop 0),cK⟩⟩
 rintro eA eC dP ⟨cc,dM,cE,dW,dX,cy,dZ,cZ,cL⟩ dh
 have dw:=wCg hm bs dh
 have cm:Hid (¬ ((↑(((↑p1.Teams.length:Int):Int) - 0).toNat:Int) < (↑p1.Teams.length:Int))):=zI (wAc)
 refine sR fL1 Z (oR Z (zV Z cE cy) (eN (zG (cF Z cm (ZD (zb (zb (zr ?_))))))))
 cases dw
 exact ⟨Z,_,(wOp),cc,_,cZ,cL⟩
theorem wEk (p0:wAD) (ah:Option Addr) (aj:Nat) (ai:Option Addr) (ak:Nat) (w:World) (U:PHeap) (hS:St0 w U []) (ax:Sl U 1 ah aj p0.Rules.Classes.length (nA KL.encI p0.Rules.Classes)) (ay:SlR U wFL ai ak p0.Teams) {r:Unit} (hm:wCn p0=some r):Gv Tryz.prog 172 [.agg #[.slice ah p0.Rules.Classes.length aj,jV p0.Rules.Each,jV p0.Rules.Laps,jV p0.Rules.Spare,jV p0.Rules.Loop,jV p0.Rules.Unused,jV p0.Start,.slice ai p0.Teams.length ak]] w (wBp w [] U (fun U_ L_ v=>∃ (b0:Nat),v=.func (.func 252) #[] #[.pointer (some ⟨b0,0,none⟩)]/\L_=[]/\Cl U_ b0 0 [.slice ah p0.Rules.Classes.length aj,jV p0.Rules.Each,jV p0.Rules.Laps,jV p0.Rules.Spare,jV p0.Rules.Loop,jV p0.Rules.Unused,jV p0.Start,.slice ai p0.Teams.length ak])):=by
 unfold wCn at hm
 refine Gv.of Tryz.func172 Z Tryz.ntmps172 Tryz.results172 Z (sR gBa Z ?_)
 let B0:List Value:=[.slice ah p0.Rules.Classes.length aj,jV p0.Rules.Each,jV p0.Rules.Laps,jV p0.Rules.Spare,jV p0.Rules.Loop,jV p0.Rules.Unused,jV p0.Start,.slice ai p0.Teams.length ak]
 refine ZX (cs:=B0) rfl rfl rfl rfl rfl rfl (by rfl) hS ?_
 intro W1 b2 au
 have q:=au.freeze (k:=0) rfl
 obtain ⟨U5,az,ag,av⟩:=q
 replace ag:=Cl.of ag
 have aw:sW w U U5 [] W1:=av
 replace ag:Cl U5 b2 0 B0:=ag
 refine oA Z Z (eN (sR fL2 Z (oR Z (YN Z zZ (zH Z zZ)) (oA Z Z (eN (zS ?_))))))
 cases hm
 exact ⟨Z,_,(zw Z),U5,_,aw,b2,Z,Z,ag⟩
theorem wJO (p0:Int) (w:World) (U:PHeap) (hS:St0 w U [])  {r:Bool} (hm:wCU p0=some r):Gv Tryz.prog 173 [jV p0] w (wBp w [] U (fun U_ L_ v=>v=.bool r/\L_=[])):=by
 unfold wCU at hm
 refine Gv.of Tryz.func173 Z Tryz.ntmps173 Tryz.results173 Z (sR fL1 Z (oA Z Z (eN (sR gBi Z (oM Z Z (bnK hm fun x1 h2 am=>zP 0 Z Z Z Z (zQ Z Z ym (zH Z (zH Z (zH Z zZ))) Z) hS (fun hs=>wDC p0 1 9000 w U hs h2) (.inr Z) ?_))))))
 rintro U4 L5 v6 W7 ao ak ⟨rfl,rfl⟩
 have aj:sW w U U4 [] W7:=ak
 refine oA Z Z (eN (zS ?_))
 have hE:=nD am;first | subst r | cases hE
 exact ⟨Z,_,(zw Z),U4,_,aj,Z,Z⟩
theorem wHl (p0:wAD) (aw:Option Addr) (ax:Nat) (aq:Option Addr) (au:Nat) (w:World) (U:PHeap) (hS:St0 w U []) (gc:Sl U 1 aw ax p0.Rules.Classes.length (nA KL.encI p0.Rules.Classes)) (ml:SlR U wFL aq au p0.Teams) {r:Int} (hm:wDI p0=some r):Gv Tryz.prog 90 [.agg #[.slice aw p0.Rules.Classes.length ax,jV p0.Rules.Each,jV p0.Rules.Laps,jV p0.Rules.Spare,jV p0.Rules.Loop,jV p0.Rules.Unused,jV p0.Start,.slice aq p0.Teams.length au]] w (wBp w [] U (fun U_ L_ v=>v=jV r/\L_=[])):=by
 unfold wDI at hm
 refine Go.KX.Gv.ofM Tryz.func90 Z Tryz.ntmps90 Tryz.results90 (zJ Z) (sR gBe Z ?_)
 let B0:List Value:=[.slice aw p0.Rules.Classes.length ax,jV p0.Rules.Each,jV p0.Rules.Laps,jV p0.Rules.Spare,jV p0.Rules.Loop,jV p0.Rules.Unused,jV p0.Start,.slice aq p0.Teams.length au]
 refine ZX (cs:=B0) rfl rfl rfl rfl rfl rfl (by rfl) hS ?_
 intro W1 b2 j5
 refine ZB (cs:=[jV 0]) Z Z Z Z Z Tryz.zeroValue37 Z j5 ?_
 intro W5 b6 fV
 refine eN (sR gBm Z (oR Z (zD Z Z zu Z ZZ) ?_))
 let B1:List Value:=[.slice aw p0.Rules.Classes.length ax,jV p0.Rules.Each,jV p0.Rules.Laps,jV p0.Rules.Spare,jV p0.Rules.Loop,jV p0.Rules.Unused]
 refine oL Z (fV.ldBA (j:=1) Z Z Z yR ZZ (vs:=B1) Z Z) (bnK hm fun x9 jc mD=>zP 0 Z Z Z Z (zQ Z Z Tryz.call109 (zH Z zZ) Z) fV (fun hs=>wFb p0.Rules aw ax W5 U hs gc jc) (.inr Z) ?_)
 rintro bJ ov pV eA gu jN ⟨rfl,rfl⟩
 let B2:Res:=.blk b6 37 [jV 0]
 have dt:sW w U bJ [B2,.blk b2 27 B0] eA:=jN
 refine oA Z Z (eN (zG (zR (sR fL3 Z (oM Z Z (oR Z (ZU Z Z Z) (oA Z Z (eN (ifc mD ?_ ?_)))))))))
 intro cU mF
 refine zn (zo (fun h=>h cU.out)) (sR (wDw (.fx 3 (wSP (.fx 11 (wRC (.nil)) .stop)) .stop)) Z (oR Z (zD Z Z zu Z Zu) (oL Z (dt.ldB (j:=1) Z Z Z yG (v:=.slice aq p0.Teams.length au) Z) (oR Z (zW Z Z ZN) (bnK mF fun qi jf mI=>zP 0 Z Z Z Z (zQ Z Z ym (zH Z (zH Z (zH Z zZ))) Z) dt (fun hs=>wDC (↑p0.Teams.length:Int) 1 12 eA bJ hs jf) (.inr Z) ?_)))))
 rintro bs oB pY eC gx jZ ⟨rfl,rfl⟩
 have cm:sW w U bs [B2,.blk b2 27 B0] eC:=jZ
 refine oR Z (Za Z Z) (oM Z Z (ifc mI ?_ ?_))
 intro ap mJ
 refine zf Z Z Z (zL Z Z (nC ap.out)) (fun _=>zD Z Z zu Z Zu) (zy Z Z Z (zL Z Z (nC ap.out)) (cm.ldB (j:=1) Z Z Z yG (v:=.slice aq p0.Teams.length au) Z) Z (zf Z Z Z (zL Z Z (nC ap.out)) (fun _=>zD Z Z zu Z ZZ) (zy Z Z Z (zL Z Z (nC ap.out)) (cm.ldBA (j:=1) Z Z Z yR ZZ (vs:=B1) Z Z) Z (zf Z Z Z (zL Z Z (nC ap.out)) (fun _=>YN Z (zH Z zZ) zZ) ?_))))
 have jh:=ml.le gu
 have fu:=jh.le gx
 have jj:=gc.le gu
 have fw:=jj.le gx
 have jH:FnOK Tryz.prog bs (.func (.func 170) #[.agg B1.toArray] #[]) wLh wLi (fun x=>wBM p0.Rules x):=⟨170,[.agg B1.toArray],[],rfl,Tryz.call170,fun U1 w1 x y vs le hs ha hm=>by obtain ⟨pA_0_1,pc_0_1,pA_0_2,pc_0_2,rfl,hq0_0,hq0_1⟩:=ha;exact wHN p0.Rules aw ax x pA_0_1 pc_0_1 pA_0_2 pc_0_2 w1 U1 hs (fw.le le) hq0_0 hq0_1 hm⟩
 refine bnK mJ fun qk jm mN=>zP 0 Z Z Z (zL Z Z (nC ap.out)) (zQ Z Z Tryz.call169 (zH Z (zH Z zZ)) Z) cm (fun hs=>wEZ p0.Teams aq au (fun x=>wBM p0.Rules x) (.func (.func 170) #[.agg B1.toArray] #[]) eC bs hs fu jH jm) (.inr Z) ?_
 rintro bM oH p7 eG gA lk ⟨rfl,rfl⟩
 have dv:sW w U bM [B2,.blk b2 27 B0] eG:=lk
 refine zf Z Z Z (zL Z Z (nC ap.out)) (fun _=>Za Z Z) (oR Z (za Z (nC ap.out) Z) (oA Z Z (eN (ifc mN ?_ ?_))))
 intro cX mO
 refine zn (nC cX.out) (sR (.fl 0 (.fl 1 (.fx 2 (wNf (.fx 7 (wLT (.nil)) .stop)) .stop))) Z (oR Z (zD Z Z zu Z zC) (oL Z (dv.ldB (j:=1) Z Z Z zM (v:=jV p0.Start) Z) (bnK mO fun ql jp mP=>zP 0 Z Z Z Z (zQ Z Z ym (zH Z (zH Z (zH Z zZ))) Z) dv (fun hs=>wDC p0.Start 0 36000 eG bM hs jp) (.inr Z) ?_))))
 rintro bt oJ p8 eH gD lx ⟨rfl,rfl⟩
 have dw:sW w U bt [B2,.blk b2 27 B0] eH:=lx
 refine oR Z (Za Z Z) (oM Z Z (ifc mP ?_ ?_))
 intro ay mU
 refine zf Z Z Z (zL Z Z (nC ay.out)) (fun _=>zD Z Z zu Z Zu) (zy Z Z Z (zL Z Z (nC ay.out)) (dw.ldB (j:=1) Z Z Z yG (v:=.slice aq p0.Teams.length au) Z) Z ?_)
 have ju:=fu.le gA
 have fC:=ju.le gD
 have jI:FnOK Tryz.prog bt (.func (.func 171) #[] #[]) wLh wLi wDQ:=⟨171,[],[],rfl,Tryz.call171,fun U1 w1 x y vs le hs ha hm=>by obtain ⟨pA_0_1,pc_0_1,pA_0_2,pc_0_2,rfl,hq0_0,hq0_1⟩:=ha;exact wJN x pA_0_1 pc_0_1 pA_0_2 pc_0_2 w1 U1 hs hq0_0 hq0_1 hm⟩
 refine bnK mU fun qm jv mX=>zP 0 Z Z Z (zL Z Z (nC ay.out)) (zQ Z Z Tryz.call169 (zH Z (zH Z zZ)) Z) dw (fun hs=>wEZ p0.Teams aq au wDQ (.func (.func 171) #[] #[]) eH bt hs fC jI jv) (.inr Z) ?_
 rintro bN oP qa eJ gG lR ⟨rfl,rfl⟩
 have dx:sW w U bN [B2,.blk b2 27 B0] eJ:=lR
 refine zf Z Z Z (zL Z Z (nC ay.out)) (fun _=>Za Z Z) (oR Z (za Z (nC ay.out) Z) (oA Z Z (eN (ifc mX ?_ ?_))))
 intro c9 m5
 refine zn (nC c9.out) (ZO (zd (zF (zG (sR gBf Z (oL Z (dx.ldBA (j:=1) Z Z Z yK Zf (vs:=B0) Z Z) ?_))))))
 have jA:=fw.le gA
 have jB:=jA.le gD
 have fE:=jB.le gG
 have fG:=fC.le gG
 have q:=bnd m5
 obtain ⟨⟨⟩,jC,gm⟩:=q
 try dsimp only at gm
 refine zP 0 Z Z Z Z (zQ Z Z Tryz.call172 (zH Z zZ) Z) dx (fun hs=>wEk p0 aw ax aq au eJ bN hs fE fG jC) (.inr Z) ?_
 rintro eu oQ qb iI gH mi ⟨eS,rfl,rfl,jD⟩
 have mj:sW w U eu [B2,.blk b2 27 B0] iI:=mi
 refine eN (zR (yu fun cE cy=>?_))
 have di:cE 1=.pointer (some ⟨b2,0,none⟩):=(cy 1).trans rfl
 have dm:cE 2=.pointer (some ⟨b6,0,none⟩):=(cy 2).trans rfl
 have i9:cE 51=.func (.func 252) #[] #[.pointer (some ⟨eS,0,none⟩)]:=(cy 51).trans rfl
 clear cy
 refine bnK gm fun gQ mA cr=>?_
 have fh:=fE.le gH
 have fj:=fG.le gH
 refine CK.rangeY (S:=Unit) (E:=Int) (ar:=wOw) (PY:=(fun (_:Unit) (U_:PHeap) (L_:List Res)=>L_=[B2,.blk b2 27 B0])) (PE:=(fun (oq:Int) (U_:PHeap) (L_:List Res)=>L_=[.blk b6 37 [jV oq],.blk b2 27 B0])) (exO:=(fun _=>.ret)) (s0:=()) (rr:=gQ) i9 Tryz.call252 mj (by decide) (fun _ _ _ h=>by obtain ⟨_,_,_,_,_,_,_,_,rfl,_,_,_,_⟩:=h;rfl) (fun _=>.inl rfl) rfl (fun l w1 L1 PY' PE' bR bQ bS=>wET PY' PE' _ l _ p0 eS aw ax aq au w1 L1 eu bR bQ bS jD fh fj mA) ?_ ?_
 rintro bD pS pi ⟨⟩ av qc pO bY ow oh dD bG pH jM jJ mm ge ca bi
 obtain rfl:=jJ
 obtain ⟨gI,gM,gJ,gN,bU,bW,dH,dP,rfl,pq,pt,m9,pu⟩:=mm
 replace bi:∀ t,ca t=upd (upd cE 52 (.agg #[jV av.1.Bib,.slice gI av.1.Classes.length gM,.slice gJ av.1.Legs.length gN])) 53 (.agg #[jV av.2.Skier,.slice bU av.2.Loops.length bW,.slice dH av.2.Bouts.length dP]) t:=bi
 have o8:ca 52=.agg #[jV av.1.Bib,.slice gI av.1.Classes.length gM,.slice gJ av.1.Legs.length gN]:=(bi 52).trans ((wEA _ _ (by decide)).trans (wEQ _ _ _))
 have iO:ca 53=.agg #[jV av.2.Skier,.slice bU av.2.Loops.length bW,.slice dH av.2.Bouts.length dP]:=(bi 53).trans (wEQ _ _ _)
 have o9:ca 1=.pointer (some ⟨b2,0,none⟩):=(bi 1).trans ((wEA _ _ (by decide)).trans ((wEA _ _ (by decide)).trans di))
 have iP:ca 2=.pointer (some ⟨b6,0,none⟩):=(bi 2).trans ((wEA _ _ (by decide)).trans ((wEA _ _ (by decide)).trans dm))
 clear bi
 have jO:St bG bY [.obj bD dD,B2,.blk b2 27 B0] oh:=jM
 try dsimp only at ge
 refine rR gBe Z (ZB (cs:=[jV 0,.slice none 0 0,.slice none 0 0]) Z Z Z Z Z Zq Z jO ?_)
 intro oV bO jP
 let B3:List Value:=[jV av.2.Skier,.slice bU av.2.Loops.length bW,.slice dH av.2.Bouts.length dP]
 refine ZK (j:=0) (vs:=B3) Z Z Z Z jP Z Z iO Z Zc (zJ Z) Z Z Z ?_
 intro gW jQ
 have jR:St bG bY [.blk bO 76 B3,.obj bD dD,B2,.blk b2 27 B0] gW:=jQ
 refine zg ⟨rfl,rfl,_,_,(jR.pick [1,0,2,3] [.obj bD dD,.blk bO 76 B3,B2,.blk b2 27 B0] (by decide) rfl),fun eB dE jS=>?_⟩
 have fH:St bG bY [.obj bD dE,.blk bO 76 B3,B2,.blk b2 27 B0] eB:=jS
 refine zR (sR gBm Z (oR Z (zD Z Z ZR Z zT) (oL Z (fH.ldB (j:=1) Z Z Z ze (v:=.slice bU av.2.Loops.length bW) Z) ?_)))
 have jG:FnOK Tryz.prog bY (.func (.func 173) #[] #[]) wGy wHg wCU:=⟨173,[],[],rfl,Tryz.call173,fun U1 w1 x y vs le hs ha hm=>by obtain rfl:=ha;exact wJO x w1 U1 hs  hm⟩
 refine bnK ge fun qh jd mE=>zP 0 Z Z Z Z (zQ Z Z Tryz.call114 (zH Z (zH Z zZ)) Z) fH (fun hs=>wDX av.2.Loops bU bW wCU (.func (.func 173) #[] #[]) eB bY hs m9 jG jd) (.inr Z) ?_
 rintro d7 ox pW gY pI jT ⟨rfl,rfl⟩
 have fI:St bG d7 [.obj bD dE,.blk bO 76 B3,B2,.blk b2 27 B0] gY:=jT
 refine oR Z (Za Z Z) (eN (ifc mE ?_ ?_))
 intro cV mG
 refine zn (nC cV.out) (ZO (zd ?_))
 have q:=nD mG
 obtain rfl:=q
 exact ⟨_,_,(fI.pick [0,2,3] _ (by decide) rfl),rfl,rfl⟩
 intro cV mH
 refine ZA (nF (cV.out)) (sR (.fx 0 .nil .stop) Z (ZK (j:=2) (vs:=[jV 3]) Z Z Z Z fI Z iP Z Z YC (zJ Z) Z Z Z ?_))
 intro gZ jU
 have jW:St bG d7 [.obj bD dE,.blk bO 76 B3,.blk b6 37 [jV 3],.blk b2 27 B0] gZ:=jU
 refine eN (zS (zU ?_))
 have q:=nD mH
 obtain rfl:=q
 exact ⟨_,_,(jW.pick [0,2,3] _ (by decide) rfl),rfl,rfl⟩
 rintro aj bK oy cR gv fJ
 rcases gQ with ⟨⟩ | gT
 try dsimp only at cr
 rintro rfl
 have fK:sW w U bK [B2,.blk b2 27 B0,.obj aj (.deferred (some []))] cR:=fJ
 refine zd (zF (zG (sR gBf Z (oL Z (fK.ldBA (j:=1) Z Z di yK Zf (vs:=B0) Z Z) ?_))))
 have fk:=fh.le gv
 have fm:=fj.le gv
 have q:=bnd cr
 obtain ⟨⟨⟩,je,gg⟩:=q
 try dsimp only at gg
 refine zP 0 Z Z Z Z (zQ Z Z Tryz.call172 (zH Z zZ) Z) fK (fun hs=>wEk p0 aw ax aq au cR bK hs fk fm je) (.inr Z) ?_
 rintro d8 oz pX g6 gw jX ⟨eK,rfl,rfl,jg⟩
 have jY:sW w U d8 [B2,.blk b2 27 B0,.obj aj (.deferred (some []))] g6:=jX
 refine eN (zR (yu fun cC cw=>?_))
 have de:cC 1=.pointer (some ⟨b2,0,none⟩):=(cw 1).trans di
 have df:cC 2=.pointer (some ⟨b6,0,none⟩):=(cw 2).trans dm
 have iQ:cC 59=.func (.func 252) #[] #[.pointer (some ⟨eK,0,none⟩)]:=(cw 59).trans rfl
 clear cw
 refine bnK gg fun gR mB ct=>?_
 have fq:=fk.le gw
 have ft:=fm.le gw
 refine CK.rangeY (S:=Unit) (E:=Int) (ar:=wOw) (PY:=(fun (_:Unit) (U_:PHeap) (L_:List Res)=>L_=[B2,.blk b2 27 B0,.obj aj (.deferred (some []))])) (PE:=(fun (ot:Int) (U_:PHeap) (L_:List Res)=>L_=[.blk b6 37 [jV ot],.blk b2 27 B0,.obj aj (.deferred (some []))])) (exO:=(fun _=>.ret)) (s0:=()) (rr:=gR) iQ Tryz.call252 jY (by decide) (fun _ _ _ h=>by obtain ⟨_,_,_,_,_,_,_,_,rfl,_,_,_,_⟩:=h;rfl) (fun _=>.inl rfl) rfl (fun l w1 L1 PY' PE' bR bQ bS=>wET PY' PE' _ l _ p0 eK aw ax aq au w1 L1 d8 bR bQ bS jg fq ft mB) ?_ ?_
 rintro bn pT pj ⟨⟩ an qd pP bZ oC oj cz bo pJ j4 jK mn gf cc bj
 obtain rfl:=jK
 obtain ⟨cA,cB,dI,dQ,dJ,dR,dK,dS,rfl,py,pz,pC,pD⟩:=mn
 replace bj:∀ t,cc t=upd (upd cC 60 (.agg #[jV an.1.Bib,.slice cA an.1.Classes.length cB,.slice dI an.1.Legs.length dQ])) 61 (.agg #[jV an.2.Skier,.slice dJ an.2.Loops.length dR,.slice dK an.2.Bouts.length dS]) t:=bj
 have iR:cc 60=.agg #[jV an.1.Bib,.slice cA an.1.Classes.length cB,.slice dI an.1.Legs.length dQ]:=(bj 60).trans ((wEA _ _ (by decide)).trans (wEQ _ _ _))
 have iS:cc 61=.agg #[jV an.2.Skier,.slice dJ an.2.Loops.length dR,.slice dK an.2.Bouts.length dS]:=(bj 61).trans (wEQ _ _ _)
 have pa:cc 1=.pointer (some ⟨b2,0,none⟩):=(bj 1).trans ((wEA _ _ (by decide)).trans ((wEA _ _ (by decide)).trans de))
 have iT:cc 2=.pointer (some ⟨b6,0,none⟩):=(bj 2).trans ((wEA _ _ (by decide)).trans ((wEA _ _ (by decide)).trans df))
 clear bj
 have j6:St bo bZ [.obj bn cz,B2,.blk b2 27 B0,.obj aj (.deferred (some []))] oj:=j4
 try dsimp only at gf
 refine sR gBe Z ?_
 let B4:List Value:=[jV 0,.slice none 0 0,.slice none 0 0]
 refine ZB (cs:=B4) Z Z Z Z Z Zr Z j6 ?_
 intro oW bw j7
 let B5:List Value:=[jV an.1.Bib,.slice cA an.1.Classes.length cB,.slice dI an.1.Legs.length dQ]
 refine ZK (j:=0) (vs:=B5) Z Z Z Z j7 Z Z iR Z ZS (zJ Z) Z Z Z ?_
 intro g7 j8
 have j9:St bo bZ [.blk bw 73 B5,.obj bn cz,B2,.blk b2 27 B0,.obj aj (.deferred (some []))] g7:=j8
 refine eN (rR gBe Z (ZB (cs:=B4) Z Z Z Z Z Zq Z j9 ?_))
 intro oX bP k6
 let B6:List Value:=[jV an.2.Skier,.slice dJ an.2.Loops.length dR,.slice dK an.2.Bouts.length dS]
 refine ZK (j:=0) (vs:=B6) Z Z Z Z k6 Z Z iS Z Zc (zJ Z) Z Z Z ?_
 intro g8 k8
 have k9:St bo bZ [.blk bP 76 B6,.blk bw 73 B5,.obj bn cz,B2,.blk b2 27 B0,.obj aj (.deferred (some []))] g8:=k8
 refine zg ⟨rfl,rfl,_,_,(k9.pick [2,0,1,3,4,5] [.obj bn cz,.blk bP 76 B6,.blk bw 73 B5,B2,.blk b2 27 B0,.obj aj (.deferred (some []))] (by decide) rfl),fun eD dF lb=>?_⟩
 have du:St bo bZ [.obj bn dF,.blk bP 76 B6,.blk bw 73 B5,B2,.blk b2 27 B0,.obj aj (.deferred (some []))] eD:=lb
 refine zR (sR (wIo gBg) Z (oR Z (zD Z Z ZR Z zC) (oL Z (du.ldB (j:=1) Z Z Z zM (v:=jV an.2.Skier) Z) (oR Z (zD Z Z ZH Z zT) (oL Z (du.ldB (j:=2) Z Z Z ze (v:=.slice cA an.1.Classes.length cB) Z) (oR Z (zW Z Z zA) (oR Z (yA Z Z Z) (bnK gf fun qj ji mK=>zP 0 Z Z Z Z (zQ Z Z ym (zH Z (zH Z (zH Z zZ))) Z) du (fun hs=>wDC an.2.Skier 0 (w64 ((↑an.1.Classes.length:Int) - 1)) eD bZ hs ji) (.inr Z) ?_))))))))
 rintro d9 oD pZ g9 pK lc ⟨rfl,rfl⟩
 have fL:St bo d9 [.obj bn dF,.blk bP 76 B6,.blk bw 73 B5,B2,.blk b2 27 B0,.obj aj (.deferred (some []))] g9:=lc
 refine oR Z (Za Z Z) (eN (ifc mK ?_ ?_))
 intro cW mL
 refine zn (nC cW.out) (ZO (zd ?_))
 have q:=nD mL
 obtain rfl:=q
 exact ⟨_,_,(fL.pick [0,3,4,5] _ (by decide) rfl),rfl,rfl⟩
 intro cW mM
 refine ZA (nF (cW.out)) (sR (.fx 0 .nil .stop) Z (ZK (j:=3) (vs:=[jV 1]) Z Z Z Z fL Z iT Z Z YC (zJ Z) Z Z Z ?_))
 intro ib lg
 have lh:St bo d9 [.obj bn dF,.blk bP 76 B6,.blk bw 73 B5,.blk b6 37 [jV 1],.blk b2 27 B0,.obj aj (.deferred (some []))] ib:=lg
 refine eN (zS (zU ?_))
 have q:=nD mM
 obtain rfl:=q
 exact ⟨_,_,(lh.pick [0,3,4,5] _ (by decide) rfl),rfl,rfl⟩
 rintro am bL oE cS gy fM
 rcases gR with ⟨⟩ | gU
 try dsimp only at ct
 rintro rfl
 have fN:sW w U bL [B2,.blk b2 27 B0,.obj aj (.deferred (some [])),.obj am (.deferred (some []))] cS:=fM
 refine zd (zF (zG (sR gBf Z (oL Z (fN.ldBA (j:=1) Z Z de yK Zf (vs:=B0) Z Z) ?_))))
 have fy:=fq.le gy
 have fz:=ft.le gy
 have q:=bnd ct
 obtain ⟨⟨⟩,jk,gh⟩:=q
 try dsimp only at gh
 refine zP 0 Z Z Z Z (zQ Z Z Tryz.call172 (zH Z zZ) Z) fN (fun hs=>wEk p0 aw ax aq au cS bL hs fy fz jk) (.inr Z) ?_
 rintro eh oG p6 ic gz li ⟨eM,rfl,rfl,jl⟩
 have lj:sW w U eh [B2,.blk b2 27 B0,.obj aj (.deferred (some [])),.obj am (.deferred (some []))] ic:=li
 refine eN (zR (yu fun cD cx=>?_))
 have dg:cD 1=.pointer (some ⟨b2,0,none⟩):=(cx 1).trans de
 have dh:cD 2=.pointer (some ⟨b6,0,none⟩):=(cx 2).trans df
 have iU:cD 71=.func (.func 252) #[] #[.pointer (some ⟨eM,0,none⟩)]:=(cx 71).trans rfl
 clear cx
 refine bnK gh fun gS mC cu=>?_
 have jo:=fy.le gz
 have fA:=fz.le gz
 refine CK.rangeY (S:=Unit) (E:=Int) (ar:=wOw) (PY:=(fun (_:Unit) (U_:PHeap) (L_:List Res)=>L_=[B2,.blk b2 27 B0,.obj aj (.deferred (some [])),.obj am (.deferred (some []))])) (PE:=(fun (ou:Int) (U_:PHeap) (L_:List Res)=>L_=[.blk b6 37 [jV ou],.blk b2 27 B0,.obj aj (.deferred (some [])),.obj am (.deferred (some []))])) (exO:=(fun _=>.ret)) (s0:=()) (rr:=gS) iU Tryz.call252 lj (by decide) (fun _ _ _ h=>by obtain ⟨_,_,_,_,_,_,_,_,rfl,_,_,_,_⟩:=h;rfl) (fun _=>.inl rfl) rfl (fun l w1 L1 PY' PE' bR bQ bS=>wET PY' PE' _ l _ p0 eM aw ax aq au w1 L1 eh bR bQ bS jl jo fA mC) ?_ ?_
 rintro be pU pm ⟨⟩ ao qe pQ b4 oI om dG bf pL lm jL mp cp cd bm
 obtain rfl:=jL
 obtain ⟨gK,gO,gL,gP,dL,dT,bV,bX,rfl,pE,pF,pG,n1⟩:=mp
 replace bm:∀ t,cd t=upd (upd cD 72 (.agg #[jV ao.1.Bib,.slice gK ao.1.Classes.length gO,.slice gL ao.1.Legs.length gP])) 73 (.agg #[jV ao.2.Skier,.slice dL ao.2.Loops.length dT,.slice bV ao.2.Bouts.length bX]) t:=bm
 have pb:cd 72=.agg #[jV ao.1.Bib,.slice gK ao.1.Classes.length gO,.slice gL ao.1.Legs.length gP]:=(bm 72).trans ((wEA _ _ (by decide)).trans (wEQ _ _ _))
 have iV:cd 73=.agg #[jV ao.2.Skier,.slice dL ao.2.Loops.length dT,.slice bV ao.2.Bouts.length bX]:=(bm 73).trans (wEQ _ _ _)
 have iW:cd 1=.pointer (some ⟨b2,0,none⟩):=(bm 1).trans ((wEA _ _ (by decide)).trans ((wEA _ _ (by decide)).trans dg))
 have iX:cd 2=.pointer (some ⟨b6,0,none⟩):=(bm 2).trans ((wEA _ _ (by decide)).trans ((wEA _ _ (by decide)).trans dh))
 clear bm
 have lq:St bf b4 [.obj be dG,B2,.blk b2 27 B0,.obj aj (.deferred (some [])),.obj am (.deferred (some []))] om:=lm
 try dsimp only at cp
 refine rR gBe Z (ZB (cs:=[jV 0,.slice none 0 0,.slice none 0 0]) Z Z Z Z Z Zq Z lq ?_)
 intro oY bh ls
 let B7:List Value:=[jV ao.2.Skier,.slice dL ao.2.Loops.length dT,.slice bV ao.2.Bouts.length bX]
 refine ZK (j:=0) (vs:=B7) Z Z Z Z ls Z Z iV Z Zc (zJ Z) Z Z Z ?_
 intro ig lu
 have lv:St bf b4 [.blk bh 76 B7,.obj be dG,B2,.blk b2 27 B0,.obj aj (.deferred (some [])),.obj am (.deferred (some []))] ig:=lu
 refine zg ⟨rfl,rfl,_,_,(lv.pick [1,0,2,3,4,5] [.obj be dG,.blk bh 76 B7,B2,.blk b2 27 B0,.obj aj (.deferred (some [])),.obj am (.deferred (some []))] (by decide) rfl),fun ii bT lw=>?_⟩
 have fO:St bf b4 [.obj be bT,.blk bh 76 B7,B2,.blk b2 27 B0,.obj aj (.deferred (some [])),.obj am (.deferred (some []))] ii:=lw
 refine zR (sR fL4 Z (oR Z (zD Z Z ZR Z yH) (oL Z (fO.ldB (j:=1) Z Z Z yQ (v:=.slice bV ao.2.Bouts.length bX) Z) (oR Z (zW Z Z ZL) (oM Z Z (eN (zR ?_)))))))
 have q:=wBQ cp
 obtain ⟨pR,dy⟩:=q
 have q:=wBP dy
 obtain ⟨dB,ms⟩:=q
 replace dB:=zI dB
 refine yF (fun bA _ σ_ w_=>∃ (U_:PHeap),σ_ 77=jV (↑bA:Int)/\σ_ 1=.pointer (some ⟨b2,0,none⟩)/\σ_ 2=.pointer (some ⟨b6,0,none⟩)/\σ_ 75=.slice bV ao.2.Bouts.length bX/\σ_ 76=jV (↑ao.2.Bouts.length:Int)/\PHeap.Le b4 U_/\St bf U_ [.obj be bT,.blk bh 76 B7,B2,.blk b2 27 B0,.obj aj (.deferred (some [])),.obj am (.deferred (some []))] w_) ms ?_ ?_ ?_
 exact ⟨b4,Z,iW,iX,Z,Z,(zN _),fO⟩
 rintro bA ⟨⟩ qn qq ij dz ⟨ep,dn,iY,eZ,fc,fd,gC,fP⟩ gq mq
 try dsimp only at gq
 have eV:Hid ((↑bA:Int) < (↑ao.2.Bouts.length:Int)):=zI (wAo dz)
 replace dz:=zI dz
 have my:Hid (w64 ((↑bA:Int) + 1)=(↑(bA + 1):Int)):=zI (by have h1:=dB.out;have h2:=eV.out;rw [wAQ] <;> omega)
 refine sR fL1 Z (oR Z (zV Z dn fd) (eN (zG (cT Z eV (kN (zG (zR (sR fL3 Z (bnK gq fun dX fB mQ=>?_)))))))))
 have jq:=n1.le gC
 have q:=jq.el (wAK fB)
 obtain ⟨iJ,od,qf,jE,dq,n2⟩:=q
 obtain ⟨dM,dU,rfl,jr⟩:=n2
 replace dq:Cl ep iJ (od + bA * 1) [.slice dM dX.length dU]:=dq
 refine oR Z (ZC Z fc jE dn ZL Zv (wAg fB)) (oL Z (fP.ldC (f:=0) dq (v:=.slice dM dX.length dU) Z Z yb Z) (oA Z Z (eN (sR (.fl 0 (.fx 1 (wMM (.fx 5 gBg .stop)) .stop)) Z (oM Z Z ?_)))))
 have q:=bnd mQ
 obtain ⟨⟨bE,dY⟩,jt,gi⟩:=q
 try dsimp only at gi
 refine zP 0 Z Z Z Z (zQ Z Z Tryz.call28 (zH Z zZ) Z) fP (fun hs=>wEo dX dM dU ij ep hs jr jt) (.inr Z) ?_
 rintro cg oK p9 ik n8 ly ⟨rfl,rfl⟩
 have lz:St bf cg [.obj be bT,.blk bh 76 B7,B2,.blk b2 27 B0,.obj aj (.deferred (some [])),.obj am (.deferred (some []))] ik:=ly
 refine oM Z Z (oR Z (ZF Z Z (v:=.agg #[jV bE.Spares,jV bE.Loops,jV bE.Unused]) Z) (oR Z (ZF Z Z (v:=jV dY) Z) (ZB (cs:=[jV 0,jV 0,jV 0]) Z Z Z Z Z yV Z lz ?_)))
 intro oZ eP lA
 let B8:List Value:=[jV bE.Spares,jV bE.Loops,jV bE.Unused]
 refine ZK (j:=0) (vs:=B8) Z Z Z Z lA Z Z Z Z yD (zJ Z) Z Z Z ?_
 intro il lB
 have fQ:St bf cg [.blk eP 79 B8,.obj be bT,.blk bh 76 B7,B2,.blk b2 27 B0,.obj aj (.deferred (some [])),.obj am (.deferred (some []))] il:=lB
 refine oA Z Z (eN (sR fL2 Z (oM Z Z (oR Z (ZU Z Z Z) (eN (ifc gi ?_ ?_))))))
 intro cY mR
 refine zn (zo (fun h=>h cY.out)) (ZO (zd (zF (rR fL2 Z (oR Z (zz (zY Z dn Z) (congrArg (jV) my.out)) (oM Z Z (zg ?_)))))))
 have q:=nD mR
 obtain rfl:=q
 exact zF ⟨rfl,_,rfl,⟨cg,rfl,iY,eZ,fc,fd,(gC.trans n8),(fQ.pick [1,2,3,4,5,6] _ (by decide) rfl)⟩⟩
 intro cY mS
 refine cT Z cY (sR gBf Z (oM Z Z (ZK (j:=3) (vs:=[jV dY]) Z Z Z Z fQ Z eZ Z Z YC (zJ Z) Z Z Z ?_)))
 intro im lC
 have lD:St bf cg [.blk eP 79 B8,.obj be bT,.blk bh 76 B7,.blk b6 37 [jV dY],.blk b2 27 B0,.obj aj (.deferred (some [])),.obj am (.deferred (some []))] im:=lC
 refine eN (zS (zU (zK ?_)))
 have q:=wAM mS
 obtain ⟨og,mT,iN⟩:=q
 have q:=wBI cp dy (mq og iN)
 obtain rfl:=q
 refine zK (zU (zU ?_))
 have q:=nD mT
 obtain rfl:=q
 exact ⟨_,_,(lD.pick [1,3,4,5,6] _ (by decide) rfl),rfl,rfl⟩
 rintro ⟨⟩ qr o0 ⟨oS,ja,pd,pe,pg,iZ,pM,lE⟩ mr
 have gj:=wCg cp dy mr
 try dsimp only at gj
 have iL:Hid (¬ ((↑(((↑ao.2.Bouts.length:Int):Int) - 0).toNat:Int) < (↑ao.2.Bouts.length:Int))):=zI (wAc)
 refine sR fL1 Z (oR Z (zV Z ja iZ) (eN (zG (cF Z iL (ZD (zb (zb (zr (zd ?_)))))))))
 have q:=nD gj
 obtain rfl:=q
 exact ⟨_,_,(lE.pick [0,2,3,4,5] _ (by decide) rfl),rfl,rfl⟩
 rintro bb bu oO eI n9 fR
 rcases gS with ⟨⟩ | gV
 try dsimp only at cu
 rintro rfl
 have lG:sW w U bu [B2,.blk b2 27 B0,.obj aj (.deferred (some [])),.obj am (.deferred (some [])),.obj bb (.deferred (some []))] eI:=fR
 refine zd (zF (sR gBa Z (OKS.makeMap Z Z Z Z Z lG ?_)))
 intro o3 a8 fS
 have n3:=MpR.nil wIF wIb
 refine oA Z Z (eN (zG (sR fL4 Z (oR Z (zD Z dg zu Z Zu) (oL Z (fS.ldB (j:=2) Z Z Z yG (v:=.slice aq p0.Teams.length au) Z) (oR Z (zW Z Z ZN) (oM Z Z (eN (zR (bnK cu fun qp mw mV=>?_))))))))))
 have q:=wAw mw
 obtain ⟨dC,mx⟩:=q
 replace dC:=zI dC
 refine CK.forN' (fun bC gr σ_ w_=>∃ (U_:PHeap) (ci:Array MapEntry) (dd:Nat),σ_ 94=jV (↑bC:Int)/\σ_ 1=.pointer (some ⟨b2,0,none⟩)/\σ_ 2=.pointer (some ⟨b6,0,none⟩)/\σ_ 14=.map (some a8)/\σ_ 92=.slice aq p0.Teams.length au/\σ_ 93=jV (↑p0.Teams.length:Int)/\PHeap.Le bu U_/\sW w U U_ [.obj a8 (.map ci dd),B2,.blk b2 27 B0,.obj aj (.deferred (some [])),.obj am (.deferred (some [])),.obj bb (.deferred (some []))] w_/\MpR ci wIF wIb gr) mx ?_ ?_ ?_
 exact ⟨bu,#[],0,Z,dg,dh,Z,Z,Z,(zN _),fS,n3⟩
 rintro bC gr qo qs o5 dA ⟨ch,ci,dd,dp,i2,i4,fe,ff,fg,gE,fT,jw⟩ n7
 have eW:Hid ((↑bC:Int) < (↑p0.Teams.length:Int)):=zI (wAo dA)
 replace dA:=zI dA
 have mz:Hid (w64 ((↑bC:Int) + 1)=(↑(bC + 1):Int)):=zI (by have h1:=dC.out;have h2:=eW.out;rw [wAQ] <;> omega)
 refine sR fL1 Z (oR Z (zV Z dp fg) (eN (zG (cT Z eW (kN (zG (zR (sR gBl Z (bnK n7 fun a7 fD mW=>?_)))))))))
 have jx:=fA.le n9
 have jy:=jx.le gE
 have q:=jy.el (wAK fD)
 obtain ⟨iK,oe,qg,jF,dr,n4⟩:=q
 obtain ⟨dN,dV,dO,dW,rfl,pn,pp⟩:=n4
 replace dr:Cl ch iK (oe + bC * 3) [jV a7.Bib,.slice dN a7.Classes.length dV,.slice dO a7.Legs.length dW]:=dr
 refine oR Z (ZC Z ff jF dp ZN ZS (wAg fD)) (oL Z (fT.ldCA (f:=0) dr Z Z yc ZS (us:=[jV a7.Bib,.slice dN a7.Classes.length dV,.slice dO a7.Legs.length dW]) Z Z) (ZB (cs:=[jV 0,.slice none 0 0,.slice none 0 0]) Z Z Z Z Z Zr Z fT ?_))
 intro o6 eQ lH
 let B9:List Value:=[jV a7.Bib,.slice dN a7.Classes.length dV,.slice dO a7.Legs.length dW]
 refine ZK (j:=0) (vs:=B9) Z Z Z Z lH Z Z Z Z ZS (zJ Z) Z Z Z ?_
 intro io lI
 have fU:sW w U ch [.blk eQ 73 B9,.obj a8 (.map ci dd),B2,.blk b2 27 B0,.obj aj (.deferred (some [])),.obj am (.deferred (some [])),.obj bb (.deferred (some []))] io:=lI
 refine eN (rR (wDw (.fx 3 .nil .stop)) rfl (zh rfl rfl rfl rfl rfl fe (zf rfl rfl rfl rfl (fun _=>zD rfl rfl ZH rfl zC) (zy rfl rfl rfl rfl (fU.ldB (j:=0) rfl rfl rfl zM (v:=jV a7.Bib) rfl) rfl (OKS.mapPut (x:=.tmp 98) (y:=.tmp 100) (j:=1) (mk:=wIF) (mv:=wIb) (a:=a7.Bib) (v:=true) rfl rfl rfl (by first | exact .inl rfl | exact .inr rfl) fU rfl rfl rfl rfl (wDO YE) wJM jw rfl ?_)))))
 intro eY eX ip n5 lJ
 have lK:sW w U ch [.blk eQ 73 B9,.obj a8 (.map eY eX),B2,.blk b2 27 B0,.obj aj (.deferred (some [])),.obj am (.deferred (some [])),.obj bb (.deferred (some []))] ip:=lJ
 refine zg (zd (zF (rR fL2 Z (oR Z (zz (zY Z dp Z) (congrArg (jV) mz.out)) (oM Z Z (zg ?_))))))
 cases mW
 exact zF ⟨rfl,⟨ch,eY,eX,rfl,i2,i4,fe,ff,fg,gE,(lK.pick [1,2,3,4,5,6] _ (by decide) rfl),n5⟩⟩
 rintro qt o7 ⟨bv,bz,bx,jb,i6,cj,i7,ph,i8,pN,co,jz⟩
 have iM:Hid (¬ ((↑(((↑p0.Teams.length:Int):Int) - 0).toNat:Int) < (↑p0.Teams.length:Int))):=zI (wAc)
 refine sR fL1 Z (oR Z (zV Z jb i8) (eN (zG (cF Z iM (ZD (zb (zb (zr (zF (zG (sR fL6 Z (oM Z i7 (oL Z (co.lenM (j:=0) (mk:=wIF) (mv:=wIb) Z Z Z (wDO YE) jz) (oR Z (zD Z i6 zu Z Zu) (oL Z (co.ldB (j:=2) Z Z Z yG (v:=.slice aq p0.Teams.length au) Z) (oR Z (zW Z Z ZN) (oR Z (zV Z Z Z) (eN (ifc mV ?_ ?_)))))))))))))))))))
 intro cZ mY
 refine cT Z cZ (sR (.fx 0 .nil .stop) Z (ZK (j:=1) (vs:=[jV 5]) Z Z Z Z co Z cj Z Z YC (zJ Z) Z Z Z ?_))
 intro iq lL
 let cG:Res:=.blk b6 37 [jV 5]
 have lM:sW w U bv [.obj a8 (.map bz bx),cG,.blk b2 27 B0,.obj aj (.deferred (some [])),.obj am (.deferred (some [])),.obj bb (.deferred (some []))] iq:=lL
 refine eN (zS (zK (wFH (by first | exact .inl rfl | exact .inr rfl) (rbs:=[bb,am,aj]) (L:=[.obj a8 (.map bz bx),cG,.blk b2 27 B0]) (lM.pick [0,1,2,5,4,3] _ (by decide) rfl) fun ir lN=>?_)))
 have fW:sW w U bv [.obj a8 (.map bz bx),cG,.blk b2 27 B0] ir:=lN
 cases mY
 exact ⟨_,(wGv (v:=jV 5) ⟨⟨_,cj,(wJh YH (fW.blkAt (k:=1) rfl) rfl)⟩,trivial⟩),bv,_,(fW.pick [] _ (by decide) rfl),rfl,rfl⟩
 intro cZ mZ
 refine cF Z cZ (kN (sR (.fx 0 .nil .stop) Z (ZK (j:=1) (vs:=[jV 0]) Z Z Z Z co Z cj Z Z YC (zJ Z) Z Z Z ?_)))
 intro it lO
 have lP:sW w U bv [.obj a8 (.map bz bx),B2,.blk b2 27 B0,.obj aj (.deferred (some [])),.obj am (.deferred (some [])),.obj bb (.deferred (some []))] it:=lO
 refine eN (zS (wFH (by first | exact .inl rfl | exact .inr rfl) (rbs:=[bb,am,aj]) (L:=[.obj a8 (.map bz bx),B2,.blk b2 27 B0]) (lP.pick [0,1,2,5,4,3] _ (by decide) rfl) fun iu lQ=>?_))
 have fY:sW w U bv [.obj a8 (.map bz bx),B2,.blk b2 27 B0] iu:=lQ
 cases mZ
 exact ⟨_,(wGv (v:=jV 0) ⟨⟨_,cj,(wJh YH (fY.blkAt (k:=1) rfl) rfl)⟩,trivial⟩),bv,_,(fY.pick [] _ (by decide) rfl),rfl,rfl⟩
 try dsimp only at cu
 rintro rfl
 let cH:Res:=.blk b6 37 [jV gV]
 have lS:sW w U bu [cH,.blk b2 27 B0,.obj aj (.deferred (some [])),.obj am (.deferred (some [])),.obj bb (.deferred (some []))] eI:=fR
 refine zU (zK (wFH (by first | exact .inl rfl | exact .inr rfl) (rbs:=[bb,am,aj]) (L:=[cH,.blk b2 27 B0]) (lS.pick [0,1,4,3,2] _ (by decide) rfl) fun iv lT=>?_))
 have fZ:sW w U bu [cH,.blk b2 27 B0] iv:=lT
 have hE:=nD cu;first | subst r | cases hE
 exact ⟨_,(wGv (v:=jV gV) ⟨⟨_,dh,(wJh YH (fZ.blkAt (k:=0) rfl) rfl)⟩,trivial⟩),bu,_,(fZ.pick [] _ (by decide) rfl),rfl,rfl⟩
 try dsimp only at ct
 rintro rfl
 let cI:Res:=.blk b6 37 [jV gU]
 have lU:sW w U bL [cI,.blk b2 27 B0,.obj aj (.deferred (some [])),.obj am (.deferred (some []))] cS:=fM
 refine zU (zK (wFH (by first | exact .inl rfl | exact .inr rfl) (rbs:=[am,aj]) (L:=[cI,.blk b2 27 B0]) (lU.pick [0,1,3,2] _ (by decide) rfl) fun iw lV=>?_))
 have f0:sW w U bL [cI,.blk b2 27 B0] iw:=lV
 have hE:=nD ct;first | subst r | cases hE
 exact ⟨_,(wGv (v:=jV gU) ⟨⟨_,df,(wJh YH (f0.blkAt (k:=0) rfl) rfl)⟩,trivial⟩),bL,_,(f0.pick [] _ (by decide) rfl),rfl,rfl⟩
 try dsimp only at cr
 rintro rfl
 let cJ:Res:=.blk b6 37 [jV gT]
 have lW:sW w U bK [cJ,.blk b2 27 B0,.obj aj (.deferred (some []))] cR:=fJ
 refine zU (zK (wFH (by first | exact .inl rfl | exact .inr rfl) (rbs:=[aj]) (L:=[cJ,.blk b2 27 B0]) lW fun ix lY=>?_))
 have f4:sW w U bK [cJ,.blk b2 27 B0] ix:=lY
 have hE:=nD cr;first | subst r | cases hE
 exact ⟨_,(wGv (v:=jV gT) ⟨⟨_,dm,(wJh YH (f4.blkAt (k:=0) rfl) rfl)⟩,trivial⟩),bK,_,(f4.pick [] _ (by decide) rfl),rfl,rfl⟩
 intro c9 m3
 refine ZA (nF (c9.out)) (sR (.fx 0 .nil .stop) Z (ZK (j:=0) (vs:=[jV 3]) Z Z Z Z dx Z Z Z Z YC (zJ Z) Z Z Z ?_))
 intro iy lZ
 let cK:Res:=.blk b6 37 [jV 3]
 have l0:sW w U bN [cK,.blk b2 27 B0] iy:=lZ
 refine eN (zS (zU (zK (wFH (by first | exact .inl rfl | exact .inr rfl) (rbs:=[]) (L:=[cK,.blk b2 27 B0]) l0 fun iz l3=>?_))))
 have f5:sW w U bN [cK,.blk b2 27 B0] iz:=l3
 cases m3
 exact ⟨_,(wGv (v:=jV 3) ⟨⟨_,rfl,(wJh YH (f5.blkAt (k:=0) rfl) rfl)⟩,trivial⟩),bN,_,(f5.pick [] _ (by decide) rfl),rfl,rfl⟩
 intro ay m4
 refine zc Z Z Z (zO Z Z (nF (ay.out)) Z) (zc Z Z Z (zO Z Z (nF (ay.out)) Z) (ZI Z Z Z (zO Z Z (nF (ay.out)) Z) (zc Z Z Z (zO Z Z (nF (ay.out)) Z) (oR Z (zX Z (nF (ay.out)) Z) (oA Z Z (eN (ZA Z (sR (.fx 0 .nil .stop) Z (ZK (j:=0) (vs:=[jV 3]) Z Z Z Z dw Z Z Z Z YC (zJ Z) Z Z Z ?_)))))))))
 intro iA l4
 let cL:Res:=.blk b6 37 [jV 3]
 have l5:sW w U bt [cL,.blk b2 27 B0] iA:=l4
 refine eN (zS (zU (zK (wFH (by first | exact .inl rfl | exact .inr rfl) (rbs:=[]) (L:=[cL,.blk b2 27 B0]) l5 fun iB l6=>?_))))
 have f7:sW w U bt [cL,.blk b2 27 B0] iB:=l6
 cases m4
 exact ⟨_,(wGv (v:=jV 3) ⟨⟨_,rfl,(wJh YH (f7.blkAt (k:=0) rfl) rfl)⟩,trivial⟩),bt,_,(f7.pick [] _ (by decide) rfl),rfl,rfl⟩
 intro cX m6
 refine ZA (nF (cX.out)) (sR (.fx 0 .nil .stop) Z (ZK (j:=0) (vs:=[jV 2]) Z Z Z Z dv Z Z Z Z YC (zJ Z) Z Z Z ?_))
 intro iC l7
 let cM:Res:=.blk b6 37 [jV 2]
 have l8:sW w U bM [cM,.blk b2 27 B0] iC:=l7
 refine eN (zS (zU (zK (wFH (by first | exact .inl rfl | exact .inr rfl) (rbs:=[]) (L:=[cM,.blk b2 27 B0]) l8 fun iD ma=>?_))))
 have f8:sW w U bM [cM,.blk b2 27 B0] iD:=ma
 cases m6
 exact ⟨_,(wGv (v:=jV 2) ⟨⟨_,rfl,(wJh YH (f8.blkAt (k:=0) rfl) rfl)⟩,trivial⟩),bM,_,(f8.pick [] _ (by decide) rfl),rfl,rfl⟩
 intro ap m7
 refine zc Z Z Z (zO Z Z (nF (ap.out)) Z) (zc Z Z Z (zO Z Z (nF (ap.out)) Z) (zc Z Z Z (zO Z Z (nF (ap.out)) Z) (zc Z Z Z (zO Z Z (nF (ap.out)) Z) (zc Z Z Z (zO Z Z (nF (ap.out)) Z) (ZI Z Z Z (zO Z Z (nF (ap.out)) Z) (zc Z Z Z (zO Z Z (nF (ap.out)) Z) (oR Z (zX Z (nF (ap.out)) Z) (oA Z Z (eN (ZA Z (sR (.fx 0 .nil .stop) Z (ZK (j:=0) (vs:=[jV 2]) Z Z Z Z cm Z Z Z Z YC (zJ Z) Z Z Z ?_))))))))))))
 intro iE mb
 let cN:Res:=.blk b6 37 [jV 2]
 have mc:sW w U bs [cN,.blk b2 27 B0] iE:=mb
 refine eN (zS (zU (zK (wFH (by first | exact .inl rfl | exact .inr rfl) (rbs:=[]) (L:=[cN,.blk b2 27 B0]) mc fun iF md=>?_))))
 have f9:sW w U bs [cN,.blk b2 27 B0] iF:=md
 cases m7
 exact ⟨_,(wGv (v:=jV 2) ⟨⟨_,rfl,(wJh YH (f9.blkAt (k:=0) rfl) rfl)⟩,trivial⟩),bs,_,(f9.pick [] _ (by decide) rfl),rfl,rfl⟩
 intro cU m8
 refine cT Z cU (sR gBf Z (oM Z Z (ZK (j:=0) (vs:=[jV x9]) Z Z Z Z dt Z Z Z Z YC (zJ Z) Z Z Z ?_)))
 intro iG me
 let cO:Res:=.blk b6 37 [jV x9]
 have mg:sW w U bJ [cO,.blk b2 27 B0] iG:=me
 refine eN (zS (zU (zK (wFH (by first | exact .inl rfl | exact .inr rfl) (rbs:=[]) (L:=[cO,.blk b2 27 B0]) mg fun iH mh=>?_))))
 have gb:sW w U bJ [cO,.blk b2 27 B0] iH:=mh
 have hE:=nD m8;first | subst r | cases hE
 exact ⟨_,(wGv (v:=jV x9) ⟨⟨_,rfl,(wJh YH (gb.blkAt (k:=0) rfl) rfl)⟩,trivial⟩),bJ,_,(gb.pick [] _ (by decide) rfl),rfl,rfl⟩
set_option maxHeartbeats 4000000
theorem wGI (p0:wAD) (bb:Option Addr) (bd:Nat) (ap:Option Addr) (aq:Nat) (w:World) (U:PHeap) (hS:St0 w U []) (dD:Sl U 1 bb bd p0.Rules.Classes.length (nA KL.encI p0.Rules.Classes)) (ct:SlR U wFL ap aq p0.Teams) {r:(Option wEG) × Int} (hm:wDJ p0=some r):Gv Tryz.prog 86 [.agg #[.slice bb p0.Rules.Classes.length bd,jV p0.Rules.Each,jV p0.Rules.Laps,jV p0.Rules.Spare,jV p0.Rules.Loop,jV p0.Rules.Unused,jV p0.Start,.slice ap p0.Teams.length aq]] w (wBp w [] U (fun U_ L_ v=>match r.1 with | none=>v=.tuple #[.pointer none,jV r.2]/\L_=[] | some d=>∃ (b0:Nat) (A0p000:Option Addr) (c0p000:Nat) (A0p02:Option Addr) (c0p02:Nat) (A0p1:Option Addr) (c0p1:Nat) (cs0p1:List Value),v=.tuple #[.pointer (some ⟨b0,0,none⟩),jV r.2]/\L_=[.blk b0 222 [.slice A0p000 d.Race.Rules.Classes.length c0p000,jV d.Race.Rules.Each,jV d.Race.Rules.Laps,jV d.Race.Rules.Spare,jV d.Race.Rules.Loop,jV d.Race.Rules.Unused,jV d.Race.Start,.slice A0p02 d.Race.Teams.length c0p02,.slice A0p1 d.after.length c0p1],.row A0p1 c0p1 22 1 cs0p1]/\Sl U_ 1 A0p000 c0p000 d.Race.Rules.Classes.length (nA KL.encI d.Race.Rules.Classes)/\SlR U_ wFL A0p02 c0p02 d.Race.Teams/\RlL U_ wDe d.after cs0p1)):=by
 unfold wDJ at hm
 refine Gv.of Tryz.func86 Z Tryz.ntmps86 Tryz.results86 Z (sR gBk Z ?_)
 let B0:List Value:=[.slice bb p0.Rules.Classes.length bd,jV p0.Rules.Each,jV p0.Rules.Laps,jV p0.Rules.Spare,jV p0.Rules.Loop,jV p0.Rules.Unused,jV p0.Start,.slice ap p0.Teams.length aq]
 refine ZX (cs:=B0) rfl rfl rfl rfl rfl rfl (by rfl) hS ?_
 intro W1 b2 dz
 refine oA Z Z (oA Z Z (eN (zG (sR gBi Z (oL Z (dz.ldBA (j:=0) Z Z Z yK Zf (vs:=B0) Z Z) (bnK hm fun x5 h6 iB=>zP 0 Z Z Z Z (zQ Z Z Tryz.call90 (zH Z zZ) Z) dz (fun hs=>wHl p0 bb bd ap aq W1 U hs dD ct h6) (.inr Z) ?_))))))
 rintro U8 L9 jb dY cB gD ⟨rfl,rfl⟩
 have cp:sW w U U8 [.blk b2 27 B0] dY:=gD
 refine oA Z Z (eN (sR fL2 Z (oM Z Z (oR Z (ZU Z Z Z) (eN (ifc iB ?_ ?_))))))
 intro bX ip
 refine zn (zo (fun h=>h bX.out)) (kN (sR gBm Z (oL Z (cp.ldBA (j:=0) Z Z Z yK Zf (vs:=B0) Z Z) ?_)))
 let B1:List Value:=[.slice bb p0.Rules.Classes.length bd,jV p0.Rules.Each,jV p0.Rules.Laps,jV p0.Rules.Spare,jV p0.Rules.Loop,jV p0.Rules.Unused,jV p0.Start,.slice ap p0.Teams.length aq,.slice none 0 0]
 refine zf rfl rfl rfl rfl (fun _=>ZT (pv:=[(0,.agg B0.toArray)]) (z:=[.slice none 0 0,jV 0,jV 0,jV 0,jV 0,jV 0,jV 0,.slice none 0 0,.slice none 0 0]) (cs:=B1) rfl (wAA rfl wAO) Tryz.zeroValue222 wOE rfl rfl) (ZX (cs:=B1) rfl rfl rfl rfl rfl rfl (by rfl) cp ?_)
 intro iT be dw
 refine oA Z Z (eN (zG (sR fL7 Z (oM Z Z (oR Z (yC Z Z) (oR Z (zD Z Z Zw Z Zf) (oR Z (zD Z Z zu Z Zu) (oL Z (dw.ldB (j:=0) Z Z Z yG (v:=.slice ap p0.Teams.length aq) Z) (oR Z (zW Z Z ZN) (oM Z Z (eN (zR (bnK ip fun jo ij iz=>?_)))))))))))))
 have q:=wAw ij
 obtain ⟨cA,ik⟩:=q
 replace cA:=zI cA
 refine CK.forN' (fun a8 bv σ_ w_=>∃ (U_:PHeap) (bo:Option Addr) (bs:Nat) (bM:List Value),σ_ 29=jV (↑a8:Int)/\σ_ 5=.pointer (some ⟨be,0,none⟩)/\σ_ 27=.slice ap p0.Teams.length aq/\σ_ 28=jV (↑p0.Teams.length:Int)/\PHeap.Le U8 U_/\sW w U U_ [.row bo bs 22 1 bM,.blk be 222 [.slice bb p0.Rules.Classes.length bd,jV p0.Rules.Each,jV p0.Rules.Laps,jV p0.Rules.Spare,jV p0.Rules.Loop,jV p0.Rules.Unused,jV p0.Start,.slice ap p0.Teams.length aq,.slice bo bv.length bs],.blk b2 27 B0] w_/\RlL U_ wDe bv bM) ik ?_ ?_ ?_
 have g8:=dw.nilrow 22 1
 exact ⟨U8,none,0,[],Z,Z,Z,Z,(zN _),g8,RlL.nil⟩
 rintro a8 bv jj jv iY cx ⟨bJ,bo,bs,bM,ch,dm,dn,dp,dP,dC,gq⟩ iH
 have cV:Hid ((↑a8:Int) < (↑p0.Teams.length:Int)):=zI (wAo cx)
 replace cx:=zI cx
 have im:Hid (w64 ((↑a8:Int) + 1)=(↑(a8 + 1):Int)):=zI (by have h1:=cA.out;have h2:=cV.out;rw [wAQ] <;> omega)
 refine sR fL1 Z (oR Z (zV Z ch dp) (eN (zG (cT Z cV (kN (zG (zR (sR gBl Z (bnK iH fun ah dt iA=>?_)))))))))
 have gr:=ct.le cB
 have gu:=gr.le dP
 have q:=gu.el (wAK dt)
 obtain ⟨eM,iM,jf,gz,co,iF⟩:=q
 obtain ⟨cD,cG,bi,bj,rfl,i9,gv⟩:=iF
 replace co:Cl bJ eM (iM + a8 * 3) [jV ah.Bib,.slice cD ah.Classes.length cG,.slice bi ah.Legs.length bj]:=co
 refine oR Z (ZC Z dn gz ch ZN ZS (wAg dt)) (oL Z (dC.ldCA (f:=0) co Z Z yc ZS (us:=[jV ah.Bib,.slice cD ah.Classes.length cG,.slice bi ah.Legs.length bj]) Z Z) ?_)
 let B2:List Value:=[jV 0,.slice none 0 0,.slice none 0 0]
 refine ZB (cs:=B2) Z Z Z Z Z Zr Z dC ?_
 intro iZ an g9
 let B3:List Value:=[jV ah.Bib,.slice cD ah.Classes.length cG,.slice bi ah.Legs.length bj]
 refine ZK (j:=0) (vs:=B3) Z Z Z Z g9 Z Z Z Z ZS (zJ Z) Z Z Z ?_
 intro eD ib
 let B4:Res:=.blk be 222 [.slice bb p0.Rules.Classes.length bd,jV p0.Rules.Each,jV p0.Rules.Laps,jV p0.Rules.Spare,jV p0.Rules.Loop,jV p0.Rules.Unused,jV p0.Start,.slice ap p0.Teams.length aq,.slice bo bv.length bs]
 let B5:Res:=.row bo bs 22 1 bM
 have cr:sW w U bJ [.blk an 73 B3,B5,B4,.blk b2 27 B0] eD:=ib
 refine eN (sR fL6 Z (oM Z dm (oR Z (yC Z Z) (oR Z (zD Z Z Zw Z Zf) (oR Z (zD Z Z zu Z zC) (oL Z (cr.ldB (j:=2) Z Z Z zM (v:=jV p0.Start) Z) (oA Z Z (eN (sR fL1 Z (oA Z Z (eN (zG (sR fL4 Z (oR Z (zD Z Z ZH Z yT) (oL Z (cr.ldB (j:=0) Z Z Z yd (v:=.slice bi ah.Legs.length bj) Z) (oR Z (zW Z Z ZW) (oM Z Z (eN (zR ?_)))))))))))))))))))
 have q:=bnd iA
 obtain ⟨⟨jk,bm⟩,ic,dF⟩:=q
 try dsimp only at dF
 have q:=wAw ic
 obtain ⟨cy,ie⟩:=q
 replace cy:=zI cy
 refine CK.forN' (fun bf (dQ,bP) σ_ w_=>∃ (U_:PHeap) (bw:Option Addr) (bC:Nat),σ_ 41=jV (↑bf:Int)/\σ_ 5=.pointer (some ⟨be,0,none⟩)/\σ_ 8=jV dQ/\σ_ 9=.slice bw bP.length bC/\σ_ 27=.slice ap p0.Teams.length aq/\σ_ 28=jV (↑p0.Teams.length:Int)/\σ_ 29=jV (↑a8:Int)/\σ_ 39=.slice bi ah.Legs.length bj/\σ_ 40=jV (↑ah.Legs.length:Int)/\PHeap.Le bJ U_/\sW w U U_ [.blk an 73 B3,B5,B4,.blk b2 27 B0,.row bw bC 3 1 (nA KL.encI bP)] w_) ie ?_ ?_ ?_
 have gC:=cr.nilrow 3 1
 exact ⟨bJ,none,0,rfl,dm,rfl,rfl,dn,dp,ch,rfl,rfl,(zN _),(gC.pick [1,2,3,4,0] _ (by decide) rfl)⟩
 rintro bf ⟨dQ,bP⟩ jh jp iR cu ⟨bI,bw,bC,cg,eY,eZ,fc,fd,fe,ff,cW,cX,dL,du⟩ dJ
 try dsimp only at dJ
 have cQ:Hid ((↑bf:Int) < (↑ah.Legs.length:Int)):=zI (wAo cu)
 replace cu:=zI cu
 have il:Hid (w64 ((↑bf:Int) + 1)=(↑(bf + 1):Int)):=zI (by have h1:=cy.out;have h2:=cQ.out;rw [wAQ] <;> omega)
 refine sR fL1 Z (oR Z (zV Z cg cX) (eN (zG (cT Z cQ (kN (zG (zR (sR gBl Z (bnK dJ fun aj dq io=>?_)))))))))
 have fW:=gv.le dL
 have q:=fW.el (wAK dq)
 obtain ⟨eG,iK,jd,gw,cj,iC⟩:=q
 obtain ⟨bE,bF,bR,bS,rfl,fY,fZ⟩:=iC
 replace cj:Cl bI eG (iK + bf * 3) [jV aj.Skier,.slice bE aj.Loops.length bF,.slice bR aj.Bouts.length bS]:=cj
 refine oR Z (ZC Z cW gw cg ZW Zc (wAg dq)) (oL Z (du.ldCA (f:=0) cj Z Z yy Zc (us:=[jV aj.Skier,.slice bE aj.Loops.length bF,.slice bR aj.Bouts.length bS]) Z Z) (ZB (cs:=B2) Z Z Z Z Z Zq Z du ?_))
 intro iS az gE
 let B6:List Value:=[jV aj.Skier,.slice bE aj.Loops.length bF,.slice bR aj.Bouts.length bS]
 refine ZK (j:=0) (vs:=B6) Z Z Z Z gE Z Z Z Z Zc (zJ Z) Z Z Z ?_
 intro dZ gG
 have dv:sW w U bI [.blk az 76 B6,.blk an 73 B3,B5,B4,.blk b2 27 B0,.row bw bC 3 1 (nA KL.encI bP)] dZ:=gG
 refine eN (sR fL4 Z (oR Z (zD Z Z ZR Z zT) (oL Z (dv.ldB (j:=0) Z Z Z ze (v:=.slice bE aj.Loops.length bF) Z) (oR Z (zW Z Z zA) (oM Z Z (eN (zR ?_)))))))
 have q:=bnd io
 obtain ⟨⟨jl,jm⟩,ig,dG⟩:=q
 try dsimp only at dG
 have q:=wAw ig
 obtain ⟨cz,ii⟩:=q
 replace cz:=zI cz
 refine CK.forN' (fun bh (av,bg) σ_ w_=>∃ (U_:PHeap) (bn:Option Addr) (br:Nat),σ_ 48=jV (↑bh:Int)/\σ_ 5=.pointer (some ⟨be,0,none⟩)/\σ_ 8=jV av/\σ_ 9=.slice bn bg.length br/\σ_ 11=.pointer (some ⟨az,0,none⟩)/\σ_ 27=.slice ap p0.Teams.length aq/\σ_ 28=jV (↑p0.Teams.length:Int)/\σ_ 29=jV (↑a8:Int)/\σ_ 39=.slice bi ah.Legs.length bj/\σ_ 40=jV (↑ah.Legs.length:Int)/\σ_ 41=jV (↑bf:Int)/\σ_ 47=jV (↑aj.Loops.length:Int)/\PHeap.Le bI U_/\sW w U U_ [.blk az 76 B6,.blk an 73 B3,B5,B4,.blk b2 27 B0,.row bn br 3 1 (nA KL.encI bg)] w_) ii ?_ ?_ ?_
 exact ⟨bI,bw,bC,Z,eY,eZ,fc,Z,fd,fe,ff,cW,cX,cg,Z,(zN _),dv⟩
 rintro bh ⟨av,bg⟩ ji jq d6 cw ⟨bz,bn,br,bO,cY,fg,cZ,bN,c9,dd,de,df,dg,dh,ca,bQ,bt⟩ dK
 try dsimp only at dK
 have cR:Hid ((↑bh:Int) < (↑aj.Loops.length:Int)):=zI (wAo cw)
 replace cw:=zI cw
 have dE:Hid (w64 ((↑bh:Int) + 1)=(↑(bh + 1):Int)):=zI (by have h1:=cz.out;have h2:=cR.out;rw [wAQ] <;> omega)
 refine sR fL1 Z (oR Z (zV Z bO ca) (eN (zG (cT Z cR (kN (zG (zR (sR fL2 Z (oM Z bO (oA Z Z (eN (sR fL8 Z (oM Z fg (oR Z (zD Z bN ZR Z zT) (oL Z (bt.ldB (j:=0) Z Z Z ze (v:=.slice bE aj.Loops.length bF) Z) (oM Z Z (bnK dK fun ay dr iq=>?_)))))))))))))))))
 have f0:=fY.le bQ
 have q:=f0.el (fun _=>rfl) (wAK dr)
 obtain ⟨i2,ja,gx,gA⟩:=q
 refine oR Z (ZC Z Z gx Z zA zC (wAg dr)) (oL Z (bt.ldC (f:=0) gA (v:=jV ay) Z Z zM Z) (oR Z (zY Z Z Z) (oA Z Z (eN (zG (sR fL2 Z (oM Z Z (oR Z (yP Z Z Z) (eN (ifc iq ?_ ?_))))))))))
 intro bY ir
 refine cT Z bY (sR (wIo (.fx 6 (wQy (.fx 10 (.fx 11 (.fl 12 .nil) .stop) .stop)) .stop)) Z (oR Z (zD Z bN ZR Z yH) (oL Z (bt.ldB (j:=0) Z Z Z yQ (v:=.slice bR aj.Bouts.length bS) Z) (oM Z Z (oR Z (yA Z Z Z) (bnK ir fun cH ci it=>?_))))))
 have f4:=fZ.le bQ
 have q:=f4.el (wAK ci)
 obtain ⟨eH,iL,je,gy,cm,iD⟩:=q
 obtain ⟨cC,cE,rfl,f5⟩:=iD
 replace cm:Cl bz eH (iL + (w64 ((↑bh:Int) - 1)).toNat * 1) [.slice cC cH.length cE]:=cm
 refine oR Z (zx Z Z gy Z ZL Zv (wAi ci) (wAj ci)) (oL Z (bt.ldC (f:=0) cm (v:=.slice cC cH.length cE) Z Z yb Z) ?_)
 have q:=bnd it
 obtain ⟨⟨ai,iN⟩,f7,dH⟩:=q
 try dsimp only at dH
 refine zP 0 Z Z Z Z (zQ Z Z Tryz.call28 (zH Z zZ) Z) bt (fun hs=>wEo cH cC cE d6 bz hs f5 f7) (.inr Z) ?_
 rintro bA iO jc d7 iI gH ⟨rfl,rfl⟩
 let B7:Res:=.row bn br 3 1 (nA KL.encI bg)
 have gI:sW w U bA [.blk az 76 B6,.blk an 73 B3,B5,B4,.blk b2 27 B0,B7] d7:=gH
 refine oM Z Z (oR Z (ZF Z Z (v:=.agg #[jV ai.Spares,jV ai.Loops,jV ai.Unused]) Z) (oR Z (ZF Z Z (v:=jV iN) Z) (ZB (cs:=[jV 0,jV 0,jV 0]) Z Z Z Z Z yV Z gI ?_)))
 intro iU bL gJ
 let B8:List Value:=[jV ai.Spares,jV ai.Loops,jV ai.Unused]
 refine ZK (j:=0) (vs:=B8) Z Z Z Z gJ Z Z Z Z yD (zJ Z) Z Z Z ?_
 intro bW gK
 have gL:sW w U bA [.blk bL 79 B8,.blk az 76 B6,.blk an 73 B3,B5,B4,.blk b2 27 B0,B7] bW:=gK
 refine oA Z Z (eN (yu fun aw ao=>?_))
 have cc:aw 5=.pointer (some ⟨be,0,none⟩):=(ao 5).trans cY
 have fh:aw 8=jV (w64 (av + ay)):=(ao 8).trans rfl
 have fj:aw 9=.slice bn bg.length br:=(ao 9).trans cZ
 have fk:aw 11=.pointer (some ⟨az,0,none⟩):=(ao 11).trans bN
 have di:aw 13=.pointer (some ⟨bL,0,none⟩):=(ao 13).trans rfl
 have fm:aw 27=.slice ap p0.Teams.length aq:=(ao 27).trans c9
 have fq:aw 28=jV (↑p0.Teams.length:Int):=(ao 28).trans dd
 have ft:aw 29=jV (↑a8:Int):=(ao 29).trans de
 have fu:aw 39=.slice bi ah.Legs.length bj:=(ao 39).trans df
 have fw:aw 40=jV (↑ah.Legs.length:Int):=(ao 40).trans dg
 have fy:aw 41=jV (↑bf:Int):=(ao 41).trans dh
 have fz:aw 47=jV (↑aj.Loops.length:Int):=(ao 47).trans ca
 have fA:aw 48=jV (↑bh:Int):=(ao 48).trans bO
 clear ao
 refine ZY ZQ [3,3,1,3,3,3,3,3,1,3,3,1,3,3,3,3,3,1,3,3,3,3] fL22 (by kernel_rfl) ?_
 have bu:=gL.drew
 generalize hw_W268:({ bW with drawn:=bW.drawn + 1 }:World)=iV at bu ⊢
 refine oM Z fh (oR Z (zD Z di Tryz.runUnderlying79 Z zC) (oL Z (bu.ldB (j:=0) Z Z Z zM (v:=jV ai.Spares) Z) (oM Z cc (oR Z (yC Z Z) (oR Z (zD Z Z Zw Z Zf) (oR Z (zD Z Z zu Z ZZ) (oR Z (zD Z Z ZG Z zC) (oL Z (bu.ldB (j:=4) Z Z Z zM (v:=jV p0.Rules.Spare) Z) (oR Z (YW Z Z Z) (oR Z (zD Z di Tryz.runUnderlying79 Z zC) (oL Z (bu.ldB (j:=0) Z Z Z zM (v:=jV ai.Loops) Z) (oM Z cc (oR Z (yC Z Z) (oR Z (zD Z Z Zw Z Zf) (oR Z (zD Z Z zu Z ZZ) (oR Z (zD Z Z ZG Z zC) (oL Z (bu.ldB (j:=4) Z Z Z zM (v:=jV p0.Rules.Loop) Z) (oR Z (YW Z Z Z) (oR Z (zY Z Z Z) (oR Z (zY Z Z Z) (oA Z Z (eN (rR gBp Z (oM Z fj (oM Z Z (zk (pv:=[(0,jV (w64 ((w64 (av + ay)) + (w64 ((w64 (ai.Spares * p0.Rules.Spare)) + (w64 (ai.Loops * p0.Rules.Loop)))))))]) (zs:=[jV 0]) (cs:=[jV (w64 ((w64 (av + ay)) + (w64 ((w64 (ai.Spares * p0.Rules.Spare)) + (w64 (ai.Loops * p0.Rules.Loop))))))]) Z Z Z Z Z (wAA Z wAO) zA zC ZM Z Z Z Z Z bu ?_))))))))))))))))))))))))))
 intro d8 eI gM
 let B9:Res:=.row (some ⟨eI,0,none⟩) 1 3 1 (nA KL.encI [w64 ((w64 (av + ay)) + (w64 ((w64 (ai.Spares * p0.Rules.Spare)) + (w64 (ai.Loops * p0.Rules.Loop)))))])
 have dx:sW w U bA [B9,.blk bL 79 B8,.blk az 76 B6,.blk an 73 B3,B5,B4,.blk b2 27 B0,B7] d8:=gM
 refine bnK dH fun dR f8 iu=>yE (j:=7) (enc:=KL.encI) (xs:=bg) (ys:=[w64 ((w64 (av + ay)) + (w64 ((w64 (ai.Spares * p0.Rules.Spare)) + (w64 (ai.Loops * p0.Rules.Loop)))))]) (zs:=dR) rfl rfl rfl rfl rfl Zy wFN rfl rfl rfl rfl rfl rfl dx rfl rfl rfl (dx.srcR (j:=0) rfl (by decide) (wAC (f:=KL.encI) (sz:=1) (fun _=>rfl) [w64 ((w64 (av + ay)) + (w64 ((w64 (ai.Spares * p0.Rules.Spare)) + (w64 (ai.Loops * p0.Rules.Loop)))))])) (fun _=>rfl) (fun _=>rfl) f8 rfl ?_
 intro cJ cS d9 gN
 have gO:sW w U bA [B9,.blk bL 79 B8,.blk az 76 B6,.blk an 73 B3,B5,B4,.blk b2 27 B0,.row cJ cS 3 1 (nA KL.encI dR)] d9:=gN
 refine oA Z Z (zg (zd (zF (rR fL2 Z (oR Z (zz (zY Z fA Z) (congrArg (jV) dE.out)) (oM Z Z (zg ?_)))))))
 cases iu
 exact zF ⟨rfl,⟨bA,cJ,cS,rfl,cc,rfl,rfl,fk,fm,fq,ft,fu,fw,fy,fz,(bQ.trans iI),(gO.pick [2,3,4,5,6,7] _ (by decide) rfl)⟩⟩
 intro bY iv
 refine cF Z bY (kN (rR gBp Z (oM Z cZ (oM Z Z (zk (pv:=[(0,jV (w64 (av + ay)))]) (zs:=[jV 0]) (cs:=[jV (w64 (av + ay))]) Z Z Z Z Z (wAA Z wAO) zA zC ZM Z Z Z Z Z bt ?_)))))
 intro eh eJ gP
 let cM:Res:=.row (some ⟨eJ,0,none⟩) 1 3 1 (nA KL.encI [w64 (av + ay)])
 have dy:sW w U bz [cM,.blk az 76 B6,.blk an 73 B3,B5,B4,.blk b2 27 B0,.row bn br 3 1 (nA KL.encI bg)] eh:=gP
 refine bnK iv fun dS f9 iw=>yE (j:=6) (enc:=KL.encI) (xs:=bg) (ys:=[w64 (av + ay)]) (zs:=dS) rfl rfl rfl rfl rfl Zy wFN rfl rfl rfl rfl rfl rfl dy rfl rfl rfl (dy.srcR (j:=0) rfl (by decide) (wAC (f:=KL.encI) (sz:=1) (fun _=>rfl) [w64 (av + ay)])) (fun _=>rfl) (fun _=>rfl) f9 rfl ?_
 intro cK cU ep gQ
 have gR:sW w U bz [cM,.blk az 76 B6,.blk an 73 B3,B5,B4,.blk b2 27 B0,.row cK cU 3 1 (nA KL.encI dS)] ep:=gQ
 refine oA Z Z (zg (zd (zF (rR fL2 Z (oR Z (zz (zY Z bO Z) (congrArg (jV) dE.out)) (oM Z Z (zg ?_)))))))
 cases iw
 exact zF ⟨rfl,⟨bz,cK,cU,rfl,cY,rfl,rfl,bN,c9,dd,de,df,dg,dh,ca,bQ,(gR.pick [1,2,3,4,5,6] _ (by decide) rfl)⟩⟩
 rintro jr iW ⟨dV,dT,eP,fT,fB,fC,fD,i4,fE,fG,fH,fI,fJ,fK,fL,iJ,gS⟩
 have eQ:Hid (¬ ((↑(((↑aj.Loops.length:Int):Int) - 0).toNat:Int) < (↑aj.Loops.length:Int))):=zI (wAc)
 refine sR fL1 Z (oR Z (zV Z fT fL) (eN (zG (cF Z eQ (ZD (zb (zb (zr (zd (zF (rR fL2 Z (oR Z (zz (zY Z fK Z) (congrArg (jV) il.out)) (oM Z Z (zg ?_))))))))))))))
 cases dG
 exact zF ⟨rfl,⟨dV,dT,eP,rfl,fB,fC,fD,fE,fG,fH,fI,fJ,(dL.trans iJ),(gS.pick [1,2,3,4,5] _ (by decide) rfl)⟩⟩
 rintro jt eu ⟨iQ,bT,bZ,fU,cd,i6,fM,fN,fO,fP,i7,fQ,dM,dA⟩
 have eS:Hid (¬ ((↑(((↑ah.Legs.length:Int):Int) - 0).toNat:Int) < (↑ah.Legs.length:Int))):=zI (wAc)
 refine sR fL1 Z (oR Z (zV Z fU fQ) (eN (zG (cF Z eS (ZD (zb (zb (zr (zF (rR (wIo (.fx 6 (.fx 7 (.fl 8 (.fl 9 (.fx 10 .nil .stop))) .stop) .stop)) Z (oM Z cd (oM Z cd (oR Z (yC Z Z) (oR Z (zD Z Z Zw Z ZV) (oL Z (dA.ldB (j:=2) Z Z Z Zj (v:=.slice bo bv.length bs) Z) (oM Z fM ?_))))))))))))))))
 have q:=dA.freezeR (k:=4) (n:=bm.length) rfl (wAC (f:=KL.encI) (sz:=1) (fun _=>rfl) bm) (by decide)
 obtain ⟨bp,dN,iG,gU⟩:=q
 have gV:sW w U bp [.blk an 73 B3,B5,B4,.blk b2 27 B0] eu:=gU
 let bG:List Value:=[.slice bT bm.length bZ]
 refine zk (pv:=[(0,.slice bT bm.length bZ)]) (zs:=[.slice none 0 0]) (cs:=bG) Z Z Z Z Z (wAA Z wAO) zm zT yz Z Z Z Z Z gV ?_
 intro eA eK gT
 have dI:RlL bp wDe [bm] bG:=(RlL.cons (R:=wDe) (x:=bm) (vs:=bG) ⟨bT,bZ,rfl,iG⟩ RlL.nil)
 let bU:Res:=.row (some ⟨eK,0,none⟩) 1 22 1 bG
 have dB:sW w U bp [bU,.blk an 73 B3,B5,B4,.blk b2 27 B0] eA:=gT
 refine bnK dF fun cI gb ix=>?_
 have gc:=gq.le dM
 have ge:=gc.le dN
 refine YP (R:=wDe) (j:=2) (xs:=bv) (ys:=[bm]) (zs:=cI) rfl rfl rfl rfl rfl Tryz.underlying46 wJs rfl rfl rfl rfl rfl rfl rfl dB rfl rfl rfl ge dI (dB.srcR (j:=0) rfl (by decide) (RlL.len dI)) gb rfl ?_
 intro bx bD b4 eB gW iE
 have gY:sW w U bp [bU,.blk an 73 B3,.row bx bD 22 1 b4,B4,.blk b2 27 B0] eB:=gW
 refine oR Z (yC Z Z) (oR Z (zD Z Z Zw Z ZV) (ZK (j:=3) (vs:=[.slice bx cI.length bD]) Z Z Z Z gY Z Z Z Z ZV (zJ Z) Z Z Z ?_))
 intro eC gZ
 have g6:sW w U bp [bU,.blk an 73 B3,.row bx bD 22 1 b4,.blk be 222 [.slice bb p0.Rules.Classes.length bd,jV p0.Rules.Each,jV p0.Rules.Laps,jV p0.Rules.Spare,jV p0.Rules.Loop,jV p0.Rules.Unused,jV p0.Start,.slice ap p0.Teams.length aq,.slice bx cI.length bD],.blk b2 27 B0] eC:=gZ
 refine zg (zd (zF (rR fL2 Z (oR Z (zz (zY Z fP Z) (congrArg (jV) im.out)) (oM Z Z (zg ?_))))))
 cases ix
 exact zF ⟨rfl,⟨bp,bx,bD,b4,rfl,cd,fN,fO,((dP.trans dM).trans dN),(g6.pick [2,3,4] _ (by decide) rfl),iE⟩⟩
 rintro ju iX ⟨dW,dU,eV,eW,fV,fR,i8,fS,dO,g7,gf⟩
 have eX:Hid (¬ ((↑(((↑p0.Teams.length:Int):Int) - 0).toNat:Int) < (↑p0.Teams.length:Int))):=zI (wAc)
 refine sR fL1 Z (oR Z (zV Z fV fS) (eN (zG (cF Z eX (ZD (zb (zb (zr (zF (sR fL3 Z (oM Z fR (oA Z Z (oA Z Z (eN (zS ?_)))))))))))))))
 have gg:=dD.le cB
 have gh:=gg.le dO
 have gi:=ct.le cB
 have gj:=gi.le dO
 cases iz
 exact ⟨rfl,_,(wFA rfl rfl),dW,_,(g7.pick [1,0] _ (by decide) rfl),be,bb,bd,ap,aq,dU,eV,eW,rfl,rfl,gh,gj,gf⟩
 intro bX iy
 refine cT Z bX (sR fL3 Z (oM Z Z (oA Z Z (oA Z Z (eN (zS (zK ?_)))))))
 cases iy
 exact ⟨rfl,_,(wFA rfl rfl),U8,_,(cp.pick [] _ (by decide) rfl),rfl,rfl⟩
theorem wHm (p0:wEG) (aj:Nat) (av:Option Addr) (ax:Nat) (aw:Option Addr) (ay:Nat) (ai:Option Addr) (ak:Nat) (p1:Int) (w:World) (U:PHeap) (hS:St0 w U [.blk aj 222 [.slice av p0.Race.Rules.Classes.length ax,jV p0.Race.Rules.Each,jV p0.Race.Rules.Laps,jV p0.Race.Rules.Spare,jV p0.Race.Rules.Loop,jV p0.Race.Rules.Unused,jV p0.Race.Start,.slice aw p0.Race.Teams.length ay,.slice ai p0.after.length ak]]) (cA:Sl U 1 av ax p0.Race.Rules.Classes.length (nA KL.encI p0.Race.Rules.Classes)) (cB:SlR U wFL aw ay p0.Race.Teams) (b4:SlR U wDe ai ak p0.after) {r:(List Int)} (hm:wEY p0 p1=some r):Gv Tryz.prog 160 [.pointer (some ⟨aj,0,none⟩),jV p1] w (wBp w [.blk aj 222 [.slice av p0.Race.Rules.Classes.length ax,jV p0.Race.Rules.Each,jV p0.Race.Rules.Laps,jV p0.Race.Rules.Spare,jV p0.Race.Rules.Loop,jV p0.Race.Rules.Unused,jV p0.Race.Start,.slice aw p0.Race.Teams.length ay,.slice ai p0.after.length ak]] U (fun U_ L_ v=>∃ (A0:Option Addr) (c0:Nat),v=.slice A0 r.length c0/\L_=[.row A0 c0 3 1 (nA KL.encI r),.blk aj 222 [.slice av p0.Race.Rules.Classes.length ax,jV p0.Race.Rules.Each,jV p0.Race.Rules.Laps,jV p0.Race.Rules.Spare,jV p0.Race.Rules.Loop,jV p0.Race.Rules.Unused,jV p0.Race.Start,.slice aw p0.Race.Teams.length ay,.slice ai p0.after.length ak]])):=by
 unfold wEY at hm
 refine Gv.of Tryz.func160 Z Tryz.ntmps160 Tryz.results160 Z (sR fL1 Z (oA Z Z (eN (sR fL1 Z (oA Z Z (eN (zG (sR fL9 Z (oM Z Z (oR Z (yC Z Z) (oR Z (zD Z Z Zw Z ZV) (oL Z (hS.ldB (j:=0) Z Z Z Zj (v:=.slice ai p0.after.length ak) Z) (oM Z Z (bnK hm fun x2 h3 cg=>?_))))))))))))))
 have q:=b4.el (wAK h3)
 obtain ⟨b5,ct,cE,bT,bg,cp⟩:=q
 obtain ⟨bo,bp,rfl,bO⟩:=cp
 replace bg:Cl U b5 (ct + p1.toNat * 1) [.slice bo x2.length bp]:=bg
 refine oR Z (zx Z Z bT Z zm zT (wAi h3) (wAj h3)) (oL Z (hS.ldC (f:=0) bg (v:=.slice bo x2.length bp) Z Z ze Z) (oR Z (zW Z Z zA) (oM Z Z (eN (zR (bnK cg fun cI ca cd=>?_))))))
 have q:=wAw ca
 obtain ⟨bj,cc⟩:=q
 replace bj:=zI bj
 let B0:Res:=.blk aj 222 [.slice av p0.Race.Rules.Classes.length ax,jV p0.Race.Rules.Each,jV p0.Race.Rules.Laps,jV p0.Race.Rules.Spare,jV p0.Race.Rules.Loop,jV p0.Race.Rules.Unused,jV p0.Race.Start,.slice aw p0.Race.Teams.length ay,.slice ai p0.after.length ak]
 refine CK.forN' (fun aq au σ_ w_=>∃ (U_:PHeap) (an:Option Addr) (ao:Nat),σ_ 16=jV (↑aq:Int)/\σ_ 0=.pointer (some ⟨aj,0,none⟩)/\σ_ 5=.slice an au.length ao/\σ_ 14=.slice bo x2.length bp/\σ_ 15=jV (↑x2.length:Int)/\PHeap.Le U U_/\SW w [B0] U U_ [B0,.row an ao 3 1 (nA KL.encI au)] w_) cc ?_ ?_ ?_
 have bV:=hS.nilrow 3 1
 exact ⟨U,none,0,rfl,rfl,rfl,rfl,rfl,(zN _),(bV.pick [1,0] _ (by decide) rfl)⟩
 rintro aq au cH cJ cu bi ⟨az,an,ao,ap,bb,bx,bd,be,bm,a7⟩ cr
 have bv:Hid ((↑aq:Int) < (↑x2.length:Int)):=zI (wAo bi)
 replace bi:=zI bi
 have bh:Hid (w64 ((↑aq:Int) + 1)=(↑(aq + 1):Int)):=zI (by have h1:=bj.out;have h2:=bv.out;rw [wAQ] <;> omega)
 refine sR fL1 Z (oR Z (zV Z ap be) (eN (zG (cT Z bv (kN (zG (zR (sR fL5 Z (oM Z ap (bnK cr fun am bz ch=>?_))))))))))
 have bP:=bO.le bm
 have q:=bP.el (fun _=>rfl) (wAK bz)
 obtain ⟨cx,cD,bS,bU⟩:=q
 refine oR Z (ZC Z bd bS ap zA zC (wAg bz)) (oL Z (a7.ldC (f:=0) bU (v:=jV am) Z Z zM Z) (oA Z Z (oA Z Z (eN (sR wNh Z (oM Z Z (oR Z (zz (zY Z Z Z) (congrArg (jV) bh.out)) (oM Z bb (oR Z (yC Z Z) (oR Z (zD Z Z Zw Z Zf) (oR Z (zD Z Z zu Z ZZ) (oR Z (zD Z Z ZG Z zC) (oL Z (a7.ldB (j:=0) Z Z Z zM (v:=jV p0.Race.Rules.Laps) Z) (bnK ch fun cG bQ ci=>oR Z (Runs.rem Z Z Z bQ) (oR Z (yJ Z Z Z) (eN (ifc ci ?_ ?_)))))))))))))))))
 intro a8 cj
 refine cT Z a8 (rR gBp Z (oM Z bx (oM Z Z (zk (pv:=[(0,jV am)]) (zs:=[jV 0]) (cs:=[jV am]) Z Z Z Z Z (wAA Z wAO) zA zC ZM Z Z Z Z Z a7 ?_))))
 intro bF bI bW
 let B1:Res:=.row (some ⟨bI,0,none⟩) 1 3 1 (nA KL.encI [am])
 have bA:SW w [B0] U az [B1,B0,.row an ao 3 1 (nA KL.encI au)] bF:=bW
 refine bnK cj fun bC bR cm=>yE (j:=2) (enc:=KL.encI) (xs:=au) (ys:=[am]) (zs:=bC) rfl rfl rfl rfl rfl Zy wFN rfl rfl rfl rfl rfl rfl bA rfl rfl rfl (bA.srcR (j:=0) rfl (by decide) (wAC (f:=KL.encI) (sz:=1) (fun _=>rfl) [am])) (fun _=>rfl) (fun _=>rfl) bR rfl ?_
 intro bs bw bG bX
 have bY:SW w [B0] U az [B1,B0,.row bs bw 3 1 (nA KL.encI bC)] bG:=bX
 refine oA Z Z (zg (zd (zF (rR fL2 Z (oR Z (zz (zY Z ap Z) (congrArg (jV) bh.out)) (oM Z Z (zg ?_)))))))
 cases cm
 exact zF ⟨rfl,⟨az,bs,bw,rfl,bb,rfl,bd,be,bm,(bY.pick [1,2] _ (by decide) rfl)⟩⟩
 intro a8 co
 refine cF Z a8 (ZO (zd (zF (rR fL2 Z (oR Z (zz (zY Z ap Z) (congrArg (jV) bh.out)) (oM Z Z (zg ?_)))))))
 cases co
 exact zF ⟨Z,⟨az,an,ao,Z,bb,bx,bd,be,bm,a7⟩⟩
 rintro cK cw ⟨bE,bD,bK,bN,cy,bL,cz,bM,cC,bZ⟩
 have bJ:Hid (¬ ((↑(((↑x2.length:Int):Int) - 0).toNat:Int) < (↑x2.length:Int))):=zI (wAc)
 refine sR fL1 Z (oR Z (zV Z bN bM) (eN (zG (cF Z bJ (ZD (zb (zb (zr (zF (sR fL2 Z (oM Z bL (oA Z Z (eN (zS ?_))))))))))))))
 have hE:=nD cd;first | subst r | cases hE
 exact ⟨rfl,_,(zw rfl),bE,_,(bZ.pick [1,0] _ (by decide) rfl),bD,bK,rfl,rfl⟩
theorem wKF (p0:wAD) (bf:Option Addr) (bg:Nat) (ao:Option Addr) (ap:Nat) (w:World) (U:PHeap) (hS:St0 w U []) (dx:Sl U 1 bf bg p0.Rules.Classes.length (nA KL.encI p0.Rules.Classes)) (dy:SlR U wFL ao ap p0.Teams) {r:(List (List Int)) × Int} (hm:wGG p0=some r):Gv Tryz.prog 75 [.agg #[.slice bf p0.Rules.Classes.length bg,jV p0.Rules.Each,jV p0.Rules.Laps,jV p0.Rules.Spare,jV p0.Rules.Loop,jV p0.Rules.Unused,jV p0.Start,.slice ao p0.Teams.length ap]] w (wBp w [] U (fun U_ L_ v=>∃ (A0:Option Addr) (c0:Nat) (bM:List Value),v=.tuple #[.slice A0 r.1.length c0,jV r.2]/\L_=[.row A0 c0 22 1 bM]/\RlL U_ wDe r.1 bM)):=by
 unfold wGG at hm
 refine Gv.of Tryz.func75 Z Tryz.ntmps75 Tryz.results75 Z (sR gBk Z ?_)
 let B0:List Value:=[.slice bf p0.Rules.Classes.length bg,jV p0.Rules.Each,jV p0.Rules.Laps,jV p0.Rules.Spare,jV p0.Rules.Loop,jV p0.Rules.Unused,jV p0.Start,.slice ao p0.Teams.length ap]
 refine ZX (cs:=B0) rfl rfl rfl rfl rfl rfl (by rfl) hS ?_
 intro W1 b2 bU
 refine oA Z Z (oA Z Z (eN (sR (.fl 0 (.fx 1 (wFp (.nil)) .stop)) Z (oL Z (bU.ldBA (j:=0) Z Z Z yK Zf (vs:=B0) Z Z) ?_))))
 have q:=bnd hm
 obtain ⟨⟨x5,x6⟩,h7,au⟩:=q
 try dsimp only at au
 refine zP 0 Z Z Z Z (zQ Z Z Tryz.call86 (zH Z zZ) Z) bU (fun hs=>wGI p0 bf bg ao ap W1 U hs dx dy h7) (.inr Z) ?_
 rintro U9 dR ep bm d7 bS bR
 rcases x5 with _ | ah
 try dsimp only at au
 obtain ⟨rfl,rfl⟩:=bR
 have bs:sW w U U9 [.blk b2 27 B0] bm:=bS
 refine oM Z Z (oR Z (ZF Z Z (v:=.pointer none) Z) (oR Z (ZF Z Z (v:=jV x6) Z) (oA Z Z (oA Z Z (eN (zG (sR fL2 Z (oM Z Z (oR Z (ZU Z Z Z) (eN (ifc au ?_ ?_)))))))))))
 intro bo dI
 refine zn (zo (fun h=>h bo.out)) (kN (sR fL1 Z (oA Z Z (eN (zG (sR fL4 Z (oR Z (zD Z Z zu Z Zu) (oL Z (bs.ldB (j:=0) Z Z Z yG (v:=.slice ao p0.Teams.length ap) Z) (oR Z (zW Z Z ZN) (oM Z Z (eN (zR ?_))))))))))))
 have q:=bnd dI
 obtain ⟨⟨⟩,dB,bV⟩:=q
 try dsimp only at bV
 have q:=wAw dB
 obtain ⟨bx,dC⟩:=q
 replace bx:=zI bx
 refine CK.forN' (fun av _ σ_ w_=>∃ (U_:PHeap),σ_ 19=jV (↑av:Int)/\σ_ 4=.pointer none/\σ_ 6=.slice none 0 0/\σ_ 18=jV (↑p0.Teams.length:Int)/\PHeap.Le U9 U_/\sW w U U_ [.blk b2 27 B0] w_) dC ?_ ?_ ?_
 exact ⟨U9,Z,Z,Z,Z,(zN _),bs⟩
 rintro av ⟨⟩ eB eH dV bv ⟨dT,bQ,cC,cD,cE,d9,dZ⟩ bX
 try dsimp only at bX
 have bL:Hid ((↑av:Int) < (↑p0.Teams.length:Int)):=zI (wAo bv)
 replace bv:=zI bv
 have d6:Hid (w64 ((↑av:Int) + 1)=(↑(av + 1):Int)):=zI (by have h1:=bx.out;have h2:=bL.out;rw [wAQ] <;> omega)
 refine sR fL1 Z (oR Z (zV Z bQ cE) (eN (zG (cT Z bL (kN (zG (zR (sR fL2 Z (oM Z bQ (oA Z Z (eN (rR (wDw gBn) Z (oM Z cD (oM Z cC (oM Z Z ?_)))))))))))))))
 cases bX
 rintro eI dW ⟨ci,cJ,dY,cG,cH,eh,dr⟩
 have cy:Hid (¬ ((↑(((↑p0.Teams.length:Int):Int) - 0).toNat:Int) < (↑p0.Teams.length:Int))):=zI (wAc)
 refine sR fL1 Z (oR Z (zV Z cJ cH) (eN (zG (cF Z cy (ZD (zb (zb (zr (zF (sR fL3 Z (oM Z cG (oA Z Z (oA Z Z (eN (zS ?_)))))))))))))))
 have dt:=dr.nilrow 22 1
 cases bV
 exact ⟨rfl,_,(wFA rfl rfl),ci,_,(dt.pick [0] _ (by decide) rfl),none,0,[],rfl,rfl,RlL.nil⟩
 intro bo dJ
 refine cT Z bo (sR fL3 Z (oM Z Z (oA Z Z (oA Z Z (eN (zS (zK ?_)))))))
 have du:=bs.nilrow 22 1
 cases dJ
 exact ⟨rfl,_,(wFA rfl rfl),U9,_,(du.pick [0] _ (by decide) rfl),none,0,[],rfl,rfl,RlL.nil⟩
 try dsimp only at au
 obtain ⟨az,bC,bJ,bD,bK,bh,bn,cx,rfl,rfl,cW,cX,cY⟩:=bR
 let B1:Res:=.blk az 222 [.slice bC ah.Race.Rules.Classes.length bJ,jV ah.Race.Rules.Each,jV ah.Race.Rules.Laps,jV ah.Race.Rules.Spare,jV ah.Race.Rules.Loop,jV ah.Race.Rules.Unused,jV ah.Race.Start,.slice bD ah.Race.Teams.length bK,.slice bh ah.after.length bn]
 have bt:sW w U U9 [B1,.row bh bn 22 1 cx,.blk b2 27 B0] bm:=bS
 refine oM Z Z (oR Z (ZF Z Z (v:=.pointer (some ⟨az,0,none⟩)) Z) (oR Z (ZF Z Z (v:=jV x6) Z) (oA Z Z (oA Z Z (eN (zG (sR fL2 Z (oM Z Z (oR Z (ZU Z Z Z) (eN (ifc au ?_ ?_)))))))))))
 intro bp dK
 refine zn (zo (fun h=>h bp.out)) (kN (sR fL1 Z (oA Z Z (eN (zG (sR fL4 Z (oR Z (zD Z Z zu Z Zu) (oL Z (bt.ldB (j:=2) Z Z Z yG (v:=.slice ao p0.Teams.length ap) Z) (oR Z (zW Z Z ZN) (oM Z Z (eN (zR ?_))))))))))))
 have q:=bt.freezeRR (R:=wDe) (k:=1) rfl cY rfl (by decide)
 obtain ⟨bj,b4,dN,dv⟩:=q
 have dw:sW w U bj [B1,.blk b2 27 B0] bm:=dv
 refine bnK dK fun eC dz dE=>?_
 have q:=wAw dz
 obtain ⟨bw,dA⟩:=q
 replace bw:=zI bw
 refine CK.forN' (fun an bd σ_ w_=>∃ (U_:PHeap) (ax:Option Addr) (a8:Nat) (bb:List Value),σ_ 19=jV (↑an:Int)/\σ_ 4=.pointer (some ⟨az,0,none⟩)/\σ_ 6=.slice ax bd.length a8/\σ_ 18=jV (↑p0.Teams.length:Int)/\PHeap.Le bj U_/\sW w U U_ [B1,.blk b2 27 B0,.row ax a8 22 1 bb] w_/\RlL U_ wDe bd bb) dA ?_ ?_ ?_
 have c9:=dw.nilrow 22 1
 exact ⟨bj,none,0,[],rfl,rfl,rfl,rfl,(zN _),(c9.pick [1,2,0] _ (by decide) rfl),RlL.nil⟩
 rintro an bd eA eD cm bu ⟨cd,ax,a8,bb,br,bO,cz,bP,be,dd,cK⟩ dO
 have bH:Hid ((↑an:Int) < (↑p0.Teams.length:Int)):=zI (wAo bu)
 replace bu:=zI bu
 have dD:Hid (w64 ((↑an:Int) + 1)=(↑(an + 1):Int)):=zI (by have h1:=bw.out;have h2:=bH.out;rw [wAQ] <;> omega)
 refine sR fL1 Z (oR Z (zV Z br bP) (eN (zG (cT Z bH (kN (zG (zR (sR fL2 Z (oM Z br (oA Z Z (eN (rR (wDw gBn) Z (oM Z cz (oM Z bO (oM Z Z ?_)))))))))))))))
 have cL:=cW.le b4
 have cM:=cL.le be
 have cN:=cX.le b4
 have cO:=cN.le be
 have cP:=dN.le be
 refine bnK dO fun aj cQ dF=>zP 1 Z Z Z Z (zQ Z Z Tryz.call160 (zH Z (zH Z zZ)) Z) dd (fun hs=>wHm ah az bC bJ bD bK bh bn (↑an:Int) cm cd hs cM cO cP cQ) (.inl Z) ?_
 rintro cg dS eu bF bY de ⟨aw,a7,rfl,rfl⟩
 let B2:Res:=.row ax a8 22 1 bb
 have df:sW w U cg [.row aw a7 3 1 (nA KL.encI aj),B1,.blk b2 27 B0,B2] bF:=de
 have q:=df.freezeR (k:=0) (n:=aj.length) rfl (wAC (f:=KL.encI) (sz:=1) (fun _=>rfl) aj) (by decide)
 obtain ⟨aq,bZ,dM,dh⟩:=q
 have di:sW w U aq [B1,.blk b2 27 B0,B2] bF:=dh
 let B3:List Value:=[.slice aw aj.length a7]
 refine zk (pv:=[(0,.slice aw aj.length a7)]) (zs:=[.slice none 0 0]) (cs:=B3) Z Z Z Z Z (wAA Z wAO) zm zT yz Z Z Z Z Z di ?_
 intro co cr dg
 have bW:RlL aq wDe [aj] B3:=(RlL.cons (R:=wDe) (x:=aj) (vs:=B3) ⟨aw,a7,rfl,dM⟩ RlL.nil)
 let B4:Res:=.row (some ⟨cr,0,none⟩) 1 22 1 B3
 have bT:sW w U aq [B4,B1,.blk b2 27 B0,B2] co:=dg
 refine bnK dF fun dP cR dG=>?_
 have cS:=cK.le bY
 have cU:=cS.le bZ
 refine YP (R:=wDe) (j:=3) (xs:=bd) (ys:=[aj]) (zs:=dP) rfl rfl rfl rfl rfl Tryz.underlying46 wJs rfl rfl rfl rfl rfl rfl rfl bT rfl rfl rfl cU bW (bT.srcR (j:=0) rfl (by decide) (RlL.len bW)) cR rfl ?_
 intro bA bI bN cp dm dL
 have dn:sW w U aq [B4,B1,.blk b2 27 B0,.row bA bI 22 1 bN] cp:=dm
 refine oA Z Z (zg (zd (zF (rR fL2 Z (oR Z (zz (zY Z br Z) (congrArg (jV) dD.out)) (oM Z Z (zg ?_)))))))
 cases dG
 exact zF ⟨rfl,⟨aq,bA,bI,bN,rfl,bO,rfl,bP,((be.trans bY).trans bZ),(dn.pick [1,2,3] _ (by decide) rfl),dL⟩⟩
 rintro eG dU ⟨ch,cc,ct,cu,cI,dX,cA,cB,d8,dp,cV⟩
 have cw:Hid (¬ ((↑(((↑p0.Teams.length:Int):Int) - 0).toNat:Int) < (↑p0.Teams.length:Int))):=zI (wAc)
 refine sR fL1 Z (oR Z (zV Z cI cB) (eN (zG (cF Z cw (ZD (zb (zb (zr (zF (sR fL3 Z (oM Z cA (oA Z Z (oA Z Z (eN (zS ?_)))))))))))))))
 cases dE
 exact ⟨rfl,_,(wFA rfl rfl),ch,_,(dp.pick [2] _ (by decide) rfl),cc,ct,cu,rfl,rfl,cV⟩
 intro bp dH
 refine cT Z bp (sR fL3 Z (oM Z Z (oA Z Z (oA Z Z (eN (zS (zK ?_)))))))
 have dq:=bt.nilrow 22 1
 cases dH
 exact ⟨rfl,_,(wFA rfl rfl),U9,_,(dq.pick [0] _ (by decide) rfl),none,0,[],rfl,rfl,RlL.nil⟩
set_option maxHeartbeats 4000000
theorem wBV (p0:List Int) (ah:Option Addr) (ap:Nat) (w:World) (U:PHeap) (hS:St0 w U []) (ao:Sl U 1 ah ap p0.length (nA KL.encI p0)) {r:(List Int)} (hm:wBT p0=some r):Gv Tryz.prog 165 [.slice ah p0.length ap] w (wBp w [] U (fun U_ L_ v=>∃ (A0:Option Addr) (c0:Nat),v=.slice A0 r.length c0/\L_=[.row A0 c0 3 1 (nA KL.encI r)])):=by
 unfold wBT at hm
 refine Gv.of Tryz.func165 Z Tryz.ntmps165 Tryz.results165 Z (sR fL1 Z (oA Z Z (eN (zG (sR fL2 Z (oM Z Z (oR Z (Runs.eqNil Z Z Z zA) (eN ?_))))))))
 by_cases c1:ah.isNone=true
 replace c1:=zI c1
 have be:p0=[]:=List.eq_nil_of_length_eq_zero (Sl.nilA (Option.isNone_iff_eq_none.1 c1.out ▸ ao))
 have bd:(some [])=some r:=by simpa [be,app] using hm
 refine ZA (congrArg nG c1.out) (sR fL1 Z (oA Z Z (eN (zS (zK ?_)))))
 have a7:=hS.nilrow 3 1
 cases bd
 exact ⟨Z,_,(zw Z),U,_,a7,none,0,Z,Z⟩
 replace c1:=zI c1
 refine zn (congrArg nG (nH.2 c1.out)) (kN (sR (.fx 0 gBh .stop) Z (OKS.buildSlice0 1 Z Z Z Z Z zA zC hS ?_)))
 intro W6 b7 a8
 have an:sW w U U [.row (some ⟨b7,0,none⟩) 0 3 1 (nA KL.encI ([]:List Int))] W6:=a8
 refine oM Z Z (bnK hm fun aq ax bb=>OKS.append0 (j:=0) (enc:=KL.encI) (ys:=p0) (zs:=aq) Z Z Z Z Z Zy wFN Z Z Z Z Z Z an Z Z Z (an.srcS ao) (fun _=>Z) ax ?_)
 intro aj am au ay
 have az:sW w U U [.row aj am 3 1 (nA KL.encI aq)] au:=ay
 refine oA Z Z (eN (zS ?_))
 have hE:=nD bb;first | subst r | cases hE
 exact ⟨Z,_,(zw Z),U,_,az,aj,am,Z,Z⟩
theorem wFu (p0:wEG) (bj:Nat) (bh:Option Addr) (bm:Nat) (a8:Option Addr) (bb:Nat) (bi:Option Addr) (bn:Nat) (w:World) (U:PHeap) (hS:St0 w U [.blk bj 222 [.slice bh p0.Race.Rules.Classes.length bm,jV p0.Race.Rules.Each,jV p0.Race.Rules.Laps,jV p0.Race.Rules.Spare,jV p0.Race.Rules.Loop,jV p0.Race.Rules.Unused,jV p0.Race.Start,.slice a8 p0.Race.Teams.length bb,.slice bi p0.after.length bn]]) (eZ:Sl U 1 bh bm p0.Race.Rules.Classes.length (nA KL.encI p0.Race.Rules.Classes)) (dX:SlR U wFL a8 bb p0.Race.Teams) (dY:SlR U wDe bi bn p0.after) {r:wAF} (hm:wCN p0=some r):Gv Tryz.prog 87 [.pointer (some ⟨bj,0,none⟩)] w (wBp w [.blk bj 222 [.slice bh p0.Race.Rules.Classes.length bm,jV p0.Race.Rules.Each,jV p0.Race.Rules.Laps,jV p0.Race.Rules.Spare,jV p0.Race.Rules.Loop,jV p0.Race.Rules.Unused,jV p0.Race.Start,.slice a8 p0.Race.Teams.length bb,.slice bi p0.after.length bn]] U (fun U_ L_ v=>∃ (cc:Option Addr) (cm:Nat) (cd:Option Addr) (co:Nat) (ct:List Value),v=.agg #[jV r.Laps,.slice cc r.Bibs.length cm,.slice cd r.Times.length co]/\L_=[.row cc cm 3 1 (nA KL.encI r.Bibs),.row cd co 22 1 ct,.blk bj 222 [.slice bh p0.Race.Rules.Classes.length bm,jV p0.Race.Rules.Each,jV p0.Race.Rules.Laps,jV p0.Race.Rules.Spare,jV p0.Race.Rules.Loop,jV p0.Race.Rules.Unused,jV p0.Race.Start,.slice a8 p0.Race.Teams.length bb,.slice bi p0.after.length bn]]/\RlL U_ wDe r.Times ct)):=by
 unfold wCN at hm
 refine Gv.of Tryz.func87 Z Tryz.ntmps87 Tryz.results87 Z (sR (.fx 0 .nil .stop) Z ?_)
 let B0:List Value:=[jV 0,.slice none 0 0,.slice none 0 0]
 refine ZB (cs:=B0) Z Z Z Z Z Tryz.zeroValue66 Z hS ?_
 intro W2 b3 dT
 refine eN (zG (ZY ZQ [3,3,3,3,3,1,3,3,3,3,3,3,1,3,3,2,0] (wSH (.fx 15 (.fx 16 .nil .stop) .stop)) (by kernel_rfl) ?_))
 have bE:=dT.drew
 generalize hw_W7:({ W2 with drawn:=W2.drawn + 1 }:World)=W7 at bE ⊢
 refine oM Z Z (oR Z (yC Z Z) (oR Z (zD Z Z Zw Z Zf) (oR Z (zD Z Z zu Z ZZ) (oR Z (zD Z Z ZG Z zT) (oL Z (bE.ldB (j:=1) Z Z Z ze (v:=.slice bh p0.Race.Rules.Classes.length bm) Z) (oR Z (zW Z Z zA) (oM Z Z (oR Z (yC Z Z) (oR Z (zD Z Z Zw Z Zf) (oR Z (zD Z Z zu Z ZZ) (oR Z (zD Z Z ZG Z zC) (oL Z (bE.ldB (j:=1) Z Z Z zM (v:=jV p0.Race.Rules.Laps) Z) (oR Z (YW Z Z Z) ?_)))))))))))))
 let B1:List Value:=[jV (w64 ((↑p0.Race.Rules.Classes.length:Int) * p0.Race.Rules.Laps)),.slice none 0 0,.slice none 0 0]
 refine oR Z (ZT (pv:=[(0,jV (w64 ((↑p0.Race.Rules.Classes.length:Int) * p0.Race.Rules.Laps)))]) (z:=B0) (cs:=B1) Z (wAA Z wAO) Tryz.zeroValue66 wPB Z Z) (ZB (cs:=B0) Z Z Z Z Z Tryz.zeroValue66 Z bE ?_)
 intro W8 b9 dB
 refine ZK (j:=0) (vs:=B1) Z Z Z Z dB Z Z Z Z yN (zJ Z) Z Z Z ?_
 intro cS dI
 let B2:Res:=.blk bj 222 [.slice bh p0.Race.Rules.Classes.length bm,jV p0.Race.Rules.Each,jV p0.Race.Rules.Laps,jV p0.Race.Rules.Spare,jV p0.Race.Rules.Loop,jV p0.Race.Rules.Unused,jV p0.Race.Start,.slice a8 p0.Race.Teams.length bb,.slice bi p0.after.length bn]
 have cC:SW w [B2] U U [.blk b9 66 B1,.blk b3 66 B0,B2] cS:=dI
 refine eN (zG (sR fL7 Z (oM Z Z (oR Z (yC Z Z) (oR Z (zD Z Z Zw Z Zf) (oR Z (zD Z Z zu Z Zu) (oL Z (cC.ldB (j:=2) Z Z Z yG (v:=.slice a8 p0.Race.Teams.length bb) Z) (oR Z (zW Z Z ZN) (oM Z Z (eN (zR ?_)))))))))))
 have q:=bnd hm
 obtain ⟨⟨cN,eI⟩,dZ,cI⟩:=q
 try dsimp only at cI
 have q:=wAw dZ
 obtain ⟨bS,d6⟩:=q
 replace bS:=zI bS
 refine CK.forN' (fun ay (az,a7) σ_ w_=>∃ (U_:PHeap) (bd:Option Addr) (bg:Nat) (ap:Option Addr) (ax:Nat) (bC:List Value),σ_ 27=jV (↑ay:Int)/\σ_ 0=.pointer (some ⟨bj,0,none⟩)/\σ_ 2=.pointer (some ⟨b3,0,none⟩)/\σ_ 3=.pointer (some ⟨b9,0,none⟩)/\σ_ 25=.slice a8 p0.Race.Teams.length bb/\σ_ 26=jV (↑p0.Race.Teams.length:Int)/\PHeap.Le U U_/\SW w [B2] U U_ [.row bd bg 3 1 (nA KL.encI az),.row ap ax 22 1 bC,.blk b9 66 [jV (w64 ((↑p0.Race.Rules.Classes.length:Int) * p0.Race.Rules.Laps)),.slice bd az.length bg,.slice ap a7.length ax],.blk b3 66 B0,B2] w_/\RlL U_ wDe a7 bC) d6 ?_ ?_ ?_
 have dU:=cC.nilrow 3 1
 have dV:=dU.nilrow 22 1
 exact ⟨U,none,0,none,0,[],rfl,rfl,rfl,rfl,rfl,rfl,(zN _),(dV.pick [1,0,2,3,4] _ (by decide) rfl),RlL.nil⟩
 rintro ay ⟨az,a7⟩ fg fj eM bR ⟨av,bd,bg,ap,ax,bC,bD,cw,di,bu,cx,cy,bT,cH,dx⟩ cK
 try dsimp only at cK
 have cr:Hid ((↑ay:Int) < (↑p0.Race.Teams.length:Int)):=zI (wAo bR)
 replace bR:=zI bR
 have d7:Hid (w64 ((↑ay:Int) + 1)=(↑(ay + 1):Int)):=zI (by have h1:=bS.out;have h2:=cr.out;rw [wAQ] <;> omega)
 refine sR fL1 Z (oR Z (zV Z bD cy) (eN (zG (cT Z cr (kN (zG (zR (sR (wDw gBj) Z (oM Z bD (bnK cK fun ai cA eu=>?_))))))))))
 have dy:=dX.le bT
 have q:=dy.el (wAK cA)
 obtain ⟨de,eH,ff,dA,bP,eC⟩:=q
 obtain ⟨bV,bY,bW,bZ,rfl,eX,eY⟩:=eC
 replace bP:Cl av de (eH + ay * 3) [jV ai.Bib,.slice bV ai.Classes.length bY,.slice bW ai.Legs.length bZ]:=bP
 refine oR Z (ZC Z cx dA bD ZN ZS (wAg cA)) (oL Z (cH.ldCA (f:=0) bP Z Z yc ZS (us:=[jV ai.Bib,.slice bV ai.Classes.length bY,.slice bW ai.Legs.length bZ]) Z Z) (ZB (cs:=B0) Z Z Z Z Z Zr Z cH ?_))
 intro eS am dW
 refine oA Z Z ?_
 let B3:List Value:=[jV ai.Bib,.slice bV ai.Classes.length bY,.slice bW ai.Legs.length bZ]
 refine ZK (j:=0) (vs:=B3) Z Z Z Z dW Z Z Z Z ZS (zJ Z) Z Z Z ?_
 intro cP dC
 let B4:Res:=.blk b9 66 [jV (w64 ((↑p0.Race.Rules.Classes.length:Int) * p0.Race.Rules.Laps)),.slice bd az.length bg,.slice ap a7.length ax]
 let B5:Res:=.row ap ax 22 1 bC
 let B6:Res:=.row bd bg 3 1 (nA KL.encI az)
 have bQ:SW w [B2] U av [.blk am 73 B3,B6,B5,B4,.blk b3 66 B0,B2] cP:=dC
 refine eN (sR (wHD (.fx 4 (.fx 5 (.fl 6 (.fx 7 .nil .stop)) .stop) .stop)) Z (oR Z (zD Z bu Zb Z zT) (oL Z (bQ.ldB (j:=3) Z Z Z ze (v:=.slice bd az.length bg) Z) (oR Z (zD Z Z ZH Z zC) (oL Z (bQ.ldB (j:=0) Z Z Z zM (v:=jV ai.Bib) Z) (zk (pv:=[(0,jV ai.Bib)]) (zs:=[jV 0]) (cs:=[jV ai.Bib]) Z Z Z Z Z (wAA Z wAO) zA zC ZM Z Z Z Z Z bQ ?_))))))
 intro cQ cZ dD
 let B7:Res:=.row (some ⟨cZ,0,none⟩) 1 3 1 (nA KL.encI [ai.Bib])
 have cB:SW w [B2] U av [B7,.blk am 73 B3,B6,B5,B4,.blk b3 66 B0,B2] cQ:=dD
 refine bnK eu fun bw dn d8=>yE (j:=2) (enc:=KL.encI) (xs:=az) (ys:=[ai.Bib]) (zs:=bw) rfl rfl rfl rfl rfl Zy wFN rfl rfl rfl rfl rfl rfl cB rfl rfl rfl (cB.srcR (j:=0) rfl (by decide) (wAC (f:=KL.encI) (sz:=1) (fun _=>rfl) [ai.Bib])) (fun _=>rfl) (fun _=>rfl) dn rfl ?_
 intro bo bs cR dE
 let B8:Res:=.row bo bs 3 1 (nA KL.encI bw)
 have dF:SW w [B2] U av [B7,.blk am 73 B3,B8,B5,B4,.blk b3 66 B0,B2] cR:=dE
 refine oR Z (zD Z bu Zb Z zT) (ZK (j:=4) (vs:=[.slice bo bw.length bs]) Z Z Z Z dF Z Z Z Z zT (zJ Z) Z Z Z ?_)
 intro bK dG
 let B9:Res:=.blk b9 66 [jV (w64 ((↑p0.Race.Rules.Classes.length:Int) * p0.Race.Rules.Laps)),.slice bo bw.length bs,.slice ap a7.length ax]
 have dH:SW w [B2] U av [B7,.blk am 73 B3,B8,B5,B9,.blk b3 66 B0,B2] bK:=dG
 refine eN (ZY ZQ [3,1,3,3,3,1,3,3,1,2,2,0,3,0] (wML (.fx 9 (.fx 10 (.fx 11 (.fl 12 (.fx 13 .nil .stop)) .stop) .stop) .stop)) (by kernel_rfl) ?_)
 have bv:=dH.drew
 generalize hw_W120:({ bK with drawn:=bK.drawn + 1 }:World)=cU at bv ⊢
 refine oR Z (zD Z bu Zb Z ZV) (oL Z (bv.ldB (j:=4) Z Z Z Zj (v:=.slice ap a7.length ax) Z) (oM Z cw (oR Z (yC Z Z) (oR Z (zD Z Z Zw Z ZV) (oL Z (bv.ldB (j:=6) Z Z Z Zj (v:=.slice bi p0.after.length bn) Z) (oM Z Z (bnK d8 fun b4 cz d9=>?_)))))))
 have dp:=dY.le bT
 have q:=dp.el (wAK cz)
 obtain ⟨c9,eG,fe,dz,bO,eA⟩:=q
 obtain ⟨bU,bX,rfl,dq⟩:=eA
 replace bO:Cl av c9 (eG + ay * 1) [.slice bU b4.length bX]:=bO
 refine oR Z (ZC Z Z dz Z zm zT (wAg cz)) (oL Z (bv.ldC (f:=0) bO (v:=.slice bU b4.length bX) Z Z ze Z) (bnK d9 fun ao dr eh=>zP 0 Z Z Z Z (zQ Z Z Tryz.call165 (zH Z zZ) Z) bv (fun hs=>wBV b4 bU bX cU av hs dq dr) (.inr Z) ?_))
 rintro cO eJ fd ci cL dJ ⟨bx,bA,rfl,rfl⟩
 have dK:SW w [B2] U cO [.row bx bA 3 1 (nA KL.encI ao),B7,.blk am 73 B3,B8,B5,B9,.blk b3 66 B0,B2] ci:=dJ
 have q:=dK.freezeR (k:=0) (n:=ao.length) rfl (wAC (f:=KL.encI) (sz:=1) (fun _=>rfl) ao) (by decide)
 obtain ⟨bf,cM,eD,dM⟩:=q
 have dN:SW w [B2] U bf [B7,.blk am 73 B3,B8,B5,B9,.blk b3 66 B0,B2] ci:=dM
 let bz:List Value:=[.slice bx ao.length bA]
 refine zk (pv:=[(0,.slice bx ao.length bA)]) (zs:=[.slice none 0 0]) (cs:=bz) Z Z Z Z Z (wAA Z wAO) zm zT yz Z Z Z Z Z dN ?_
 intro cV dd dL
 have cJ:RlL bf wDe [ao] bz:=(RlL.cons (R:=wDe) (x:=ao) (vs:=bz) ⟨bx,bA,rfl,eD⟩ RlL.nil)
 let bI:Res:=.row (some ⟨dd,0,none⟩) 1 22 1 bz
 have cD:SW w [B2] U bf [bI,B7,.blk am 73 B3,B8,B5,B9,.blk b3 66 B0,B2] cV:=dL
 refine bnK eh fun ca dt ep=>?_
 have du:=dx.le cL
 have dv:=du.le cM
 refine YP (R:=wDe) (j:=4) (xs:=a7) (ys:=[ao]) (zs:=ca) rfl rfl rfl rfl rfl Tryz.underlying46 wJs rfl rfl rfl rfl rfl rfl rfl cD rfl rfl rfl dv cJ (cD.srcR (j:=0) rfl (by decide) (RlL.len cJ)) dt rfl ?_
 intro bp bt bN cW dO eB
 have dP:SW w [B2] U bf [bI,B7,.blk am 73 B3,B8,.row bp bt 22 1 bN,B9,.blk b3 66 B0,B2] cW:=dO
 refine oR Z (zD Z bu Zb Z ZV) (ZK (j:=5) (vs:=[.slice bp ca.length bt]) Z Z Z Z dP Z Z Z Z ZV (zJ Z) Z Z Z ?_)
 intro cX dQ
 have dR:SW w [B2] U bf [bI,B7,.blk am 73 B3,B8,.row bp bt 22 1 bN,.blk b9 66 [jV (w64 ((↑p0.Race.Rules.Classes.length:Int) * p0.Race.Rules.Laps)),.slice bo bw.length bs,.slice bp ca.length bt],.blk b3 66 B0,B2] cX:=dQ
 refine zg (zd (zF (rR fL2 Z (oR Z (zz (zY Z bD Z) (congrArg (jV) d7.out)) (oM Z Z (zg ?_))))))
 cases ep
 exact zF ⟨rfl,⟨bf,bo,bs,bp,bt,bN,rfl,cw,di,bu,cx,cy,((bT.trans cL).trans cM),(dR.pick [3,4,5,6,7] _ (by decide) rfl),eB⟩⟩
 rintro fh eK ⟨ch,bF,bL,bG,bM,cp,dm,eV,cu,dg,eW,dh,fc,cE,dw⟩
 have df:Hid (¬ ((↑(((↑p0.Race.Teams.length:Int):Int) - 0).toNat:Int) < (↑p0.Race.Teams.length:Int))):=zI (wAc)
 refine sR fL1 Z (oR Z (zV Z dm dh) (eN (zG (cF Z df (ZD (zb (zb (zr (zF (sR gBf Z ?_))))))))))
 let be:List Value:=[jV (w64 ((↑p0.Race.Rules.Classes.length:Int) * p0.Race.Rules.Laps)),.slice bF cN.length bL,.slice bG eI.length bM]
 refine oL Z (cE.ldBA (j:=2) Z Z dg YI yN (vs:=be) Z Z) (ZK (j:=3) (vs:=be) Z Z Z Z cE Z cu Z Z yN (zJ Z) Z Z Z ?_)
 intro cY dS
 have cG:SW w [B2] U ch [.row bF bL 3 1 (nA KL.encI cN),.row bG bM 22 1 cp,.blk b9 66 be,.blk b3 66 be,B2] cY:=dS
 refine eN (zS ?_)
 cases cI
 exact ⟨rfl,_,(wGv (v:=.agg be.toArray) ⟨⟨_,cu,(wEv YI yN (cG.blkAt (k:=3) rfl) (vs:=be) rfl rfl)⟩,trivial⟩),ch,_,(cG.pick [0,1,4] _ (by decide) rfl),bF,bL,bG,bM,cp,rfl,rfl,dw⟩
theorem wIH (p0:Int) (p1:Int) (p2:Int) (w:World) (U:PHeap) (hS:St0 w U [])  {r:Bool} (hm:wEK p0 p1 p2=some r):Gv Tryz.prog 180 [jV p0,jV p1,jV p2] w (wBp w [] U (fun U_ L_ v=>v=.bool r/\L_=[])):=by
 unfold wEK at hm
 refine Gv.of Tryz.func180 Z Tryz.ntmps180 Tryz.results180 Z (sR fL1 Z (oA Z Z (eN (sR fL9 Z (oM Z Z (oM Z Z (oR Z (YM Z Z Z) (oM Z Z ?_))))))))
 by_cases c1:p1 <= p0
 have ag:=hm;rw [if_pos c1] at ag;replace c1:=zI c1
 refine zh Z Z Z (wT Z c1) Z Z (zh Z Z Z (wT Z c1) Z Z (rU Z (wT Z c1) (Runs.leq Z Z Z) (oR Z (zX Z (Zl c1.out) Z) (oA Z Z (eN (zS ?_))))))
 first | (obtain rfl:=nD ag) | cases ag
 exact ⟨Z,_,(zw Z),U,_,hS,Z,Z⟩
 have aj:=hm;rw [if_neg c1] at aj;replace c1:=zI c1
 refine oF Z c1 (oF Z c1 (oF Z c1 (oR Z (za Z (zo c1.out) Z) (oA Z Z (eN (zS ?_))))))
 have hE:=nD aj;first | subst r | cases hE
 exact ⟨Z,_,(zw Z),U,_,hS,Z,Z⟩
theorem wHO (p0:List Int) (ah:Option Addr) (am:Nat) (p1:wAF) (ak:Nat) (ai:Option Addr) (an:Nat) (aj:Option Addr) (ao:Nat) (w:World) (U:PHeap) (hS:St0 w U []) (aq:Sl U 1 ah am p0.length (nA KL.encI p0)) (ap:Cl U ak 0 [jV p1.Laps,.slice ai p1.Bibs.length an,.slice aj p1.Times.length ao]) (au:Sl U 1 ai an p1.Bibs.length (nA KL.encI p1.Bibs)) (av:SlR U wDe aj ao p1.Times) {r:Bool} (hm:wCI p0 p1=some r):Gv Tryz.prog 182 [.slice ah p0.length am,.pointer (some ⟨ak,0,none⟩)] w (wBp w [] U (fun U_ L_ v=>v=.bool r/\L_=[])):=by
 unfold wCI at hm
 refine Gv.of Tryz.func182 Z Tryz.ntmps182 Tryz.results182 Z (sR fL1 Z (oA Z Z (eN (sR fL6 Z (oM Z Z (oR Z (zW Z Z zA) (oR Z (zD Z Z Zb Z zC) (oL Z (hS.ldC (f:=0) ap (v:=jV p1.Laps) Z Z zM Z) (oR Z (Runs.leq Z Z Z) (oA Z Z (eN (zS ?_))))))))))))
 first | (obtain rfl:=nD hm) | cases hm
 exact ⟨Z,_,(zw Z),U,_,hS,Z,Z⟩
theorem wGc (p0:List (List Int)) (ap:Option Addr) (au:Nat) (p1:((List Int)->Option Bool)) (aw:Value) (w:World) (U:PHeap) (hS:St0 w U []) (bC:SlR U wDe ap au p0) (bD:FnOK Tryz.prog U aw wJi wJj p1) {r:Bool} (hm:wCs p0 p1=some r):Gv Tryz.prog 181 [.slice ap p0.length au,aw] w (wBp w [] U (fun U_ L_ v=>v=.bool r/\L_=[])):=by
 unfold wCs at hm
 refine Gv.of Tryz.func181 Z Tryz.ntmps181 Tryz.results181 Z (sR fL1 Z (oA Z Z (eN (zG (sR fL3 Z (oM Z Z (oR Z (zW Z Z zm) (oM Z Z (eN (zR ?_))))))))))
 have q:=wBQ hm
 obtain ⟨r3,ak⟩:=q
 have q:=wBP ak
 obtain ⟨an,bG⟩:=q
 replace an:=zI an
 refine yF (fun k2 _ σ_ w_=>∃ (U_:PHeap),σ_ 9=jV (↑k2:Int)/\σ_ 1=aw/\σ_ 7=.slice ap p0.length au/\σ_ 8=jV (↑p0.length:Int)/\PHeap.Le U U_/\sW w U U_ [] w_) bG ?_ ?_ ?_
 exact ⟨U,Z,Z,Z,Z,(zN _),hS⟩
 rintro k2 ⟨⟩ ca cd W8 am ⟨bi,ai,az,a7,a8,ao,bd⟩ bg bE
 try dsimp only at bg
 have ay:Hid ((↑k2:Int) < (↑p0.length:Int)):=zI (wAo am)
 replace am:=zI am
 have bH:Hid (w64 ((↑k2:Int) + 1)=(↑(k2 + 1):Int)):=zI (by have h1:=an.out;have h2:=ay.out;rw [wAQ] <;> omega)
 refine sR fL1 Z (oR Z (zV Z ai a8) (eN (zG (cT Z ay (kN (zG (zR (sR fL3 Z (bnK bg fun ax bb bI=>?_)))))))))
 have bt:=bC.le ao
 have q:=bt.el (wAK bb)
 obtain ⟨bn,bP,bZ,bx,aj,bN⟩:=q
 obtain ⟨aq,av,rfl,bu⟩:=bN
 replace aj:Cl bi bn (bP + k2 * 1) [.slice aq ax.length av]:=aj
 refine oR Z (ZC Z a7 bx ai zm zT (wAg bb)) (oL Z (bd.ldC (f:=0) aj (v:=.slice aq ax.length av) Z Z ze Z) (oA Z Z (eN (sR gBm Z (oM Z az (oM Z Z (bnK bI fun b4 bv bJ=>?_)))))))
 have bw:=bD.le ao
 refine YL (a:=ax) Z Z Z Z Z Z (zH Z zZ) bd bw ⟨aq,av,Z,bu⟩ bv ?_
 rintro ag bR bY bm bO bz ⟨rfl,rfl⟩
 have be:sW w U ag [] bm:=bz
 refine oR Z (Za Z Z) (eN (ifc bJ ?_ ?_))
 intro ah bK
 refine zn (nC ah.out) (ZO (zd (zF (rR fL2 Z (oR Z (zz (zY Z ai Z) (congrArg (jV) bH.out)) (oM Z Z (zg ?_)))))))
 have q:=nD bK
 obtain rfl:=q
 exact zF ⟨Z,_,Z,⟨ag,Z,az,a7,a8,(ao.trans bO),be⟩⟩
 intro ah bL
 refine ZA (nF (ah.out)) (sR fL1 Z (oA Z Z (eN (zS (zU (zK ?_))))))
 have q:=wAM bL
 obtain ⟨bQ,bM,bp⟩:=q
 have q:=wBI hm ak (bE bQ bp)
 obtain rfl:=q
 refine zK (zU (zK ?_))
 have hE:=nD bM;first | subst r | cases hE
 exact ⟨Z,_,(zw Z),ag,_,be,Z,Z⟩
 rintro ⟨⟩ cc bS ⟨bj,bs,bU,bV,br,bW,bA⟩ bF
 have bf:=wCg hm ak bF
 try dsimp only at bf
 have bo:Hid (¬ ((↑(((↑p0.length:Int):Int) - 0).toNat:Int) < (↑p0.length:Int))):=zI (wAc)
 refine sR fL1 Z (oR Z (zV Z bs br) (eN (zG (cF Z bo (ZD (zb (zb (zr (zF (sR fL1 Z (oA Z Z (eN (zS ?_)))))))))))))
 have hE:=nD bf;first | subst r | cases hE
 exact ⟨Z,_,(zw Z),bj,_,bA,Z,Z⟩
theorem wFP (p0:List Int) (ao:Option Addr) (ap:Nat) (p1:(Int->Option Bool)) (aq:Value) (w:World) (U:PHeap) (hS:St0 w U []) (bv:Sl U 1 ao ap p0.length (nA KL.encI p0)) (bw:FnOK Tryz.prog U aq wGy wHg p1) {r:Bool} (hm:wBY p0 p1=some r):Gv Tryz.prog 183 [.slice ao p0.length ap,aq] w (wBp w [] U (fun U_ L_ v=>v=.bool r/\L_=[])):=by
 unfold wBY at hm
 refine Gv.of Tryz.func183 Z Tryz.ntmps183 Tryz.results183 Z (sR fL1 Z (oA Z Z (eN (zG (sR fL3 Z (oM Z Z (oR Z (zW Z Z zA) (oM Z Z (eN (zR ?_))))))))))
 have q:=wBQ hm
 obtain ⟨r3,aj⟩:=q
 have q:=wBP aj
 obtain ⟨am,bA⟩:=q
 replace am:=zI am
 refine yF (fun k2 _ σ_ w_=>∃ (U_:PHeap),σ_ 9=jV (↑k2:Int)/\σ_ 1=aq/\σ_ 7=.slice ao p0.length ap/\σ_ 8=jV (↑p0.length:Int)/\PHeap.Le U U_/\sW w U U_ [] w_) bA ?_ ?_ ?_
 exact ⟨U,Z,Z,Z,Z,(zN _),hS⟩
 rintro k2 ⟨⟩ bW bY W8 ak ⟨bL,ai,av,aw,ax,an,az⟩ bb bx
 try dsimp only at bb
 have au:Hid ((↑k2:Int) < (↑p0.length:Int)):=zI (wAo ak)
 replace ak:=zI ak
 have bC:Hid (w64 ((↑k2:Int) + 1)=(↑(k2 + 1):Int)):=zI (by have h1:=am.out;have h2:=au.out;rw [wAQ] <;> omega)
 refine sR fL1 Z (oR Z (zV Z ai ax) (eN (zG (cT Z au (kN (zG (zR (sR fL3 Z (bnK bb fun be ay bD=>?_)))))))))
 have bn:=bv.le an
 have q:=bn.el (fun _=>rfl) (wAK ay)
 obtain ⟨bO,bS,br,bs⟩:=q
 refine oR Z (ZC Z aw br ai zA zC (wAg ay)) (oL Z (az.ldC (f:=0) bs (v:=jV be) Z Z zM Z) (oA Z Z (eN (sR gBm Z (oM Z av (oM Z Z (bnK bD fun bV bo bE=>?_)))))))
 have bp:=bw.le an
 refine YL (a:=be) Z Z Z Z Z Z (zH Z zZ) az bp Z bo ?_
 rintro ag bK bU bg bI bt ⟨rfl,rfl⟩
 have a7:sW w U ag [] bg:=bt
 refine oR Z (Za Z Z) (eN (ifc bE ?_ ?_))
 intro ah bF
 refine zn (nC ah.out) (ZO (zd (zF (rR fL2 Z (oR Z (zz (zY Z ai Z) (congrArg (jV) bC.out)) (oM Z Z (zg ?_)))))))
 have q:=nD bF
 obtain rfl:=q
 exact zF ⟨Z,_,Z,⟨ag,Z,av,aw,ax,(an.trans bI),a7⟩⟩
 intro ah bG
 refine ZA (nF (ah.out)) (sR fL1 Z (oA Z Z (eN (zS (zU (zK ?_))))))
 have q:=wAM bG
 obtain ⟨bJ,bH,bi⟩:=q
 have q:=wBI hm aj (bx bJ bi)
 obtain rfl:=q
 refine zK (zU (zK ?_))
 have hE:=nD bH;first | subst r | cases hE
 exact ⟨Z,_,(zw Z),ag,_,a7,Z,Z⟩
 rintro ⟨⟩ bX bM ⟨bf,bm,bP,bQ,bj,bR,bu⟩ bz
 have a8:=wCg hm aj bz
 try dsimp only at a8
 have bh:Hid (¬ ((↑(((↑p0.length:Int):Int) - 0).toNat:Int) < (↑p0.length:Int))):=zI (wAc)
 refine sR fL1 Z (oR Z (zV Z bm bj) (eN (zG (cF Z bh (ZD (zb (zb (zr (zF (sR fL1 Z (oA Z Z (eN (zS ?_)))))))))))))
 have hE:=nD a8;first | subst r | cases hE
 exact ⟨Z,_,(zw Z),bf,_,bu,Z,Z⟩
theorem wHP (p0:Int) (w:World) (U:PHeap) (hS:St0 w U [])  {r:Bool} (hm:wCJ p0=some r):Gv Tryz.prog 184 [jV p0] w (wBp w [] U (fun U_ L_ v=>v=.bool r/\L_=[])):=by
 unfold wCJ at hm
 refine Gv.of Tryz.func184 Z Tryz.ntmps184 Tryz.results184 Z (sR fL1 Z (oA Z Z (eN (sR gBi Z (oM Z Z (bnK hm fun x1 h2 am=>zP 0 Z Z Z Z (zQ Z Z Tryz.call180 (zH Z (zH Z (zH Z zZ))) Z) hS (fun hs=>wIH p0 1 999 w U hs h2) (.inr Z) ?_))))))
 rintro U4 L5 v6 W7 ao ak ⟨rfl,rfl⟩
 have aj:sW w U U4 [] W7:=ak
 refine oA Z Z (eN (zS ?_))
 have hE:=nD am;first | subst r | cases hE
 exact ⟨Z,_,(zw Z),U4,_,aj,Z,Z⟩
theorem wGd (p0:Int) (w:World) (U:PHeap) (hS:St0 w U [])  {r:Bool} (hm:wBZ p0=some r):Gv Tryz.prog 186 [jV p0] w (wBp w [] U (fun U_ L_ v=>v=.bool r/\L_=[])):=by
 unfold wBZ at hm
 refine Gv.of Tryz.func186 Z Tryz.ntmps186 Tryz.results186 Z (sR fL1 Z (oA Z Z (eN (sR gBi Z (oM Z Z (bnK hm fun x1 h2 am=>zP 0 Z Z Z Z (zQ Z Z Tryz.call180 (zH Z (zH Z (zH Z zZ))) Z) hS (fun hs=>wIH p0 0 360000 w U hs h2) (.inr Z) ?_))))))
 rintro U4 L5 v6 W7 ao ak ⟨rfl,rfl⟩
 have aj:sW w U U4 [] W7:=ak
 refine oA Z Z (eN (zS ?_))
 have hE:=nD am;first | subst r | cases hE
 exact ⟨Z,_,(zw Z),U4,_,aj,Z,Z⟩
theorem wHQ (p0:List Int) (ag:Option Addr) (ah:Nat) (w:World) (U:PHeap) (hS:St0 w U []) (aq:Sl U 1 ag ah p0.length (nA KL.encI p0)) {r:Bool} (hm:wCK p0=some r):Gv Tryz.prog 185 [.slice ag p0.length ah] w (wBp w [] U (fun U_ L_ v=>v=.bool r/\L_=[])):=by
 unfold wCK at hm
 refine Gv.of Tryz.func185 Z Tryz.ntmps185 Tryz.results185 Z (sR fL1 Z (oA Z Z (eN (sR gBi Z (oM Z Z ?_)))))
 have an:FnOK Tryz.prog U (.func (.func 186) #[] #[]) wGy wHg wBZ:=⟨186,[],[],rfl,Tryz.call186,fun U1 w1 x y vs le hs ha hm=>by obtain rfl:=ha;exact wGd x w1 U1 hs  hm⟩
 refine bnK hm fun x2 h3 au=>zP 0 Z Z Z Z (zQ Z Z Tryz.call183 (zH Z (zH Z zZ)) Z) hS (fun hs=>wFP p0 ag ah wBZ (.func (.func 186) #[] #[]) w U hs aq an h3) (.inr Z) ?_
 rintro U5 L6 v7 W8 ax ao ⟨rfl,rfl⟩
 have ap:sW w U U5 [] W8:=ao
 refine oA Z Z (eN (zS ?_))
 have hE:=nD au;first | subst r | cases hE
 exact ⟨Z,_,(zw Z),U5,_,ap,Z,Z⟩
theorem wKG (p0:List Int) (av:Option Addr) (aw:Nat) (w:World) (U:PHeap) (hS:St0 w U []) (bz:Sl U 1 av aw p0.length (nA KL.encI p0)) {r:Bool} (hm:wDp p0=some r):Gv Tryz.prog 187 [.slice av p0.length aw] w (wBp w [] U (fun U_ L_ v=>v=.bool r/\L_=[])):=by
 unfold wDp at hm
 refine Gv.of Tryz.func187 Z Tryz.ntmps187 Tryz.results187 Z (sR fL1 Z (oA Z Z (eN (sR gBa Z (OKS.makeMap Z Z Z Z Z hS ?_)))))
 intro W1 b2 bu
 have bK:=MpR.nil wIF wIb
 refine oA Z Z (eN (zG (sR fL3 Z (oM Z Z (oR Z (zW Z Z zA) (oM Z Z (eN (zR ?_))))))))
 have q:=wBQ hm
 obtain ⟨bZ,ap⟩:=q
 have q:=wBP ap
 obtain ⟨au,bD⟩:=q
 replace au:=zI au
 refine yF (fun ag bg σ_ w_=>∃ (U_:PHeap) (am:Array MapEntry) (az:Nat),σ_ 9=jV (↑ag:Int)/\σ_ 3=.map (some b2)/\σ_ 7=.slice av p0.length aw/\σ_ 8=jV (↑p0.length:Int)/\PHeap.Le U U_/\sW w U U_ [.obj b2 (.map am az)] w_/\MpR am wIF wIb bg) bD ?_ ?_ ?_
 exact ⟨U,#[],0,Z,Z,Z,Z,(zN _),bu,bK⟩
 rintro ag bg b4 cc bP aq ⟨ai,am,az,ao,an,bb,bd,bh,ah,be⟩ bM bA
 have ay:Hid ((↑ag:Int) < (↑p0.length:Int)):=zI (wAo aq)
 replace aq:=zI aq
 have bE:Hid (w64 ((↑ag:Int) + 1)=(↑(ag + 1):Int)):=zI (by have h1:=au.out;have h2:=ay.out;rw [wAQ] <;> omega)
 refine sR fL1 Z (oR Z (zV Z ao bd) (eN (zG (cT Z ay (kN (zG (zR (sR fL3 Z (bnK bM fun ax bf bF=>?_)))))))))
 have br:=bz.le bh
 have q:=br.el (fun _=>rfl) (wAK bf)
 obtain ⟨bR,bY,bs,bt⟩:=q
 refine oR Z (ZC Z bb bs ao zA zC (wAg bf)) (oL Z (ah.ldC (f:=0) bt (v:=jV ax) Z Z zM Z) (oA Z Z (eN (zG (sR fL3 Z (oM Z an (oM Z Z (oL Z (ah.lookup1 (j:=0) (mk:=wIF) (mv:=wIb) (a:=ax) (z:=false) Z Z Z Z (wDO YE) wJM YQ be) (eN (ifc bF ?_ ?_))))))))))
 intro ak bG
 refine ZA (congrArg nG ak.out) (sR fL1 Z (oA Z Z (eN (zS (zK (zU (zK ?_)))))))
 have q:=wAM bG
 obtain ⟨bN,bH,bn⟩:=q
 have q:=wBI hm ap (bA bN bn)
 obtain rfl:=q
 refine zK (zU (zK ?_))
 have hE:=nD bH;first | subst r | cases hE
 exact ⟨rfl,_,(zw rfl),ai,_,(ah.pick [] _ (by decide) rfl),rfl,rfl⟩
 intro ak bI
 refine zn (congrArg nG (nH.2 ak.out)) (kN (rR (.fl 0 (.fl 1 (.fx 2 .nil .stop))) rfl (zh rfl rfl rfl rfl rfl an (zh rfl rfl rfl rfl rfl rfl (OKS.mapPut (x:=.tmp 16) (y:=.tmp 17) (j:=0) (mk:=wIF) (mv:=wIb) (a:=ax) (v:=true) rfl rfl rfl (by first | exact .inl rfl | exact .inr rfl) ah rfl rfl rfl rfl (wDO YE) wJM be rfl ?_)))))
 intro a8 a7 bj bL bv
 have bw:sW w U ai [.obj b2 (.map a8 a7)] bj:=bv
 refine zg (zd (zF (rR fL2 Z (oR Z (zz (zY Z ao Z) (congrArg (jV) bE.out)) (oM Z Z (zg ?_))))))
 have q:=nD bI
 obtain rfl:=q
 exact zF ⟨Z,_,Z,⟨ai,a8,a7,Z,an,bb,bd,bh,bw,bL⟩⟩
 rintro ca cd bQ ⟨bi,bT,bS,bp,bU,bV,bo,bX,bx,bW⟩ bC
 have bJ:=wCg hm ap bC
 have bm:Hid (¬ ((↑(((↑p0.length:Int):Int) - 0).toNat:Int) < (↑p0.length:Int))):=zI (wAc)
 refine sR fL1 Z (oR Z (zV Z bp bo) (eN (zG (cF Z bm (ZD (zb (zb (zr (zF (sR fL1 Z (oA Z Z (eN (zS ?_)))))))))))))
 have hE:=nD bJ;first | subst r | cases hE
 exact ⟨rfl,_,(zw rfl),bi,_,(bx.pick [] _ (by decide) rfl),rfl,rfl⟩
theorem wFv (p0:wAF) (an:Option Addr) (ao:Nat) (ai:Option Addr) (aj:Nat) (w:World) (U:PHeap) (hS:St0 w U []) (dN:Sl U 1 an ao p0.Bibs.length (nA KL.encI p0.Bibs)) (dO:SlR U wDe ai aj p0.Times) {r:Int} (hm:wCO p0=some r):Gv Tryz.prog 105 [.agg #[jV p0.Laps,.slice an p0.Bibs.length ao,.slice ai p0.Times.length aj]] w (wBp w [] U (fun U_ L_ v=>v=jV r/\L_=[])):=by
 unfold wCO at hm
 refine Gv.of Tryz.func105 Z Tryz.ntmps105 Tryz.results105 Z (sR gBa Z ?_)
 let B0:List Value:=[jV p0.Laps,.slice an p0.Bibs.length ao,.slice ai p0.Times.length aj]
 refine ZX (cs:=B0) rfl rfl rfl rfl rfl rfl (by rfl) hS ?_
 intro W1 b2 dH
 have q:=dH.freeze (k:=0) rfl
 obtain ⟨U5,cC,ax,dL⟩:=q
 replace ax:=Cl.of ax
 have ct:sW w U U5 [] W1:=dL
 replace ax:Cl U5 b2 0 B0:=ax
 refine oA Z Z (eN (zG (zR (sR (.fl 0 (.fl 1 (.fx 2 (wSN (.fx 23 (wRL (.nil)) .stop)) .stop))) Z (oR Z (zD Z Z Zb Z zC) (oL Z (ct.ldC (f:=0) ax (v:=jV p0.Laps) Z Z zM Z) (bnK hm fun fN cZ dX=>zP 0 Z Z Z Z (zQ Z Z Tryz.call180 (zH Z (zH Z (zH Z zZ))) Z) ct (fun hs=>wIH p0.Laps 1 20 W1 U5 hs cZ) (.inr Z) ?_)))))))
 rintro au fg fH bV bL dE ⟨rfl,rfl⟩
 have ap:sW w U au [] bV:=dE
 refine oR Z (Za Z Z) (oM Z Z (ifc dX ?_ ?_))
 intro ak eC
 refine zf Z Z Z (zL Z Z (nC ak.out)) (fun _=>zD Z Z Zb Z zT) ?_
 have aw:=ax.le bL
 refine zy Z Z Z (zL Z Z (nC ak.out)) (ap.ldC (f:=1) aw (v:=.slice an p0.Bibs.length ao) Z Z ze Z) Z (zf Z Z Z (zL Z Z (nC ak.out)) (fun _=>zW Z Z zA) (zf Z Z Z (zL Z Z (nC ak.out)) (fun _=>yP Z Z Z) (oR Z (za Z (nC ak.out) Z) (oM Z Z (ifc eC ?_ ?_)))))
 intro ag eD
 refine oT Z ag (oT Z ag (oT Z ag (oT Z ag (oT Z ag (oT Z ag (oT Z ag (oR Z (zX Z (Zl ag.out) Z) (oM Z Z (oN Z (oN Z (oN Z (ZI Z Z Z (zO Z Z Z Z) (oN Z (oR Z (zX Z Z Z) (oA Z Z (eN (ZA Z (sR fL1 Z (oA Z Z (eN (zS (zU (zK ?_)))))))))))))))))))))))
 cases eD
 exact ⟨Z,_,(zw Z),au,_,ap,Z,Z⟩
 intro ag eG
 refine rU Z (wF Z ag) (zD Z Z Zb Z ZV) (zy Z Z Z (wF Z ag) (ap.ldC (f:=2) aw (v:=.slice ai p0.Times.length aj) Z Z Zj Z) Z (rU Z (wF Z ag) (zW Z Z zm) (rU Z (wF Z ag) (zD Z Z Zb Z zT) (zy Z Z Z (wF Z ag) (ap.ldC (f:=1) aw (v:=.slice an p0.Bibs.length ao) Z Z ze Z) Z (rU Z (wF Z ag) (zW Z Z zA) (rU Z (wF Z ag) (ZU Z Z Z) (oR Z (za Z (zo ag.out) Z) (oM Z Z (ifc eG ?_ ?_)))))))))
 intro ah eH
 refine zf Z Z Z (zL Z Z (zo (fun h=>h ah.out))) (fun _=>zD Z Z Zb Z ZV) (zy Z Z Z (zL Z Z (zo (fun h=>h ah.out))) (ap.ldC (f:=2) aw (v:=.slice ai p0.Times.length aj) Z Z Zj Z) Z (zf Z Z Z (zL Z Z (zo (fun h=>h ah.out))) (fun _=>YN Z zZ (zH Z zZ)) ?_))
 have dg:=dO.le cC
 have bv:=dg.le bL
 have dh:=dN.le cC
 have ch:=dh.le bL
 have dA:FnOK Tryz.prog au (.func (.func 182) #[] #[.pointer (some ⟨b2,0,none⟩)]) wJi wJj (fun x=>wCI x p0):=⟨182,[],[.pointer (some ⟨b2,0,none⟩)],rfl,Tryz.call182,fun U1 w1 x y vs le hs ha hm=>by obtain ⟨pA_0,pc_0,rfl,hq0_0⟩:=ha;exact wHO x pA_0 pc_0 p0 b2 an ao ai aj w1 U1 hs hq0_0 (aw.le le) (ch.le le) (bv.le le) hm⟩
 refine bnK eH fun fO di eI=>zP 0 Z Z Z (zL Z Z (zo (fun h=>h ah.out))) (zQ Z Z Tryz.call181 (zH Z (zH Z zZ)) Z) ap (fun hs=>wGc p0.Times ai aj (fun x=>wCI x p0) (.func (.func 182) #[] #[.pointer (some ⟨b2,0,none⟩)]) bV au hs bv dA di) (.inr Z) ?_
 rintro bd fh fI bW bM dI ⟨rfl,rfl⟩
 have bx:sW w U bd [] bW:=dI
 refine zf Z Z Z (zL Z Z (zo (fun h=>h ah.out))) (fun _=>Za Z Z) (oR Z (za Z (zo (fun h=>h ah.out)) Z) (oA Z Z (eN (ifc eI ?_ ?_))))
 intro bo eJ
 refine zn (nC bo.out) (sR (.fl 0 (.fl 1 (.fx 2 (wNf (.fx 7 (wLT (.nil)) .stop)) .stop))) Z (oR Z (zD Z Z Zb Z zT) ?_))
 have ci:=aw.le bM
 refine oL Z (bx.ldC (f:=1) ci (v:=.slice an p0.Bibs.length ao) Z Z ze Z) ?_
 have cj:=ch.le bM
 have dB:FnOK Tryz.prog bd (.func (.func 184) #[] #[]) wGy wHg wCJ:=⟨184,[],[],rfl,Tryz.call184,fun U1 w1 x y vs le hs ha hm=>by obtain rfl:=ha;exact wHP x w1 U1 hs  hm⟩
 refine bnK eJ fun fP dm eK=>zP 0 Z Z Z Z (zQ Z Z Tryz.call183 (zH Z (zH Z zZ)) Z) bx (fun hs=>wFP p0.Bibs an ao wCJ (.func (.func 184) #[] #[]) bW bd hs cj dB dm) (.inr Z) ?_
 rintro be fj fJ bX bN dJ ⟨rfl,rfl⟩
 have bz:sW w U be [] bX:=dJ
 refine oR Z (Za Z Z) (oM Z Z (ifc eK ?_ ?_))
 intro am eM
 refine zf Z Z Z (zL Z Z (nC am.out)) (fun _=>zD Z Z Zb Z ZV) ?_
 have cm:=ci.le bN
 refine zy Z Z Z (zL Z Z (nC am.out)) (bz.ldC (f:=2) cm (v:=.slice ai p0.Times.length aj) Z Z Zj Z) Z ?_
 have dn:=bv.le bM
 have co:=dn.le bN
 have dC:FnOK Tryz.prog be (.func (.func 185) #[] #[]) wJi wJj wCK:=⟨185,[],[],rfl,Tryz.call185,fun U1 w1 x y vs le hs ha hm=>by obtain ⟨pA_0,pc_0,rfl,hq0_0⟩:=ha;exact wHQ x pA_0 pc_0 w1 U1 hs hq0_0 hm⟩
 refine bnK eM fun fQ dp eP=>zP 0 Z Z Z (zL Z Z (nC am.out)) (zQ Z Z Tryz.call181 (zH Z (zH Z zZ)) Z) bz (fun hs=>wGc p0.Times ai aj wCK (.func (.func 185) #[] #[]) bX be hs co dC dp) (.inr Z) ?_
 rintro bm fk fK bY bO dK ⟨rfl,rfl⟩
 have bA:sW w U bm [] bY:=dK
 refine zf Z Z Z (zL Z Z (nC am.out)) (fun _=>Za Z Z) (oR Z (za Z (nC am.out) Z) (oA Z Z (eN (ifc eP ?_ ?_))))
 intro bp eQ
 refine zn (nC bp.out) (sR gBm Z (oR Z (zD Z Z Zb Z zT) ?_))
 have cp:=cm.le bO
 refine oL Z (bA.ldC (f:=1) cp (v:=.slice an p0.Bibs.length ao) Z Z ze Z) ?_
 have dq:=cj.le bN
 have dr:=dq.le bO
 refine bnK eQ fun fR dt eS=>zP 0 Z Z Z Z (zQ Z Z Tryz.call187 (zH Z zZ) Z) bA (fun hs=>wKG p0.Bibs an ao bY bm hs dr dt) (.inr Z) ?_
 rintro bf fm fL cH cD dM ⟨rfl,rfl⟩
 have bC:sW w U bf [] cH:=dM
 refine oA Z Z (eN (ifc eS ?_ ?_))
 intro br eV
 refine ZA (congrArg nG br.out) (sR fL1 Z (oA Z Z (eN (zS (zU (zK ?_))))))
 cases eV
 exact ⟨Z,_,(zw Z),bf,_,bC,Z,Z⟩
 intro br bK
 refine zn (congrArg nG (nH.2 br.out)) (ZO (zd (zF (zG (zG (yu fun ff cz=>?_))))))
 have cW:ff 1=.pointer (some ⟨b2,0,none⟩):=(cz 1).trans rfl
 clear cz
 refine rR fL4 Z (oR Z (zD Z cW Zb Z ZV) ?_)
 have du:=cp.le cD
 refine oL Z (bC.ldC (f:=2) du (v:=.slice ai p0.Times.length aj) Z Z Zj Z) (oR Z (zW Z Z zm) (oM Z Z (eN (zR ?_))))
 have q:=wBQ bK
 obtain ⟨fG,bE⟩:=q
 have q:=wBP bE
 obtain ⟨bH,dT⟩:=q
 replace bH:=zI bH
 refine yF (fun aq _ σ_ w_=>∃ (U_:PHeap),σ_ 51=jV (↑aq:Int)/\σ_ 49=.slice ai p0.Times.length aj/\σ_ 50=jV (↑p0.Times.length:Int)/\PHeap.Le bf U_/\sW w U U_ [] w_) dT ?_ ?_ ?_
 exact ⟨bf,Z,Z,Z,(zN _),bC⟩
 rintro aq ⟨⟩ fS fU fq bF ⟨bi,bs,ca,cc,cA,cr⟩ cx dP
 try dsimp only at cx
 have bZ:Hid ((↑aq:Int) < (↑p0.Times.length:Int)):=zI (wAo bF)
 replace bF:=zI bF
 have dV:Hid (w64 ((↑aq:Int) + 1)=(↑(aq + 1):Int)):=zI (by have h1:=bH.out;have h2:=bZ.out;rw [wAQ] <;> omega)
 refine sR fL1 Z (oR Z (zV Z bs cc) (eN (zG (cT Z bZ (kN (zG (zR (sR fL3 Z (bnK cx fun ay cd bJ=>?_)))))))))
 have c9:=co.le bO
 have dd:=c9.le cD
 have de:=dd.le cA
 have q:=de.el (wAK cd)
 obtain ⟨cI,eY,fM,dv,bw,eW⟩:=q
 obtain ⟨bP,bQ,rfl,df⟩:=eW
 replace bw:Cl bi cI (eY + aq * 1) [.slice bP ay.length bQ]:=bw
 refine oR Z (ZC Z ca dv bs zm zT (wAg cd)) (oL Z (cr.ldC (f:=0) bw (v:=.slice bP ay.length bQ) Z Z ze Z) (oA Z Z (eN (sR fL1 Z (oA Z Z (eN (zR ?_)))))))
 have q:=wBQ bJ
 obtain ⟨fE,bD⟩:=q
 have q:=wBP bD
 obtain ⟨bI,dU⟩:=q
 replace bI:=zI bI
 refine yF (fun a8 _ σ_ w_=>∃ (U_:PHeap),σ_ 5=jV (1 + ↑a8:Int)/\σ_ 4=.slice bP ay.length bQ/\σ_ 49=.slice ai p0.Times.length aj/\σ_ 50=jV (↑p0.Times.length:Int)/\σ_ 51=jV (↑aq:Int)/\PHeap.Le bi U_/\sW w U U_ [] w_) dU ?_ ?_ ?_
 exact ⟨bi,Z,Z,ca,cc,bs,(zN _),cr⟩
 rintro a8 ⟨⟩ fT fV bU bG ⟨bS,bh,bg,cN,cO,cP,cB,dD⟩ cy dQ
 try dsimp only at cy
 have b4:Hid ((1 + ↑a8:Int) < (↑ay.length:Int)):=zI (wRa bG)
 replace bG:=zI bG
 have dW:Hid (w64 ((1 + ↑a8:Int) + 1)=(1 + ↑(a8 + 1):Int)):=zI (by have h1:=bI.out;have h2:=b4.out;rw [wAQ] <;> omega)
 refine zG (sR fL4 rfl (zh rfl rfl rfl rfl rfl bh (zh rfl rfl rfl rfl rfl bg (zf rfl rfl rfl rfl (fun _=>zW rfl rfl zA) (zf rfl rfl rfl rfl (fun _=>zV rfl rfl rfl) (eN (cT Z b4 (kN (zG (zR (zG (ZY ZQ [3,3,3,1,3,3,3,3,1,3] wNh (by kernel_rfl) ?_))))))))))))
 have a7:=dD.drew
 generalize hw_W154:({ bU with drawn:=bU.drawn + 1 }:World)=ft at a7 ⊢
 refine oM Z bg (oM Z bh (bnK cy fun fd bt dY=>?_))
 have cg:=df.le cB
 have q:=cg.el (fun _=>rfl) (wAK bt)
 obtain ⟨fy,fC,dw,dy⟩:=q
 refine oR Z (zx Z Z dw Z zA zC (wAi bt) (wAj bt)) (oL Z (a7.ldC (f:=0) dy (v:=jV fd) Z Z zM Z) (oM Z bg (oM Z bh (oR Z (yA Z Z Z) (bnK dY fun fe bu dZ=>?_)))))
 have q:=cg.el (fun _=>rfl) (wAK bu)
 obtain ⟨fz,fD,dx,dz⟩:=q
 refine oR Z (zx Z Z dx Z zA zC (wAi bu) (wAj bu)) (oL Z (a7.ldC (f:=0) dz (v:=jV fe) Z Z zM Z) (oR Z (Runs.leq Z Z Z) (eN (ifc dZ ?_ ?_))))
 intro bn d6
 refine cT Z bn (sR fL1 Z (oA Z Z (eN (zS (zU (zK ?_))))))
 have q:=wAM d6
 obtain ⟨eZ,d7,cL⟩:=q
 have q:=wBI bJ bD (dQ eZ cL)
 obtain rfl:=q
 refine zK (zU (zU (zK ?_)))
 have q:=wAM d7
 obtain ⟨fc,d8,cM⟩:=q
 have q:=wBI bK bE (dP fc cM)
 obtain rfl:=q
 refine zK (zU (zK ?_))
 cases d8
 exact ⟨Z,_,(zw Z),bS,_,a7,Z,Z⟩
 intro bn d9
 refine cF Z bn (ZO (zd (zF (rR fL3 Z (oM Z bh (oR Z (zz (zY Z Z Z) (congrArg (jV) dW.out)) (oA Z Z (zg ?_))))))))
 have q:=nD d9
 obtain rfl:=q
 exact zF ⟨Z,_,Z,⟨bS,Z,bg,cN,cO,cP,cB,a7⟩⟩
 rintro ⟨⟩ fW fu ⟨cE,cX,cQ,cR,cS,cU,eX,dF⟩ dR
 have cu:=wCg bJ bD dR
 try dsimp only at cu
 have cJ:Hid (¬ ((1 + ↑(((↑ay.length:Int):Int) - 1).toNat:Int) < (↑ay.length:Int))):=zI (wPq)
 refine zG (sR fL4 Z (oM Z cX (oM Z cQ (oR Z (zW Z Z zA) (oR Z (zV Z Z Z) (eN (cF Z cJ (ZD (zb (zb (zr (zd (zF (rR fL2 Z (oR Z (zz (zY Z cU Z) (congrArg (jV) dV.out)) (oM Z Z (zg ?_)))))))))))))))))
 have q:=nD cu
 obtain rfl:=q
 exact zF ⟨Z,_,Z,⟨cE,Z,cR,cS,(cA.trans eX),dF⟩⟩
 rintro ⟨⟩ fY fw ⟨cG,cY,fA,cV,fB,dG⟩ dS
 have cw:=wCg bK bE dS
 try dsimp only at cw
 have cK:Hid (¬ ((↑(((↑p0.Times.length:Int):Int) - 0).toNat:Int) < (↑p0.Times.length:Int))):=zI (wAc)
 refine sR fL1 Z (oR Z (zV Z cY cV) (eN (zG (cF Z cK (ZD (zb (zb (zr (zF (sR fL1 Z (oA Z Z (eN (zS ?_)))))))))))))
 cases cw
 exact ⟨Z,_,(zw Z),cG,_,dG,Z,Z⟩
 intro bp eh
 refine ZA (nF (bp.out)) (sR fL1 Z (oA Z Z (eN (zS (zU (zK ?_))))))
 cases eh
 exact ⟨Z,_,(zw Z),bm,_,bA,Z,Z⟩
 intro am ep
 refine zc Z Z Z (zO Z Z (nF (am.out)) Z) (zc Z Z Z (zO Z Z (nF (am.out)) Z) (ZI Z Z Z (zO Z Z (nF (am.out)) Z) (zc Z Z Z (zO Z Z (nF (am.out)) Z) (oR Z (zX Z (nF (am.out)) Z) (oA Z Z (eN (ZA Z (sR fL1 Z (oA Z Z (eN (zS (zU (zK ?_)))))))))))))
 cases ep
 exact ⟨Z,_,(zw Z),be,_,bz,Z,Z⟩
 intro bo eu
 refine ZA (nF (bo.out)) (sR fL1 Z (oA Z Z (eN (zS (zU (zK ?_))))))
 cases eu
 exact ⟨Z,_,(zw Z),bd,_,bx,Z,Z⟩
 intro ah eA
 refine oT Z ah (oT Z ah (oT Z ah (ZI Z Z Z (zO Z Z (Zl ah.out) Z) (oT Z ah (oR Z (zX Z (Zl ah.out) Z) (oA Z Z (eN (ZA Z (sR fL1 Z (oA Z Z (eN (zS (zU (zK ?_))))))))))))))
 cases eA
 exact ⟨Z,_,(zw Z),au,_,ap,Z,Z⟩
 intro ak eB
 refine zc Z Z Z (zO Z Z (nF (ak.out)) Z) (zc Z Z Z (zO Z Z (nF (ak.out)) Z) (zc Z Z Z (zO Z Z (nF (ak.out)) Z) (zc Z Z Z (zO Z Z (nF (ak.out)) Z) (oR Z (zX Z (nF (ak.out)) Z) (oM Z Z (oN Z (oN Z (oN Z (oN Z (oN Z (oN Z (oN Z (oR Z (zX Z Z Z) (oM Z Z (oN Z (oN Z (oN Z (ZI Z Z Z (zO Z Z Z Z) (oN Z (oR Z (zX Z Z Z) (oA Z Z (eN (ZA Z (sR fL1 Z (oA Z Z (eN (zS (zU (zK ?_)))))))))))))))))))))))))))))
 cases eB
 exact ⟨Z,_,(zw Z),au,_,ap,Z,Z⟩
end Go.Proofs.YtabadkdjndnliaaGreat
